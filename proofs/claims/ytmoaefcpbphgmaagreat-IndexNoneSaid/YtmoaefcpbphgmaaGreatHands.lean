/- Slices of handles; HasHandle. -/
import Derived.Test.YtmoaefcpbphgmaaGreatGen
import Derived.Test.YtmoaefcpbphgmaaGreatPop
import Derived.Test.YtmoaefcpbphgmaaGreatWake
namespace Go.Proofs.YtmoaefcpbphgmaaGreat
open Go.RowKit Go.Maps Go.Sort Go.Shelf
attribute [local go_sem ↓] Go.wp_at_zero Go.wp_at_succ

/-- Handles. -/
def kH : Kind (Int × Int) where
  ty := 64
  sl := 58
  size := 2
  bytes := 16
  enc := encP
  zero := .agg #[.int .i64 0, .int .i64 0]
  pos := by decide
  len := fun _ => rfl
  one := fun x u hu => by simp [encP] at hu; rcases hu with rfl | rfl <;> rfl
  zsz := rfl
  under := Tryz.underlying58
  info := by kernel_rfl
  small := by decide
theorem Sl.rdP {w : World} {B : Nat} {p : Option Addr} {n cap : Nat} {xs : List (Int × Int)} (h : Sl kH w B (.slice p n cap) xs) : RdP w p xs := by
  rcases h.form with ⟨_, rfl⟩ | ⟨g, cap', hv, _, hg, _⟩
  · exact .inl rfl
  · simp at hv
    obtain ⟨rfl, rfl, rfl⟩ := hv
    exact .inr ⟨g, rfl, hg, fun j hj => ⟨h.cell j 0 hj (by decide), h.cell j 1 hj (by decide)⟩⟩

set_option maxHeartbeats 1000000 in
set_option maxRecDepth 100000 in
theorem hasHandle_any (p : Option Addr) (cx : Nat) (xs : List (Int × Int)) (a b : Int) (w : World) (hx : RdP w p xs) (hn : xs.length ≤ maxLen) :
    Calls Tryz.prog 38 #[.slice p xs.length cx, .agg #[.int .i64 a, .int .i64 b]] w fun e w' => e = .returned (.bool (decide ((a, b) ∈ xs))) ∧ Grew w w' := by
  unfold maxLen at hn
  obtain ⟨n, hn'⟩ : ∃ n, xs.length = n := ⟨_, rfl⟩
  have hX := Lib.hid hx
  have HN := Lib.hid hn'
  rw [hn'] at hn ⊢
  clear hx hn'
  obtain ⟨B0, hB0⟩ : ∃ B0, w.heap.size = B0 := ⟨_, rfl⟩
  have HB0 := Lib.hid hB0
  go_enter Tryz.func38, Tryz.ntmps38
  go_wp2_with fail
  go_loopg [5] n (fun gg s5 wr => ∃ j : Nat, j ≤ n ∧ n - j ≤ gg ∧ s5 = .int .i64 j ∧ wr.cell? ⟨B0, 0, none⟩ = some (.int .i64 a) ∧ wr.cell? ⟨B0, 1, none⟩ = some (.int .i64 b) ∧ Grew w wr ∧ Aside (∀ i, i < j → xs[i]! ≠ (a, b)))
  case atStart => exact ⟨0, Nat.zero_le _, by omega, rfl, by rw [← HB0.out]; simp, by rw [← HB0.out]; simp, by (repeat' (first | exact Grew.refl _ | assumption | refine Grew.alloc ?_ _ | refine Grew.drew ?_ | refine Grew.drewN ?_ _ | refine Grew.setCell ?_ ?_ _ | (simp; done) | (simp; omega))), fun i hi => absurd hi (Nat.not_lt_zero _)⟩
  case round =>
    obtain ⟨j, hjn, hgg, rfl, k0, k1, hgw, A⟩ := hrel
    by_cases hlt : j < n
    · have hjz : (j : Int) < (n : Int) := by omega
      have hjx : j < xs.length := by rw [HN.out]; exact hlt
      obtain ⟨g, rfl, hgl, hca⟩ := hX.out.resolve_left (by rintro rfl; simp at hjx)
      have ca := hgw.cell' (hca j hjx).1
      have ca' := hgw.cell' (hca j hjx).2
      have B : Aside (xs[j]! = xs[j] ∧ xs[j] ∈ xs) := (show xs[j]! = xs[j] ∧ _ from ⟨getElem!_pos xs j hjx, List.getElem_mem hjx⟩)
      clear hca
      generalize xs[j] = u at ca ca' B
      obtain ⟨u1, u2⟩ := u
      have E := fun w => eqHandle u1 u2 a b w
      clear hjx hB0
      by_cases huv : (u1, u2) = (a, b)
      · have he : (u1 == a && u2 == b) = true := by simpa using huv
        have hd : decide ((a, b) ∈ xs) = true := decide_eq_true (by rw [← huv]; exact B.out.2)
        have HD := Lib.hid hd
        clear hd huv
        go_wp2_with fail
        go_region_held3 (fun W' => W'.cell? ⟨g, j * 2, none⟩ = some (.int .i64 u1) ∧ W'.cell? ⟨g, j * 2 + 1, none⟩ = some (.int .i64 u2) ∧ W'.cell? ⟨B0, 0, none⟩ = some (.int .i64 a) ∧ W'.cell? ⟨B0, 1, none⟩ = some (.int .i64 b)) ((simp [*, go_sem]; done)) (fail)
        all_goals
          go_wp2_with fail
          go_ret
          exact ⟨ret_bool HD.out.symm, by (repeat' (first | exact Grew.refl _ | assumption | refine Grew.alloc ?_ _ | refine Grew.drew ?_ | refine Grew.drewN ?_ _ | refine Grew.setCell ?_ ?_ _ | (simp; done) | (simp; omega)))⟩
      · have he : (u1 == a && u2 == b) = false := by simpa using huv
        have HU := Lib.hid huv
        clear huv
        go_wp2_with fail
        go_region_held3 (fun W' => W'.cell? ⟨g, j * 2, none⟩ = some (.int .i64 u1) ∧ W'.cell? ⟨g, j * 2 + 1, none⟩ = some (.int .i64 u2) ∧ W'.cell? ⟨B0, 0, none⟩ = some (.int .i64 a) ∧ W'.cell? ⟨B0, 1, none⟩ = some (.int .i64 b)) ((simp [*, go_sem]; done)) (fail)
        all_goals
          go_wp2_with fail
          go_roundg (n - (j + 1))
          case measure => omega
          case rel =>
            refine ⟨j + 1, by omega, by omega, by go_num, by simp [k0], by simp [k1], by (repeat' (first | exact Grew.refl _ | assumption | refine Grew.alloc ?_ _ | refine Grew.drew ?_ | refine Grew.drewN ?_ _ | refine Grew.setCell ?_ ?_ _ | (simp; done) | (simp; omega))), (show Aside _ from fun i hi => ?_)⟩
            by_cases e : i = j
            · subst e; rw [B.out.1]; exact HU.out
            · exact A.out i (by omega)
    · have hjz : ¬ (j : Int) < (n : Int) := by omega
      obtain rfl : n = j := by omega
      have hd : decide ((a, b) ∈ xs) = false := decide_eq_false (fun hm => by
        obtain ⟨i, hi, he⟩ := List.getElem_of_mem hm
        exact A.out i (by rw [← HN.out]; exact hi) (by rw [getElem!_pos xs i hi]; exact he))
      have HD := Lib.hid hd
      clear hd
      go_wp2_with fail
      go_ret
      exact ⟨ret_bool HD.out.symm, by (repeat' (first | exact Grew.refl _ | assumption | refine Grew.alloc ?_ _ | refine Grew.drew ?_ | refine Grew.drewN ?_ _ | refine Grew.setCell ?_ ?_ _ | (simp; done) | (simp; omega)))⟩

end Go.Proofs.YtmoaefcpbphgmaaGreat

/- Contracts of the statements' helpers on lists. -/
import Derived.Test.YtcelamaiebjdaaaGreatFind
import Derived.Test.YtcelamaiebjdaaaGreatEq
import Derived.Deep.LoopGhost
import Derived.Deep.RegionHeld3
import Derived.Deep.DrawnRows
namespace Go.Proofs.YtcelamaiebjdaaaGreat
open Go.RowKit
attribute [local go_sem ↓] Go.wp_at_zero Go.wp_at_succ

/-- At p lie the integers xs, one behind the other. -/
def RdI (w : World) (p : Option Addr) (xs : List Int) : Prop := xs = [] ∨ ∃ a, p = some a ∧ a.block < w.heap.size ∧ ∀ j (hj : j < xs.length), w.cell? (a.add j) = some (zV xs[j])
theorem block_add (a : Addr) (n : Nat) : (a.add n).block = a.block := by unfold Addr.add; split <;> rfl
theorem Grew.cellA {w w' : World} (h : Grew w w') {a : Addr} (ha : a.block < w.heap.size) {j : Nat} {v : Value} (hc : w.cell? (a.add j) = some v) : w'.cell? (a.add j) = some v :=
  (h.cell (p := a.add j) (by rw [block_add]; exact ha)).trans hc
theorem RdI.grew {w w' : World} {p : Option Addr} {xs : List Int} (h : RdI w p xs) (g : Grew w w') : RdI w' p xs := by
  rcases h with h | ⟨a, ha, hb, hc⟩
  · exact .inl h
  · exact .inr ⟨a, ha, Nat.lt_of_lt_of_le hb g.size, fun j hj => g.cellA hb (hc j hj)⟩

set_option maxHeartbeats 1000000 in
set_option maxRecDepth 100000 in
theorem sameInts_any (p q : Option Addr) (cx cy : Nat) (xs ys : List Int) (w : World) (hx : RdI w p xs) (hy : RdI w q ys) (hn : xs.length ≤ maxLen) :
    Calls Tryz.prog 26 #[.slice p xs.length cx, .slice q ys.length cy] w fun e w' => e = .returned (.bool (decide (xs = ys))) ∧ Grew w w' := by
  unfold maxLen at hn
  by_cases hl : xs.length = ys.length
  · obtain ⟨n, hn'⟩ : ∃ n, xs.length = n := ⟨_, rfl⟩
    have hm' : ys.length = n := by omega
    have hX := Lib.hid hx
    have hY := Lib.hid hy
    have HN := Lib.hid hn'
    have HM := Lib.hid hm'
    rw [hn'] at hn
    rw [hn', hm']
    clear hx hy hl hn' hm'
    go_enter Tryz.func26, Tryz.ntmps26
    go_wp2_with fail
    go_loopg [5] n (fun gg s5 wr => ∃ j : Nat, j ≤ n ∧ n - j ≤ gg ∧ s5 = .int .i64 j ∧ Grew w wr ∧ Aside (∀ i, i < j → xs[i]! = ys[i]!))
    case atStart => exact ⟨0, Nat.zero_le _, by omega, rfl, Grew.refl _, fun i hi => absurd hi (Nat.not_lt_zero _)⟩
    case round =>
      obtain ⟨j, hjn, hgg, rfl, hgw, A⟩ := hrel
      by_cases hlt : j < n
      · have hjz : (j : Int) < (n : Int) := by omega
        have hjx : j < xs.length := by rw [HN.out]; exact hlt
        have hjy : j < ys.length := by rw [HM.out]; exact hlt
        obtain ⟨a, rfl, hab, hca⟩ := hX.out.resolve_left (by rintro rfl; simp at hjx)
        obtain ⟨b, rfl, hbb, hcb⟩ := hY.out.resolve_left (by rintro rfl; simp at hjy)
        have ca := hgw.cellA hab (hca j hjx)
        have cb := hgw.cellA hbb (hcb j hjy)
        have B : Aside (xs[j]! = xs[j] ∧ ys[j]! = ys[j]) := (show xs[j]! = xs[j] ∧ ys[j]! = ys[j] from ⟨getElem!_pos xs j hjx, getElem!_pos ys j hjy⟩)
        clear hca hcb
        generalize xs[j] = u at ca B
        generalize ys[j] = v at cb B
        have HX' := Lib.hid hjx
        clear hjx hjy
        by_cases huv : u = v
        · subst huv
          go_wp2_with fail
          go_region_held3 (fun W' => W'.cell? (a.add j) = some (.int .i64 u) ∧ W'.cell? (b.add j) = some (.int .i64 u)) ((simp [*, go_sem]; done)) (fail)
          all_goals go_wp2_with fail
          go_roundg (n - (j + 1))
          case measure => omega
          case rel =>
            refine ⟨j + 1, by omega, by omega, by go_num, by (repeat' (first | exact Grew.refl _ | assumption | refine Grew.alloc ?_ _ | refine Grew.drew ?_ | refine Grew.drewN ?_ _ | refine Grew.setCell ?_ ?_ _ | (simp; done) | (simp; omega))), (show Aside _ from fun i hi => ?_)⟩
            by_cases e : i = j
            · subst e; rw [B.out.1, B.out.2]
            · exact A.out i (by omega)
        · have hd : decide (xs = ys) = false := decide_eq_false (fun e => huv (by have := B.out; rw [e] at this; exact this.1.symm.trans this.2))
          have hb : (!(u == v)) = true := by simp [huv]
          have HD := Lib.hid hd
          clear hd
          go_wp2_with fail
          go_region_held3 (fun W' => W'.cell? (a.add j) = some (.int .i64 u) ∧ W'.cell? (b.add j) = some (.int .i64 v)) ((simp [*, go_sem]; done)) (fail)
          all_goals
            go_wp2_with fail
            go_ret
            exact ⟨ret_bool HD.out.symm, by (repeat' (first | exact Grew.refl _ | assumption | refine Grew.alloc ?_ _ | refine Grew.drew ?_ | refine Grew.drewN ?_ _ | refine Grew.setCell ?_ ?_ _ | (simp; done) | (simp; omega)))⟩
      · have hjz : ¬ (j : Int) < (n : Int) := by omega
        obtain rfl : j = n := by omega
        have hd : decide (xs = ys) = true := decide_eq_true (by
          refine List.ext_getElem (by rw [HN.out, HM.out]) fun i h1 h2 => ?_
          have := A.out i (by rw [← HN.out]; exact h1)
          rwa [getElem!_pos xs i h1, getElem!_pos ys i h2] at this)
        have HD := Lib.hid hd
        clear hd
        go_wp2_with fail
        go_ret
        exact ⟨ret_bool HD.out.symm, by (repeat' (first | exact Grew.refl _ | assumption | refine Grew.alloc ?_ _ | refine Grew.drew ?_ | refine Grew.drewN ?_ _ | refine Grew.setCell ?_ ?_ _ | (simp; done) | (simp; omega)))⟩
  · have hl' : ((xs.length : Int) == (ys.length : Int)) = false := beq_eq_false_iff_ne.2 (by omega)
    have hd : decide (xs = ys) = false := decide_eq_false (fun e => hl (by rw [e]))
    rw [hd]
    clear hl
    go_enter Tryz.func26, Tryz.ntmps26
    go_wp2_with fail
    go_ret
    exact ⟨rfl, Grew.refl _⟩

/-- At p lie the pairs xs, one behind the other. -/
def RdP (w : World) (p : Option Addr) (xs : List (Int × Int)) : Prop := xs = [] ∨ ∃ g, p = some ⟨g, 0, none⟩ ∧ g < w.heap.size ∧ ∀ j (hj : j < xs.length), w.cell? ⟨g, j * 2, none⟩ = some (zV xs[j].1) ∧ w.cell? ⟨g, j * 2 + 1, none⟩ = some (zV xs[j].2)
theorem RdP.grew {w w' : World} {p : Option Addr} {xs : List (Int × Int)} (h : RdP w p xs) (g : Grew w w') : RdP w' p xs := by
  rcases h with h | ⟨a, ha, hb, hc⟩
  · exact .inl h
  · exact .inr ⟨a, ha, Nat.lt_of_lt_of_le hb g.size, fun j hj => ⟨g.cell' (hc j hj).1, g.cell' (hc j hj).2⟩⟩

set_option maxHeartbeats 1000000 in
set_option maxRecDepth 100000 in
theorem samePairs_any (p q : Option Addr) (cx cy : Nat) (xs ys : List (Int × Int)) (w : World) (hx : RdP w p xs) (hy : RdP w q ys) (hn : xs.length ≤ maxLen) :
    Calls Tryz.prog 44 #[.slice p xs.length cx, .slice q ys.length cy] w fun e w' => e = .returned (.bool (decide (xs = ys))) ∧ Grew w w' := by
  unfold maxLen at hn
  by_cases hl : xs.length = ys.length
  · obtain ⟨n, hn'⟩ : ∃ n, xs.length = n := ⟨_, rfl⟩
    have hm' : ys.length = n := by omega
    have hX := Lib.hid hx
    have hY := Lib.hid hy
    have HN := Lib.hid hn'
    have HM := Lib.hid hm'
    rw [hn'] at hn
    rw [hn', hm']
    clear hx hy hl hn' hm'
    have NE := fun a b c d w => nePair a b c d w
    go_enter Tryz.func44, Tryz.ntmps44
    go_wp2_with fail
    go_loopg [5] n (fun gg s5 wr => ∃ j : Nat, j ≤ n ∧ n - j ≤ gg ∧ s5 = .int .i64 j ∧ Grew w wr ∧ Aside (∀ i, i < j → xs[i]! = ys[i]!))
    case atStart => exact ⟨0, Nat.zero_le _, by omega, rfl, Grew.refl _, fun i hi => absurd hi (Nat.not_lt_zero _)⟩
    case round =>
      obtain ⟨j, hjn, hgg, rfl, hgw, A⟩ := hrel
      by_cases hlt : j < n
      · have hjz : (j : Int) < (n : Int) := by omega
        have hjx : j < xs.length := by rw [HN.out]; exact hlt
        have hjy : j < ys.length := by rw [HM.out]; exact hlt
        obtain ⟨a, rfl, hab, hca⟩ := hX.out.resolve_left (by rintro rfl; simp at hjx)
        obtain ⟨b, rfl, hbb, hcb⟩ := hY.out.resolve_left (by rintro rfl; simp at hjy)
        have ca := hgw.cell' (hca j hjx).1
        have ca' := hgw.cell' (hca j hjx).2
        have cb := hgw.cell' (hcb j hjy).1
        have cb' := hgw.cell' (hcb j hjy).2
        have B : Aside (xs[j]! = xs[j] ∧ ys[j]! = ys[j]) := (show xs[j]! = xs[j] ∧ ys[j]! = ys[j] from ⟨getElem!_pos xs j hjx, getElem!_pos ys j hjy⟩)
        clear hca hcb
        generalize xs[j] = u at ca ca' B
        generalize ys[j] = v at cb cb' B
        obtain ⟨u1, u2⟩ := u
        obtain ⟨v1, v2⟩ := v
        clear hjx hjy
        by_cases huv : (u1, u2) = (v1, v2)
        · have he : (u1 == v1 && u2 == v2) = true := by simpa using huv
          have HU := Lib.hid huv
          clear huv
          go_wp2_with fail
          go_region_held3 (fun W' => W'.cell? ⟨a, j * 2, none⟩ = some (.int .i64 u1) ∧ W'.cell? ⟨a, j * 2 + 1, none⟩ = some (.int .i64 u2) ∧ W'.cell? ⟨b, j * 2, none⟩ = some (.int .i64 v1) ∧ W'.cell? ⟨b, j * 2 + 1, none⟩ = some (.int .i64 v2)) ((simp [*, go_sem]; done)) (fail)
          all_goals go_wp2_with fail
          go_roundg (n - (j + 1))
          case measure => omega
          case rel =>
            refine ⟨j + 1, by omega, by omega, by go_num, by (repeat' (first | exact Grew.refl _ | assumption | refine Grew.alloc ?_ _ | refine Grew.drew ?_ | refine Grew.drewN ?_ _ | refine Grew.setCell ?_ ?_ _ | (simp; done) | (simp; omega))), (show Aside _ from fun i hi => ?_)⟩
            by_cases e : i = j
            · subst e; rw [B.out.1, B.out.2]; exact HU.out
            · exact A.out i (by omega)
        · have hd : decide (xs = ys) = false := decide_eq_false (fun e => huv (by have := B.out; rw [e] at this; exact this.1.symm.trans this.2))
          have he : (u1 == v1 && u2 == v2) = false := by simpa using huv
          have HD := Lib.hid hd
          clear hd huv
          go_wp2_with fail
          go_region_held3 (fun W' => W'.cell? ⟨a, j * 2, none⟩ = some (.int .i64 u1) ∧ W'.cell? ⟨a, j * 2 + 1, none⟩ = some (.int .i64 u2) ∧ W'.cell? ⟨b, j * 2, none⟩ = some (.int .i64 v1) ∧ W'.cell? ⟨b, j * 2 + 1, none⟩ = some (.int .i64 v2)) ((simp [*, go_sem]; done)) (fail)
          all_goals
            go_wp2_with fail
            go_ret
            exact ⟨ret_bool HD.out.symm, by (repeat' (first | exact Grew.refl _ | assumption | refine Grew.alloc ?_ _ | refine Grew.drew ?_ | refine Grew.drewN ?_ _ | refine Grew.setCell ?_ ?_ _ | (simp; done) | (simp; omega)))⟩
      · have hjz : ¬ (j : Int) < (n : Int) := by omega
        obtain rfl : j = n := by omega
        have hd : decide (xs = ys) = true := decide_eq_true (by
          refine List.ext_getElem (by rw [HN.out, HM.out]) fun i h1 h2 => ?_
          have := A.out i (by rw [← HN.out]; exact h1)
          rwa [getElem!_pos xs i h1, getElem!_pos ys i h2] at this)
        have HD := Lib.hid hd
        clear hd
        go_wp2_with fail
        go_ret
        exact ⟨ret_bool HD.out.symm, by (repeat' (first | exact Grew.refl _ | assumption | refine Grew.alloc ?_ _ | refine Grew.drew ?_ | refine Grew.drewN ?_ _ | refine Grew.setCell ?_ ?_ _ | (simp; done) | (simp; omega)))⟩
  · have hl' : ((xs.length : Int) == (ys.length : Int)) = false := beq_eq_false_iff_ne.2 (by omega)
    have hd : decide (xs = ys) = false := decide_eq_false (fun e => hl (by rw [e]))
    rw [hd]
    clear hl
    go_enter Tryz.func44, Tryz.ntmps44
    go_wp2_with fail
    go_ret
    exact ⟨rfl, Grew.refl _⟩

theorem mod_law (n m : Int) (hm : 0 < m) : (0 ≤ Int.tmod n m → Int.tmod n m = n % m) ∧ (Int.tmod n m < 0 → Int.tmod n m + m = n % m) ∧ -m < Int.tmod n m ∧ Int.tmod n m < m := by
  have h1 := Int.tmod_eq_emod (a := n) (b := m)
  have h2 := Int.emod_nonneg n (show m ≠ 0 by omega)
  have h3 := Int.emod_lt_of_pos n hm
  have h4 : (m.natAbs : Int) = m := by omega
  split at h1
  · refine ⟨fun _ => by omega, fun h => by omega, by omega, by omega⟩
  · rw [h4] at h1
    refine ⟨fun h => by omega, fun h => by omega, ?_, by omega⟩
    rename_i hd
    have : n % m ≠ 0 := fun e => hd (Or.inr (Int.dvd_of_emod_eq_zero e))
    omega

set_option maxHeartbeats 400000 in
theorem mod_any (n m : Int) (w : World) (hm : 0 < m ∧ m ≤ 9223372036854775807) :
    Calls Tryz.prog 10 #[.int .i64 n, .int .i64 m] w fun e w' => e = .returned (.int .i64 (n % m)) ∧ w = w' := by
  obtain ⟨h1, h2, h3, h4⟩ := mod_law n m hm.1
  have hm0 : m ≠ 0 := by omega
  have H1 := Lib.hid h1
  have H2 := Lib.hid h2
  clear h1 h2
  by_cases h0 : Int.tmod n m < 0
  · have h5 : n.tmod m + m ≤ 9223372036854775807 := by omega
    go_enter Tryz.func10, Tryz.ntmps10
    go_wp2_with fail
    all_goals try omega
    go_ret
    exact ⟨ret_int (H2.out h0), rfl⟩
  · have h5 : 0 ≤ n.tmod m := by omega
    go_enter Tryz.func10, Tryz.ntmps10
    go_wp2_with fail
    all_goals try omega
    go_ret
    exact ⟨ret_int (H1.out h5), rfl⟩

end Go.Proofs.YtcelamaiebjdaaaGreat

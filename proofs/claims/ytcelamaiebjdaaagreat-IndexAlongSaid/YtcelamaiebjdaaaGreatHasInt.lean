/- Contract of the statements' HasInt. -/
import Derived.Test.YtcelamaiebjdaaaGreatKit
import Derived.Deep.LoopGhost
namespace Go.Proofs.YtcelamaiebjdaaaGreat
open Go.RowKit

set_option maxHeartbeats 1000000 in
set_option maxRecDepth 100000 in
theorem hasInt_same (p : Option Addr) (cx : Nat) (xs : List Int) (v : Int) (w : World) (hx : RdI w p xs) (hn : xs.length ≤ maxLen) :
    Calls Tryz.prog 14 #[.slice p xs.length cx, .int .i64 v] w fun e w' => e = .returned (.bool (decide (v ∈ xs))) ∧ w = w' := by
  unfold maxLen at hn
  obtain ⟨n, hn'⟩ : ∃ n, xs.length = n := ⟨_, rfl⟩
  have hX := Lib.hid hx
  have HN := Lib.hid hn'
  rw [hn'] at hn
  rw [hn']
  clear hx hn'
  go_enter Tryz.func14, Tryz.ntmps14
  go_wp2_with fail
  go_loopg [5] n (fun gg s5 wr => ∃ j : Nat, j ≤ n ∧ n - j ≤ gg ∧ s5 = .int .i64 j ∧ w = wr ∧ Aside (∀ i, i < j → xs[i]! ≠ v))
  case atStart => exact ⟨0, Nat.zero_le _, by omega, rfl, rfl, fun i hi => absurd hi (Nat.not_lt_zero _)⟩
  case round =>
    obtain ⟨j, hjn, hgg, rfl, rfl, A⟩ := hrel
    by_cases hlt : j < n
    · have hjz : (j : Int) < (n : Int) := by omega
      have hjx : j < xs.length := by rw [HN.out]; exact hlt
      obtain ⟨a, rfl, hab, hca⟩ := hX.out.resolve_left (by rintro rfl; simp at hjx)
      have ca := hca j hjx
      have B : Aside (xs[j]! = xs[j] ∧ xs[j] ∈ xs) := (show xs[j]! = xs[j] ∧ _ from ⟨getElem!_pos xs j hjx, List.getElem_mem hjx⟩)
      clear hca
      generalize xs[j] = u at ca B
      clear hjx
      by_cases huv : u = v
      · have hd : decide (v ∈ xs) = true := decide_eq_true (by rw [← huv]; exact B.out.2)
        have HD := Lib.hid hd
        have hb : (u == v) = true := by simpa using huv
        clear hd huv
        go_wp2_with fail
        go_ret
        exact ⟨ret_bool HD.out.symm, rfl⟩
      · have HU := Lib.hid huv
        have hb : (u == v) = false := by simpa using huv
        clear huv
        go_wp2_with fail
        go_roundg (n - (j + 1))
        case measure => omega
        case rel =>
          refine ⟨j + 1, by omega, by omega, by go_num, rfl, (show Aside _ from fun i hi => ?_)⟩
          by_cases e : i = j
          · subst e; rw [B.out.1]; exact HU.out
          · exact A.out i (by omega)
    · have hjz : ¬ (j : Int) < (n : Int) := by omega
      obtain rfl : j = n := by omega
      have hd : decide (v ∈ xs) = false := decide_eq_false (fun hm => by
        obtain ⟨i, hi, he⟩ := List.getElem_of_mem hm
        exact A.out i (by rw [← HN.out]; exact hi) (by rw [getElem!_pos xs i hi]; exact he))
      have HD := Lib.hid hd
      clear hd
      go_wp2_with fail
      go_ret
      exact ⟨ret_bool HD.out.symm, rfl⟩

theorem hasInt_any (p : Option Addr) (cx : Nat) (xs : List Int) (v : Int) (w : World) (hx : RdI w p xs) (hn : xs.length ≤ maxLen) :
    Calls Tryz.prog 14 #[.slice p xs.length cx, .int .i64 v] w fun e w' => e = .returned (.bool (decide (v ∈ xs))) ∧ Grew w w' :=
  (hasInt_same p cx xs v w hx hn).mono fun e w' h => ⟨h.1, by rw [← h.2]; exact Grew.refl _⟩

end Go.Proofs.YtcelamaiebjdaaaGreat

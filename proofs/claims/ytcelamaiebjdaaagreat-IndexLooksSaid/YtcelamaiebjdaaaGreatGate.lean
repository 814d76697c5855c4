/- From a statement's arguments to what the walks ask, and back. -/
import Derived.Test.YtcelamaiebjdaaaGreatRows
import Derived.Test.YtcelamaiebjdaaaGreatKit
import Derived.ProofKit
import Derived.OpenShut
namespace Go.Proofs.YtcelamaiebjdaaaGreat
open Go.ChangeShapes Go.WideShapes Go.ChangeAt Go.RowKit

theorem ownK : ownKnob Tryz.prog.godebug = none := by kernel_rfl
theorem laidOut : laidOutB Tryz.prog = true := by kernel_rfl
theorem cellsI : Tryz.prog.cellsOf 3 = 1 := by kernel_rfl

theorem Grew.frame {w w' : World} (h : Grew w w') (may : MemPlace → Prop) : w.keptBut w' may := by
  refine ⟨h.os, h.output, fun i hi => ?_⟩
  rw [h.block i hi]
  cases hh : w.heap[i]? with
  | none => rfl
  | some o =>
    cases o with
    | cells c t fr => exact ⟨rfl, rfl, rfl, fun _ _ => rfl⟩
    | map es cl => exact .inr ⟨rfl, rfl⟩
    | _ => rfl
theorem lt_of_cellA {w : World} {a : Addr} {v : Value} (h : w.cell? a = some v) : a.block < w.heap.size := by
  obtain ⟨b, o, s⟩ := a
  have hs : s = none := by simpa using World.cell?_spot h
  subst hs
  exact lt_of_cell h

set_option maxRecDepth 100000 in
/-- A slice of integers that came in. -/
theorem open_rd {H : Type} {enc : TypeId × Value → H} {W : World} {v : Value} {d : DataW H} {p : List MemPlace} (hv : Value.okWide Tryz.prog W .any 0 22 v) (h : DataW.Trod enc Tryz.prog W 0 (fun _ => true) true 22 v d p) :
    ∃ (ad : Option Addr) (cap : Nat) (xs : List Int), v = .slice ad xs.length cap ∧ xs.length ≤ maxLen ∧ RdI W ad xs := by
  obtain ⟨a0, len, cap, rfl⟩ := okWide_slice Tryz.underlying22 hv
  obtain ⟨fuel, hf⟩ := h
  rcases open_ints Tryz.underlying22 Tryz.underlying3 cellsI hf with ⟨hcs, hx⟩ | ⟨a, len', cap', zs, hcs, _, hl, hm, hz, hx, hcell, hwz⟩
  · simp [Value.cells] at hcs
    obtain ⟨rfl, rfl, rfl⟩ := hcs
    exact ⟨none, 0, [], rfl, Nat.zero_le _, .inl rfl⟩
  · simp [Value.cells] at hcs
    obtain ⟨rfl, rfl, rfl⟩ := hcs
    simp only [if_true] at hz
    have hn : (zs.take len).length = len := by rw [List.length_take]; omega
    refine ⟨some a, cap, zs.take len, by rw [hn], by rw [hn]; omega, ?_⟩
    · by_cases h0 : len = 0
      · subst h0; exact .inl rfl
      · refine .inr ⟨a, rfl, ?_, fun j hj => ?_⟩
        · have := lt_of_cellA (hcell 0 (by omega))
          rwa [block_add] at this
        · rw [hn] at hj
          rw [hcell j (by omega), List.getD_eq_getElem?_getD, List.getElem?_eq_getElem (by omega)]
          simp

end Go.Proofs.YtcelamaiebjdaaaGreat

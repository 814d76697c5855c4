/- What is along a way, in plain words. -/
import Derived.Test.YtcelamaiebjdaaaGreatNearsPlain
import Derived.Test.YtcelamaiebjdaaaGreatTurn
namespace Go.Proofs.YtcelamaiebjdaaaGreat
open Go.RowKit Go.Maps Go.Sort Go.Shelf

theorem lowN_of {b : Bx} {fx fy tx ty : Int} (j : Nat) (hj : j < 4) (h : turnL fx fy tx ty (cornX b j) (cornY b j) ≤ 0) : lowN b fx fy tx ty 4 = true :=
  List.any_eq_true.2 ⟨j, List.mem_range.2 hj, decide_eq_true h⟩
theorem highN_of {b : Bx} {fx fy tx ty : Int} (j : Nat) (hj : j < 4) (h : 0 ≤ turnL fx fy tx ty (cornX b j) (cornY b j)) : highN b fx fy tx ty 4 = true :=
  List.any_eq_true.2 ⟨j, List.mem_range.2 hj, decide_eq_true h⟩
theorem prod_le {a b : Int} (h : 0 ≤ a ∧ b ≤ 0 ∨ a ≤ 0 ∧ 0 ≤ b) : a * b ≤ 0 := by
  rcases h with ⟨h1, h2⟩ | ⟨h1, h2⟩
  · have := Int.mul_nonneg h1 (show 0 ≤ -b by omega)
    rw [Int.mul_neg] at this; omega
  · have := Int.mul_nonneg (show 0 ≤ -a by omega) h2
    rw [Int.neg_mul] at this; omega
theorem prod_ge {a b : Int} (h : 0 ≤ a ∧ 0 ≤ b ∨ a ≤ 0 ∧ b ≤ 0) : 0 ≤ a * b := by
  rcases h with ⟨h1, h2⟩ | ⟨h1, h2⟩
  · exact Int.mul_nonneg h1 h2
  · have := Int.mul_nonneg (show 0 ≤ -a by omega) (show 0 ≤ -b by omega)
    rw [Int.neg_mul_neg] at this; exact this
/-- A box that has the beginning of a way has corners on both sides of it. -/
theorem sides {b : Bx} {fx fy : Int} (tx ty : Int) (h : b.1 ≤ fx ∧ fx ≤ b.2.2.1 ∧ b.2.1 ≤ fy ∧ fy ≤ b.2.2.2) : lowN b fx fy tx ty 4 = true ∧ highN b fx fy tx ty 4 = true := by
  have hx : 0 ≤ tx - fx ∨ tx - fx ≤ 0 := by omega
  have hy : 0 ≤ ty - fy ∨ ty - fy ≤ 0 := by omega
  have e0 : cornX b 0 = b.1 ∧ cornY b 0 = b.2.1 := ⟨rfl, rfl⟩
  have e1 : cornX b 1 = b.1 ∧ cornY b 1 = b.2.2.2 := ⟨rfl, rfl⟩
  have e2 : cornX b 2 = b.2.2.1 ∧ cornY b 2 = b.2.1 := ⟨rfl, rfl⟩
  have e3 : cornX b 3 = b.2.2.1 ∧ cornY b 3 = b.2.2.2 := ⟨rfl, rfl⟩
  have L : ∀ j, j < 4 → ((0 ≤ tx - fx ∧ cornY b j - fy ≤ 0) ∨ (tx - fx ≤ 0 ∧ 0 ≤ cornY b j - fy)) → ((0 ≤ ty - fy ∧ 0 ≤ cornX b j - fx) ∨ (ty - fy ≤ 0 ∧ cornX b j - fx ≤ 0)) → lowN b fx fy tx ty 4 = true := fun j hj h1 h2 => lowN_of j hj (by
    have p1 := prod_le h1
    have p2 := prod_ge h2
    unfold turnL
    omega)
  have H : ∀ j, j < 4 → ((0 ≤ tx - fx ∧ 0 ≤ cornY b j - fy) ∨ (tx - fx ≤ 0 ∧ cornY b j - fy ≤ 0)) → ((0 ≤ ty - fy ∧ cornX b j - fx ≤ 0) ∨ (ty - fy ≤ 0 ∧ 0 ≤ cornX b j - fx)) → highN b fx fy tx ty 4 = true := fun j hj h1 h2 => highN_of j hj (by
    have p1 := prod_ge h1
    have p2 := prod_le h2
    unfold turnL
    omega)
  rcases hx with hx | hx <;> rcases hy with hy | hy
  · exact ⟨L 2 (by decide) (by rw [e2.2]; omega) (by rw [e2.1]; omega), H 1 (by decide) (by rw [e1.2]; omega) (by rw [e1.1]; omega)⟩
  · exact ⟨L 0 (by decide) (by rw [e0.2]; omega) (by rw [e0.1]; omega), H 3 (by decide) (by rw [e3.2]; omega) (by rw [e3.1]; omega)⟩
  · exact ⟨L 3 (by decide) (by rw [e3.2]; omega) (by rw [e3.1]; omega), H 0 (by decide) (by rw [e0.2]; omega) (by rw [e0.1]; omega)⟩
  · exact ⟨L 1 (by decide) (by rw [e1.2]; omega) (by rw [e1.1]; omega), H 2 (by decide) (by rw [e2.2]; omega) (by rw [e2.1]; omega)⟩

theorem fairB_mk {x y : Int} (h : -2097152 ≤ x ∧ x ≤ 2097152 ∧ -2097152 ≤ y ∧ y ≤ 2097152) : fairB x y = true := decide_eq_true h
theorem okB_round {fx fy tx ty : Int} (h1 : fairB fx fy = true) (h2 : fairB tx ty = true) : okB (roundB fx fy tx ty) := by
  have h1 := of_decide_eq_true h1
  have h2 := of_decide_eq_true h2
  exact okB_mk (by omega)
theorem along_meets {b : Bx} {fx fy tx ty : Int} (hb : okB b) (h1 : fairB fx fy = true) (h2 : fairB tx ty = true) (h : alongB b fx fy tx ty = true) : meetsL b (roundB fx fy tx ty) = true := by
  unfold alongB at h
  simp only [Bool.and_eq_true] at h
  have e := meet_ok hb (okB_round h1 h2)
  unfold roundB at e
  rw [← h.2.1]
  exact e.symm
theorem along_in {b : Bx} {fx fy tx ty : Int} (hb : okB b) (h1 : fairB fx fy = true) (h2 : fairB tx ty = true) (h : meetsL b (fx, fy, fx, fy) = true) : alongB b fx fy tx ty = true := by
  have h := of_decide_eq_true h
  simp only at h
  have hs := sides (b := b) (fx := fx) (fy := fy) tx ty (by omega)
  have e : meetB b.1 b.2.1 b.2.2.1 b.2.2.2 (min fx tx) (min fy ty) (max fx tx) (max fy ty) = meetsL b (roundB fx fy tx ty) := meet_ok hb (okB_round h1 h2)
  unfold alongB
  rw [h1, h2, hs.1, hs.2, e]
  simp only [Bool.and_true, Bool.true_and]
  unfold meetsL roundB
  exact decide_eq_true (by simp only; omega)

/-- The numbers of the boxes that a way meets. -/
def alongN (l : List Bx) (fx fy tx ty : Int) (k : Nat) : List Int := ((List.range k).filter fun i => alongB (l.getD i bx0) fx fy tx ty).map fun i : Nat => (i : Int)
theorem ids_along (l : List Bx) (fx fy tx ty : Int) : idsOf (fun x => alongB x fx fy tx ty) (entN l 0 l.length) = alongN l fx fy tx ty l.length := by
  unfold idsOf alongN entN
  rw [List.filter_map, List.map_map, List.range_eq_range']
  rfl
theorem along_asc (l : List Bx) (fx fy tx ty : Int) (k : Nat) : (alongN l fx fy tx ty k).Pairwise (· < ·) := by
  unfold alongN
  rw [List.pairwise_map]
  exact (List.Pairwise.filter _ List.pairwise_lt_range).imp fun h => Int.ofNat_lt.2 h
theorem along_mem {l : List Bx} {fx fy tx ty x : Int} {k : Nat} (h : x ∈ alongN l fx fy tx ty k) : ∃ i : Nat, i < k ∧ x = (i : Int) ∧ alongB (l.getD i bx0) fx fy tx ty = true := by
  obtain ⟨i, hi, rfl⟩ := List.mem_map.1 h
  obtain ⟨h1, h2⟩ := List.mem_filter.1 hi
  exact ⟨i, List.mem_range.1 h1, rfl, h2⟩
theorem along_has {l : List Bx} {fx fy tx ty : Int} {k i : Nat} (hi : i < k) (h : alongB (l.getD i bx0) fx fy tx ty = true) : (i : Int) ∈ alongN l fx fy tx ty k :=
  List.mem_map.2 ⟨i, List.mem_filter.2 ⟨List.mem_range.2 hi, h⟩, rfl⟩
theorem along_len (l : List Bx) (fx fy tx ty : Int) (k : Nat) : (alongN l fx fy tx ty k).length ≤ k := by
  unfold alongN
  rw [List.length_map]
  refine Nat.le_trans (List.length_filter_le _ _) ?_
  rw [List.length_range]
  exact Nat.le_refl _

end Go.Proofs.YtcelamaiebjdaaaGreat

/- Lists of ids and boxes, as the reference keeps them: what an insertion, a store, a removal in the midst are; the pairs, row by row. -/
import Derived.Test.YtcelamaiebjdaaaGreatMove
namespace Go.Proofs.YtcelamaiebjdaaaGreat
open Go.RowKit Go.Maps Go.Sort Go.Shelf

def eG (l : Sw) (i : Nat) : Int × Bx := l.getD i (0, bx0)
theorem eG_in {l : Sw} {i : Nat} (h : i < l.length) : eG l i = l[i] := by
  unfold eG; rw [List.getD_eq_getElem?_getD, List.getElem?_eq_getElem h]; rfl

theorem putL_at {k : Int} {b : Bx} : ∀ {l : Sw} {n : Nat}, (∀ i, i < n → (eG l i).1 < k) → (n < l.length → k < (eG l n).1) → n ≤ l.length → putL l k b = l.take n ++ (k, b) :: l.drop n
  | [], n, _, _, h => by simp [putL]
  | q :: r, 0, _, h2, _ => by
    have h := h2 (by simp)
    have e : eG (q :: r) 0 = q := rfl
    rw [e] at h
    simp [putL, h]
  | q :: r, n + 1, h1, h2, h3 => by
    have h := h1 0 (by omega)
    have e : eG (q :: r) 0 = q := rfl
    rw [e] at h
    unfold putL
    rw [if_neg (by omega), if_neg (by omega), putL_at (l := r) (n := n) (fun i hi => h1 (i + 1) (by omega)) (fun hn => h2 (by simpa using hn)) (by simpa using h3)]
    rfl
theorem putL_set {k : Int} {b : Bx} : ∀ {l : Sw} {i : Nat} (_ : Asc l) (_ : i < l.length) (_ : (eG l i).1 = k), putL l k b = l.set i (k, b)
  | [], i, _, h, _ => by simp at h
  | q :: r, 0, _, _, h => by
    have e : eG (q :: r) 0 = q := rfl
    rw [e] at h
    simp [putL, h]
  | q :: r, i + 1, ha, hi, h => by
    obtain ⟨h1, h2⟩ := List.pairwise_cons.1 ha
    have hir : i < r.length := by simpa using hi
    have h : (eG r i).1 = k := h
    have hq := h1 (eG r i) (by rw [eG_in hir]; exact List.getElem_mem hir)
    unfold putL
    rw [if_neg (by omega), if_neg (by omega), putL_set h2 hir h]
    rfl
theorem delL_at {k : Int} : ∀ {l : Sw} {i : Nat} (_ : Asc l) (_ : i < l.length) (_ : (eG l i).1 = k), delL l k = l.take i ++ l.drop (i + 1)
  | [], i, _, h, _ => by simp at h
  | q :: r, 0, ha, _, h => by
    obtain ⟨h1, h2⟩ := List.pairwise_cons.1 ha
    have h : q.1 = k := h
    have := delL_gt (k := k) (l := r) (fun p hp => by have := h1 p hp; omega)
    unfold delL at this ⊢
    rw [List.filter_cons_of_neg (by simp [h]), this]
    simp
  | q :: r, i + 1, ha, hi, h => by
    obtain ⟨h1, h2⟩ := List.pairwise_cons.1 ha
    have hir : i < r.length := by simpa using hi
    have h : (eG r i).1 = k := h
    have hq := h1 (eG r i) (by rw [eG_in hir]; exact List.getElem_mem hir)
    have ih := delL_at h2 hir h
    unfold delL at ih ⊢
    rw [List.filter_cons_of_pos (by simp; omega), ih]
    simp
theorem getL_at {k : Int} {l : Sw} {i : Nat} (ha : Asc l) (hi : i < l.length) (h : (eG l i).1 = k) : getL l k = (eG l i).2 := by
  rw [← h, eG_in hi]
  exact getL_of_mem ha (List.getElem_mem hi)
theorem hasL_at {k : Int} {l : Sw} {i : Nat} (hi : i < l.length) (h : (eG l i).1 = k) : hasL l k = true := by
  rw [hasL_iff, List.mem_map]
  exact ⟨l[i], List.getElem_mem hi, by rw [← eG_in hi]; exact h⟩
theorem hasL_none {k : Int} {l : Sw} (h : ∀ i, i < l.length → (eG l i).1 ≠ k) : hasL l k = false := by
  rw [Bool.eq_false_iff]
  intro hh
  obtain ⟨p, hp, e⟩ := List.mem_map.1 (hasL_iff.1 hh)
  obtain ⟨i, hi, rfl⟩ := List.getElem_of_mem hp
  exact h i hi (by rw [eG_in hi]; exact e)
theorem getL_no {k : Int} {l : Sw} (h : hasL l k = false) : getL l k = bx0 := by
  unfold getL
  have e : l.find? (fun p => decide (p.1 = k)) = none := by
    rw [List.find?_eq_none]
    intro p hp hk
    unfold hasL at h
    rw [List.any_eq_false] at h
    exact h p hp hk
  rw [e]

/-- The first n ids; the first n ids of boxes for which p holds. -/
def idsN (l : Sw) (n : Nat) : List Int := (l.take n).map (·.1)
theorem idsN_succ {l : Sw} {n : Nat} (h : n < l.length) : idsN l (n + 1) = idsN l n ++ [(eG l n).1] := by
  unfold idsN; rw [List.take_succ_eq_append_getElem h, List.map_append, eG_in h]; rfl
theorem idsN_all (l : Sw) : idsN l l.length = l.map (·.1) := by unfold idsN; rw [List.take_length]
theorem idsN_len (l : Sw) (n : Nat) : (idsN l n).length ≤ n := by unfold idsN; rw [List.length_map, List.length_take]; omega
def whichN (p : Bx → Bool) (l : Sw) (n : Nat) : List Int := idsOf p (l.take n)
theorem whichN_succ {p : Bx → Bool} {l : Sw} {n : Nat} (h : n < l.length) : whichN p l (n + 1) = whichN p l n ++ (if p (eG l n).2 = true then [(eG l n).1] else []) := by
  unfold whichN idsOf
  rw [List.take_succ_eq_append_getElem h, List.filter_append, List.map_append, eG_in h]
  congr 1
  split
  · rename_i hp; rw [List.filter_cons_of_pos (by exact hp)]; rfl
  · rename_i hp; rw [List.filter_cons_of_neg (by exact hp)]; rfl
theorem whichN_all (p : Bx → Bool) (l : Sw) : whichN p l l.length = idsOf p l := by unfold whichN; rw [List.take_length]
theorem whichN_len (p : Bx → Bool) (l : Sw) (n : Nat) : (whichN p l n).length ≤ n := by
  unfold whichN idsOf
  rw [List.length_map]
  refine Nat.le_trans (List.length_filter_le _ _) ?_
  rw [List.length_take]; omega
theorem idsOf_none {p : Bx → Bool} {l : Sw} (h : ∀ b, p b = false) : idsOf p l = [] := by
  unfold idsOf
  rw [List.filter_eq_nil_iff.2 (fun q _ => by rw [h]; simp)]
  rfl

/-- The pairs of entry i with the q entries behind it; those of all entries below i. -/
def mB (a b : Bx) : Bool := meetB a.1 a.2.1 a.2.2.1 a.2.2.2 b.1 b.2.1 b.2.2.1 b.2.2.2
def rowE (l : Sw) (i q : Nat) : List (Int × Int) := ((List.range' (i + 1) q).filter fun k => mB (eG l i).2 (eG l k).2).map fun k : Nat => ((eG l i).1, (eG l k).1)
def pairsE (l : Sw) (i : Nat) : List (Int × Int) := (List.range i).flatMap fun i => rowE l i (l.length - (i + 1))
theorem rowE_succ (l : Sw) (i q : Nat) : rowE l i (q + 1) = rowE l i q ++ (if mB (eG l i).2 (eG l (i + 1 + q)).2 = true then [((eG l i).1, (eG l (i + 1 + q)).1)] else []) := by
  unfold rowE
  rw [List.range'_1_concat, List.filter_append, List.map_append]
  congr 1
  split
  · rename_i h; rw [List.filter_cons_of_pos (by exact h)]; rfl
  · rename_i h; rw [List.filter_cons_of_neg (by exact h)]; rfl
theorem rowE_len (l : Sw) (i q : Nat) : (rowE l i q).length ≤ q := by
  unfold rowE
  rw [List.length_map]
  exact Nat.le_trans (List.length_filter_le _ _) (by rw [List.length_range']; exact Nat.le_refl _)
theorem pairsE_succ (l : Sw) (i : Nat) : pairsE l (i + 1) = pairsE l i ++ rowE l i (l.length - (i + 1)) := by
  unfold pairsE
  rw [List.range_succ, List.flatMap_append]
  simp
theorem pairsE_len (l : Sw) : ∀ i, (pairsE l i).length ≤ i * l.length
  | 0 => by simp [pairsE]
  | i + 1 => by
    rw [pairsE_succ, List.length_append, Nat.succ_mul]
    have := pairsE_len l i
    have := rowE_len l i (l.length - (i + 1))
    omega
theorem map_eG (l : Sw) : ∀ (k a : Nat), a + k = l.length → (List.range' a k).map (fun i => (eG l i).1) = (l.drop a).map (·.1)
  | 0, a, h => by rw [List.drop_eq_nil_of_le (by omega)]; rfl
  | k + 1, a, h => by
    rw [List.range'_succ, List.map_cons, map_eG l k (a + 1) (by omega), List.drop_eq_getElem_cons (show a < l.length by omega), List.map_cons, eG_in (show a < l.length by omega)]
theorem allC_rowsE {l : Sw} (ha : Asc l) : ∀ (k a : Nat), a + k = l.length →
    allC (meetL l) ((List.range' a k).map fun i => (eG l i).1) = (List.range' a k).flatMap fun i => rowE l i (l.length - (i + 1))
  | 0, _, _ => rfl
  | k + 1, a, h => by
    have hal : a < l.length := by omega
    rw [List.range'_succ, List.map_cons, List.flatMap_cons]
    show _ ++ allC _ _ = _
    rw [allC_rowsE ha k (a + 1) (by omega)]
    congr 1
    unfold rowE
    rw [show l.length - (a + 1) = k by omega, List.filter_map, List.map_map]
    have e1 : ∀ i ∈ List.range' (a + 1) k, ((fun k => meetL l (eG l a).1 k) ∘ fun i : Nat => (eG l i).1) i = mB (eG l a).2 (eG l i).2 := fun i hi => by
      have := List.mem_range'_1.1 hi
      show meetL _ _ _ = _
      unfold meetL mB
      rw [getL_at ha hal rfl, getL_at ha (show i < l.length by omega) rfl]
    rw [List.filter_congr e1]
    refine List.map_congr_left fun i hi => ?_
    have hi := List.mem_range'_1.1 (List.mem_filter.1 hi).1
    have hil : i < l.length := by omega
    have hlt : (eG l a).1 < (eG l i).1 := by
      rw [eG_in hal, eG_in hil]
      exact List.pairwise_iff_getElem.1 ha a i hal hil (by omega)
    show mkP (eG l a).1 (eG l i).1 = _
    unfold mkP
    rw [Int.min_eq_left (by omega), Int.max_eq_right (by omega)]
theorem pairsOf_rows {l : Sw} (ha : Asc l) : pairsOf l = pairsE l l.length := by
  unfold pairsOf pairsE
  have h1 := allC_rowsE ha l.length 0 (by omega)
  have h2 := map_eG l l.length 0 (by omega)
  rw [h2, List.drop_zero] at h1
  rw [List.range_eq_range', ← h1]

end Go.Proofs.YtcelamaiebjdaaaGreat

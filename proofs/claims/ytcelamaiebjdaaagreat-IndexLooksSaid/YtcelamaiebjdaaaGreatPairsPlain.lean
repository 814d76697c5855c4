/- What the pairs of a list of boxes are, in plain words. -/
import Derived.Test.YtcelamaiebjdaaaGreatWake
namespace Go.Proofs.YtcelamaiebjdaaaGreat
open Go.RowKit Go.Maps Go.Sort Go.Shelf

/-- The pairs of number i with the q numbers behind it; those of all numbers below i. -/
def rowW (l : List Bx) (i q : Nat) : List (Int × Int) := ((List.range' (i + 1) q).filter fun k => meetsL (l.getD i bx0) (l.getD k bx0)).map fun k : Nat => ((i : Int), (k : Int))
def wantN (l : List Bx) (i : Nat) : List (Int × Int) := (List.range i).flatMap fun i => rowW l i (l.length - (i + 1))

theorem getL_ent (l : List Bx) {n i : Nat} (hi : i < n) : getL (entN l 0 n) (i : Int) = l.getD i bx0 := by
  have ha : Asc (entN l 0 n) := by
    unfold Asc entN
    rw [List.pairwise_map]
    exact (List.pairwise_lt_range' 1).imp (fun h => by show (_ : Int) < _; exact Int.ofNat_lt.2 h)
  have hm : ((i : Int), l.getD i bx0) ∈ entN l 0 n := List.mem_map.2 ⟨i, by rw [List.mem_range'_1]; omega, rfl⟩
  exact getL_of_mem ha hm
theorem ok_getD {l : List Bx} (hok : ∀ b ∈ l, okB b) {i : Nat} (hi : i < l.length) : okB (l.getD i bx0) := by
  rw [List.getD_eq_getElem?_getD, List.getElem?_eq_getElem hi]
  exact hok _ (List.getElem_mem hi)
theorem chk_le {a b c d : Int} (h : chk a b c d = 0) : a ≤ c ∧ b ≤ d := by
  unfold chk at h
  split at h
  · split at h
    · cases h
    · omega
  · cases h
theorem meet_ok {a b : Bx} (ha : okB a) (hb : okB b) : meetB a.1 a.2.1 a.2.2.1 a.2.2.2 b.1 b.2.1 b.2.2.1 b.2.2.2 = meetsL a b := by
  have h1 := chk_le ha
  have h2 := chk_le hb
  unfold okB at ha hb
  unfold meetB meetsL
  rw [decide_eq_decide, ha, hb]
  omega
theorem allC_rows {l : List Bx} (hok : ∀ b ∈ l, okB b) : ∀ (k a : Nat), a + k = l.length →
    allC (meetL (entN l 0 l.length)) ((List.range' a k).map fun i : Nat => (i : Int)) = (List.range' a k).flatMap fun i => rowW l i (l.length - (i + 1))
  | 0, _, _ => rfl
  | k + 1, a, h => by
    rw [List.range'_succ, List.map_cons, List.flatMap_cons]
    show _ ++ allC _ _ = _
    rw [allC_rows hok k (a + 1) (by omega)]
    congr 1
    unfold rowW
    rw [show l.length - (a + 1) = k by omega, List.filter_map, List.map_map]
    have e1 : ∀ i ∈ List.range' (a + 1) k, ((fun k => meetL (entN l 0 l.length) (a : Int) k) ∘ fun i : Nat => (i : Int)) i = meetsL (l.getD a bx0) (l.getD i bx0) := fun i hi => by
      have := List.mem_range'_1.1 hi
      show meetL _ _ _ = _
      unfold meetL
      rw [getL_ent l (show a < l.length by omega), getL_ent l (show i < l.length by omega)]
      exact meet_ok (ok_getD hok (by omega)) (ok_getD hok (by omega))
    rw [List.filter_congr e1]
    refine List.map_congr_left fun i hi => ?_
    have := List.mem_range'_1.1 (List.mem_filter.1 hi).1
    show mkP (a : Int) (i : Int) = _
    unfold mkP
    rw [Int.min_eq_left (by omega), Int.max_eq_right (by omega)]
theorem pairsOf_want {l : List Bx} (hok : ∀ b ∈ l, okB b) : pairsOf (entN l 0 l.length) = wantN l l.length := by
  unfold pairsOf wantN
  have := allC_rows hok l.length 0 (by omega)
  rw [List.range_eq_range', ← this]
  congr 1
  unfold entN
  rw [List.map_map]
  rfl

theorem rowW_succ (l : List Bx) (i q : Nat) : rowW l i (q + 1) = rowW l i q ++ (if meetsL (l.getD i bx0) (l.getD (i + 1 + q) bx0) = true then [((i : Int), ((i + 1 + q : Nat) : Int))] else []) := by
  unfold rowW
  rw [List.range'_1_concat, List.filter_append, List.map_append]
  congr 1
  split
  · rename_i h; rw [List.filter_cons_of_pos (by exact h)]; rfl
  · rename_i h; rw [List.filter_cons_of_neg (by exact h)]; rfl
theorem rowW_len (l : List Bx) (i q : Nat) : (rowW l i q).length ≤ q := by
  unfold rowW
  rw [List.length_map]
  exact Nat.le_trans (List.length_filter_le _ _) (by rw [List.length_range']; exact Nat.le_refl _)
theorem wantN_succ (l : List Bx) (i : Nat) : wantN l (i + 1) = wantN l i ++ rowW l i (l.length - (i + 1)) := by
  unfold wantN
  rw [List.range_succ, List.flatMap_append]
  simp
theorem wantN_len (l : List Bx) : ∀ i, (wantN l i).length ≤ i * l.length
  | 0 => by simp [wantN]
  | i + 1 => by
    have h1 := wantN_len l i
    have h2 := rowW_len l i (l.length - (i + 1))
    rw [wantN_succ, List.length_append, Nat.succ_mul]
    omega

end Go.Proofs.YtcelamaiebjdaaaGreat

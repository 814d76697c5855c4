/- What is near a box, in plain words. -/
import Derived.Test.YtcelamaiebjdaaaGreatPairsPlain
namespace Go.Proofs.YtcelamaiebjdaaaGreat
open Go.RowKit Go.Maps Go.Sort Go.Shelf

/-- The numbers of the boxes that meet b. -/
def nearN (l : List Bx) (b : Bx) (k : Nat) : List Int := ((List.range k).filter fun i => meetsL (l.getD i bx0) b).map fun i : Nat => (i : Int)
theorem ids_near {l : List Bx} {b : Bx} (hok : ∀ x ∈ l, okB x) (hb : okB b) : idsOf (fun x => meetB x.1 x.2.1 x.2.2.1 x.2.2.2 b.1 b.2.1 b.2.2.1 b.2.2.2) (entN l 0 l.length) = nearN l b l.length := by
  unfold idsOf nearN entN
  rw [List.filter_map, List.map_map, List.range_eq_range']
  have e : ∀ i ∈ List.range' 0 l.length, ((fun q : Int × Bx => meetB q.2.1 q.2.2.1 q.2.2.2.1 q.2.2.2.2 b.1 b.2.1 b.2.2.1 b.2.2.2) ∘ fun i : Nat => ((i : Int), l.getD i bx0)) i = meetsL (l.getD i bx0) b := fun i hi => by
    have := List.mem_range'_1.1 hi
    exact meet_ok (ok_getD hok (by omega)) hb
  rw [List.filter_congr e]
  rfl
theorem near_mono {l : List Bx} {b c : Bx} (h : c.1 ≤ b.1 ∧ b.2.2.1 ≤ c.2.2.1 ∧ c.2.1 ≤ b.2.1 ∧ b.2.2.2 ≤ c.2.2.2) (k : Nat) : ∀ x ∈ nearN l b k, x ∈ nearN l c k := by
  intro x hx
  obtain ⟨i, hi, rfl⟩ := List.mem_map.1 hx
  obtain ⟨h1, h2⟩ := List.mem_filter.1 hi
  refine List.mem_map.2 ⟨i, List.mem_filter.2 ⟨h1, ?_⟩, rfl⟩
  unfold meetsL at h2 ⊢
  have := of_decide_eq_true h2
  exact decide_eq_true (by omega)
theorem near_asc (l : List Bx) (b : Bx) (k : Nat) : (nearN l b k).Pairwise (· < ·) := by
  unfold nearN
  rw [List.pairwise_map]
  exact (List.Pairwise.filter _ List.pairwise_lt_range).imp fun h => Int.ofNat_lt.2 h
theorem row_lt {l : List Bx} {i q : Nat} {p : Int × Int} (h : p ∈ rowW l i q) : p.2 < ((i + 1 + q : Nat) : Int) := by
  obtain ⟨k, hk, rfl⟩ := List.mem_map.1 h
  have := List.mem_range'_1.1 (List.mem_filter.1 hk).1
  show (k : Int) < _
  omega
theorem want_last (l : List Bx) (b : Bx) : ∀ k, k ≤ l.length → (wantN (l ++ [b]) k).filter (fun p => p.2 == (l.length : Int)) = (nearN l b k).map fun a => (a, (l.length : Int))
  | 0, _ => by simp [wantN, nearN]
  | k + 1, h => by
    rw [wantN_succ, List.filter_append, want_last l b k (by omega)]
    obtain ⟨q, hq⟩ : ∃ q, (l ++ [b]).length - (k + 1) = q + 1 := ⟨l.length - k - 1, by simp; omega⟩
    have hq' : k + 1 + q = l.length := by simp at hq; omega
    rw [hq, rowW_succ, List.filter_append, hq']
    have e0 : (rowW (l ++ [b]) k q).filter (fun p => p.2 == (l.length : Int)) = [] := by
      rw [List.filter_eq_nil_iff]
      intro p hp
      have := row_lt hp
      rw [hq'] at this
      simp
      omega
    have e1 : (l ++ [b]).getD k bx0 = l.getD k bx0 := by
      rw [List.getD_eq_getElem?_getD, List.getD_eq_getElem?_getD, List.getElem?_append_left (by omega)]
    have e2 : (l ++ [b]).getD l.length bx0 = b := by
      rw [List.getD_eq_getElem?_getD, List.getElem?_append_right (Nat.le_refl _)]; simp
    rw [e0, e1, e2]
    have e3 : nearN l b (k + 1) = nearN l b k ++ (if meetsL (l.getD k bx0) b = true then [(k : Int)] else []) := by
      unfold nearN
      rw [List.range_succ, List.filter_append, List.map_append]
      congr 1
      split
      · rename_i h; simp only [List.filter_cons, h, List.filter_nil, if_true]; rfl
      · rename_i h; simp only [List.filter_cons, h, List.filter_nil]; rfl
    rw [e3, List.map_append]
    congr 1
    split <;> simp
theorem want_all (l : List Bx) (b : Bx) : (wantN (l ++ [b]) (l ++ [b]).length).filter (fun p => p.2 == (l.length : Int)) = (nearN l b l.length).map fun a => (a, (l.length : Int)) := by
  rw [List.length_append, List.length_singleton, wantN_succ, List.filter_append, want_last l b _ (Nat.le_refl _)]
  have : rowW (l ++ [b]) l.length ((l ++ [b]).length - (l.length + 1)) = [] := by simp [rowW]
  rw [this]
  simp
theorem ent_snoc (l : List Bx) (b : Bx) : putL (entN l 0 l.length) (l.length : Int) b = entN (l ++ [b]) 0 (l ++ [b]).length := by
  have h := ent_above (l ++ [b]) l.length
  rw [List.getD_eq_getElem?_getD, List.getElem?_append_right (Nat.le_refl _)] at h
  simp only [Nat.sub_self, List.getElem?_cons_zero, Option.getD_some] at h
  rw [List.length_append, List.length_singleton, ← h]
  congr 1
  unfold entN
  refine List.map_congr_left fun i hi => ?_
  have := List.mem_range'_1.1 hi
  rw [List.getD_eq_getElem?_getD, List.getD_eq_getElem?_getD, List.getElem?_append_left (by omega)]

end Go.Proofs.YtcelamaiebjdaaaGreat

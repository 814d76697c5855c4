/- Slices of integers that a call has made itself: what holds of them behind stores, cuts and sorts. -/
import Derived.Test.YtcelamaiebjdaaaGreatSweep
import Derived.Lib.SlKept
import Derived.Shelf.GgSortFunc.RowK
import Derived.Shelf.GgSortFunc.Insertion
import Derived.Laws.OwnMore
namespace Go.Proofs.YtcelamaiebjdaaaGreat
open Go.RowKit Go.Sort Go.Lib Go.Shelf

abbrev zV : Int → Value := Value.int .i64
/-- v is a slice of the integers xs in memory from block B on, nil if there is none. -/
def SlI (w : World) (B : Nat) (v : Value) (xs : List Int) : Prop := w.ownsRow B 3 1 v xs.length (xs.map zV)

theorem SlI.nil (w : World) (B : Nat) : SlI w B (.slice none 0 0) [] := World.ownsRow_nil _ _ _ _
theorem SlI.form {w : World} {B : Nat} {v : Value} {xs : List Int} (h : SlI w B v xs) :
    (v = .slice none 0 0 ∧ xs = []) ∨ ∃ g cap, v = .slice (some ⟨g, 0, none⟩) xs.length cap ∧ B ≤ g ∧ g < w.heap.size ∧ xs.length ≤ cap ∧ cap ≤ maxLen := by
  have hlt := World.ownsRow.lt h
  obtain ⟨_, h2⟩ := h
  rcases h2 with ⟨h2, h3⟩ | ⟨g, cap, cur, hv, hg, hh, hn, hm, _⟩
  · exact .inl ⟨h2, List.length_eq_zero_iff.1 h3⟩
  · exact .inr ⟨g, cap, hv, hg, (hlt g (by rw [hv]; rfl)).2, hn, hm⟩
theorem SlI.base {w : World} {B B' : Nat} {v : Value} {xs : List Int} (h : SlI w B v xs) (hB : B' ≤ B) : SlI w B' v xs := by
  obtain ⟨h1, h2⟩ := h
  refine ⟨h1, ?_⟩
  rcases h2 with h2 | ⟨g, cap, cur, hv, hg, r⟩
  · exact .inl h2
  · exact .inr ⟨g, cap, cur, hv, Nat.le_trans hB hg, r⟩
theorem SlI.kp {bs : List Nat} {w w' : World} {B : Nat} {v : Value} {xs : List Int} (h : SlI w B v xs) (k : Kp bs w w') (hn : ∀ g, v.ownBlock = some g → g ∉ bs) : SlI w' B v xs := by
  have hlt := World.ownsRow.lt h
  obtain ⟨h1, h2⟩ := h
  refine ⟨h1, ?_⟩
  rcases h2 with h2 | ⟨g, cap, cur, hv, hg, hh, r⟩
  · exact .inl h2
  · have e : v.ownBlock = some g := by rw [hv]; rfl
    exact .inr ⟨g, cap, cur, hv, hg, (k.block g (hlt g e).2 (hn g e)).trans hh, r⟩
theorem SlI.grew {w w' : World} {B : Nat} {v : Value} {xs : List Int} (h : SlI w B v xs) (k : Grew w w') : SlI w' B v xs := h.kp (k.kp []) (by simp)
theorem SlI.cell {w : World} {B g n cap : Nat} {xs : List Int} (h : SlI w B (.slice (some ⟨g, 0, none⟩) n cap) xs) (j : Nat) (hj : j < xs.length) : w.cell? ⟨g, j, none⟩ = some (zV (xs[j]'hj)) := by
  rcases h.form with ⟨h2, _⟩ | ⟨g', cap', hv, _⟩
  · cases h2
  · obtain rfl : n = xs.length := by simp at hv; exact hv.2.1
    have := World.ownsRow.cellAt (g := g) (cap := cap) h j (by omega)
    rw [this, List.getElem?_map, List.getElem?_eq_getElem hj]; rfl
theorem SlI.free {w : World} {B g n cap : Nat} {xs : List Int} (h : SlI w B (.slice (some ⟨g, 0, none⟩) n cap) xs) (j : Nat) : w.frozen? ⟨g, j, none⟩ = false := by
  rcases h.form with ⟨h2, _⟩ | ⟨g', cap', hv, _⟩
  · cases h2
  · obtain rfl : n = xs.length := by simp at hv; exact hv.2.1
    exact World.ownsRow.frozenAt (g := g) (cap := cap) h j
theorem SlI.len {w : World} {B g n cap : Nat} {xs : List Int} (h : SlI w B (.slice (some ⟨g, 0, none⟩) n cap) xs) : n = xs.length ∧ B ≤ g ∧ g < w.heap.size ∧ xs.length ≤ cap ∧ cap ≤ maxLen := by
  rcases h.form with ⟨h2, _⟩ | ⟨g', cap', hv, r⟩
  · cases h2
  · simp at hv; obtain ⟨rfl, rfl, rfl⟩ := hv; exact ⟨rfl, r⟩

/-- A store into such a slice. -/
theorem SlI.stored {w : World} {B g n cap : Nat} {xs : List Int} (h : SlI w B (.slice (some ⟨g, 0, none⟩) n cap) xs) (j : Nat) (u : Int) :
    SlI (w.setCell ⟨g, j, none⟩ (zV u)) B (.slice (some ⟨g, 0, none⟩) n cap) (xs.set j u) ∧ Kp [g] w (w.setCell ⟨g, j, none⟩ (zV u)) := by
  obtain ⟨rfl, _, hg, _⟩ := h.len
  have e := (World.ownsRow.stored (g := g) (cap := cap) h j (zV u)).1
  refine ⟨?_, ⟨rfl, rfl, rfl, by simp [World.setCell], fun k hk hn => Below.heap_setCell _ _ _ _ (by simpa using hn)⟩⟩
  unfold SlI
  rw [List.length_set, List.map_set]
  exact e

theorem SlI.setCells {B g n cap : Nat} (i : Nat) : ∀ (vs : List Int) (o : Nat) (w : World) (xs : List Int), i ≤ o → SlI w B (.slice (some ⟨g, 0, none⟩) n cap) xs →
    ∃ xs', SlI (w.setCells g o (vs.map zV)) B (.slice (some ⟨g, 0, none⟩) n cap) xs' ∧ xs'.take i = xs.take i ∧ Kp [g] w (w.setCells g o (vs.map zV))
  | [], o, w, xs, _, h => ⟨xs, h, rfl, Kp.refl _ _⟩
  | u :: r, o, w, xs, hio, h => by
    obtain ⟨h1, k1⟩ := h.stored o u
    obtain ⟨xs', h2, e2, k2⟩ := SlI.setCells i r (o + 1) _ _ (by omega) h1
    exact ⟨xs', h2, by rw [e2, List.take_set_of_le hio], k1.trans k2⟩
theorem SlI.cut {w : World} {B g n cap : Nat} {xs : List Int} (h : SlI w B (.slice (some ⟨g, 0, none⟩) n cap) xs) (i : Nat) (hi : i ≤ xs.length) : SlI w B (.slice (some ⟨g, 0, none⟩) i cap) (xs.take i) := by
  obtain ⟨rfl, _⟩ := h.len
  obtain ⟨_, h2⟩ := h
  have hl : (xs.take i).length = i := by rw [List.length_take]; omega
  refine ⟨by simp, ?_⟩
  rcases h2 with ⟨h2, _⟩ | ⟨g', cap', cur, hv, hg, hh, hn, hm, hs, ht⟩
  · cases h2
  · simp at hv
    obtain ⟨rfl, rfl⟩ := hv
    refine .inr ⟨g, cap, cur, by rw [hl], hg, hh, by rw [hl]; omega, hm, hs, ?_⟩
    rw [hl, List.map_take, ← ht, List.take_take, Nat.mul_one, Nat.mul_one, Nat.min_eq_left hi]

/-- The row of such a slice, as the sort says it. -/
theorem SlI.holds {w : World} {B g n cap : Nat} {xs : List Int} (h : SlI w B (.slice (some ⟨g, 0, none⟩) n cap) xs) : Holds zV w g 0 xs.toArray := fun j hj => by
  have hj' : j < xs.length := by simpa using hj
  rw [Nat.zero_add]
  refine ⟨?_, h.free j⟩
  rw [h.cell j hj']
  simp [hj']

theorem heap_mapBlock {w : World} {g : Nat} {f : Array Value → Array Value} {cur : Array Value} {e : TypeId} {fr : Nat × Nat} (h : w.heap[g]? = some (.cells cur e fr)) : (mapBlock w g f).heap[g]? = some (.cells (f cur) e fr) := by
  unfold mapBlock
  simp [Array.getElem?_modify, h, onCells]
theorem heap_mapBlock_other {w : World} {g k : Nat} {f : Array Value → Array Value} (h : k ≠ g) : (mapBlock w g f).heap[k]? = w.heap[k]? := by
  unfold mapBlock
  simp only [Array.getElem?_modify]
  rw [if_neg (by omega)]

theorem SlI.sorted {w : World} {B g n cap : Nat} {xs : List Int} (h : SlI w B (.slice (some ⟨g, 0, none⟩) n cap) xs) (ys : List Int) (hl : ys.length = xs.length) (m : Nat) (os : Array Obj) :
    SlI (sortWorld zV w g 0 m ys.toArray os) B (.slice (some ⟨g, 0, none⟩) n cap) ys ∧ Kp [g] w (sortWorld zV w g 0 m ys.toArray os) := by
  obtain ⟨rfl, hB, hg, hn, hm⟩ := h.len
  obtain ⟨_, h2⟩ := h
  have hsz : (putRow zV (Go.Sort.ahead w m) g 0 ys.toArray).heap.size = w.heap.size := by rw [size_putRow]; rfl
  have kp : Kp [g] w (sortWorld zV w g 0 m ys.toArray os) := by
    refine ⟨rfl, rfl, rfl, ?_, fun k hk hn => ?_⟩
    · show w.heap.size ≤ ((putRow zV (Go.Sort.ahead w m) g 0 ys.toArray).heap ++ os).size
      rw [Array.size_append, hsz]; omega
    · show ((putRow zV (Go.Sort.ahead w m) g 0 ys.toArray).heap ++ os)[k]? = _
      rw [Array.getElem?_append_left (by rw [hsz]; exact hk)]
      exact heap_mapBlock_other (by simpa using hn)
  refine ⟨?_, kp⟩
  unfold SlI
  rw [← hl]
  refine ⟨by simp, ?_⟩
  rcases h2 with ⟨h2, _⟩ | ⟨g', cap', cur, hv, hg', hh, hn', hm', hs, ht⟩
  · cases h2
  · simp at hv
    obtain ⟨rfl, rfl⟩ := hv
    have hcs : (putCells zV 0 ys.toArray cur).size = cur.size := by simp [putCells]
    refine .inr ⟨g, cap, putCells zV 0 ys.toArray cur, rfl, hg', ?_, by omega, hm, by rw [hcs]; exact hs, ?_⟩
    · show ((putRow zV (Go.Sort.ahead w m) g 0 ys.toArray).heap ++ os)[g]? = _
      rw [Array.getElem?_append_left (by rw [hsz]; exact hg)]
      exact heap_mapBlock hh
    · apply List.ext_getElem?
      intro j
      rw [Nat.mul_one, List.getElem?_take, List.getElem?_map]
      by_cases hj : j < ys.length
      · rw [if_pos hj, Array.getElem?_toList]
        unfold putCells
        rw [Array.getElem?_mapIdx, Array.getElem?_eq_getElem (by omega)]
        simp [hj]
      · rw [if_neg hj, List.getElem?_eq_none (by omega)]; rfl

#print axioms SlI.sorted
end Go.Proofs.YtcelamaiebjdaaaGreat

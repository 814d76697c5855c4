/- Slices of integers, of truth values; an append of one element; a block whose address is no other's. -/
import Derived.Test.YtcelamaiebjdaaaGreatGen
namespace Go.Proofs.YtcelamaiebjdaaaGreat
open Go.RowKit Go.Maps Go.Sort Go.Shelf

/-- Integers, truth values. -/
def kI : Kind Int where
  ty := 3
  sl := 22
  size := 1
  bytes := 8
  enc := fun x => [.int .i64 x]
  zero := .int .i64 0
  pos := by decide
  len := fun _ => rfl
  one := fun x u hu => by simp at hu; subst hu; rfl
  zsz := rfl
  under := Tryz.underlying22
  info := by kernel_rfl
  small := by decide
def kB : Kind Bool where
  ty := 4
  sl := 61
  size := 1
  bytes := 1
  enc := fun x => [.bool x]
  zero := .bool false
  pos := by decide
  len := fun _ => rfl
  one := fun x u hu => by simp at hu; subst hu; rfl
  zsz := rfl
  under := Tryz.underlying61
  info := by kernel_rfl
  small := by decide
theorem flatIn (xs : List Int) : kI.flat xs = xs.map zV := by
  induction xs with
  | nil => rfl
  | cons x r ih => rw [Kind.flat_cons, ih]; rfl
theorem flatBo (xs : List Bool) : kB.flat xs = xs.map Value.bool := by
  induction xs with
  | nil => rfl
  | cons x r ih => rw [Kind.flat_cons, ih]; rfl
theorem slI_iff {w : World} {B : Nat} {v : Value} {xs : List Int} : Sl kI w B v xs ↔ SlI w B v xs := by
  unfold Sl SlI; rw [flatIn]; exact Iff.rfl
theorem slB_cell {w : World} {B g n cap : Nat} {xs : List Bool} (h : Sl kB w B (.slice (some ⟨g, 0, none⟩) n cap) xs) (j : Nat) (hj : j < xs.length) : w.cell? ⟨g, j, none⟩ = some (.bool xs[j]) := by
  have := h.cell j 0 hj (by decide)
  simpa [kB] using this
theorem slB_stored {w : World} {B g n cap : Nat} {xs : List Bool} (h : Sl kB w B (.slice (some ⟨g, 0, none⟩) n cap) xs) (j : Nat) (u : Bool) : Sl kB (w.setCell ⟨g, j, none⟩ (.bool u)) B (.slice (some ⟨g, 0, none⟩) n cap) (xs.set j u) := by
  obtain ⟨rfl, _, hg, _⟩ := h.len
  have e := (World.ownsRow.stored (g := g) (cap := cap) h j (.bool u)).1
  unfold Sl
  rw [List.length_set, flatBo, List.map_set, ← flatBo]
  exact e

/-- An append of one element that a call has just laid. -/
theorem appendOne {α : Type} (K : Kind α) {w : World} {B : Nat} {v : Value} {xs : List α} (h : Sl K w B v xs) (hB : B ≤ w.heap.size) (hl : xs.length < 900000) (x : α) (cs : Array Value) (hcs : cs.toList = K.enc x) :
    ∃ v' w1, (Builtin.append_ #[K.sl, K.sl] K.sl #[v, .slice (some ⟨w.heap.size, 0, none⟩) 1 1]).run Tryz.prog (w.alloc (.cells cs K.ty)) = .ok v' w1 ∧ Sl K w1 B v' (xs ++ [x]) ∧ Kp (own v) w w1 ∧ (∀ g ∈ own v', g ∈ own v ∨ w.heap.size ≤ g) := by
  have hg : Grew w (w.alloc (.cells cs K.ty)) := (Grew.refl w).alloc _
  have hrd : Rd K (w.alloc (.cells cs K.ty)) (some ⟨w.heap.size, 0, none⟩) [x] := by
    refine .inr ⟨_, rfl, by simp, fun j u hu => ?_⟩
    rw [Kind.flat_one, ← hcs] at hu
    rw [add_zero_off, Nat.zero_add, cell_of_row _ _ j cs K.ty (0, 0) (heap_alloc_new w _)]
    simpa using hu
  obtain ⟨v', w1, hr, h1, h2, h3, -⟩ := append_any K (h.grew hg) (by have := hg.size; omega) (some ⟨w.heap.size, 0, none⟩) 1 [x] hrd (by simp) (by simp; omega)
  exact ⟨v', w1, hr, h1, (hg.kp _).trans h2, fun g hgm => (h3 g hgm).imp id fun h => by have := hg.size; omega⟩

/-- A block of its own that bears no mark. -/
def Lone (w : World) (b : Nat) : Prop := ∃ c t, w.heap[b]? = some (.cells c t (0, 0)) ∧ c.size ≠ 0
theorem Lone.grew {w w' : World} {b : Nat} (h : Lone w b) (g : Grew w w') : Lone w' b := by
  obtain ⟨c, t, h1, h2⟩ := h
  exact ⟨c, t, (g.block b (by
    rcases Nat.lt_or_ge b w.heap.size with hb | hb
    · exact hb
    · rw [Array.getElem?_eq_none hb] at h1; cases h1)).trans h1, h2⟩
theorem Lone.other {w : World} {a b : Nat} {v : Value} (h : Lone w a) (hab : a ≠ b) (hb : w.cell? ⟨b, 0, none⟩ = some v) : (sameAddr ⟨a, 0, none⟩ ⟨b, 0, none⟩).run Tryz.prog w = .ok false w := by
  obtain ⟨c, t, h1, h2⟩ := h
  unfold World.cell? at hb
  split at hb
  · rename_i c' t' m' hb'
    obtain ⟨lo, hi⟩ := m'
    simp only at hb'
    have hk : ∃ k, c'.size = k + 1 := by
      rcases Nat.eq_zero_or_pos c'.size with h0 | h0
      · simp [h0] at hb
      · exact ⟨c'.size - 1, by omega⟩
    obtain ⟨k, hk⟩ := hk
    simp [sameAddr, hab, World.frozen?, h1, hb', noView, viewAt, World.shape?, mayBeOne, stringish, h2, hk]
  · cases hb

end Go.Proofs.YtcelamaiebjdaaaGreat

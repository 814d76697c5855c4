/- Copies of lists: append([]T{}, xs...); lists that are only read. -/
import Derived.Test.YtcelamaiebjdaaaGreatKinds
namespace Go.Proofs.YtcelamaiebjdaaaGreat
open Go.RowKit Go.Maps Go.Sort Go.Shelf

/-- append([]T{}, xs...), whatever xs is. -/
theorem own_run {α : Type} (K : Kind α) {w : World} (p : Option Addr) (c n : Nat) (ys : List α) (hn : ys.length = n) (hy : Rd K w p ys) (hp : p = none → c = 0) (hl : n < 1000000) :
    ∃ v' w', (Builtin.append_ #[K.sl, K.sl] K.sl #[.slice (some ⟨w.heap.size, 0, none⟩) 0 0, .slice p n c]).run Tryz.prog (w.alloc (.cells #[] K.ty)) = .ok v' w' ∧ Sl K w' w.heap.size v' ys ∧ Grew w w' := by
  subst hn
  have h0 : Sl K (w.alloc (.cells #[] K.ty)) w.heap.size (.slice (some ⟨w.heap.size, 0, none⟩) 0 0) [] :=
    ⟨by simp [Kind.flat], .inr ⟨w.heap.size, 0, #[], rfl, Nat.le_refl _, heap_alloc_new w _, Nat.le_refl _, Nat.zero_le _, by simp, by simp [Kind.flat]⟩⟩
  have hg : Grew w (w.alloc (.cells #[] K.ty)) := (Grew.refl w).alloc _
  obtain ⟨v', w', hr, hs, hk, -, -⟩ := append_any K h0 hg.size p c ys (hy.grew hg) hp (by simpa using hl)
  exact ⟨v', w', hr, hs, Kp.grewOf hg hk fun x hx => by simp [own, Value.ownBlock] at hx; omega⟩

def OwnOf {α : Type} (K : Kind α) (xs : List α) (w : World) (e : Ending) (w' : World) : Prop := ∃ v, e = .returned v ∧ Sl K w' w.heap.size v xs ∧ Grew w w'

theorem rdI_cell {w : World} {a : Addr} {xs : List Int} (h : Rd kI w (some a) xs) (j : Nat) (hj : j < xs.length) : w.cell? (a.add j) = some (.int .i64 xs[j]) := by
  have := h.cell j 0 hj (by decide)
  simpa [kI] using this
theorem rdB_cell {w : World} {a : Addr} {xs : List Bool} (h : Rd kB w (some a) xs) (j : Nat) (hj : j < xs.length) : w.cell? (a.add j) = some (.bool xs[j]) := by
  have := h.cell j 0 hj (by decide)
  simpa [kB] using this
theorem rd_some {α : Type} {K : Kind α} {w : World} {p : Option Addr} {xs : List α} (h : Rd K w p xs) (h0 : 0 < xs.length) : ∃ a, p = some a := by
  rcases h with rfl | ⟨a, ha, -⟩
  · simp at h0
  · exact ⟨a, ha⟩
theorem rdI_kI {w : World} {p : Option Addr} {xs : List Int} (h : Rd kI w p xs) : RdI w p xs := by
  rcases h with h | ⟨a, ha, hb, hc⟩
  · exact .inl h
  · exact .inr ⟨a, ha, hb, fun j hj => rdI_cell (w := w) (a := a) (xs := xs) (.inr ⟨a, rfl, hb, hc⟩) j hj⟩

end Go.Proofs.YtcelamaiebjdaaaGreat

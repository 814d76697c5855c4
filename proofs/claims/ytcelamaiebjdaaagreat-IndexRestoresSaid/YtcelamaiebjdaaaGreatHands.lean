/- Slices of handles. -/
import Derived.Test.YtcelamaiebjdaaaGreatGen
import Derived.Test.YtcelamaiebjdaaaGreatPop
import Derived.Test.YtcelamaiebjdaaaGreatWake
namespace Go.Proofs.YtcelamaiebjdaaaGreat
open Go.RowKit Go.Maps Go.Sort Go.Shelf
attribute [local go_sem ↓] Go.wp_at_zero Go.wp_at_succ

/-- Handles. -/
def kH : Kind (Int × Int) where
  ty := 74
  sl := 104
  size := 2
  bytes := 16
  enc := encP
  zero := .agg #[.int .i64 0, .int .i64 0]
  pos := by decide
  len := fun _ => rfl
  one := fun x u hu => by simp [encP] at hu; rcases hu with rfl | rfl <;> rfl
  zsz := rfl
  under := Tryz.underlying104
  info := by kernel_rfl
  small := by decide
theorem Sl.rdP {w : World} {B : Nat} {p : Option Addr} {n cap : Nat} {xs : List (Int × Int)} (h : Sl kH w B (.slice p n cap) xs) : RdP w p xs := by
  rcases h.form with ⟨_, rfl⟩ | ⟨g, cap', hv, _, hg, _⟩
  · exact .inl rfl
  · simp at hv
    obtain ⟨rfl, rfl, rfl⟩ := hv
    exact .inr ⟨g, rfl, hg, fun j hj => ⟨h.cell j 0 hj (by decide), h.cell j 1 hj (by decide)⟩⟩

end Go.Proofs.YtcelamaiebjdaaaGreat

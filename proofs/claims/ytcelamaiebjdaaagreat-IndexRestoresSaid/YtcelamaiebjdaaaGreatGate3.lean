/- Slices that came in: of acts, of truth values. -/
import Derived.Test.YtcelamaiebjdaaaGreatGate2
import Derived.Test.YtcelamaiebjdaaaGreatPlays
import Derived.Test.YtcelamaiebjdaaaGreatOpenK
import Derived.Deep.Slices
import Derived.Deep.Strs
import Derived.Deep.Grids
namespace Go.Proofs.YtcelamaiebjdaaaGreat
open Go.ChangeShapes Go.WideShapes Go.ChangeAt Go.RowKit Go.Lib Go.Joins Go.Deep

set_option maxRecDepth 100000 in
theorem open_rdA {H : Type} {enc : TypeId × Value → H} {W : World} {v : Value} {d : DataW H} {p : List MemPlace} (hv : Value.okWide Tryz.prog W .any 0 47 v) (h : DataW.Trod enc Tryz.prog W 0 (fun _ => true) true 47 v d p) :
    ∃ (ad : Option Addr) (cap : Nat) (xs : List (Int × Int × Int)), v = .slice ad xs.length cap ∧ xs.length ≤ maxLen ∧ Rd kA W ad xs := by
  have hC : Tryz.prog.cellsOf 112 = 3 := by kernel_rfl
  obtain ⟨ad, cap, xs, h1, h2, h3, -⟩ := open_rdK kA (fun _ => True) (enc := enc) (W := W) hC (fun n cs y hy => by
    obtain ⟨y0, y1, y2, k, -, hl, t0, t1, t2⟩ := trod_struct3 Tryz.underlying112 hy
    rw [hC] at hl
    match cs, hl with
    | [c0, c1, c2], _ =>
      obtain ⟨a0, e0, -, -⟩ := DataW.trod_int Tryz.underlying3 t0
      obtain ⟨a1, e1, -, -⟩ := DataW.trod_int Tryz.underlying3 t1
      obtain ⟨a2, e2, -, -⟩ := DataW.trod_int Tryz.underlying3 t2
      simp [cellsI] at e0 e1 e2
      subst e0 e1 e2
      exact ⟨(a0, a1, a2), rfl, trivial⟩) hv h
  exact ⟨ad, cap, xs, h1, h2, h3.1⟩

end Go.Proofs.YtcelamaiebjdaaaGreat

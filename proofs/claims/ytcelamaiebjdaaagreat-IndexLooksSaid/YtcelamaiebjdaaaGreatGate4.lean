/- Slices of acts of a sweep that came in. -/
import Derived.Test.YtcelamaiebjdaaaGreatOpenK
import Derived.Test.YtcelamaiebjdaaaGreatPlayW
namespace Go.Proofs.YtcelamaiebjdaaaGreat
open Go.ChangeShapes Go.WideShapes Go.ChangeAt Go.RowKit Go.Lib Go.Joins Go.Deep

set_option maxRecDepth 100000 in
theorem open_rdC {H : Type} {enc : TypeId × Value → H} {W : World} {v : Value} {d : DataW H} {p : List MemPlace} (hv : Value.okWide Tryz.prog W .any 0 38 v) (h : DataW.Trod enc Tryz.prog W 0 (fun _ => true) true 38 v d p) :
    ∃ (ad : Option Addr) (cap : Nat) (xs : List (Int × Int × Bx)), v = .slice ad xs.length cap ∧ xs.length ≤ maxLen ∧ (Rd kC W ad xs ∧ ∀ x ∈ xs, actI x) := by
  have hC : Tryz.prog.cellsOf 44 = 6 := by kernel_rfl
  have hL : Tryz.prog.cellsOf 2 = 1 := by kernel_rfl
  obtain ⟨ad, cap, xs, h1, h2, h3, h4⟩ := open_rdK kC actI (enc := enc) (W := W) hC (fun n cs y hy => by
    obtain ⟨y0, y1, y2, k, -, hl, t0, t1, t2⟩ := trod_struct3 Tryz.underlying44 hy
    rw [hC] at hl
    match cs, hl with
    | [c0, c1, c2, c3, c4, c5], _ =>
      obtain ⟨a0, e0, -, -⟩ := DataW.trod_int Tryz.underlying3 t0
      obtain ⟨a1, e1, -, w1⟩ := DataW.trod_int Tryz.underlying3 t1
      have t2' : DataW.trod enc Tryz.prog W 0 (fun _ => true) true k 32 [c2, c3, c4, c5] = some y2 := t2
      obtain ⟨z0, z1, z2, z3, k2, -, hl2, s0, s1, s2, s3⟩ := trod_struct4 Tryz.underlying32 t2'
      obtain ⟨b0, f0, -, w2⟩ := DataW.trod_int Tryz.underlying2 s0
      obtain ⟨b1, f1, -, w3⟩ := DataW.trod_int Tryz.underlying2 s1
      obtain ⟨b2, f2, -, w4⟩ := DataW.trod_int Tryz.underlying2 s2
      obtain ⟨b3, f3, -, w5⟩ := DataW.trod_int Tryz.underlying2 s3
      simp [cellsI, hL] at e0 e1 f0 f1 f2 f3
      subst e0 e1 f0 f1 f2 f3
      exact ⟨(a0, a1, b0, b1, b2, b3), rfl, i64_of_wf w1, i64_of_wf w2, i64_of_wf w3, i64_of_wf w4, i64_of_wf w5⟩) hv h
  exact ⟨ad, cap, xs, h1, h2, h3.1, h4⟩

end Go.Proofs.YtcelamaiebjdaaaGreat

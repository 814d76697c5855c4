/- (*Sweep).Along: the ids of the boxes that a way meets. -/
import Derived.Test.YtcelamaiebjdaaaGreatAlong2
import Derived.Test.YtcelamaiebjdaaaGreatAlongPlain
namespace Go.Proofs.YtcelamaiebjdaaaGreat
open Go.RowKit Go.Maps Go.Sort Go.Shelf
attribute [local go_sem ↓] Go.wp_at_zero Go.wp_at_succ

set_option maxHeartbeats 1000000 in
set_option maxRecDepth 100000 in
theorem along1 (fx fy tx ty : Int) (x : Bx) (cb cd : Nat) (W : World) (d0 : W.cell? ⟨cb, 0, none⟩ = some (.int .i64 fx)) (d1 : W.cell? ⟨cb, 1, none⟩ = some (.int .i64 fy)) (d2 : W.cell? ⟨cd, 0, none⟩ = some (.int .i64 tx)) (d3 : W.cell? ⟨cd, 1, none⟩ = some (.int .i64 ty))
    (b0 : I64 fx) (b1 : I64 fy) (b2 : I64 tx) (b3 : I64 ty) (x0 : I64 x.1) (x1 : I64 x.2.1) (x2 : I64 x.2.2.1) (x3 : I64 x.2.2.2) :
    Calls Tryz.prog 38 #[.agg #[.int .i64 x.1, .int .i64 x.2.1, .int .i64 x.2.2.1, .int .i64 x.2.2.2], .pointer (some ⟨cb, 0, none⟩), .pointer (some ⟨cd, 0, none⟩)] W fun e w' =>
      e = .returned (.bool (alongB x fx fy tx ty)) ∧ Grew W w' := by
  have hB := lt_of_cell d0
  have hD := lt_of_cell d2
  go_enter Tryz.func38, Tryz.ntmps38
  go_wp2_with (go_at_call 39; refine (solidAlong_any _ _ _ _ _ _ _ _ _ x0 x1 x2 x3 b0 b1 b2 b3).mono ?_; rintro e w1 ⟨rfl, hg⟩)
  go_ret
  exact ⟨rfl, Grew.trans (by (repeat' (first | (with_reducible assumption) | (with_reducible exact Grew.refl _) | (with_reducible refine Grew.alloc ?_ _) | (with_reducible refine Grew.drew ?_) | (with_reducible refine Grew.drewN ?_ _) | (with_reducible refine Grew.setCell ?_ ?_ _) | (simp; done) | (simp; omega)))) hg⟩

set_option maxHeartbeats 1000000 in
set_option maxRecDepth 100000 in
theorem along_any (sb mb : Nat) (l : Sw) (fx fy tx ty : Int) (w : World) (h : SweepAt w sb mb l) (b0 : I64 fx) (b1 : I64 fy) (b2 : I64 tx) (b3 : I64 ty) :
    Calls Tryz.prog 11 #[.pointer (some ⟨sb, 0, none⟩), .agg #[.int .i64 fx, .int .i64 fy], .agg #[.int .i64 tx, .int .i64 ty]] w (NewInts w (idsOf (fun x => alongB x fx fy tx ty) l)) := by
  have e1 : ∀ args w, (callFunc 38 args).run Tryz.prog w = .ok (.enter 38 args) w := enters_of Tryz.func38 (by kernel_rfl) rfl
  have E1 := Lib.hid e1
  clear e1
  go_enter Tryz.func11, Tryz.ntmps11
  go_wp2_with fail
  obtain ⟨W1, hW1⟩ : ∃ W1, (w.alloc (.cells #[.int .i64 fx, .int .i64 fy] 29)).alloc (.cells #[.int .i64 tx, .int .i64 ty] 29) = W1 := ⟨_, rfl⟩
  have hw1 : Grew w W1 := by rw [← hW1]; (repeat' (first | (with_reducible assumption) | (with_reducible exact Grew.refl _) | (with_reducible refine Grew.alloc ?_ _) | (with_reducible refine Grew.drew ?_) | (with_reducible refine Grew.drewN ?_ _) | (with_reducible refine Grew.setCell ?_ ?_ _) | (simp; done) | (simp; omega)))
  have d0 : W1.cell? ⟨w.heap.size, 0, none⟩ = some (.int .i64 fx) := by rw [← hW1]; simp [go_sem]
  have d1 : W1.cell? ⟨w.heap.size, 1, none⟩ = some (.int .i64 fy) := by rw [← hW1]; simp [go_sem]
  have d2 : W1.cell? ⟨w.heap.size + 1, 0, none⟩ = some (.int .i64 tx) := by rw [← hW1]; simp [go_sem]
  have d3 : W1.cell? ⟨w.heap.size + 1, 1, none⟩ = some (.int .i64 ty) := by rw [← hW1]; simp [go_sem]
  have hIs : IsG 38 #[.pointer (some ⟨w.heap.size, 0, none⟩), .pointer (some ⟨w.heap.size + 1, 0, none⟩)] (fun x => alongB x fx fy tx ty) W1 := fun W hW x x0 x1 x2 x3 =>
    along1 fx fy tx ty x w.heap.size (w.heap.size + 1) W (hW.cell' d0) (hW.cell' d1) (hW.cell' d2) (hW.cell' d3) b0 b1 b2 b3 x0 x1 x2 x3
  rw [hW1]
  refine (find_any 38 #[.pointer (some ⟨w.heap.size, 0, none⟩), .pointer (some ⟨w.heap.size + 1, 0, none⟩)] E1.out (fun x => alongB x fx fy tx ty) sb mb l W1 (h.grew hw1) hIs).mono ?_
  clear hIs d0 d1 d2 d3 hW1
  rintro e w2 ⟨v, rfl, hv, hg⟩
  go_wp2_with fail
  go_ret
  exact ⟨_, rfl, hv.base hw1.size, hw1.trans hg⟩

end Go.Proofs.YtcelamaiebjdaaaGreat

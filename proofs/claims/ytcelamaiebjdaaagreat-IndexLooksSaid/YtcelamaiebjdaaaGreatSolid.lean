/- Contracts of package solid's functions on boxes and spots. -/
import Derived.Test.YtcelamaiebjdaaaGreatBase
import Derived.BigQuiet
import Derived.Deep.QuietTactic
import Derived.BigRegion
import Derived.Deep.RegionHeld3
import Derived.Deep.DrawnRows
namespace Go.Proofs.YtcelamaiebjdaaaGreat
open Go.RowKit
attribute [local go_sem ↓] Go.wp_at_zero Go.wp_at_succ

/-- A spot is valid. -/
def fairB (x y : Int) : Bool := decide (-2097152 ≤ x ∧ x ≤ 2097152 ∧ -2097152 ≤ y ∧ y ≤ 2097152)

set_option maxHeartbeats 400000 in
theorem fair_any (a b c d : Int) (B : Nat) (w : World) (ha : I64 a) (hb : I64 b) (hc : I64 c) (hd : I64 d)
    (c0 : w.cell? ⟨B, 0, none⟩ = some (.int .i64 a)) (c1 : w.cell? ⟨B, 1, none⟩ = some (.int .i64 b)) (c2 : w.cell? ⟨B, 2, none⟩ = some (.int .i64 c)) (c3 : w.cell? ⟨B, 3, none⟩ = some (.int .i64 d)) :
    Calls Tryz.prog 87 #[.slice (some ⟨B, 0, none⟩) 2 2] w fun e w' => e = .returned (.bool (fairB a b && fairB c d)) ∧ Grew w w' := by
  have hB := lt_of_cell c0
  go_enter Tryz.func87, Tryz.ntmps87
  go_wp2_with fail
  refine wp_loop_rounds 3 ?_
  repeat any_goals (rw [rounds_succ]; go_wp2_with fail)
  all_goals
    go_ret
    refine ⟨ret_bool ?_, by (repeat' (first | exact Grew.refl _ | assumption | refine Grew.alloc ?_ _ | refine Grew.drew ?_ | refine Grew.drewN ?_ _ | refine Grew.setCell ?_ ?_ _ | (simp; done) | (simp; omega)))⟩
    rw [Bool.eq_iff_iff]
    simp only [fairB, Bool.and_eq_true, decide_eq_true_eq]
    clear c0 c1 c2 c3 hB
    simp only [← Int.not_le, Int.max_le] at *
    unfold I64 wrap64 at *
    first | (refine iff_of_true (by trivial) ?_; omega) | (refine iff_of_false (fun h => by cases h) ?_; omega)

/-- The error of a box. -/
def chk (a b c d : Int) : Int := if (fairB a b && fairB c d) = true then (if c < a ∨ d < b then 5 else 0) else 3

set_option maxHeartbeats 400000 in
theorem check_any (a b c d : Int) (w : World) (ha : I64 a) (hb : I64 b) (hc : I64 c) (hd : I64 d) :
    Calls Tryz.prog 84 #[.agg #[.int .i64 a, .int .i64 b, .int .i64 c, .int .i64 d]] w fun e w' => e = .returned (.int .i64 (chk a b c d)) ∧ Grew w w' := by
  obtain ⟨r, hr⟩ : ∃ r, (fairB a b && fairB c d) = r := ⟨_, rfl⟩
  have hk : chk a b c d = if r = true then (if c < a ∨ d < b then 5 else 0) else 3 := by rw [← hr]; rfl
  have Hr := Lib.hid hr
  have Hk := Lib.hid hk
  clear hr hk
  go_enter Tryz.func84, Tryz.ntmps84
  go_wp2_with fail
  go_region_held3 (fun W => W.cell? ⟨w.heap.size, 0, none⟩ = some (.int .i64 a) ∧ W.cell? ⟨w.heap.size, 1, none⟩ = some (.int .i64 b) ∧ W.cell? ⟨w.heap.size, 2, none⟩ = some (.int .i64 c) ∧ W.cell? ⟨w.heap.size, 3, none⟩ = some (.int .i64 d)) (go_keep) (fail)
  all_goals
    go_wp2_with fail
    refine (fair_any a b c d _ _ ha hb hc hd (by first | (simp [go_sem]; done) | (simp [*, go_sem]; done) | (go_cell; done)) (by first | (simp [go_sem]; done) | (simp [*, go_sem]; done) | (go_cell; done)) (by first | (simp [go_sem]; done) | (simp [*, go_sem]; done) | (go_cell; done)) (by first | (simp [go_sem]; done) | (simp [*, go_sem]; done) | (go_cell; done))).mono ?_
    rintro e w1 ⟨rfl, hg⟩
    have k0 := hg.cell' (b := w.heap.size) (o := 0) (v := .int .i64 a) (by first | (simp [go_sem]; done) | (simp [*, go_sem]; done) | (go_cell; done))
    have k1 := hg.cell' (b := w.heap.size) (o := 1) (v := .int .i64 b) (by first | (simp [go_sem]; done) | (simp [*, go_sem]; done) | (go_cell; done))
    have k2 := hg.cell' (b := w.heap.size) (o := 2) (v := .int .i64 c) (by first | (simp [go_sem]; done) | (simp [*, go_sem]; done) | (go_cell; done))
    have k3 := hg.cell' (b := w.heap.size) (o := 3) (v := .int .i64 d) (by first | (simp [go_sem]; done) | (simp [*, go_sem]; done) | (go_cell; done))
    have hw : Grew w w1 := Grew.trans (by (repeat' (first | exact Grew.refl _ | assumption | refine Grew.alloc ?_ _ | refine Grew.drew ?_ | refine Grew.drewN ?_ _ | refine Grew.setCell ?_ ?_ _ | (simp; done) | (simp; omega)))) hg
    clear hg
    rw [Hr.out]
    cases r
    all_goals
      go_wp2_with fail
      all_goals
        go_ret
        refine ⟨ret_int ?_, by (repeat' (first | exact Grew.refl _ | assumption | refine Grew.alloc ?_ _ | refine Grew.drew ?_ | refine Grew.drewN ?_ _ | refine Grew.setCell ?_ ?_ _ | (simp; done) | (simp; omega)))⟩
        rw [Hk.out]
        simp
        try omega

/-- Two boxes meet. -/
def meetB (a b c d e f g h : Int) : Bool := decide (chk a b c d = 0 ∧ chk e f g h = 0 ∧ max a e ≤ min c g ∧ max b f ≤ min d h)

set_option maxHeartbeats 400000 in
theorem meets_any (a b c d e f g h : Int) (w : World) (ha : I64 a) (hb : I64 b) (hc : I64 c) (hd : I64 d) (he : I64 e) (hf : I64 f) (hg : I64 g) (hh : I64 h) :
    Calls Tryz.prog 77 #[.agg #[.int .i64 a, .int .i64 b, .int .i64 c, .int .i64 d], .agg #[.int .i64 e, .int .i64 f, .int .i64 g, .int .i64 h]] w fun ee w' => ee = .returned (.bool (meetB a b c d e f g h)) ∧ Grew w w' := by
  obtain ⟨r1, hr1⟩ : ∃ r, chk a b c d = r := ⟨_, rfl⟩
  obtain ⟨r2, hr2⟩ : ∃ r, chk e f g h = r := ⟨_, rfl⟩
  have hk : meetB a b c d e f g h = decide (r1 = 0 ∧ r2 = 0 ∧ max a e ≤ min c g ∧ max b f ≤ min d h) := by rw [← hr1, ← hr2]; rfl
  have H1 := Lib.hid hr1
  have H2 := Lib.hid hr2
  have Hk := Lib.hid hk
  clear hr1 hr2 hk
  go_enter Tryz.func77, Tryz.ntmps77
  go_wp2_with fail
  refine (check_any a b c d _ ha hb hc hd).mono ?_
  rintro ee w1 ⟨rfl, hg1⟩
  have k0 := hg1.cell' (b := w.heap.size) (o := 0) (v := .int .i64 a) (by first | (simp [go_sem]; done) | (simp [*, go_sem]; done) | (go_cell; done))
  have k1 := hg1.cell' (b := w.heap.size) (o := 1) (v := .int .i64 b) (by first | (simp [go_sem]; done) | (simp [*, go_sem]; done) | (go_cell; done))
  have k2 := hg1.cell' (b := w.heap.size) (o := 2) (v := .int .i64 c) (by first | (simp [go_sem]; done) | (simp [*, go_sem]; done) | (go_cell; done))
  have k3 := hg1.cell' (b := w.heap.size) (o := 3) (v := .int .i64 d) (by first | (simp [go_sem]; done) | (simp [*, go_sem]; done) | (go_cell; done))
  have l0 := hg1.cell' (b := w.heap.size + 1) (o := 0) (v := .int .i64 e) (by first | (simp [go_sem]; done) | (simp [*, go_sem]; done) | (go_cell; done))
  have l1 := hg1.cell' (b := w.heap.size + 1) (o := 1) (v := .int .i64 f) (by first | (simp [go_sem]; done) | (simp [*, go_sem]; done) | (go_cell; done))
  have l2 := hg1.cell' (b := w.heap.size + 1) (o := 2) (v := .int .i64 g) (by first | (simp [go_sem]; done) | (simp [*, go_sem]; done) | (go_cell; done))
  have l3 := hg1.cell' (b := w.heap.size + 1) (o := 3) (v := .int .i64 h) (by first | (simp [go_sem]; done) | (simp [*, go_sem]; done) | (go_cell; done))
  have hw : Grew w w1 := Grew.trans (by (repeat' (first | exact Grew.refl _ | assumption | refine Grew.alloc ?_ _ | refine Grew.drew ?_ | refine Grew.drewN ?_ _ | refine Grew.setCell ?_ ?_ _ | (simp; done) | (simp; omega)))) hg1
  clear hg1
  rw [H1.out]
  by_cases e1 : r1 = 0
  · subst e1
    go_wp2_with fail
    refine (check_any e f g h _ he hf hg hh).mono ?_
    rintro ee w2 ⟨rfl, hg2⟩
    replace k0 := hg2.cell' k0
    replace k1 := hg2.cell' k1
    replace k2 := hg2.cell' k2
    replace k3 := hg2.cell' k3
    replace l0 := hg2.cell' l0
    replace l1 := hg2.cell' l1
    replace l2 := hg2.cell' l2
    replace l3 := hg2.cell' l3
    replace hw := hw.trans hg2
    clear hg2
    rw [H2.out]
    by_cases e2 : r2 = 0
    · subst e2
      go_wp2_with fail
      all_goals
        go_ret
        refine ⟨ret_bool ?_, by (repeat' (first | exact Grew.refl _ | assumption | refine Grew.alloc ?_ _ | refine Grew.drew ?_ | refine Grew.drewN ?_ _ | refine Grew.setCell ?_ ?_ _ | (simp; done) | (simp; omega)))⟩
        rw [Hk.out]
        clear k0 k1 k2 k3 l0 l1 l2 l3
        simp
        try omega
    · have n2 : (r2 != 0) = true := by simpa using e2
      go_wp2_with fail
      go_ret
      refine ⟨ret_bool ?_, by (repeat' (first | exact Grew.refl _ | assumption | refine Grew.alloc ?_ _ | refine Grew.drew ?_ | refine Grew.drewN ?_ _ | refine Grew.setCell ?_ ?_ _ | (simp; done) | (simp; omega)))⟩
      rw [Hk.out]
      simp [e2]
  · have n1 : (r1 != 0) = true := by simpa using e1
    go_wp2_with fail
    go_ret
    refine ⟨ret_bool ?_, by (repeat' (first | exact Grew.refl _ | assumption | refine Grew.alloc ?_ _ | refine Grew.drew ?_ | refine Grew.drewN ?_ _ | refine Grew.setCell ?_ ?_ _ | (simp; done) | (simp; omega)))⟩
    rw [Hk.out]
    simp [e1]

end Go.Proofs.YtcelamaiebjdaaaGreat

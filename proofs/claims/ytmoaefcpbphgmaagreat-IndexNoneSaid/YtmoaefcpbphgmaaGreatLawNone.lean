/- The walk of IndexNone: it returns true. -/
import Derived.Test.YtmoaefcpbphgmaaGreatNone
import Derived.Test.YtmoaefcpbphgmaaGreatWake
import Derived.Deep.LoopGhost
namespace Go.Proofs.YtmoaefcpbphgmaaGreat
open Go.RowKit Go.Maps Go.Sort Go.Shelf
attribute [local go_sem ↓] Go.wp_at_zero Go.wp_at_succ

set_option maxHeartbeats 4000000 in
set_option maxRecDepth 100000 in
theorem indexNone_any (h1 h2 id b0 b1 b2 b3 f0 f1 t0 t1 : Int) (w : World) :
    Calls Tryz.prog 12 #[.agg #[.int .i64 h1, .int .i64 h2], .int .i64 id, .agg #[.int .i64 b0, .int .i64 b1, .int .i64 b2, .int .i64 b3], .agg #[.int .i64 f0, .int .i64 f1], .agg #[.int .i64 t0, .int .i64 t1]] w fun e w' => e = .returned (.bool true) ∧ Grew w w' := by
  go_enter Tryz.func12, Tryz.ntmps12
  have E0 := fun w => neHandle 0 0 0 0 w
  have E1 := fun w => neBox 0 0 0 0 0 0 0 0 w
  go_wp2_with fail
  have hg : Grew w (w.alloc (.cells #[.int .i64 h1, .int .i64 h2] 64)) := (Grew.refl _).alloc _
  have hz0 : (w.alloc (.cells #[.int .i64 h1, .int .i64 h2] 64)).heap.size = w.heap.size + 1 := by simp
  have ch1 : (w.alloc (.cells #[.int .i64 h1, .int .i64 h2] 64)).cell? ⟨w.heap.size, 0, none⟩ = some (.int .i64 h1) := by simp
  have ch2 : (w.alloc (.cells #[.int .i64 h1, .int .i64 h2] 64)).cell? ⟨w.heap.size, 1, none⟩ = some (.int .i64 h2) := by simp
  generalize (w.alloc (.cells #[.int .i64 h1, .int .i64 h2] 64)) = v1 at hg hz0 ch1 ch2 ⊢
  have hgv1 := hg
  clear hg
  have hg : Grew v1 (v1.alloc (.cells #[.int .i64 b0, .int .i64 b1, .int .i64 b2, .int .i64 b3] 32)) := (Grew.refl _).alloc _
  have hz1 : (v1.alloc (.cells #[.int .i64 b0, .int .i64 b1, .int .i64 b2, .int .i64 b3] 32)).heap.size = v1.heap.size + 1 := by simp
  have cb0 : (v1.alloc (.cells #[.int .i64 b0, .int .i64 b1, .int .i64 b2, .int .i64 b3] 32)).cell? ⟨v1.heap.size, 0, none⟩ = some (.int .i64 b0) := by simp
  have cb1 : (v1.alloc (.cells #[.int .i64 b0, .int .i64 b1, .int .i64 b2, .int .i64 b3] 32)).cell? ⟨v1.heap.size, 1, none⟩ = some (.int .i64 b1) := by simp
  have cb2 : (v1.alloc (.cells #[.int .i64 b0, .int .i64 b1, .int .i64 b2, .int .i64 b3] 32)).cell? ⟨v1.heap.size, 2, none⟩ = some (.int .i64 b2) := by simp
  have cb3 : (v1.alloc (.cells #[.int .i64 b0, .int .i64 b1, .int .i64 b2, .int .i64 b3] 32)).cell? ⟨v1.heap.size, 3, none⟩ = some (.int .i64 b3) := by simp
  have ch1 := hg.cell' ch1
  have ch2 := hg.cell' ch2
  generalize (v1.alloc (.cells #[.int .i64 b0, .int .i64 b1, .int .i64 b2, .int .i64 b3] 32)) = v2 at hg hz1 ch1 ch2 cb0 cb1 cb2 cb3 ⊢
  have hgv2 := hgv1.trans hg
  rw [hz0] at hz1 cb0 cb1 cb2 cb3
  clear hg
  have hg : Grew v2 (v2.alloc (.cells #[.int .i64 f0, .int .i64 f1] 42)) := (Grew.refl _).alloc _
  have hz2 : (v2.alloc (.cells #[.int .i64 f0, .int .i64 f1] 42)).heap.size = v2.heap.size + 1 := by simp
  have cf0 : (v2.alloc (.cells #[.int .i64 f0, .int .i64 f1] 42)).cell? ⟨v2.heap.size, 0, none⟩ = some (.int .i64 f0) := by simp
  have cf1 : (v2.alloc (.cells #[.int .i64 f0, .int .i64 f1] 42)).cell? ⟨v2.heap.size, 1, none⟩ = some (.int .i64 f1) := by simp
  have ch1 := hg.cell' ch1
  have ch2 := hg.cell' ch2
  have cb0 := hg.cell' cb0
  have cb1 := hg.cell' cb1
  have cb2 := hg.cell' cb2
  have cb3 := hg.cell' cb3
  generalize (v2.alloc (.cells #[.int .i64 f0, .int .i64 f1] 42)) = v3 at hg hz2 ch1 ch2 cb0 cb1 cb2 cb3 cf0 cf1 ⊢
  have hgv3 := hgv2.trans hg
  rw [hz1] at hz2 cf0 cf1
  clear hg
  have hg : Grew v3 (v3.alloc (.cells #[.int .i64 t0, .int .i64 t1] 42)) := (Grew.refl _).alloc _
  have hz3 : (v3.alloc (.cells #[.int .i64 t0, .int .i64 t1] 42)).heap.size = v3.heap.size + 1 := by simp
  have ct0 : (v3.alloc (.cells #[.int .i64 t0, .int .i64 t1] 42)).cell? ⟨v3.heap.size, 0, none⟩ = some (.int .i64 t0) := by simp
  have ct1 : (v3.alloc (.cells #[.int .i64 t0, .int .i64 t1] 42)).cell? ⟨v3.heap.size, 1, none⟩ = some (.int .i64 t1) := by simp
  have ch1 := hg.cell' ch1
  have ch2 := hg.cell' ch2
  have cb0 := hg.cell' cb0
  have cb1 := hg.cell' cb1
  have cb2 := hg.cell' cb2
  have cb3 := hg.cell' cb3
  have cf0 := hg.cell' cf0
  have cf1 := hg.cell' cf1
  generalize (v3.alloc (.cells #[.int .i64 t0, .int .i64 t1] 42)) = v4 at hg hz3 ch1 ch2 cb0 cb1 cb2 cb3 cf0 cf1 ct0 ct1 ⊢
  have hgv4 := hgv3.trans hg
  rw [hz2] at hz3 ct0 ct1
  clear hg
  have hg0 := hgv4
  obtain ⟨w0, hw0⟩ : ∃ w0, v4 = w0 := ⟨_, rfl⟩
  subst hw0
  have hsz : w.heap.size + 3 < v4.heap.size := by omega
  have HC := Lib.hid (And.intro ch1 (And.intro ch2 (And.intro cb0 (And.intro cb1 (And.intro cb2 (And.intro cb3 (And.intro cf0 (And.intro cf1 (And.intro ct0 ct1)))))))))
  clear ch1 ch2 cb0 cb1 cb2 cb3 cf0 cf1 ct0 ct1
  go_loopg [11] 2 (fun gg s11 wr => ((s11 = .int .i64 0 ∧ 2 ≤ gg) ∨ (s11 = .int .i64 1 ∧ 1 ≤ gg) ∨ s11 = .int .i64 2) ∧ Grew v4 wr)
  case atStart => exact ⟨.inl ⟨rfl, Nat.le_refl _⟩, Grew.refl _⟩
  case round =>
    obtain ⟨hi, hgr⟩ := hrel
    obtain ⟨ch1, ch2, cb0, cb1, cb2, cb3, cf0, cf1, ct0, ct1⟩ := HC.out
    have ch1 := hgr.cell' ch1
    have ch2 := hgr.cell' ch2
    have cb0 := hgr.cell' cb0
    have cb1 := hgr.cell' cb1
    have cb2 := hgr.cell' cb2
    have cb3 := hgr.cell' cb3
    have cf0 := hgr.cell' cf0
    have cf1 := hgr.cell' cf1
    have ct0 := hgr.cell' ct0
    have ct1 := hgr.cell' ct1
    have lch1 := lt_of_cell ch1
    have lcb0 := lt_of_cell cb0
    have lcf0 := lt_of_cell cf0
    have lct0 := lt_of_cell ct0
    rcases hi with ⟨rfl, hgg⟩ | ⟨rfl, hgg⟩ | rfl
    · have HS1 := Lib.hid (noS_nil wr)
      have HW1 := Lib.hid (noW_nil wr)
      obtain ⟨w1, hw1⟩ : ∃ w1, w1 = wr := ⟨_, rfl⟩
      have hg1 : Grew wr w1 := by rw [hw1]; exact Grew.refl _
      rw [← hw1] at HS1 HW1 ch1 ch2 cb0 cb1 cb2 cb3 cf0 cf1 ct0 ct1
      go_wp2_with fail
      rw [← hw1]
      clear hw1
      have hr1 := hgr.trans hg1
      have lch1 := lt_of_cell ch1
      have lcb0 := lt_of_cell cb0
      have lcf0 := lt_of_cell cf0
      have lct0 := lt_of_cell ct0
      refine (take_none none _ (HS1.out.grew (by (repeat' (first | exact Grew.refl _ | assumption | refine Grew.alloc ?_ _ | refine Grew.drew ?_ | refine Grew.drewN ?_ _ | refine Grew.setCell ?_ ?_ _ | (simp; done) | (simp; omega)))))).mono ?_
      rintro e w2 ⟨rfl, hg⟩
      replace hg : Grew w1 w2 := Grew.trans (by (repeat' (first | exact Grew.refl _ | assumption | refine Grew.alloc ?_ _ | refine Grew.drew ?_ | refine Grew.drewN ?_ _ | refine Grew.setCell ?_ ?_ _ | (simp; done) | (simp; omega)))) hg
      have hr2 := hr1.trans hg
      have HS2 := Lib.hid (HS1.out.grew hg)
      have HW2 := Lib.hid (HW1.out.grew hg)
      have ch1 := hg.cell' ch1
      have ch2 := hg.cell' ch2
      have cb0 := hg.cell' cb0
      have cb1 := hg.cell' cb1
      have cb2 := hg.cell' cb2
      have cb3 := hg.cell' cb3
      have cf0 := hg.cell' cf0
      have cf1 := hg.cell' cf1
      have ct0 := hg.cell' ct0
      have ct1 := hg.cell' ct1
      have lch1 := lt_of_cell ch1
      have lcb0 := lt_of_cell cb0
      have lcf0 := lt_of_cell cf0
      have lct0 := lt_of_cell ct0
      clear hg
      go_wp2_with fail
      have hg : Grew w2 (w2.alloc (.cells #[.int .i64 0, .int .i64 0] 64)) := (Grew.refl _).alloc _
      obtain ⟨xb, hxb⟩ : ∃ xb, w2.heap.size = xb := ⟨_, rfl⟩
      have x0 : (w2.alloc (.cells #[.int .i64 0, .int .i64 0] 64)).cell? ⟨xb, 0, none⟩ = some (.int .i64 0) := by rw [← hxb]; simp
      have x1 : (w2.alloc (.cells #[.int .i64 0, .int .i64 0] 64)).cell? ⟨xb, 1, none⟩ = some (.int .i64 0) := by rw [← hxb]; simp
      have ch1 := hg.cell' ch1
      have ch2 := hg.cell' ch2
      have cb0 := hg.cell' cb0
      have cb1 := hg.cell' cb1
      have cb2 := hg.cell' cb2
      have cb3 := hg.cell' cb3
      have cf0 := hg.cell' cf0
      have cf1 := hg.cell' cf1
      have ct0 := hg.cell' ct0
      have ct1 := hg.cell' ct1
      have HS3 := Lib.hid (HS2.out.grew hg)
      have HW3 := Lib.hid (HW2.out.grew hg)
      try rw [hxb]
      generalize (w2.alloc (.cells #[.int .i64 0, .int .i64 0] 64)) = w3 at hg HS3 HW3 ch1 ch2 cb0 cb1 cb2 cb3 cf0 cf1 ct0 ct1 x0 x1 ⊢
      have hr3 := hr2.trans hg
      have lch1 := lt_of_cell ch1
      have lcb0 := lt_of_cell cb0
      have lcf0 := lt_of_cell cf0
      have lct0 := lt_of_cell ct0
      have lx0 := lt_of_cell x0
      clear hg hxb
      refine (at_none none id _ (HS3.out.grew (by (repeat' (first | exact Grew.refl _ | assumption | refine Grew.alloc ?_ _ | refine Grew.drew ?_ | refine Grew.drewN ?_ _ | refine Grew.setCell ?_ ?_ _ | (simp; done) | (simp; omega)))))).mono ?_
      rintro e w4 ⟨rfl, hg⟩
      replace hg : Grew w3 w4 := Grew.trans (by (repeat' (first | exact Grew.refl _ | assumption | refine Grew.alloc ?_ _ | refine Grew.drew ?_ | refine Grew.drewN ?_ _ | refine Grew.setCell ?_ ?_ _ | (simp; done) | (simp; omega)))) hg
      have hr4 := hr3.trans hg
      have HS4 := Lib.hid (HS3.out.grew hg)
      have HW4 := Lib.hid (HW3.out.grew hg)
      have ch1 := hg.cell' ch1
      have ch2 := hg.cell' ch2
      have cb0 := hg.cell' cb0
      have cb1 := hg.cell' cb1
      have cb2 := hg.cell' cb2
      have cb3 := hg.cell' cb3
      have cf0 := hg.cell' cf0
      have cf1 := hg.cell' cf1
      have ct0 := hg.cell' ct0
      have ct1 := hg.cell' ct1
      have x0 := hg.cell' x0
      have x1 := hg.cell' x1
      have lch1 := lt_of_cell ch1
      have lcb0 := lt_of_cell cb0
      have lcf0 := lt_of_cell cf0
      have lct0 := lt_of_cell ct0
      have lx0 := lt_of_cell x0
      clear hg
      go_wp2_with fail
      have hg : Grew w4 (w4.alloc (.cells #[.int .i64 0, .int .i64 0] 64)) := (Grew.refl _).alloc _
      obtain ⟨yb, hyb⟩ : ∃ yb, w4.heap.size = yb := ⟨_, rfl⟩
      have y0 : (w4.alloc (.cells #[.int .i64 0, .int .i64 0] 64)).cell? ⟨yb, 0, none⟩ = some (.int .i64 0) := by rw [← hyb]; simp
      have y1 : (w4.alloc (.cells #[.int .i64 0, .int .i64 0] 64)).cell? ⟨yb, 1, none⟩ = some (.int .i64 0) := by rw [← hyb]; simp
      have ch1 := hg.cell' ch1
      have ch2 := hg.cell' ch2
      have cb0 := hg.cell' cb0
      have cb1 := hg.cell' cb1
      have cb2 := hg.cell' cb2
      have cb3 := hg.cell' cb3
      have cf0 := hg.cell' cf0
      have cf1 := hg.cell' cf1
      have ct0 := hg.cell' ct0
      have ct1 := hg.cell' ct1
      have x0 := hg.cell' x0
      have x1 := hg.cell' x1
      have HS5 := Lib.hid (HS4.out.grew hg)
      have HW5 := Lib.hid (HW4.out.grew hg)
      try rw [hyb]
      generalize (w4.alloc (.cells #[.int .i64 0, .int .i64 0] 64)) = w5 at hg HS5 HW5 ch1 ch2 cb0 cb1 cb2 cb3 cf0 cf1 ct0 ct1 x0 x1 y0 y1 ⊢
      have hr5 := hr4.trans hg
      have lch1 := lt_of_cell ch1
      have lcb0 := lt_of_cell cb0
      have lcf0 := lt_of_cell cf0
      have lct0 := lt_of_cell ct0
      have lx0 := lt_of_cell x0
      have ly0 := lt_of_cell y0
      clear hg hyb
      refine (free_none none h1 h2 _ (HS5.out.grew (by (repeat' (first | exact Grew.refl _ | assumption | refine Grew.alloc ?_ _ | refine Grew.drew ?_ | refine Grew.drewN ?_ _ | refine Grew.setCell ?_ ?_ _ | (simp; done) | (simp; omega)))))).mono ?_
      rintro e w6 ⟨rfl, hg⟩
      replace hg : Grew w5 w6 := Grew.trans (by (repeat' (first | exact Grew.refl _ | assumption | refine Grew.alloc ?_ _ | refine Grew.drew ?_ | refine Grew.drewN ?_ _ | refine Grew.setCell ?_ ?_ _ | (simp; done) | (simp; omega)))) hg
      have hr6 := hr5.trans hg
      have HS6 := Lib.hid (HS5.out.grew hg)
      have HW6 := Lib.hid (HW5.out.grew hg)
      have ch1 := hg.cell' ch1
      have ch2 := hg.cell' ch2
      have cb0 := hg.cell' cb0
      have cb1 := hg.cell' cb1
      have cb2 := hg.cell' cb2
      have cb3 := hg.cell' cb3
      have cf0 := hg.cell' cf0
      have cf1 := hg.cell' cf1
      have ct0 := hg.cell' ct0
      have ct1 := hg.cell' ct1
      have x0 := hg.cell' x0
      have x1 := hg.cell' x1
      have y0 := hg.cell' y0
      have y1 := hg.cell' y1
      have lch1 := lt_of_cell ch1
      have lcb0 := lt_of_cell cb0
      have lcf0 := lt_of_cell cf0
      have lct0 := lt_of_cell ct0
      have lx0 := lt_of_cell x0
      have ly0 := lt_of_cell y0
      clear hg
      go_wp2_with fail
      refine (has_none none h1 h2 _ (HS6.out.grew (by (repeat' (first | exact Grew.refl _ | assumption | refine Grew.alloc ?_ _ | refine Grew.drew ?_ | refine Grew.drewN ?_ _ | refine Grew.setCell ?_ ?_ _ | (simp; done) | (simp; omega)))))).mono ?_
      rintro e w7 ⟨rfl, hg⟩
      replace hg : Grew w6 w7 := Grew.trans (by (repeat' (first | exact Grew.refl _ | assumption | refine Grew.alloc ?_ _ | refine Grew.drew ?_ | refine Grew.drewN ?_ _ | refine Grew.setCell ?_ ?_ _ | (simp; done) | (simp; omega)))) hg
      have hr7 := hr6.trans hg
      have HS7 := Lib.hid (HS6.out.grew hg)
      have HW7 := Lib.hid (HW6.out.grew hg)
      have ch1 := hg.cell' ch1
      have ch2 := hg.cell' ch2
      have cb0 := hg.cell' cb0
      have cb1 := hg.cell' cb1
      have cb2 := hg.cell' cb2
      have cb3 := hg.cell' cb3
      have cf0 := hg.cell' cf0
      have cf1 := hg.cell' cf1
      have ct0 := hg.cell' ct0
      have ct1 := hg.cell' ct1
      have x0 := hg.cell' x0
      have x1 := hg.cell' x1
      have y0 := hg.cell' y0
      have y1 := hg.cell' y1
      have lch1 := lt_of_cell ch1
      have lcb0 := lt_of_cell cb0
      have lcf0 := lt_of_cell cf0
      have lct0 := lt_of_cell ct0
      have lx0 := lt_of_cell x0
      have ly0 := lt_of_cell y0
      clear hg
      go_wp2_with fail
      refine (gen_none none id _ (HS7.out.grew (by (repeat' (first | exact Grew.refl _ | assumption | refine Grew.alloc ?_ _ | refine Grew.drew ?_ | refine Grew.drewN ?_ _ | refine Grew.setCell ?_ ?_ _ | (simp; done) | (simp; omega)))))).mono ?_
      rintro e w8 ⟨rfl, hg⟩
      replace hg : Grew w7 w8 := Grew.trans (by (repeat' (first | exact Grew.refl _ | assumption | refine Grew.alloc ?_ _ | refine Grew.drew ?_ | refine Grew.drewN ?_ _ | refine Grew.setCell ?_ ?_ _ | (simp; done) | (simp; omega)))) hg
      have hr8 := hr7.trans hg
      have HS8 := Lib.hid (HS7.out.grew hg)
      have HW8 := Lib.hid (HW7.out.grew hg)
      have ch1 := hg.cell' ch1
      have ch2 := hg.cell' ch2
      have cb0 := hg.cell' cb0
      have cb1 := hg.cell' cb1
      have cb2 := hg.cell' cb2
      have cb3 := hg.cell' cb3
      have cf0 := hg.cell' cf0
      have cf1 := hg.cell' cf1
      have ct0 := hg.cell' ct0
      have ct1 := hg.cell' ct1
      have x0 := hg.cell' x0
      have x1 := hg.cell' x1
      have y0 := hg.cell' y0
      have y1 := hg.cell' y1
      have lch1 := lt_of_cell ch1
      have lcb0 := lt_of_cell cb0
      have lcf0 := lt_of_cell cf0
      have lct0 := lt_of_cell ct0
      have lx0 := lt_of_cell x0
      have ly0 := lt_of_cell y0
      clear hg
      go_wp2_with fail
      refine (most_none none _ (HS8.out.grew (by (repeat' (first | exact Grew.refl _ | assumption | refine Grew.alloc ?_ _ | refine Grew.drew ?_ | refine Grew.drewN ?_ _ | refine Grew.setCell ?_ ?_ _ | (simp; done) | (simp; omega)))))).mono ?_
      rintro e w9 ⟨rfl, hg⟩
      replace hg : Grew w8 w9 := Grew.trans (by (repeat' (first | exact Grew.refl _ | assumption | refine Grew.alloc ?_ _ | refine Grew.drew ?_ | refine Grew.drewN ?_ _ | refine Grew.setCell ?_ ?_ _ | (simp; done) | (simp; omega)))) hg
      have hr9 := hr8.trans hg
      have HS9 := Lib.hid (HS8.out.grew hg)
      have HW9 := Lib.hid (HW8.out.grew hg)
      have ch1 := hg.cell' ch1
      have ch2 := hg.cell' ch2
      have cb0 := hg.cell' cb0
      have cb1 := hg.cell' cb1
      have cb2 := hg.cell' cb2
      have cb3 := hg.cell' cb3
      have cf0 := hg.cell' cf0
      have cf1 := hg.cell' cf1
      have ct0 := hg.cell' ct0
      have ct1 := hg.cell' ct1
      have x0 := hg.cell' x0
      have x1 := hg.cell' x1
      have y0 := hg.cell' y0
      have y1 := hg.cell' y1
      have lch1 := lt_of_cell ch1
      have lcb0 := lt_of_cell cb0
      have lcf0 := lt_of_cell cf0
      have lct0 := lt_of_cell ct0
      have lx0 := lt_of_cell x0
      have ly0 := lt_of_cell y0
      clear hg
      go_wp2_with fail
      refine (slLen_none none _ (HS9.out.grew (by (repeat' (first | exact Grew.refl _ | assumption | refine Grew.alloc ?_ _ | refine Grew.drew ?_ | refine Grew.drewN ?_ _ | refine Grew.setCell ?_ ?_ _ | (simp; done) | (simp; omega)))))).mono ?_
      rintro e w10 ⟨rfl, hg⟩
      replace hg : Grew w9 w10 := Grew.trans (by (repeat' (first | exact Grew.refl _ | assumption | refine Grew.alloc ?_ _ | refine Grew.drew ?_ | refine Grew.drewN ?_ _ | refine Grew.setCell ?_ ?_ _ | (simp; done) | (simp; omega)))) hg
      have hr10 := hr9.trans hg
      have HS10 := Lib.hid (HS9.out.grew hg)
      have HW10 := Lib.hid (HW9.out.grew hg)
      have ch1 := hg.cell' ch1
      have ch2 := hg.cell' ch2
      have cb0 := hg.cell' cb0
      have cb1 := hg.cell' cb1
      have cb2 := hg.cell' cb2
      have cb3 := hg.cell' cb3
      have cf0 := hg.cell' cf0
      have cf1 := hg.cell' cf1
      have ct0 := hg.cell' ct0
      have ct1 := hg.cell' ct1
      have x0 := hg.cell' x0
      have x1 := hg.cell' x1
      have y0 := hg.cell' y0
      have y1 := hg.cell' y1
      have lch1 := lt_of_cell ch1
      have lcb0 := lt_of_cell cb0
      have lcf0 := lt_of_cell cf0
      have lct0 := lt_of_cell ct0
      have lx0 := lt_of_cell x0
      have ly0 := lt_of_cell y0
      clear hg
      go_wp2_with fail
      refine (all_none none _ (HS10.out.grew (by (repeat' (first | exact Grew.refl _ | assumption | refine Grew.alloc ?_ _ | refine Grew.drew ?_ | refine Grew.drewN ?_ _ | refine Grew.setCell ?_ ?_ _ | (simp; done) | (simp; omega)))))).mono ?_
      rintro e w11 ⟨rfl, hg⟩
      replace hg : Grew w10 w11 := Grew.trans (by (repeat' (first | exact Grew.refl _ | assumption | refine Grew.alloc ?_ _ | refine Grew.drew ?_ | refine Grew.drewN ?_ _ | refine Grew.setCell ?_ ?_ _ | (simp; done) | (simp; omega)))) hg
      have hr11 := hr10.trans hg
      have HS11 := Lib.hid (HS10.out.grew hg)
      have HW11 := Lib.hid (HW10.out.grew hg)
      have ch1 := hg.cell' ch1
      have ch2 := hg.cell' ch2
      have cb0 := hg.cell' cb0
      have cb1 := hg.cell' cb1
      have cb2 := hg.cell' cb2
      have cb3 := hg.cell' cb3
      have cf0 := hg.cell' cf0
      have cf1 := hg.cell' cf1
      have ct0 := hg.cell' ct0
      have ct1 := hg.cell' ct1
      have x0 := hg.cell' x0
      have x1 := hg.cell' x1
      have y0 := hg.cell' y0
      have y1 := hg.cell' y1
      have lch1 := lt_of_cell ch1
      have lcb0 := lt_of_cell cb0
      have lcf0 := lt_of_cell cf0
      have lct0 := lt_of_cell ct0
      have lx0 := lt_of_cell x0
      have ly0 := lt_of_cell y0
      clear hg
      go_wp2_with fail
      refine (slCopy_none none _ (HS11.out.grew (by (repeat' (first | exact Grew.refl _ | assumption | refine Grew.alloc ?_ _ | refine Grew.drew ?_ | refine Grew.drewN ?_ _ | refine Grew.setCell ?_ ?_ _ | (simp; done) | (simp; omega)))))).mono ?_
      rintro e w12 ⟨rfl, hg⟩
      replace hg : Grew w11 w12 := Grew.trans (by (repeat' (first | exact Grew.refl _ | assumption | refine Grew.alloc ?_ _ | refine Grew.drew ?_ | refine Grew.drewN ?_ _ | refine Grew.setCell ?_ ?_ _ | (simp; done) | (simp; omega)))) hg
      have hr12 := hr11.trans hg
      have HS12 := Lib.hid (HS11.out.grew hg)
      have HW12 := Lib.hid (HW11.out.grew hg)
      have ch1 := hg.cell' ch1
      have ch2 := hg.cell' ch2
      have cb0 := hg.cell' cb0
      have cb1 := hg.cell' cb1
      have cb2 := hg.cell' cb2
      have cb3 := hg.cell' cb3
      have cf0 := hg.cell' cf0
      have cf1 := hg.cell' cf1
      have ct0 := hg.cell' ct0
      have ct1 := hg.cell' ct1
      have x0 := hg.cell' x0
      have x1 := hg.cell' x1
      have y0 := hg.cell' y0
      have y1 := hg.cell' y1
      have lch1 := lt_of_cell ch1
      have lcb0 := lt_of_cell cb0
      have lcf0 := lt_of_cell cf0
      have lct0 := lt_of_cell ct0
      have lx0 := lt_of_cell x0
      have ly0 := lt_of_cell y0
      clear hg
      go_wp2_with fail
      refine (boxAt_none none id _ (HW12.out.grew (by (repeat' (first | exact Grew.refl _ | assumption | refine Grew.alloc ?_ _ | refine Grew.drew ?_ | refine Grew.drewN ?_ _ | refine Grew.setCell ?_ ?_ _ | (simp; done) | (simp; omega)))))).mono ?_
      rintro e w13 ⟨rfl, hg⟩
      replace hg : Grew w12 w13 := Grew.trans (by (repeat' (first | exact Grew.refl _ | assumption | refine Grew.alloc ?_ _ | refine Grew.drew ?_ | refine Grew.drewN ?_ _ | refine Grew.setCell ?_ ?_ _ | (simp; done) | (simp; omega)))) hg
      have hr13 := hr12.trans hg
      have HS13 := Lib.hid (HS12.out.grew hg)
      have HW13 := Lib.hid (HW12.out.grew hg)
      have ch1 := hg.cell' ch1
      have ch2 := hg.cell' ch2
      have cb0 := hg.cell' cb0
      have cb1 := hg.cell' cb1
      have cb2 := hg.cell' cb2
      have cb3 := hg.cell' cb3
      have cf0 := hg.cell' cf0
      have cf1 := hg.cell' cf1
      have ct0 := hg.cell' ct0
      have ct1 := hg.cell' ct1
      have x0 := hg.cell' x0
      have x1 := hg.cell' x1
      have y0 := hg.cell' y0
      have y1 := hg.cell' y1
      have lch1 := lt_of_cell ch1
      have lcb0 := lt_of_cell cb0
      have lcf0 := lt_of_cell cf0
      have lct0 := lt_of_cell ct0
      have lx0 := lt_of_cell x0
      have ly0 := lt_of_cell y0
      clear hg
      go_wp2_with fail
      have hg : Grew w13 (w13.alloc (.cells #[.int .i64 0, .int .i64 0, .int .i64 0, .int .i64 0] 32)) := (Grew.refl _).alloc _
      obtain ⟨zb, hzb⟩ : ∃ zb, w13.heap.size = zb := ⟨_, rfl⟩
      have z0 : (w13.alloc (.cells #[.int .i64 0, .int .i64 0, .int .i64 0, .int .i64 0] 32)).cell? ⟨zb, 0, none⟩ = some (.int .i64 0) := by rw [← hzb]; simp
      have z1 : (w13.alloc (.cells #[.int .i64 0, .int .i64 0, .int .i64 0, .int .i64 0] 32)).cell? ⟨zb, 1, none⟩ = some (.int .i64 0) := by rw [← hzb]; simp
      have z2 : (w13.alloc (.cells #[.int .i64 0, .int .i64 0, .int .i64 0, .int .i64 0] 32)).cell? ⟨zb, 2, none⟩ = some (.int .i64 0) := by rw [← hzb]; simp
      have z3 : (w13.alloc (.cells #[.int .i64 0, .int .i64 0, .int .i64 0, .int .i64 0] 32)).cell? ⟨zb, 3, none⟩ = some (.int .i64 0) := by rw [← hzb]; simp
      have ch1 := hg.cell' ch1
      have ch2 := hg.cell' ch2
      have cb0 := hg.cell' cb0
      have cb1 := hg.cell' cb1
      have cb2 := hg.cell' cb2
      have cb3 := hg.cell' cb3
      have cf0 := hg.cell' cf0
      have cf1 := hg.cell' cf1
      have ct0 := hg.cell' ct0
      have ct1 := hg.cell' ct1
      have x0 := hg.cell' x0
      have x1 := hg.cell' x1
      have y0 := hg.cell' y0
      have y1 := hg.cell' y1
      have HS14 := Lib.hid (HS13.out.grew hg)
      have HW14 := Lib.hid (HW13.out.grew hg)
      try rw [hzb]
      generalize (w13.alloc (.cells #[.int .i64 0, .int .i64 0, .int .i64 0, .int .i64 0] 32)) = w14 at hg HS14 HW14 ch1 ch2 cb0 cb1 cb2 cb3 cf0 cf1 ct0 ct1 x0 x1 y0 y1 z0 z1 z2 z3 ⊢
      have hr14 := hr13.trans hg
      have lch1 := lt_of_cell ch1
      have lcb0 := lt_of_cell cb0
      have lcf0 := lt_of_cell cf0
      have lct0 := lt_of_cell ct0
      have lx0 := lt_of_cell x0
      have ly0 := lt_of_cell y0
      have lz0 := lt_of_cell z0
      clear hg hzb
      refine (put_none none id b0 b1 b2 b3 _ (HW14.out.grew (by (repeat' (first | exact Grew.refl _ | assumption | refine Grew.alloc ?_ _ | refine Grew.drew ?_ | refine Grew.drewN ?_ _ | refine Grew.setCell ?_ ?_ _ | (simp; done) | (simp; omega)))))).mono ?_
      rintro e w15 ⟨rfl, hg⟩
      replace hg : Grew w14 w15 := Grew.trans (by (repeat' (first | exact Grew.refl _ | assumption | refine Grew.alloc ?_ _ | refine Grew.drew ?_ | refine Grew.drewN ?_ _ | refine Grew.setCell ?_ ?_ _ | (simp; done) | (simp; omega)))) hg
      have hr15 := hr14.trans hg
      have HS15 := Lib.hid (HS14.out.grew hg)
      have HW15 := Lib.hid (HW14.out.grew hg)
      have ch1 := hg.cell' ch1
      have ch2 := hg.cell' ch2
      have cb0 := hg.cell' cb0
      have cb1 := hg.cell' cb1
      have cb2 := hg.cell' cb2
      have cb3 := hg.cell' cb3
      have cf0 := hg.cell' cf0
      have cf1 := hg.cell' cf1
      have ct0 := hg.cell' ct0
      have ct1 := hg.cell' ct1
      have x0 := hg.cell' x0
      have x1 := hg.cell' x1
      have y0 := hg.cell' y0
      have y1 := hg.cell' y1
      have z0 := hg.cell' z0
      have z1 := hg.cell' z1
      have z2 := hg.cell' z2
      have z3 := hg.cell' z3
      have lch1 := lt_of_cell ch1
      have lcb0 := lt_of_cell cb0
      have lcf0 := lt_of_cell cf0
      have lct0 := lt_of_cell ct0
      have lx0 := lt_of_cell x0
      have ly0 := lt_of_cell y0
      have lz0 := lt_of_cell z0
      clear hg
      go_wp2_with fail
      refine (move_none none id b0 b1 b2 b3 _ (HW15.out.grew (by (repeat' (first | exact Grew.refl _ | assumption | refine Grew.alloc ?_ _ | refine Grew.drew ?_ | refine Grew.drewN ?_ _ | refine Grew.setCell ?_ ?_ _ | (simp; done) | (simp; omega)))))).mono ?_
      rintro e w16 ⟨rfl, hg⟩
      replace hg : Grew w15 w16 := Grew.trans (by (repeat' (first | exact Grew.refl _ | assumption | refine Grew.alloc ?_ _ | refine Grew.drew ?_ | refine Grew.drewN ?_ _ | refine Grew.setCell ?_ ?_ _ | (simp; done) | (simp; omega)))) hg
      have hr16 := hr15.trans hg
      have HS16 := Lib.hid (HS15.out.grew hg)
      have HW16 := Lib.hid (HW15.out.grew hg)
      have ch1 := hg.cell' ch1
      have ch2 := hg.cell' ch2
      have cb0 := hg.cell' cb0
      have cb1 := hg.cell' cb1
      have cb2 := hg.cell' cb2
      have cb3 := hg.cell' cb3
      have cf0 := hg.cell' cf0
      have cf1 := hg.cell' cf1
      have ct0 := hg.cell' ct0
      have ct1 := hg.cell' ct1
      have x0 := hg.cell' x0
      have x1 := hg.cell' x1
      have y0 := hg.cell' y0
      have y1 := hg.cell' y1
      have z0 := hg.cell' z0
      have z1 := hg.cell' z1
      have z2 := hg.cell' z2
      have z3 := hg.cell' z3
      have lch1 := lt_of_cell ch1
      have lcb0 := lt_of_cell cb0
      have lcf0 := lt_of_cell cf0
      have lct0 := lt_of_cell ct0
      have lx0 := lt_of_cell x0
      have ly0 := lt_of_cell y0
      have lz0 := lt_of_cell z0
      clear hg
      go_wp2_with fail
      refine (drop_none none id _ (HW16.out.grew (by (repeat' (first | exact Grew.refl _ | assumption | refine Grew.alloc ?_ _ | refine Grew.drew ?_ | refine Grew.drewN ?_ _ | refine Grew.setCell ?_ ?_ _ | (simp; done) | (simp; omega)))))).mono ?_
      rintro e w17 ⟨rfl, hg⟩
      replace hg : Grew w16 w17 := Grew.trans (by (repeat' (first | exact Grew.refl _ | assumption | refine Grew.alloc ?_ _ | refine Grew.drew ?_ | refine Grew.drewN ?_ _ | refine Grew.setCell ?_ ?_ _ | (simp; done) | (simp; omega)))) hg
      have hr17 := hr16.trans hg
      have HS17 := Lib.hid (HS16.out.grew hg)
      have HW17 := Lib.hid (HW16.out.grew hg)
      have ch1 := hg.cell' ch1
      have ch2 := hg.cell' ch2
      have cb0 := hg.cell' cb0
      have cb1 := hg.cell' cb1
      have cb2 := hg.cell' cb2
      have cb3 := hg.cell' cb3
      have cf0 := hg.cell' cf0
      have cf1 := hg.cell' cf1
      have ct0 := hg.cell' ct0
      have ct1 := hg.cell' ct1
      have x0 := hg.cell' x0
      have x1 := hg.cell' x1
      have y0 := hg.cell' y0
      have y1 := hg.cell' y1
      have z0 := hg.cell' z0
      have z1 := hg.cell' z1
      have z2 := hg.cell' z2
      have z3 := hg.cell' z3
      have lch1 := lt_of_cell ch1
      have lcb0 := lt_of_cell cb0
      have lcf0 := lt_of_cell cf0
      have lct0 := lt_of_cell ct0
      have lx0 := lt_of_cell x0
      have ly0 := lt_of_cell y0
      have lz0 := lt_of_cell z0
      clear hg
      go_wp2_with fail
      refine (ids_none none _ (HW17.out.grew (by (repeat' (first | exact Grew.refl _ | assumption | refine Grew.alloc ?_ _ | refine Grew.drew ?_ | refine Grew.drewN ?_ _ | refine Grew.setCell ?_ ?_ _ | (simp; done) | (simp; omega)))))).mono ?_
      rintro e w18 ⟨rfl, hg⟩
      replace hg : Grew w17 w18 := Grew.trans (by (repeat' (first | exact Grew.refl _ | assumption | refine Grew.alloc ?_ _ | refine Grew.drew ?_ | refine Grew.drewN ?_ _ | refine Grew.setCell ?_ ?_ _ | (simp; done) | (simp; omega)))) hg
      have hr18 := hr17.trans hg
      have HS18 := Lib.hid (HS17.out.grew hg)
      have HW18 := Lib.hid (HW17.out.grew hg)
      have ch1 := hg.cell' ch1
      have ch2 := hg.cell' ch2
      have cb0 := hg.cell' cb0
      have cb1 := hg.cell' cb1
      have cb2 := hg.cell' cb2
      have cb3 := hg.cell' cb3
      have cf0 := hg.cell' cf0
      have cf1 := hg.cell' cf1
      have ct0 := hg.cell' ct0
      have ct1 := hg.cell' ct1
      have x0 := hg.cell' x0
      have x1 := hg.cell' x1
      have y0 := hg.cell' y0
      have y1 := hg.cell' y1
      have z0 := hg.cell' z0
      have z1 := hg.cell' z1
      have z2 := hg.cell' z2
      have z3 := hg.cell' z3
      have lch1 := lt_of_cell ch1
      have lcb0 := lt_of_cell cb0
      have lcf0 := lt_of_cell cf0
      have lct0 := lt_of_cell ct0
      have lx0 := lt_of_cell x0
      have ly0 := lt_of_cell y0
      have lz0 := lt_of_cell z0
      clear hg
      go_wp2_with fail
      refine (len_none none _ (HW18.out.grew (by (repeat' (first | exact Grew.refl _ | assumption | refine Grew.alloc ?_ _ | refine Grew.drew ?_ | refine Grew.drewN ?_ _ | refine Grew.setCell ?_ ?_ _ | (simp; done) | (simp; omega)))))).mono ?_
      rintro e w19 ⟨rfl, hg⟩
      replace hg : Grew w18 w19 := Grew.trans (by (repeat' (first | exact Grew.refl _ | assumption | refine Grew.alloc ?_ _ | refine Grew.drew ?_ | refine Grew.drewN ?_ _ | refine Grew.setCell ?_ ?_ _ | (simp; done) | (simp; omega)))) hg
      have hr19 := hr18.trans hg
      have HS19 := Lib.hid (HS18.out.grew hg)
      have HW19 := Lib.hid (HW18.out.grew hg)
      have ch1 := hg.cell' ch1
      have ch2 := hg.cell' ch2
      have cb0 := hg.cell' cb0
      have cb1 := hg.cell' cb1
      have cb2 := hg.cell' cb2
      have cb3 := hg.cell' cb3
      have cf0 := hg.cell' cf0
      have cf1 := hg.cell' cf1
      have ct0 := hg.cell' ct0
      have ct1 := hg.cell' ct1
      have x0 := hg.cell' x0
      have x1 := hg.cell' x1
      have y0 := hg.cell' y0
      have y1 := hg.cell' y1
      have z0 := hg.cell' z0
      have z1 := hg.cell' z1
      have z2 := hg.cell' z2
      have z3 := hg.cell' z3
      have lch1 := lt_of_cell ch1
      have lcb0 := lt_of_cell cb0
      have lcf0 := lt_of_cell cf0
      have lct0 := lt_of_cell ct0
      have lx0 := lt_of_cell x0
      have ly0 := lt_of_cell y0
      have lz0 := lt_of_cell z0
      clear hg
      go_wp2_with fail
      refine (pairs_none none _ (HW19.out.grew (by (repeat' (first | exact Grew.refl _ | assumption | refine Grew.alloc ?_ _ | refine Grew.drew ?_ | refine Grew.drewN ?_ _ | refine Grew.setCell ?_ ?_ _ | (simp; done) | (simp; omega)))))).mono ?_
      rintro e w20 ⟨rfl, hg⟩
      replace hg : Grew w19 w20 := Grew.trans (by (repeat' (first | exact Grew.refl _ | assumption | refine Grew.alloc ?_ _ | refine Grew.drew ?_ | refine Grew.drewN ?_ _ | refine Grew.setCell ?_ ?_ _ | (simp; done) | (simp; omega)))) hg
      have hr20 := hr19.trans hg
      have HS20 := Lib.hid (HS19.out.grew hg)
      have HW20 := Lib.hid (HW19.out.grew hg)
      have ch1 := hg.cell' ch1
      have ch2 := hg.cell' ch2
      have cb0 := hg.cell' cb0
      have cb1 := hg.cell' cb1
      have cb2 := hg.cell' cb2
      have cb3 := hg.cell' cb3
      have cf0 := hg.cell' cf0
      have cf1 := hg.cell' cf1
      have ct0 := hg.cell' ct0
      have ct1 := hg.cell' ct1
      have x0 := hg.cell' x0
      have x1 := hg.cell' x1
      have y0 := hg.cell' y0
      have y1 := hg.cell' y1
      have z0 := hg.cell' z0
      have z1 := hg.cell' z1
      have z2 := hg.cell' z2
      have z3 := hg.cell' z3
      have lch1 := lt_of_cell ch1
      have lcb0 := lt_of_cell cb0
      have lcf0 := lt_of_cell cf0
      have lct0 := lt_of_cell ct0
      have lx0 := lt_of_cell x0
      have ly0 := lt_of_cell y0
      have lz0 := lt_of_cell z0
      clear hg
      go_wp2_with fail
      refine (near_none none b0 b1 b2 b3 _ (HW20.out.grew (by (repeat' (first | exact Grew.refl _ | assumption | refine Grew.alloc ?_ _ | refine Grew.drew ?_ | refine Grew.drewN ?_ _ | refine Grew.setCell ?_ ?_ _ | (simp; done) | (simp; omega)))))).mono ?_
      rintro e w21 ⟨rfl, hg⟩
      replace hg : Grew w20 w21 := Grew.trans (by (repeat' (first | exact Grew.refl _ | assumption | refine Grew.alloc ?_ _ | refine Grew.drew ?_ | refine Grew.drewN ?_ _ | refine Grew.setCell ?_ ?_ _ | (simp; done) | (simp; omega)))) hg
      have hr21 := hr20.trans hg
      have HS21 := Lib.hid (HS20.out.grew hg)
      have HW21 := Lib.hid (HW20.out.grew hg)
      have ch1 := hg.cell' ch1
      have ch2 := hg.cell' ch2
      have cb0 := hg.cell' cb0
      have cb1 := hg.cell' cb1
      have cb2 := hg.cell' cb2
      have cb3 := hg.cell' cb3
      have cf0 := hg.cell' cf0
      have cf1 := hg.cell' cf1
      have ct0 := hg.cell' ct0
      have ct1 := hg.cell' ct1
      have x0 := hg.cell' x0
      have x1 := hg.cell' x1
      have y0 := hg.cell' y0
      have y1 := hg.cell' y1
      have z0 := hg.cell' z0
      have z1 := hg.cell' z1
      have z2 := hg.cell' z2
      have z3 := hg.cell' z3
      have lch1 := lt_of_cell ch1
      have lcb0 := lt_of_cell cb0
      have lcf0 := lt_of_cell cf0
      have lct0 := lt_of_cell ct0
      have lx0 := lt_of_cell x0
      have ly0 := lt_of_cell y0
      have lz0 := lt_of_cell z0
      clear hg
      go_wp2_with fail
      refine (along_none none f0 f1 t0 t1 _ (HW21.out.grew (by (repeat' (first | exact Grew.refl _ | assumption | refine Grew.alloc ?_ _ | refine Grew.drew ?_ | refine Grew.drewN ?_ _ | refine Grew.setCell ?_ ?_ _ | (simp; done) | (simp; omega)))))).mono ?_
      rintro e w22 ⟨rfl, hg⟩
      replace hg : Grew w21 w22 := Grew.trans (by (repeat' (first | exact Grew.refl _ | assumption | refine Grew.alloc ?_ _ | refine Grew.drew ?_ | refine Grew.drewN ?_ _ | refine Grew.setCell ?_ ?_ _ | (simp; done) | (simp; omega)))) hg
      have hr22 := hr21.trans hg
      have HS22 := Lib.hid (HS21.out.grew hg)
      have HW22 := Lib.hid (HW21.out.grew hg)
      have ch1 := hg.cell' ch1
      have ch2 := hg.cell' ch2
      have cb0 := hg.cell' cb0
      have cb1 := hg.cell' cb1
      have cb2 := hg.cell' cb2
      have cb3 := hg.cell' cb3
      have cf0 := hg.cell' cf0
      have cf1 := hg.cell' cf1
      have ct0 := hg.cell' ct0
      have ct1 := hg.cell' ct1
      have x0 := hg.cell' x0
      have x1 := hg.cell' x1
      have y0 := hg.cell' y0
      have y1 := hg.cell' y1
      have z0 := hg.cell' z0
      have z1 := hg.cell' z1
      have z2 := hg.cell' z2
      have z3 := hg.cell' z3
      have lch1 := lt_of_cell ch1
      have lcb0 := lt_of_cell cb0
      have lcf0 := lt_of_cell cf0
      have lct0 := lt_of_cell ct0
      have lx0 := lt_of_cell x0
      have ly0 := lt_of_cell y0
      have lz0 := lt_of_cell z0
      clear hg
      go_wp2_with fail
      refine (swCopy_none none _ (HW22.out.grew (by (repeat' (first | exact Grew.refl _ | assumption | refine Grew.alloc ?_ _ | refine Grew.drew ?_ | refine Grew.drewN ?_ _ | refine Grew.setCell ?_ ?_ _ | (simp; done) | (simp; omega)))))).mono ?_
      rintro e w23 ⟨rfl, hg⟩
      replace hg : Grew w22 w23 := Grew.trans (by (repeat' (first | exact Grew.refl _ | assumption | refine Grew.alloc ?_ _ | refine Grew.drew ?_ | refine Grew.drewN ?_ _ | refine Grew.setCell ?_ ?_ _ | (simp; done) | (simp; omega)))) hg
      have hr23 := hr22.trans hg
      have HS23 := Lib.hid (HS22.out.grew hg)
      have HW23 := Lib.hid (HW22.out.grew hg)
      have ch1 := hg.cell' ch1
      have ch2 := hg.cell' ch2
      have cb0 := hg.cell' cb0
      have cb1 := hg.cell' cb1
      have cb2 := hg.cell' cb2
      have cb3 := hg.cell' cb3
      have cf0 := hg.cell' cf0
      have cf1 := hg.cell' cf1
      have ct0 := hg.cell' ct0
      have ct1 := hg.cell' ct1
      have x0 := hg.cell' x0
      have x1 := hg.cell' x1
      have y0 := hg.cell' y0
      have y1 := hg.cell' y1
      have z0 := hg.cell' z0
      have z1 := hg.cell' z1
      have z2 := hg.cell' z2
      have z3 := hg.cell' z3
      have lch1 := lt_of_cell ch1
      have lcb0 := lt_of_cell cb0
      have lcf0 := lt_of_cell cf0
      have lct0 := lt_of_cell ct0
      have lx0 := lt_of_cell x0
      have ly0 := lt_of_cell y0
      have lz0 := lt_of_cell z0
      clear hg
      go_wp2_with fail
      go_roundg 1
      case measure => omega
      case rel => exact ⟨.inr (.inl ⟨rfl, by omega⟩), hr23.trans (by (repeat' (first | exact Grew.refl _ | assumption | refine Grew.alloc ?_ _ | refine Grew.drew ?_ | refine Grew.drewN ?_ _ | refine Grew.setCell ?_ ?_ _ | (simp; done) | (simp; omega))))⟩
    · go_wp2_with fail
      have hg1 : Grew wr ((wr.alloc (.cells #[.int .u64 0, .slice none 0 0] 100)).alloc (.cells #[.map none] 103)) := by (repeat' (first | exact Grew.refl _ | assumption | refine Grew.alloc ?_ _ | refine Grew.drew ?_ | refine Grew.drewN ?_ _ | refine Grew.setCell ?_ ?_ _ | (simp; done) | (simp; omega)))
      obtain ⟨sq, hsq⟩ : ∃ sq, wr.heap.size = sq := ⟨_, rfl⟩
      obtain ⟨wq, hwq⟩ : ∃ wq, wr.heap.size + 1 = wq := ⟨_, rfl⟩
      have s1 : ((wr.alloc (.cells #[.int .u64 0, .slice none 0 0] 100)).alloc (.cells #[.map none] 103)).cell? ⟨sq, 1, none⟩ = some (.slice none 0 0) := by rw [← hsq]; simp
      have s2 : ((wr.alloc (.cells #[.int .u64 0, .slice none 0 0] 100)).alloc (.cells #[.map none] 103)).cell? ⟨wq, 0, none⟩ = some (.map none) := by rw [← hwq]; simp
      have HS1 := Lib.hid (noS_zero sq _ s1)
      have HW1 := Lib.hid (noW_zero wq _ s2)
      have ch1 := hg1.cell' ch1
      have ch2 := hg1.cell' ch2
      have cb0 := hg1.cell' cb0
      have cb1 := hg1.cell' cb1
      have cb2 := hg1.cell' cb2
      have cb3 := hg1.cell' cb3
      have cf0 := hg1.cell' cf0
      have cf1 := hg1.cell' cf1
      have ct0 := hg1.cell' ct0
      have ct1 := hg1.cell' ct1
      try rw [hwq]
      try rw [hsq]
      clear s1 s2 hsq hwq
      generalize ((wr.alloc (.cells #[.int .u64 0, .slice none 0 0] 100)).alloc (.cells #[.map none] 103)) = w1 at hg1 HS1 HW1 ch1 ch2 cb0 cb1 cb2 cb3 cf0 cf1 ct0 ct1 ⊢
      have hr1 := hgr.trans hg1
      have lch1 := lt_of_cell ch1
      have lcb0 := lt_of_cell cb0
      have lcf0 := lt_of_cell cf0
      have lct0 := lt_of_cell ct0
      refine (take_none (some ⟨sq, 0, none⟩) _ (HS1.out.grew (by (repeat' (first | exact Grew.refl _ | assumption | refine Grew.alloc ?_ _ | refine Grew.drew ?_ | refine Grew.drewN ?_ _ | refine Grew.setCell ?_ ?_ _ | (simp; done) | (simp; omega)))))).mono ?_
      rintro e w2 ⟨rfl, hg⟩
      replace hg : Grew w1 w2 := Grew.trans (by (repeat' (first | exact Grew.refl _ | assumption | refine Grew.alloc ?_ _ | refine Grew.drew ?_ | refine Grew.drewN ?_ _ | refine Grew.setCell ?_ ?_ _ | (simp; done) | (simp; omega)))) hg
      have hr2 := hr1.trans hg
      have HS2 := Lib.hid (HS1.out.grew hg)
      have HW2 := Lib.hid (HW1.out.grew hg)
      have ch1 := hg.cell' ch1
      have ch2 := hg.cell' ch2
      have cb0 := hg.cell' cb0
      have cb1 := hg.cell' cb1
      have cb2 := hg.cell' cb2
      have cb3 := hg.cell' cb3
      have cf0 := hg.cell' cf0
      have cf1 := hg.cell' cf1
      have ct0 := hg.cell' ct0
      have ct1 := hg.cell' ct1
      have lch1 := lt_of_cell ch1
      have lcb0 := lt_of_cell cb0
      have lcf0 := lt_of_cell cf0
      have lct0 := lt_of_cell ct0
      clear hg
      go_wp2_with fail
      have hg : Grew w2 (w2.alloc (.cells #[.int .i64 0, .int .i64 0] 64)) := (Grew.refl _).alloc _
      obtain ⟨xb, hxb⟩ : ∃ xb, w2.heap.size = xb := ⟨_, rfl⟩
      have x0 : (w2.alloc (.cells #[.int .i64 0, .int .i64 0] 64)).cell? ⟨xb, 0, none⟩ = some (.int .i64 0) := by rw [← hxb]; simp
      have x1 : (w2.alloc (.cells #[.int .i64 0, .int .i64 0] 64)).cell? ⟨xb, 1, none⟩ = some (.int .i64 0) := by rw [← hxb]; simp
      have ch1 := hg.cell' ch1
      have ch2 := hg.cell' ch2
      have cb0 := hg.cell' cb0
      have cb1 := hg.cell' cb1
      have cb2 := hg.cell' cb2
      have cb3 := hg.cell' cb3
      have cf0 := hg.cell' cf0
      have cf1 := hg.cell' cf1
      have ct0 := hg.cell' ct0
      have ct1 := hg.cell' ct1
      have HS3 := Lib.hid (HS2.out.grew hg)
      have HW3 := Lib.hid (HW2.out.grew hg)
      try rw [hxb]
      generalize (w2.alloc (.cells #[.int .i64 0, .int .i64 0] 64)) = w3 at hg HS3 HW3 ch1 ch2 cb0 cb1 cb2 cb3 cf0 cf1 ct0 ct1 x0 x1 ⊢
      have hr3 := hr2.trans hg
      have lch1 := lt_of_cell ch1
      have lcb0 := lt_of_cell cb0
      have lcf0 := lt_of_cell cf0
      have lct0 := lt_of_cell ct0
      have lx0 := lt_of_cell x0
      clear hg hxb
      refine (at_none (some ⟨sq, 0, none⟩) id _ (HS3.out.grew (by (repeat' (first | exact Grew.refl _ | assumption | refine Grew.alloc ?_ _ | refine Grew.drew ?_ | refine Grew.drewN ?_ _ | refine Grew.setCell ?_ ?_ _ | (simp; done) | (simp; omega)))))).mono ?_
      rintro e w4 ⟨rfl, hg⟩
      replace hg : Grew w3 w4 := Grew.trans (by (repeat' (first | exact Grew.refl _ | assumption | refine Grew.alloc ?_ _ | refine Grew.drew ?_ | refine Grew.drewN ?_ _ | refine Grew.setCell ?_ ?_ _ | (simp; done) | (simp; omega)))) hg
      have hr4 := hr3.trans hg
      have HS4 := Lib.hid (HS3.out.grew hg)
      have HW4 := Lib.hid (HW3.out.grew hg)
      have ch1 := hg.cell' ch1
      have ch2 := hg.cell' ch2
      have cb0 := hg.cell' cb0
      have cb1 := hg.cell' cb1
      have cb2 := hg.cell' cb2
      have cb3 := hg.cell' cb3
      have cf0 := hg.cell' cf0
      have cf1 := hg.cell' cf1
      have ct0 := hg.cell' ct0
      have ct1 := hg.cell' ct1
      have x0 := hg.cell' x0
      have x1 := hg.cell' x1
      have lch1 := lt_of_cell ch1
      have lcb0 := lt_of_cell cb0
      have lcf0 := lt_of_cell cf0
      have lct0 := lt_of_cell ct0
      have lx0 := lt_of_cell x0
      clear hg
      go_wp2_with fail
      have hg : Grew w4 (w4.alloc (.cells #[.int .i64 0, .int .i64 0] 64)) := (Grew.refl _).alloc _
      obtain ⟨yb, hyb⟩ : ∃ yb, w4.heap.size = yb := ⟨_, rfl⟩
      have y0 : (w4.alloc (.cells #[.int .i64 0, .int .i64 0] 64)).cell? ⟨yb, 0, none⟩ = some (.int .i64 0) := by rw [← hyb]; simp
      have y1 : (w4.alloc (.cells #[.int .i64 0, .int .i64 0] 64)).cell? ⟨yb, 1, none⟩ = some (.int .i64 0) := by rw [← hyb]; simp
      have ch1 := hg.cell' ch1
      have ch2 := hg.cell' ch2
      have cb0 := hg.cell' cb0
      have cb1 := hg.cell' cb1
      have cb2 := hg.cell' cb2
      have cb3 := hg.cell' cb3
      have cf0 := hg.cell' cf0
      have cf1 := hg.cell' cf1
      have ct0 := hg.cell' ct0
      have ct1 := hg.cell' ct1
      have x0 := hg.cell' x0
      have x1 := hg.cell' x1
      have HS5 := Lib.hid (HS4.out.grew hg)
      have HW5 := Lib.hid (HW4.out.grew hg)
      try rw [hyb]
      generalize (w4.alloc (.cells #[.int .i64 0, .int .i64 0] 64)) = w5 at hg HS5 HW5 ch1 ch2 cb0 cb1 cb2 cb3 cf0 cf1 ct0 ct1 x0 x1 y0 y1 ⊢
      have hr5 := hr4.trans hg
      have lch1 := lt_of_cell ch1
      have lcb0 := lt_of_cell cb0
      have lcf0 := lt_of_cell cf0
      have lct0 := lt_of_cell ct0
      have lx0 := lt_of_cell x0
      have ly0 := lt_of_cell y0
      clear hg hyb
      refine (free_none (some ⟨sq, 0, none⟩) h1 h2 _ (HS5.out.grew (by (repeat' (first | exact Grew.refl _ | assumption | refine Grew.alloc ?_ _ | refine Grew.drew ?_ | refine Grew.drewN ?_ _ | refine Grew.setCell ?_ ?_ _ | (simp; done) | (simp; omega)))))).mono ?_
      rintro e w6 ⟨rfl, hg⟩
      replace hg : Grew w5 w6 := Grew.trans (by (repeat' (first | exact Grew.refl _ | assumption | refine Grew.alloc ?_ _ | refine Grew.drew ?_ | refine Grew.drewN ?_ _ | refine Grew.setCell ?_ ?_ _ | (simp; done) | (simp; omega)))) hg
      have hr6 := hr5.trans hg
      have HS6 := Lib.hid (HS5.out.grew hg)
      have HW6 := Lib.hid (HW5.out.grew hg)
      have ch1 := hg.cell' ch1
      have ch2 := hg.cell' ch2
      have cb0 := hg.cell' cb0
      have cb1 := hg.cell' cb1
      have cb2 := hg.cell' cb2
      have cb3 := hg.cell' cb3
      have cf0 := hg.cell' cf0
      have cf1 := hg.cell' cf1
      have ct0 := hg.cell' ct0
      have ct1 := hg.cell' ct1
      have x0 := hg.cell' x0
      have x1 := hg.cell' x1
      have y0 := hg.cell' y0
      have y1 := hg.cell' y1
      have lch1 := lt_of_cell ch1
      have lcb0 := lt_of_cell cb0
      have lcf0 := lt_of_cell cf0
      have lct0 := lt_of_cell ct0
      have lx0 := lt_of_cell x0
      have ly0 := lt_of_cell y0
      clear hg
      go_wp2_with fail
      refine (has_none (some ⟨sq, 0, none⟩) h1 h2 _ (HS6.out.grew (by (repeat' (first | exact Grew.refl _ | assumption | refine Grew.alloc ?_ _ | refine Grew.drew ?_ | refine Grew.drewN ?_ _ | refine Grew.setCell ?_ ?_ _ | (simp; done) | (simp; omega)))))).mono ?_
      rintro e w7 ⟨rfl, hg⟩
      replace hg : Grew w6 w7 := Grew.trans (by (repeat' (first | exact Grew.refl _ | assumption | refine Grew.alloc ?_ _ | refine Grew.drew ?_ | refine Grew.drewN ?_ _ | refine Grew.setCell ?_ ?_ _ | (simp; done) | (simp; omega)))) hg
      have hr7 := hr6.trans hg
      have HS7 := Lib.hid (HS6.out.grew hg)
      have HW7 := Lib.hid (HW6.out.grew hg)
      have ch1 := hg.cell' ch1
      have ch2 := hg.cell' ch2
      have cb0 := hg.cell' cb0
      have cb1 := hg.cell' cb1
      have cb2 := hg.cell' cb2
      have cb3 := hg.cell' cb3
      have cf0 := hg.cell' cf0
      have cf1 := hg.cell' cf1
      have ct0 := hg.cell' ct0
      have ct1 := hg.cell' ct1
      have x0 := hg.cell' x0
      have x1 := hg.cell' x1
      have y0 := hg.cell' y0
      have y1 := hg.cell' y1
      have lch1 := lt_of_cell ch1
      have lcb0 := lt_of_cell cb0
      have lcf0 := lt_of_cell cf0
      have lct0 := lt_of_cell ct0
      have lx0 := lt_of_cell x0
      have ly0 := lt_of_cell y0
      clear hg
      go_wp2_with fail
      refine (gen_none (some ⟨sq, 0, none⟩) id _ (HS7.out.grew (by (repeat' (first | exact Grew.refl _ | assumption | refine Grew.alloc ?_ _ | refine Grew.drew ?_ | refine Grew.drewN ?_ _ | refine Grew.setCell ?_ ?_ _ | (simp; done) | (simp; omega)))))).mono ?_
      rintro e w8 ⟨rfl, hg⟩
      replace hg : Grew w7 w8 := Grew.trans (by (repeat' (first | exact Grew.refl _ | assumption | refine Grew.alloc ?_ _ | refine Grew.drew ?_ | refine Grew.drewN ?_ _ | refine Grew.setCell ?_ ?_ _ | (simp; done) | (simp; omega)))) hg
      have hr8 := hr7.trans hg
      have HS8 := Lib.hid (HS7.out.grew hg)
      have HW8 := Lib.hid (HW7.out.grew hg)
      have ch1 := hg.cell' ch1
      have ch2 := hg.cell' ch2
      have cb0 := hg.cell' cb0
      have cb1 := hg.cell' cb1
      have cb2 := hg.cell' cb2
      have cb3 := hg.cell' cb3
      have cf0 := hg.cell' cf0
      have cf1 := hg.cell' cf1
      have ct0 := hg.cell' ct0
      have ct1 := hg.cell' ct1
      have x0 := hg.cell' x0
      have x1 := hg.cell' x1
      have y0 := hg.cell' y0
      have y1 := hg.cell' y1
      have lch1 := lt_of_cell ch1
      have lcb0 := lt_of_cell cb0
      have lcf0 := lt_of_cell cf0
      have lct0 := lt_of_cell ct0
      have lx0 := lt_of_cell x0
      have ly0 := lt_of_cell y0
      clear hg
      go_wp2_with fail
      refine (most_none (some ⟨sq, 0, none⟩) _ (HS8.out.grew (by (repeat' (first | exact Grew.refl _ | assumption | refine Grew.alloc ?_ _ | refine Grew.drew ?_ | refine Grew.drewN ?_ _ | refine Grew.setCell ?_ ?_ _ | (simp; done) | (simp; omega)))))).mono ?_
      rintro e w9 ⟨rfl, hg⟩
      replace hg : Grew w8 w9 := Grew.trans (by (repeat' (first | exact Grew.refl _ | assumption | refine Grew.alloc ?_ _ | refine Grew.drew ?_ | refine Grew.drewN ?_ _ | refine Grew.setCell ?_ ?_ _ | (simp; done) | (simp; omega)))) hg
      have hr9 := hr8.trans hg
      have HS9 := Lib.hid (HS8.out.grew hg)
      have HW9 := Lib.hid (HW8.out.grew hg)
      have ch1 := hg.cell' ch1
      have ch2 := hg.cell' ch2
      have cb0 := hg.cell' cb0
      have cb1 := hg.cell' cb1
      have cb2 := hg.cell' cb2
      have cb3 := hg.cell' cb3
      have cf0 := hg.cell' cf0
      have cf1 := hg.cell' cf1
      have ct0 := hg.cell' ct0
      have ct1 := hg.cell' ct1
      have x0 := hg.cell' x0
      have x1 := hg.cell' x1
      have y0 := hg.cell' y0
      have y1 := hg.cell' y1
      have lch1 := lt_of_cell ch1
      have lcb0 := lt_of_cell cb0
      have lcf0 := lt_of_cell cf0
      have lct0 := lt_of_cell ct0
      have lx0 := lt_of_cell x0
      have ly0 := lt_of_cell y0
      clear hg
      go_wp2_with fail
      refine (slLen_none (some ⟨sq, 0, none⟩) _ (HS9.out.grew (by (repeat' (first | exact Grew.refl _ | assumption | refine Grew.alloc ?_ _ | refine Grew.drew ?_ | refine Grew.drewN ?_ _ | refine Grew.setCell ?_ ?_ _ | (simp; done) | (simp; omega)))))).mono ?_
      rintro e w10 ⟨rfl, hg⟩
      replace hg : Grew w9 w10 := Grew.trans (by (repeat' (first | exact Grew.refl _ | assumption | refine Grew.alloc ?_ _ | refine Grew.drew ?_ | refine Grew.drewN ?_ _ | refine Grew.setCell ?_ ?_ _ | (simp; done) | (simp; omega)))) hg
      have hr10 := hr9.trans hg
      have HS10 := Lib.hid (HS9.out.grew hg)
      have HW10 := Lib.hid (HW9.out.grew hg)
      have ch1 := hg.cell' ch1
      have ch2 := hg.cell' ch2
      have cb0 := hg.cell' cb0
      have cb1 := hg.cell' cb1
      have cb2 := hg.cell' cb2
      have cb3 := hg.cell' cb3
      have cf0 := hg.cell' cf0
      have cf1 := hg.cell' cf1
      have ct0 := hg.cell' ct0
      have ct1 := hg.cell' ct1
      have x0 := hg.cell' x0
      have x1 := hg.cell' x1
      have y0 := hg.cell' y0
      have y1 := hg.cell' y1
      have lch1 := lt_of_cell ch1
      have lcb0 := lt_of_cell cb0
      have lcf0 := lt_of_cell cf0
      have lct0 := lt_of_cell ct0
      have lx0 := lt_of_cell x0
      have ly0 := lt_of_cell y0
      clear hg
      go_wp2_with fail
      refine (all_none (some ⟨sq, 0, none⟩) _ (HS10.out.grew (by (repeat' (first | exact Grew.refl _ | assumption | refine Grew.alloc ?_ _ | refine Grew.drew ?_ | refine Grew.drewN ?_ _ | refine Grew.setCell ?_ ?_ _ | (simp; done) | (simp; omega)))))).mono ?_
      rintro e w11 ⟨rfl, hg⟩
      replace hg : Grew w10 w11 := Grew.trans (by (repeat' (first | exact Grew.refl _ | assumption | refine Grew.alloc ?_ _ | refine Grew.drew ?_ | refine Grew.drewN ?_ _ | refine Grew.setCell ?_ ?_ _ | (simp; done) | (simp; omega)))) hg
      have hr11 := hr10.trans hg
      have HS11 := Lib.hid (HS10.out.grew hg)
      have HW11 := Lib.hid (HW10.out.grew hg)
      have ch1 := hg.cell' ch1
      have ch2 := hg.cell' ch2
      have cb0 := hg.cell' cb0
      have cb1 := hg.cell' cb1
      have cb2 := hg.cell' cb2
      have cb3 := hg.cell' cb3
      have cf0 := hg.cell' cf0
      have cf1 := hg.cell' cf1
      have ct0 := hg.cell' ct0
      have ct1 := hg.cell' ct1
      have x0 := hg.cell' x0
      have x1 := hg.cell' x1
      have y0 := hg.cell' y0
      have y1 := hg.cell' y1
      have lch1 := lt_of_cell ch1
      have lcb0 := lt_of_cell cb0
      have lcf0 := lt_of_cell cf0
      have lct0 := lt_of_cell ct0
      have lx0 := lt_of_cell x0
      have ly0 := lt_of_cell y0
      clear hg
      go_wp2_with fail
      refine (slCopy_none (some ⟨sq, 0, none⟩) _ (HS11.out.grew (by (repeat' (first | exact Grew.refl _ | assumption | refine Grew.alloc ?_ _ | refine Grew.drew ?_ | refine Grew.drewN ?_ _ | refine Grew.setCell ?_ ?_ _ | (simp; done) | (simp; omega)))))).mono ?_
      rintro e w12 ⟨rfl, hg⟩
      replace hg : Grew w11 w12 := Grew.trans (by (repeat' (first | exact Grew.refl _ | assumption | refine Grew.alloc ?_ _ | refine Grew.drew ?_ | refine Grew.drewN ?_ _ | refine Grew.setCell ?_ ?_ _ | (simp; done) | (simp; omega)))) hg
      have hr12 := hr11.trans hg
      have HS12 := Lib.hid (HS11.out.grew hg)
      have HW12 := Lib.hid (HW11.out.grew hg)
      have ch1 := hg.cell' ch1
      have ch2 := hg.cell' ch2
      have cb0 := hg.cell' cb0
      have cb1 := hg.cell' cb1
      have cb2 := hg.cell' cb2
      have cb3 := hg.cell' cb3
      have cf0 := hg.cell' cf0
      have cf1 := hg.cell' cf1
      have ct0 := hg.cell' ct0
      have ct1 := hg.cell' ct1
      have x0 := hg.cell' x0
      have x1 := hg.cell' x1
      have y0 := hg.cell' y0
      have y1 := hg.cell' y1
      have lch1 := lt_of_cell ch1
      have lcb0 := lt_of_cell cb0
      have lcf0 := lt_of_cell cf0
      have lct0 := lt_of_cell ct0
      have lx0 := lt_of_cell x0
      have ly0 := lt_of_cell y0
      clear hg
      go_wp2_with fail
      refine (boxAt_none (some ⟨wq, 0, none⟩) id _ (HW12.out.grew (by (repeat' (first | exact Grew.refl _ | assumption | refine Grew.alloc ?_ _ | refine Grew.drew ?_ | refine Grew.drewN ?_ _ | refine Grew.setCell ?_ ?_ _ | (simp; done) | (simp; omega)))))).mono ?_
      rintro e w13 ⟨rfl, hg⟩
      replace hg : Grew w12 w13 := Grew.trans (by (repeat' (first | exact Grew.refl _ | assumption | refine Grew.alloc ?_ _ | refine Grew.drew ?_ | refine Grew.drewN ?_ _ | refine Grew.setCell ?_ ?_ _ | (simp; done) | (simp; omega)))) hg
      have hr13 := hr12.trans hg
      have HS13 := Lib.hid (HS12.out.grew hg)
      have HW13 := Lib.hid (HW12.out.grew hg)
      have ch1 := hg.cell' ch1
      have ch2 := hg.cell' ch2
      have cb0 := hg.cell' cb0
      have cb1 := hg.cell' cb1
      have cb2 := hg.cell' cb2
      have cb3 := hg.cell' cb3
      have cf0 := hg.cell' cf0
      have cf1 := hg.cell' cf1
      have ct0 := hg.cell' ct0
      have ct1 := hg.cell' ct1
      have x0 := hg.cell' x0
      have x1 := hg.cell' x1
      have y0 := hg.cell' y0
      have y1 := hg.cell' y1
      have lch1 := lt_of_cell ch1
      have lcb0 := lt_of_cell cb0
      have lcf0 := lt_of_cell cf0
      have lct0 := lt_of_cell ct0
      have lx0 := lt_of_cell x0
      have ly0 := lt_of_cell y0
      clear hg
      go_wp2_with fail
      have hg : Grew w13 (w13.alloc (.cells #[.int .i64 0, .int .i64 0, .int .i64 0, .int .i64 0] 32)) := (Grew.refl _).alloc _
      obtain ⟨zb, hzb⟩ : ∃ zb, w13.heap.size = zb := ⟨_, rfl⟩
      have z0 : (w13.alloc (.cells #[.int .i64 0, .int .i64 0, .int .i64 0, .int .i64 0] 32)).cell? ⟨zb, 0, none⟩ = some (.int .i64 0) := by rw [← hzb]; simp
      have z1 : (w13.alloc (.cells #[.int .i64 0, .int .i64 0, .int .i64 0, .int .i64 0] 32)).cell? ⟨zb, 1, none⟩ = some (.int .i64 0) := by rw [← hzb]; simp
      have z2 : (w13.alloc (.cells #[.int .i64 0, .int .i64 0, .int .i64 0, .int .i64 0] 32)).cell? ⟨zb, 2, none⟩ = some (.int .i64 0) := by rw [← hzb]; simp
      have z3 : (w13.alloc (.cells #[.int .i64 0, .int .i64 0, .int .i64 0, .int .i64 0] 32)).cell? ⟨zb, 3, none⟩ = some (.int .i64 0) := by rw [← hzb]; simp
      have ch1 := hg.cell' ch1
      have ch2 := hg.cell' ch2
      have cb0 := hg.cell' cb0
      have cb1 := hg.cell' cb1
      have cb2 := hg.cell' cb2
      have cb3 := hg.cell' cb3
      have cf0 := hg.cell' cf0
      have cf1 := hg.cell' cf1
      have ct0 := hg.cell' ct0
      have ct1 := hg.cell' ct1
      have x0 := hg.cell' x0
      have x1 := hg.cell' x1
      have y0 := hg.cell' y0
      have y1 := hg.cell' y1
      have HS14 := Lib.hid (HS13.out.grew hg)
      have HW14 := Lib.hid (HW13.out.grew hg)
      try rw [hzb]
      generalize (w13.alloc (.cells #[.int .i64 0, .int .i64 0, .int .i64 0, .int .i64 0] 32)) = w14 at hg HS14 HW14 ch1 ch2 cb0 cb1 cb2 cb3 cf0 cf1 ct0 ct1 x0 x1 y0 y1 z0 z1 z2 z3 ⊢
      have hr14 := hr13.trans hg
      have lch1 := lt_of_cell ch1
      have lcb0 := lt_of_cell cb0
      have lcf0 := lt_of_cell cf0
      have lct0 := lt_of_cell ct0
      have lx0 := lt_of_cell x0
      have ly0 := lt_of_cell y0
      have lz0 := lt_of_cell z0
      clear hg hzb
      refine (put_none (some ⟨wq, 0, none⟩) id b0 b1 b2 b3 _ (HW14.out.grew (by (repeat' (first | exact Grew.refl _ | assumption | refine Grew.alloc ?_ _ | refine Grew.drew ?_ | refine Grew.drewN ?_ _ | refine Grew.setCell ?_ ?_ _ | (simp; done) | (simp; omega)))))).mono ?_
      rintro e w15 ⟨rfl, hg⟩
      replace hg : Grew w14 w15 := Grew.trans (by (repeat' (first | exact Grew.refl _ | assumption | refine Grew.alloc ?_ _ | refine Grew.drew ?_ | refine Grew.drewN ?_ _ | refine Grew.setCell ?_ ?_ _ | (simp; done) | (simp; omega)))) hg
      have hr15 := hr14.trans hg
      have HS15 := Lib.hid (HS14.out.grew hg)
      have HW15 := Lib.hid (HW14.out.grew hg)
      have ch1 := hg.cell' ch1
      have ch2 := hg.cell' ch2
      have cb0 := hg.cell' cb0
      have cb1 := hg.cell' cb1
      have cb2 := hg.cell' cb2
      have cb3 := hg.cell' cb3
      have cf0 := hg.cell' cf0
      have cf1 := hg.cell' cf1
      have ct0 := hg.cell' ct0
      have ct1 := hg.cell' ct1
      have x0 := hg.cell' x0
      have x1 := hg.cell' x1
      have y0 := hg.cell' y0
      have y1 := hg.cell' y1
      have z0 := hg.cell' z0
      have z1 := hg.cell' z1
      have z2 := hg.cell' z2
      have z3 := hg.cell' z3
      have lch1 := lt_of_cell ch1
      have lcb0 := lt_of_cell cb0
      have lcf0 := lt_of_cell cf0
      have lct0 := lt_of_cell ct0
      have lx0 := lt_of_cell x0
      have ly0 := lt_of_cell y0
      have lz0 := lt_of_cell z0
      clear hg
      go_wp2_with fail
      refine (move_none (some ⟨wq, 0, none⟩) id b0 b1 b2 b3 _ (HW15.out.grew (by (repeat' (first | exact Grew.refl _ | assumption | refine Grew.alloc ?_ _ | refine Grew.drew ?_ | refine Grew.drewN ?_ _ | refine Grew.setCell ?_ ?_ _ | (simp; done) | (simp; omega)))))).mono ?_
      rintro e w16 ⟨rfl, hg⟩
      replace hg : Grew w15 w16 := Grew.trans (by (repeat' (first | exact Grew.refl _ | assumption | refine Grew.alloc ?_ _ | refine Grew.drew ?_ | refine Grew.drewN ?_ _ | refine Grew.setCell ?_ ?_ _ | (simp; done) | (simp; omega)))) hg
      have hr16 := hr15.trans hg
      have HS16 := Lib.hid (HS15.out.grew hg)
      have HW16 := Lib.hid (HW15.out.grew hg)
      have ch1 := hg.cell' ch1
      have ch2 := hg.cell' ch2
      have cb0 := hg.cell' cb0
      have cb1 := hg.cell' cb1
      have cb2 := hg.cell' cb2
      have cb3 := hg.cell' cb3
      have cf0 := hg.cell' cf0
      have cf1 := hg.cell' cf1
      have ct0 := hg.cell' ct0
      have ct1 := hg.cell' ct1
      have x0 := hg.cell' x0
      have x1 := hg.cell' x1
      have y0 := hg.cell' y0
      have y1 := hg.cell' y1
      have z0 := hg.cell' z0
      have z1 := hg.cell' z1
      have z2 := hg.cell' z2
      have z3 := hg.cell' z3
      have lch1 := lt_of_cell ch1
      have lcb0 := lt_of_cell cb0
      have lcf0 := lt_of_cell cf0
      have lct0 := lt_of_cell ct0
      have lx0 := lt_of_cell x0
      have ly0 := lt_of_cell y0
      have lz0 := lt_of_cell z0
      clear hg
      go_wp2_with fail
      refine (drop_none (some ⟨wq, 0, none⟩) id _ (HW16.out.grew (by (repeat' (first | exact Grew.refl _ | assumption | refine Grew.alloc ?_ _ | refine Grew.drew ?_ | refine Grew.drewN ?_ _ | refine Grew.setCell ?_ ?_ _ | (simp; done) | (simp; omega)))))).mono ?_
      rintro e w17 ⟨rfl, hg⟩
      replace hg : Grew w16 w17 := Grew.trans (by (repeat' (first | exact Grew.refl _ | assumption | refine Grew.alloc ?_ _ | refine Grew.drew ?_ | refine Grew.drewN ?_ _ | refine Grew.setCell ?_ ?_ _ | (simp; done) | (simp; omega)))) hg
      have hr17 := hr16.trans hg
      have HS17 := Lib.hid (HS16.out.grew hg)
      have HW17 := Lib.hid (HW16.out.grew hg)
      have ch1 := hg.cell' ch1
      have ch2 := hg.cell' ch2
      have cb0 := hg.cell' cb0
      have cb1 := hg.cell' cb1
      have cb2 := hg.cell' cb2
      have cb3 := hg.cell' cb3
      have cf0 := hg.cell' cf0
      have cf1 := hg.cell' cf1
      have ct0 := hg.cell' ct0
      have ct1 := hg.cell' ct1
      have x0 := hg.cell' x0
      have x1 := hg.cell' x1
      have y0 := hg.cell' y0
      have y1 := hg.cell' y1
      have z0 := hg.cell' z0
      have z1 := hg.cell' z1
      have z2 := hg.cell' z2
      have z3 := hg.cell' z3
      have lch1 := lt_of_cell ch1
      have lcb0 := lt_of_cell cb0
      have lcf0 := lt_of_cell cf0
      have lct0 := lt_of_cell ct0
      have lx0 := lt_of_cell x0
      have ly0 := lt_of_cell y0
      have lz0 := lt_of_cell z0
      clear hg
      go_wp2_with fail
      refine (ids_none (some ⟨wq, 0, none⟩) _ (HW17.out.grew (by (repeat' (first | exact Grew.refl _ | assumption | refine Grew.alloc ?_ _ | refine Grew.drew ?_ | refine Grew.drewN ?_ _ | refine Grew.setCell ?_ ?_ _ | (simp; done) | (simp; omega)))))).mono ?_
      rintro e w18 ⟨rfl, hg⟩
      replace hg : Grew w17 w18 := Grew.trans (by (repeat' (first | exact Grew.refl _ | assumption | refine Grew.alloc ?_ _ | refine Grew.drew ?_ | refine Grew.drewN ?_ _ | refine Grew.setCell ?_ ?_ _ | (simp; done) | (simp; omega)))) hg
      have hr18 := hr17.trans hg
      have HS18 := Lib.hid (HS17.out.grew hg)
      have HW18 := Lib.hid (HW17.out.grew hg)
      have ch1 := hg.cell' ch1
      have ch2 := hg.cell' ch2
      have cb0 := hg.cell' cb0
      have cb1 := hg.cell' cb1
      have cb2 := hg.cell' cb2
      have cb3 := hg.cell' cb3
      have cf0 := hg.cell' cf0
      have cf1 := hg.cell' cf1
      have ct0 := hg.cell' ct0
      have ct1 := hg.cell' ct1
      have x0 := hg.cell' x0
      have x1 := hg.cell' x1
      have y0 := hg.cell' y0
      have y1 := hg.cell' y1
      have z0 := hg.cell' z0
      have z1 := hg.cell' z1
      have z2 := hg.cell' z2
      have z3 := hg.cell' z3
      have lch1 := lt_of_cell ch1
      have lcb0 := lt_of_cell cb0
      have lcf0 := lt_of_cell cf0
      have lct0 := lt_of_cell ct0
      have lx0 := lt_of_cell x0
      have ly0 := lt_of_cell y0
      have lz0 := lt_of_cell z0
      clear hg
      go_wp2_with fail
      refine (len_none (some ⟨wq, 0, none⟩) _ (HW18.out.grew (by (repeat' (first | exact Grew.refl _ | assumption | refine Grew.alloc ?_ _ | refine Grew.drew ?_ | refine Grew.drewN ?_ _ | refine Grew.setCell ?_ ?_ _ | (simp; done) | (simp; omega)))))).mono ?_
      rintro e w19 ⟨rfl, hg⟩
      replace hg : Grew w18 w19 := Grew.trans (by (repeat' (first | exact Grew.refl _ | assumption | refine Grew.alloc ?_ _ | refine Grew.drew ?_ | refine Grew.drewN ?_ _ | refine Grew.setCell ?_ ?_ _ | (simp; done) | (simp; omega)))) hg
      have hr19 := hr18.trans hg
      have HS19 := Lib.hid (HS18.out.grew hg)
      have HW19 := Lib.hid (HW18.out.grew hg)
      have ch1 := hg.cell' ch1
      have ch2 := hg.cell' ch2
      have cb0 := hg.cell' cb0
      have cb1 := hg.cell' cb1
      have cb2 := hg.cell' cb2
      have cb3 := hg.cell' cb3
      have cf0 := hg.cell' cf0
      have cf1 := hg.cell' cf1
      have ct0 := hg.cell' ct0
      have ct1 := hg.cell' ct1
      have x0 := hg.cell' x0
      have x1 := hg.cell' x1
      have y0 := hg.cell' y0
      have y1 := hg.cell' y1
      have z0 := hg.cell' z0
      have z1 := hg.cell' z1
      have z2 := hg.cell' z2
      have z3 := hg.cell' z3
      have lch1 := lt_of_cell ch1
      have lcb0 := lt_of_cell cb0
      have lcf0 := lt_of_cell cf0
      have lct0 := lt_of_cell ct0
      have lx0 := lt_of_cell x0
      have ly0 := lt_of_cell y0
      have lz0 := lt_of_cell z0
      clear hg
      go_wp2_with fail
      refine (pairs_none (some ⟨wq, 0, none⟩) _ (HW19.out.grew (by (repeat' (first | exact Grew.refl _ | assumption | refine Grew.alloc ?_ _ | refine Grew.drew ?_ | refine Grew.drewN ?_ _ | refine Grew.setCell ?_ ?_ _ | (simp; done) | (simp; omega)))))).mono ?_
      rintro e w20 ⟨rfl, hg⟩
      replace hg : Grew w19 w20 := Grew.trans (by (repeat' (first | exact Grew.refl _ | assumption | refine Grew.alloc ?_ _ | refine Grew.drew ?_ | refine Grew.drewN ?_ _ | refine Grew.setCell ?_ ?_ _ | (simp; done) | (simp; omega)))) hg
      have hr20 := hr19.trans hg
      have HS20 := Lib.hid (HS19.out.grew hg)
      have HW20 := Lib.hid (HW19.out.grew hg)
      have ch1 := hg.cell' ch1
      have ch2 := hg.cell' ch2
      have cb0 := hg.cell' cb0
      have cb1 := hg.cell' cb1
      have cb2 := hg.cell' cb2
      have cb3 := hg.cell' cb3
      have cf0 := hg.cell' cf0
      have cf1 := hg.cell' cf1
      have ct0 := hg.cell' ct0
      have ct1 := hg.cell' ct1
      have x0 := hg.cell' x0
      have x1 := hg.cell' x1
      have y0 := hg.cell' y0
      have y1 := hg.cell' y1
      have z0 := hg.cell' z0
      have z1 := hg.cell' z1
      have z2 := hg.cell' z2
      have z3 := hg.cell' z3
      have lch1 := lt_of_cell ch1
      have lcb0 := lt_of_cell cb0
      have lcf0 := lt_of_cell cf0
      have lct0 := lt_of_cell ct0
      have lx0 := lt_of_cell x0
      have ly0 := lt_of_cell y0
      have lz0 := lt_of_cell z0
      clear hg
      go_wp2_with fail
      refine (near_none (some ⟨wq, 0, none⟩) b0 b1 b2 b3 _ (HW20.out.grew (by (repeat' (first | exact Grew.refl _ | assumption | refine Grew.alloc ?_ _ | refine Grew.drew ?_ | refine Grew.drewN ?_ _ | refine Grew.setCell ?_ ?_ _ | (simp; done) | (simp; omega)))))).mono ?_
      rintro e w21 ⟨rfl, hg⟩
      replace hg : Grew w20 w21 := Grew.trans (by (repeat' (first | exact Grew.refl _ | assumption | refine Grew.alloc ?_ _ | refine Grew.drew ?_ | refine Grew.drewN ?_ _ | refine Grew.setCell ?_ ?_ _ | (simp; done) | (simp; omega)))) hg
      have hr21 := hr20.trans hg
      have HS21 := Lib.hid (HS20.out.grew hg)
      have HW21 := Lib.hid (HW20.out.grew hg)
      have ch1 := hg.cell' ch1
      have ch2 := hg.cell' ch2
      have cb0 := hg.cell' cb0
      have cb1 := hg.cell' cb1
      have cb2 := hg.cell' cb2
      have cb3 := hg.cell' cb3
      have cf0 := hg.cell' cf0
      have cf1 := hg.cell' cf1
      have ct0 := hg.cell' ct0
      have ct1 := hg.cell' ct1
      have x0 := hg.cell' x0
      have x1 := hg.cell' x1
      have y0 := hg.cell' y0
      have y1 := hg.cell' y1
      have z0 := hg.cell' z0
      have z1 := hg.cell' z1
      have z2 := hg.cell' z2
      have z3 := hg.cell' z3
      have lch1 := lt_of_cell ch1
      have lcb0 := lt_of_cell cb0
      have lcf0 := lt_of_cell cf0
      have lct0 := lt_of_cell ct0
      have lx0 := lt_of_cell x0
      have ly0 := lt_of_cell y0
      have lz0 := lt_of_cell z0
      clear hg
      go_wp2_with fail
      refine (along_none (some ⟨wq, 0, none⟩) f0 f1 t0 t1 _ (HW21.out.grew (by (repeat' (first | exact Grew.refl _ | assumption | refine Grew.alloc ?_ _ | refine Grew.drew ?_ | refine Grew.drewN ?_ _ | refine Grew.setCell ?_ ?_ _ | (simp; done) | (simp; omega)))))).mono ?_
      rintro e w22 ⟨rfl, hg⟩
      replace hg : Grew w21 w22 := Grew.trans (by (repeat' (first | exact Grew.refl _ | assumption | refine Grew.alloc ?_ _ | refine Grew.drew ?_ | refine Grew.drewN ?_ _ | refine Grew.setCell ?_ ?_ _ | (simp; done) | (simp; omega)))) hg
      have hr22 := hr21.trans hg
      have HS22 := Lib.hid (HS21.out.grew hg)
      have HW22 := Lib.hid (HW21.out.grew hg)
      have ch1 := hg.cell' ch1
      have ch2 := hg.cell' ch2
      have cb0 := hg.cell' cb0
      have cb1 := hg.cell' cb1
      have cb2 := hg.cell' cb2
      have cb3 := hg.cell' cb3
      have cf0 := hg.cell' cf0
      have cf1 := hg.cell' cf1
      have ct0 := hg.cell' ct0
      have ct1 := hg.cell' ct1
      have x0 := hg.cell' x0
      have x1 := hg.cell' x1
      have y0 := hg.cell' y0
      have y1 := hg.cell' y1
      have z0 := hg.cell' z0
      have z1 := hg.cell' z1
      have z2 := hg.cell' z2
      have z3 := hg.cell' z3
      have lch1 := lt_of_cell ch1
      have lcb0 := lt_of_cell cb0
      have lcf0 := lt_of_cell cf0
      have lct0 := lt_of_cell ct0
      have lx0 := lt_of_cell x0
      have ly0 := lt_of_cell y0
      have lz0 := lt_of_cell z0
      clear hg
      go_wp2_with fail
      refine (swCopy_none (some ⟨wq, 0, none⟩) _ (HW22.out.grew (by (repeat' (first | exact Grew.refl _ | assumption | refine Grew.alloc ?_ _ | refine Grew.drew ?_ | refine Grew.drewN ?_ _ | refine Grew.setCell ?_ ?_ _ | (simp; done) | (simp; omega)))))).mono ?_
      rintro e w23 ⟨rfl, hg⟩
      replace hg : Grew w22 w23 := Grew.trans (by (repeat' (first | exact Grew.refl _ | assumption | refine Grew.alloc ?_ _ | refine Grew.drew ?_ | refine Grew.drewN ?_ _ | refine Grew.setCell ?_ ?_ _ | (simp; done) | (simp; omega)))) hg
      have hr23 := hr22.trans hg
      have HS23 := Lib.hid (HS22.out.grew hg)
      have HW23 := Lib.hid (HW22.out.grew hg)
      have ch1 := hg.cell' ch1
      have ch2 := hg.cell' ch2
      have cb0 := hg.cell' cb0
      have cb1 := hg.cell' cb1
      have cb2 := hg.cell' cb2
      have cb3 := hg.cell' cb3
      have cf0 := hg.cell' cf0
      have cf1 := hg.cell' cf1
      have ct0 := hg.cell' ct0
      have ct1 := hg.cell' ct1
      have x0 := hg.cell' x0
      have x1 := hg.cell' x1
      have y0 := hg.cell' y0
      have y1 := hg.cell' y1
      have z0 := hg.cell' z0
      have z1 := hg.cell' z1
      have z2 := hg.cell' z2
      have z3 := hg.cell' z3
      have lch1 := lt_of_cell ch1
      have lcb0 := lt_of_cell cb0
      have lcf0 := lt_of_cell cf0
      have lct0 := lt_of_cell ct0
      have lx0 := lt_of_cell x0
      have ly0 := lt_of_cell y0
      have lz0 := lt_of_cell z0
      clear hg
      go_wp2_with fail
      go_roundg 0
      case measure => omega
      case rel => exact ⟨.inr (.inr rfl), hr23.trans (by (repeat' (first | exact Grew.refl _ | assumption | refine Grew.alloc ?_ _ | refine Grew.drew ?_ | refine Grew.drewN ?_ _ | refine Grew.setCell ?_ ?_ _ | (simp; done) | (simp; omega))))⟩
    · go_wp2_with fail
      refine (awake_any _).mono ?_
      rintro e w1 ⟨rfl, hg1⟩
      have hr1 := hg0.trans (hgr.trans hg1)
      clear hg1
      go_wp2_with fail
      go_ret
      exact ⟨rfl, hr1⟩

end Go.Proofs.YtmoaefcpbphgmaaGreat

/- Contracts of the statements' box, meet and shown. -/
import Derived.Test.YtcelamaiebjdaaaGreatPut
import Derived.Test.YtcelamaiebjdaaaGreatTake
namespace Go.Proofs.YtcelamaiebjdaaaGreat
open Go.RowKit Go.Maps Go.Sort Go.Shelf
attribute [local go_sem ↓] Go.wp_at_zero Go.wp_at_succ

set_option maxHeartbeats 400000 in
theorem box_any (a b c d : Int) (w : World) :
    Calls Tryz.prog 12 #[.int .i64 a, .int .i64 b, .int .i64 c, .int .i64 d] w fun e w' => e = .returned (.agg #[.int .i64 a, .int .i64 b, .int .i64 c, .int .i64 d]) ∧ Grew w w' := by
  go_enter Tryz.func12, Tryz.ntmps12
  go_wp2_with fail
  go_returns
  exact ⟨rfl, by (repeat' (first | exact Grew.refl _ | assumption | refine Grew.alloc ?_ _ | refine Grew.drew ?_ | refine Grew.drewN ?_ _ | refine Grew.setCell ?_ ?_ _ | (simp; done) | (simp; omega)))⟩

/-- Two boxes have a common point. -/
def meetsL (a b : Bx) : Bool := decide (a.1 ≤ b.2.2.1 ∧ b.1 ≤ a.2.2.1 ∧ a.2.1 ≤ b.2.2.2 ∧ b.2.1 ≤ a.2.2.2)

set_option maxHeartbeats 1000000 in
set_option maxRecDepth 100000 in
theorem meet_any (a b : Bx) (w : World) :
    Calls Tryz.prog 13 #[.agg #[.int .i64 a.1, .int .i64 a.2.1, .int .i64 a.2.2.1, .int .i64 a.2.2.2], .agg #[.int .i64 b.1, .int .i64 b.2.1, .int .i64 b.2.2.1, .int .i64 b.2.2.2]] w fun e w' => e = .returned (.bool (meetsL a b)) ∧ Grew w w' := by
  obtain ⟨a0, a1, a2, a3⟩ := a
  obtain ⟨b0, b1, b2, b3⟩ := b
  unfold meetsL
  simp only
  by_cases h0 : a0 ≤ b2
  case neg =>
    rw [show decide (a0 ≤ b2 ∧ b0 ≤ a2 ∧ a1 ≤ b3 ∧ b1 ≤ a3) = false from decide_eq_false (by omega)]
    go_enter Tryz.func13, Tryz.ntmps13
    go_wp2_with fail
    go_ret
    exact ⟨rfl, by (repeat' (first | exact Grew.refl _ | assumption | refine Grew.alloc ?_ _ | refine Grew.drew ?_ | refine Grew.drewN ?_ _ | refine Grew.setCell ?_ ?_ _ | (simp; done) | (simp; omega)))⟩
  by_cases h1 : b0 ≤ a2
  case neg =>
    rw [show decide (a0 ≤ b2 ∧ b0 ≤ a2 ∧ a1 ≤ b3 ∧ b1 ≤ a3) = false from decide_eq_false (by omega)]
    go_enter Tryz.func13, Tryz.ntmps13
    go_wp2_with fail
    go_ret
    exact ⟨rfl, by (repeat' (first | exact Grew.refl _ | assumption | refine Grew.alloc ?_ _ | refine Grew.drew ?_ | refine Grew.drewN ?_ _ | refine Grew.setCell ?_ ?_ _ | (simp; done) | (simp; omega)))⟩
  by_cases h2 : a1 ≤ b3
  case neg =>
    rw [show decide (a0 ≤ b2 ∧ b0 ≤ a2 ∧ a1 ≤ b3 ∧ b1 ≤ a3) = false from decide_eq_false (by omega)]
    go_enter Tryz.func13, Tryz.ntmps13
    go_wp2_with fail
    go_ret
    exact ⟨rfl, by (repeat' (first | exact Grew.refl _ | assumption | refine Grew.alloc ?_ _ | refine Grew.drew ?_ | refine Grew.drewN ?_ _ | refine Grew.setCell ?_ ?_ _ | (simp; done) | (simp; omega)))⟩
  by_cases h3 : b1 ≤ a3
  case neg =>
    rw [show decide (a0 ≤ b2 ∧ b0 ≤ a2 ∧ a1 ≤ b3 ∧ b1 ≤ a3) = false from decide_eq_false (by omega)]
    go_enter Tryz.func13, Tryz.ntmps13
    go_wp2_with fail
    go_ret
    exact ⟨rfl, by (repeat' (first | exact Grew.refl _ | assumption | refine Grew.alloc ?_ _ | refine Grew.drew ?_ | refine Grew.drewN ?_ _ | refine Grew.setCell ?_ ?_ _ | (simp; done) | (simp; omega)))⟩
  · rw [show decide (a0 ≤ b2 ∧ b0 ≤ a2 ∧ a1 ≤ b3 ∧ b1 ≤ a3) = true from decide_eq_true ⟨h0, h1, h2, h3⟩]
    go_enter Tryz.func13, Tryz.ntmps13
    go_wp2_with fail
    go_ret
    exact ⟨rfl, by (repeat' (first | exact Grew.refl _ | assumption | refine Grew.alloc ?_ _ | refine Grew.drew ?_ | refine Grew.drewN ?_ _ | refine Grew.setCell ?_ ?_ _ | (simp; done) | (simp; omega)))⟩

def shownL : Sw := [(2, (10, 5, 20, 8)), (5, (0, 0, 10, 10)), (9, (11, 0, 12, 4))]
def NewShown (w : World) (e : Ending) (w' : World) : Prop :=
  ∃ sb mb, e = .returned (.pointer (some ⟨sb, 0, none⟩)) ∧ SweepAt w' sb mb shownL ∧ Grew w w' ∧ w.heap.size ≤ sb ∧ w.heap.size ≤ mb
theorem shown_laws : (putE [] 5 (0, 0, 10, 10) = 0 ∧ putS [] 5 (0, 0, 10, 10) = [(5, (0, 0, 10, 10))]) ∧ (putE [(5, (0, 0, 10, 10))] 2 (10, 5, 20, 8) = 0 ∧ putS [(5, (0, 0, 10, 10))] 2 (10, 5, 20, 8) = [(2, (10, 5, 20, 8)), (5, (0, 0, 10, 10))]) ∧
    putE [(2, (10, 5, 20, 8)), (5, (0, 0, 10, 10))] 9 (11, 0, 12, 4) = 0 ∧ putS [(2, (10, 5, 20, 8)), (5, (0, 0, 10, 10))] 9 (11, 0, 12, 4) = shownL := by decide

set_option maxHeartbeats 1000000 in
set_option maxRecDepth 100000 in
theorem shown_any (w : World) : Calls Tryz.prog 40 #[] w (NewShown w) := by
  have L := Lib.hid shown_laws
  go_enter Tryz.func40, Tryz.ntmps40
  go_wp2_with fail
  refine (newSweep_any _).mono ?_
  rintro e w1 ⟨sb, mb, rfl, hsw, hg1, hsb, hmb⟩
  have HS1 := Lib.hid hsw
  have hlt := lt_of_cell hsw.cell
  clear hsw
  go_wp2_with fail
  refine (box_any _ _ _ _ _).mono ?_
  rintro e v1 ⟨rfl, hb1⟩
  have hq1 : Grew w v1 := Grew.trans (by (repeat' (first | exact Grew.refl _ | assumption | refine Grew.alloc ?_ _ | refine Grew.drew ?_ | refine Grew.drewN ?_ _ | refine Grew.setCell ?_ ?_ _ | (simp; done) | (simp; omega)))) hb1
  have HP1 := Lib.hid (HS1.out.grew hb1)
  clear hb1
  go_wp2_with fail
  refine (put_any sb mb [] 5 (0, 0, 10, 10) _ (HP1.out.grew (by (repeat' (first | exact Grew.refl _ | assumption | refine Grew.alloc ?_ _ | refine Grew.drew ?_ | refine Grew.drewN ?_ _ | refine Grew.setCell ?_ ?_ _ | (simp; done) | (simp; omega))))) (by unfold I64; decide) (by unfold I64; decide) (by unfold I64; decide) (by unfold I64; decide) (by unfold I64; decide)).mono ?_
  rintro e w2 ⟨rfl, hsw, hk⟩
  rw [L.out.1.1]
  rw [L.out.1.2] at hsw
  have hw2 : Grew w w2 := Kp.grewOf (by (repeat' (first | exact Grew.refl _ | assumption | refine Grew.alloc ?_ _ | refine Grew.drew ?_ | refine Grew.drewN ?_ _ | refine Grew.setCell ?_ ?_ _ | (simp; done) | (simp; omega)))) hk (fun x hx => by simp at hx; omega)
  have HS2 := Lib.hid hsw
  clear hsw hk
  go_wp2_with fail
  refine (box_any _ _ _ _ _).mono ?_
  rintro e v2 ⟨rfl, hb2⟩
  have hq2 : Grew w v2 := Grew.trans (by (repeat' (first | exact Grew.refl _ | assumption | refine Grew.alloc ?_ _ | refine Grew.drew ?_ | refine Grew.drewN ?_ _ | refine Grew.setCell ?_ ?_ _ | (simp; done) | (simp; omega)))) hb2
  have HP2 := Lib.hid (HS2.out.grew hb2)
  clear hb2
  go_wp2_with fail
  refine (put_any sb mb [(5, (0, 0, 10, 10))] 2 (10, 5, 20, 8) _ (HP2.out.grew (by (repeat' (first | exact Grew.refl _ | assumption | refine Grew.alloc ?_ _ | refine Grew.drew ?_ | refine Grew.drewN ?_ _ | refine Grew.setCell ?_ ?_ _ | (simp; done) | (simp; omega))))) (by unfold I64; decide) (by unfold I64; decide) (by unfold I64; decide) (by unfold I64; decide) (by unfold I64; decide)).mono ?_
  rintro e w3 ⟨rfl, hsw, hk⟩
  rw [L.out.2.1.1]
  rw [L.out.2.1.2] at hsw
  have hw3 : Grew w w3 := Kp.grewOf (by (repeat' (first | exact Grew.refl _ | assumption | refine Grew.alloc ?_ _ | refine Grew.drew ?_ | refine Grew.drewN ?_ _ | refine Grew.setCell ?_ ?_ _ | (simp; done) | (simp; omega)))) hk (fun x hx => by simp at hx; omega)
  have HS3 := Lib.hid hsw
  clear hsw hk
  go_wp2_with fail
  refine (box_any _ _ _ _ _).mono ?_
  rintro e v3 ⟨rfl, hb3⟩
  have hq3 : Grew w v3 := Grew.trans (by (repeat' (first | exact Grew.refl _ | assumption | refine Grew.alloc ?_ _ | refine Grew.drew ?_ | refine Grew.drewN ?_ _ | refine Grew.setCell ?_ ?_ _ | (simp; done) | (simp; omega)))) hb3
  have HP3 := Lib.hid (HS3.out.grew hb3)
  clear hb3
  go_wp2_with fail
  refine (put_any sb mb [(2, (10, 5, 20, 8)), (5, (0, 0, 10, 10))] 9 (11, 0, 12, 4) _ (HP3.out.grew (by (repeat' (first | exact Grew.refl _ | assumption | refine Grew.alloc ?_ _ | refine Grew.drew ?_ | refine Grew.drewN ?_ _ | refine Grew.setCell ?_ ?_ _ | (simp; done) | (simp; omega))))) (by unfold I64; decide) (by unfold I64; decide) (by unfold I64; decide) (by unfold I64; decide) (by unfold I64; decide)).mono ?_
  rintro e w4 ⟨rfl, hsw, hk⟩
  rw [L.out.2.2.1]
  rw [L.out.2.2.2] at hsw
  have hw4 : Grew w w4 := Kp.grewOf (by (repeat' (first | exact Grew.refl _ | assumption | refine Grew.alloc ?_ _ | refine Grew.drew ?_ | refine Grew.drewN ?_ _ | refine Grew.setCell ?_ ?_ _ | (simp; done) | (simp; omega)))) hk (fun x hx => by simp at hx; omega)
  have HS4 := Lib.hid hsw
  clear hsw hk
  go_wp2_with fail
  go_returns
  exact ⟨sb, mb, rfl, HS4.out, hw4, hsb, hmb⟩

end Go.Proofs.YtcelamaiebjdaaaGreat

/- The walk of IndexKnown: it returns true. -/
import Derived.Test.YtmoaefcpbphgmaaGreatKnownSlots
import Derived.Test.YtmoaefcpbphgmaaGreatMove
import Derived.Deep.RegionHeld3
import Derived.Deep.DrawnRows
namespace Go.Proofs.YtmoaefcpbphgmaaGreat
open Go.RowKit Go.Maps Go.Sort Go.Shelf
attribute [local go_sem ↓] Go.wp_at_zero Go.wp_at_succ

set_option maxHeartbeats 4000000 in
set_option maxRecDepth 100000 in
theorem indexKnown_any (w : World) : Calls Tryz.prog 11 #[] w fun e w' => e = .returned (.bool true) ∧ Grew w w' := by
  go_enter Tryz.func11, Tryz.ntmps11
  go_wp2_with fail
  refine (shown_any _).mono ?_
  rintro e w1 ⟨sb, mb, rfl, hsw, hg, hsb, hmb⟩
  have hw1 : Grew w w1 := Grew.trans (by (repeat' (first | exact Grew.refl _ | assumption | refine Grew.alloc ?_ _ | refine Grew.drew ?_ | refine Grew.drewN ?_ _ | refine Grew.setCell ?_ ?_ _ | (simp; done) | (simp; omega)))) hg
  have HS1 : Aside (SweepAt w1 sb mb shownL) := hsw
  have hlt := hsw.lt
  clear hsw hg
  go_wp2_with fail
  refine (awake_any _).mono ?_
  rintro e w2 ⟨rfl, hg⟩
  have hw2 := hw1.trans hg
  have HS2 := Lib.hid (HS1.out.grew hg)
  clear hg
  go_wp2_with fail
  refine (knownSlots_any _).mono ?_
  rintro e w3 ⟨rfl, hg⟩
  have hw3 := hw2.trans hg
  have HS3 := Lib.hid (HS2.out.grew hg)
  clear hg
  go_wp2_with fail
  refine (ids_any sb mb shownL _ (HS3.out.grew (by (repeat' (first | exact Grew.refl _ | assumption | refine Grew.alloc ?_ _ | refine Grew.drew ?_ | refine Grew.drewN ?_ _ | refine Grew.setCell ?_ ?_ _ | (simp; done) | (simp; omega)))))).mono ?_
  rintro e w4 ⟨vi, rfl, hsi, hg⟩
  obtain ⟨B, hsB⟩ : ∃ B, SlI w4 B vi [2, 5, 9] := ⟨_, by have h : shownL.map (·.1) = [2, 5, 9] := (by decide +kernel); (rw [← h]; exact hsi)⟩
  obtain ⟨ip, ic, rfl, -⟩ := hsB.shape
  have hw4 := hw3.trans (Grew.trans (by (repeat' (first | exact Grew.refl _ | assumption | refine Grew.alloc ?_ _ | refine Grew.drew ?_ | refine Grew.drewN ?_ _ | refine Grew.setCell ?_ ?_ _ | (simp; done) | (simp; omega)))) hg)
  have HS4 := Lib.hid ((HS3.out.grew (by (repeat' (first | exact Grew.refl _ | assumption | refine Grew.alloc ?_ _ | refine Grew.drew ?_ | refine Grew.drewN ?_ _ | refine Grew.setCell ?_ ?_ _ | (simp; done) | (simp; omega))))).grew hg)
  have HB := Lib.hid hsB
  clear hsi hsB hg
  go_wp2_with fail
  have hgW : Grew w4 (w4.alloc (.cells #[.int .i64 2, .int .i64 5, .int .i64 9] 3)) := (Grew.refl _).alloc _
  have hr : RdI (w4.alloc (.cells #[.int .i64 2, .int .i64 5, .int .i64 9] 3)) (some ⟨w4.heap.size, 0, none⟩) [2, 5, 9] := rdI_lit (by simp) fun j hj => by
    match j, hj with
    | 0, _ => simp
    | 1, _ => simp
    | 2, _ => simp
  have hS := sameInts_any ip (some ⟨w4.heap.size, 0, none⟩) ic 3 [2, 5, 9] [2, 5, 9] _ (HB.out.rd.grew hgW) hr (by decide)
  rw [decide_eq_true rfl] at hS
  refine hS.mono ?_
  rintro e w5 ⟨rfl, hg⟩
  have hw5 := hw4.trans (hgW.trans hg)
  have HS5 := Lib.hid (HS4.out.grew (hgW.trans hg))
  clear hS hr hgW hg HB
  go_wp2_with fail
  refine (box_any 3 2 1 0 _).mono ?_
  rintro e w6 ⟨rfl, hg⟩
  have hw6 := hw5.trans (Grew.trans (by (repeat' (first | exact Grew.refl _ | assumption | refine Grew.alloc ?_ _ | refine Grew.drew ?_ | refine Grew.drewN ?_ _ | refine Grew.setCell ?_ ?_ _ | (simp; done) | (simp; omega)))) hg)
  have HS6 := Lib.hid ((HS5.out.grew (by (repeat' (first | exact Grew.refl _ | assumption | refine Grew.alloc ?_ _ | refine Grew.drew ?_ | refine Grew.drewN ?_ _ | refine Grew.setCell ?_ ?_ _ | (simp; done) | (simp; omega))))).grew hg)
  clear hg
  go_wp2_with fail
  refine (near_any sb mb shownL (3, 2, 1, 0) _ (HS6.out.grew (by (repeat' (first | exact Grew.refl _ | assumption | refine Grew.alloc ?_ _ | refine Grew.drew ?_ | refine Grew.drewN ?_ _ | refine Grew.setCell ?_ ?_ _ | (simp; done) | (simp; omega))))) (by unfold I64; decide) (by unfold I64; decide) (by unfold I64; decide) (by unfold I64; decide)).mono ?_
  rintro e w7 ⟨vi, rfl, hsi, hg⟩
  obtain ⟨B, hsB⟩ : ∃ B, SlI w7 B vi [] := ⟨_, by have h : idsOf (fun x => meetB x.1 x.2.1 x.2.2.1 x.2.2.2 3 2 1 0) shownL = [] := (by decide +kernel); (rw [← h]; exact hsi)⟩
  obtain ⟨ip, ic, rfl, -⟩ := hsB.shape
  have hw7 := hw6.trans (Grew.trans (by (repeat' (first | exact Grew.refl _ | assumption | refine Grew.alloc ?_ _ | refine Grew.drew ?_ | refine Grew.drewN ?_ _ | refine Grew.setCell ?_ ?_ _ | (simp; done) | (simp; omega)))) hg)
  have HS7 := Lib.hid ((HS6.out.grew (by (repeat' (first | exact Grew.refl _ | assumption | refine Grew.alloc ?_ _ | refine Grew.drew ?_ | refine Grew.drewN ?_ _ | refine Grew.setCell ?_ ?_ _ | (simp; done) | (simp; omega))))).grew hg)
  clear hsi hsB hg
  go_wp2_with fail
  refine (box_any 10 0 12 5 _).mono ?_
  rintro e w8 ⟨rfl, hg⟩
  have hw8 := hw7.trans (Grew.trans (by (repeat' (first | exact Grew.refl _ | assumption | refine Grew.alloc ?_ _ | refine Grew.drew ?_ | refine Grew.drewN ?_ _ | refine Grew.setCell ?_ ?_ _ | (simp; done) | (simp; omega)))) hg)
  have HS8 := Lib.hid ((HS7.out.grew (by (repeat' (first | exact Grew.refl _ | assumption | refine Grew.alloc ?_ _ | refine Grew.drew ?_ | refine Grew.drewN ?_ _ | refine Grew.setCell ?_ ?_ _ | (simp; done) | (simp; omega))))).grew hg)
  clear hg
  go_wp2_with fail
  refine (move_any sb mb shownL 9 (10, 0, 12, 5) _ (HS8.out.grew (by (repeat' (first | exact Grew.refl _ | assumption | refine Grew.alloc ?_ _ | refine Grew.drew ?_ | refine Grew.drewN ?_ _ | refine Grew.setCell ?_ ?_ _ | (simp; done) | (simp; omega))))) (by unfold I64; decide) (by unfold I64; decide) (by unfold I64; decide) (by unfold I64; decide) (by unfold I64; decide)).mono ?_
  rintro e w9 ⟨rfl, hsw, hk⟩
  rw [show moveE shownL 9 (10, 0, 12, 5) = 0 from by decide +kernel]
  rw [show moveS shownL 9 (10, 0, 12, 5) = [(2, (10, 5, 20, 8)), (5, (0, 0, 10, 10)), (9, (10, 0, 12, 5))] from by decide +kernel] at hsw
  have hw9 : Grew w w9 := Kp.grewOf (hw8.trans (by (repeat' (first | exact Grew.refl _ | assumption | refine Grew.alloc ?_ _ | refine Grew.drew ?_ | refine Grew.drewN ?_ _ | refine Grew.setCell ?_ ?_ _ | (simp; done) | (simp; omega))))) hk (fun x hx => by simp at hx; omega)
  have HS9 := Lib.hid hsw
  clear hsw hk
  go_wp2_with fail
  refine (pairs_any sb mb [(2, (10, 5, 20, 8)), (5, (0, 0, 10, 10)), (9, (10, 0, 12, 5))] _ (HS9.out.grew (by (repeat' (first | exact Grew.refl _ | assumption | refine Grew.alloc ?_ _ | refine Grew.drew ?_ | refine Grew.drewN ?_ _ | refine Grew.setCell ?_ ?_ _ | (simp; done) | (simp; omega)))))).mono ?_
  rintro e w10 ⟨vp, rfl, hsp, hg⟩
  rw [show pairsOf [(2, (10, 5, 20, 8)), (5, (0, 0, 10, 10)), (9, (10, 0, 12, 5))] = [(2, 5), (2, 9), (5, 9)] from by decide +kernel] at hsp
  obtain ⟨pp, pc, rfl, -⟩ := hsp.shape
  have hw10 := hw9.trans (Grew.trans (by (repeat' (first | exact Grew.refl _ | assumption | refine Grew.alloc ?_ _ | refine Grew.drew ?_ | refine Grew.drewN ?_ _ | refine Grew.setCell ?_ ?_ _ | (simp; done) | (simp; omega)))) hg)
  have HS10 := Lib.hid ((HS9.out.grew (by (repeat' (first | exact Grew.refl _ | assumption | refine Grew.alloc ?_ _ | refine Grew.drew ?_ | refine Grew.drewN ?_ _ | refine Grew.setCell ?_ ?_ _ | (simp; done) | (simp; omega))))).grew hg)
  have HB := Lib.hid hsp
  clear hsp hg
  go_wp2_with fail
  have hgW : Grew w10 (w10.alloc (.cells #[.int .i64 2, .int .i64 5, .int .i64 2, .int .i64 9, .int .i64 5, .int .i64 9] 95)) := (Grew.refl _).alloc _
  have hr : RdP (w10.alloc (.cells #[.int .i64 2, .int .i64 5, .int .i64 2, .int .i64 9, .int .i64 5, .int .i64 9] 95)) (some ⟨w10.heap.size, 0, none⟩) [(2, 5), (2, 9), (5, 9)] := .inr ⟨w10.heap.size, rfl, by simp, fun j hj => by
    match j, hj with
    | 0, _ => exact ⟨by simp, by simp⟩
    | 1, _ => exact ⟨by simp, by simp⟩
    | 2, _ => exact ⟨by simp, by simp⟩⟩
  have hS := samePairs_any pp (some ⟨w10.heap.size, 0, none⟩) pc 3 [(2, 5), (2, 9), (5, 9)] [(2, 5), (2, 9), (5, 9)] _ (HB.out.rd.grew hgW) hr (by decide)
  rw [decide_eq_true rfl] at hS
  refine hS.mono ?_
  rintro e w11 ⟨rfl, hg⟩
  have hw11 := hw10.trans (hgW.trans hg)
  have HS11 := Lib.hid (HS10.out.grew (hgW.trans hg))
  clear hS hr hgW hg HB
  go_wp2_with fail
  refine (box_any 0 0 1 1 _).mono ?_
  rintro e w12 ⟨rfl, hg⟩
  have hw12 := hw11.trans (Grew.trans (by (repeat' (first | exact Grew.refl _ | assumption | refine Grew.alloc ?_ _ | refine Grew.drew ?_ | refine Grew.drewN ?_ _ | refine Grew.setCell ?_ ?_ _ | (simp; done) | (simp; omega)))) hg)
  have HS12 := Lib.hid ((HS11.out.grew (by (repeat' (first | exact Grew.refl _ | assumption | refine Grew.alloc ?_ _ | refine Grew.drew ?_ | refine Grew.drewN ?_ _ | refine Grew.setCell ?_ ?_ _ | (simp; done) | (simp; omega))))).grew hg)
  clear hg
  go_wp2_with fail
  refine (put_any sb mb [(2, (10, 5, 20, 8)), (5, (0, 0, 10, 10)), (9, (10, 0, 12, 5))] 5 (0, 0, 1, 1) _ (HS12.out.grew (by (repeat' (first | exact Grew.refl _ | assumption | refine Grew.alloc ?_ _ | refine Grew.drew ?_ | refine Grew.drewN ?_ _ | refine Grew.setCell ?_ ?_ _ | (simp; done) | (simp; omega))))) (by unfold I64; decide) (by unfold I64; decide) (by unfold I64; decide) (by unfold I64; decide) (by unfold I64; decide)).mono ?_
  rintro e w13 ⟨rfl, hsw, hk⟩
  rw [show putE [(2, (10, 5, 20, 8)), (5, (0, 0, 10, 10)), (9, (10, 0, 12, 5))] 5 (0, 0, 1, 1) = 11 from by decide +kernel]
  rw [show putS [(2, (10, 5, 20, 8)), (5, (0, 0, 10, 10)), (9, (10, 0, 12, 5))] 5 (0, 0, 1, 1) = [(2, (10, 5, 20, 8)), (5, (0, 0, 10, 10)), (9, (10, 0, 12, 5))] from by decide +kernel] at hsw
  have hw13 : Grew w w13 := Kp.grewOf (hw12.trans (by (repeat' (first | exact Grew.refl _ | assumption | refine Grew.alloc ?_ _ | refine Grew.drew ?_ | refine Grew.drewN ?_ _ | refine Grew.setCell ?_ ?_ _ | (simp; done) | (simp; omega))))) hk (fun x hx => by simp at hx; omega)
  have HS13 := Lib.hid hsw
  clear hsw hk
  go_wp2_with fail
  refine (box_any 0 0 1 1 _).mono ?_
  rintro e w14 ⟨rfl, hg⟩
  have hw14 := hw13.trans (Grew.trans (by (repeat' (first | exact Grew.refl _ | assumption | refine Grew.alloc ?_ _ | refine Grew.drew ?_ | refine Grew.drewN ?_ _ | refine Grew.setCell ?_ ?_ _ | (simp; done) | (simp; omega)))) hg)
  have HS14 := Lib.hid ((HS13.out.grew (by (repeat' (first | exact Grew.refl _ | assumption | refine Grew.alloc ?_ _ | refine Grew.drew ?_ | refine Grew.drewN ?_ _ | refine Grew.setCell ?_ ?_ _ | (simp; done) | (simp; omega))))).grew hg)
  clear hg
  go_wp2_with fail
  refine (move_any sb mb [(2, (10, 5, 20, 8)), (5, (0, 0, 10, 10)), (9, (10, 0, 12, 5))] 7 (0, 0, 1, 1) _ (HS14.out.grew (by (repeat' (first | exact Grew.refl _ | assumption | refine Grew.alloc ?_ _ | refine Grew.drew ?_ | refine Grew.drewN ?_ _ | refine Grew.setCell ?_ ?_ _ | (simp; done) | (simp; omega))))) (by unfold I64; decide) (by unfold I64; decide) (by unfold I64; decide) (by unfold I64; decide) (by unfold I64; decide)).mono ?_
  rintro e w15 ⟨rfl, hsw, hk⟩
  rw [show moveE [(2, (10, 5, 20, 8)), (5, (0, 0, 10, 10)), (9, (10, 0, 12, 5))] 7 (0, 0, 1, 1) = 9 from by decide +kernel]
  rw [show moveS [(2, (10, 5, 20, 8)), (5, (0, 0, 10, 10)), (9, (10, 0, 12, 5))] 7 (0, 0, 1, 1) = [(2, (10, 5, 20, 8)), (5, (0, 0, 10, 10)), (9, (10, 0, 12, 5))] from by decide +kernel] at hsw
  have hw15 : Grew w w15 := Kp.grewOf (hw14.trans (by (repeat' (first | exact Grew.refl _ | assumption | refine Grew.alloc ?_ _ | refine Grew.drew ?_ | refine Grew.drewN ?_ _ | refine Grew.setCell ?_ ?_ _ | (simp; done) | (simp; omega))))) hk (fun x hx => by simp at hx; omega)
  have HS15 := Lib.hid hsw
  clear hsw hk
  go_wp2_with fail
  refine (drop_any sb mb [(2, (10, 5, 20, 8)), (5, (0, 0, 10, 10)), (9, (10, 0, 12, 5))] 7 _ (HS15.out.grew (by (repeat' (first | exact Grew.refl _ | assumption | refine Grew.alloc ?_ _ | refine Grew.drew ?_ | refine Grew.drewN ?_ _ | refine Grew.setCell ?_ ?_ _ | (simp; done) | (simp; omega))))) (by unfold I64; decide)).mono ?_
  rintro e w16 ⟨rfl, hsw, hk⟩
  rw [show dropE [(2, (10, 5, 20, 8)), (5, (0, 0, 10, 10)), (9, (10, 0, 12, 5))] 7 = 9 from by decide +kernel]
  rw [show dropS [(2, (10, 5, 20, 8)), (5, (0, 0, 10, 10)), (9, (10, 0, 12, 5))] 7 = [(2, (10, 5, 20, 8)), (5, (0, 0, 10, 10)), (9, (10, 0, 12, 5))] from by decide +kernel] at hsw
  have hw16 : Grew w w16 := Kp.grewOf (hw15.trans (by (repeat' (first | exact Grew.refl _ | assumption | refine Grew.alloc ?_ _ | refine Grew.drew ?_ | refine Grew.drewN ?_ _ | refine Grew.setCell ?_ ?_ _ | (simp; done) | (simp; omega))))) hk (fun x hx => by simp at hx; omega)
  have HS16 := Lib.hid hsw
  clear hsw hk
  go_wp2_with fail
  refine (box_any 0 0 1 1 _).mono ?_
  rintro e w17 ⟨rfl, hg⟩
  have hw17 := hw16.trans (Grew.trans (by (repeat' (first | exact Grew.refl _ | assumption | refine Grew.alloc ?_ _ | refine Grew.drew ?_ | refine Grew.drewN ?_ _ | refine Grew.setCell ?_ ?_ _ | (simp; done) | (simp; omega)))) hg)
  have HS17 := Lib.hid ((HS16.out.grew (by (repeat' (first | exact Grew.refl _ | assumption | refine Grew.alloc ?_ _ | refine Grew.drew ?_ | refine Grew.drewN ?_ _ | refine Grew.setCell ?_ ?_ _ | (simp; done) | (simp; omega))))).grew hg)
  clear hg
  go_wp2_with fail
  refine (put_any sb mb [(2, (10, 5, 20, 8)), (5, (0, 0, 10, 10)), (9, (10, 0, 12, 5))] (-1) (0, 0, 1, 1) _ (HS17.out.grew (by (repeat' (first | exact Grew.refl _ | assumption | refine Grew.alloc ?_ _ | refine Grew.drew ?_ | refine Grew.drewN ?_ _ | refine Grew.setCell ?_ ?_ _ | (simp; done) | (simp; omega))))) (by unfold I64; decide) (by unfold I64; decide) (by unfold I64; decide) (by unfold I64; decide) (by unfold I64; decide)).mono ?_
  rintro e w18 ⟨rfl, hsw, hk⟩
  rw [show putE [(2, (10, 5, 20, 8)), (5, (0, 0, 10, 10)), (9, (10, 0, 12, 5))] (-1) (0, 0, 1, 1) = 3 from by decide +kernel]
  rw [show putS [(2, (10, 5, 20, 8)), (5, (0, 0, 10, 10)), (9, (10, 0, 12, 5))] (-1) (0, 0, 1, 1) = [(2, (10, 5, 20, 8)), (5, (0, 0, 10, 10)), (9, (10, 0, 12, 5))] from by decide +kernel] at hsw
  have hw18 : Grew w w18 := Kp.grewOf (hw17.trans (by (repeat' (first | exact Grew.refl _ | assumption | refine Grew.alloc ?_ _ | refine Grew.drew ?_ | refine Grew.drewN ?_ _ | refine Grew.setCell ?_ ?_ _ | (simp; done) | (simp; omega))))) hk (fun x hx => by simp at hx; omega)
  have HS18 := Lib.hid hsw
  clear hsw hk
  go_wp2_with fail
  refine (box_any 2 0 1 1 _).mono ?_
  rintro e w19 ⟨rfl, hg⟩
  have hw19 := hw18.trans (Grew.trans (by (repeat' (first | exact Grew.refl _ | assumption | refine Grew.alloc ?_ _ | refine Grew.drew ?_ | refine Grew.drewN ?_ _ | refine Grew.setCell ?_ ?_ _ | (simp; done) | (simp; omega)))) hg)
  have HS19 := Lib.hid ((HS18.out.grew (by (repeat' (first | exact Grew.refl _ | assumption | refine Grew.alloc ?_ _ | refine Grew.drew ?_ | refine Grew.drewN ?_ _ | refine Grew.setCell ?_ ?_ _ | (simp; done) | (simp; omega))))).grew hg)
  clear hg
  go_wp2_with fail
  refine (put_any sb mb [(2, (10, 5, 20, 8)), (5, (0, 0, 10, 10)), (9, (10, 0, 12, 5))] (-1) (2, 0, 1, 1) _ (HS19.out.grew (by (repeat' (first | exact Grew.refl _ | assumption | refine Grew.alloc ?_ _ | refine Grew.drew ?_ | refine Grew.drewN ?_ _ | refine Grew.setCell ?_ ?_ _ | (simp; done) | (simp; omega))))) (by unfold I64; decide) (by unfold I64; decide) (by unfold I64; decide) (by unfold I64; decide) (by unfold I64; decide)).mono ?_
  rintro e w20 ⟨rfl, hsw, hk⟩
  rw [show putE [(2, (10, 5, 20, 8)), (5, (0, 0, 10, 10)), (9, (10, 0, 12, 5))] (-1) (2, 0, 1, 1) = 3 from by decide +kernel]
  rw [show putS [(2, (10, 5, 20, 8)), (5, (0, 0, 10, 10)), (9, (10, 0, 12, 5))] (-1) (2, 0, 1, 1) = [(2, (10, 5, 20, 8)), (5, (0, 0, 10, 10)), (9, (10, 0, 12, 5))] from by decide +kernel] at hsw
  have hw20 : Grew w w20 := Kp.grewOf (hw19.trans (by (repeat' (first | exact Grew.refl _ | assumption | refine Grew.alloc ?_ _ | refine Grew.drew ?_ | refine Grew.drewN ?_ _ | refine Grew.setCell ?_ ?_ _ | (simp; done) | (simp; omega))))) hk (fun x hx => by simp at hx; omega)
  have HS20 := Lib.hid hsw
  clear hsw hk
  go_wp2_with fail
  refine (drop_any sb mb [(2, (10, 5, 20, 8)), (5, (0, 0, 10, 10)), (9, (10, 0, 12, 5))] 5 _ (HS20.out.grew (by (repeat' (first | exact Grew.refl _ | assumption | refine Grew.alloc ?_ _ | refine Grew.drew ?_ | refine Grew.drewN ?_ _ | refine Grew.setCell ?_ ?_ _ | (simp; done) | (simp; omega))))) (by unfold I64; decide)).mono ?_
  rintro e w21 ⟨rfl, hsw, hk⟩
  rw [show dropE [(2, (10, 5, 20, 8)), (5, (0, 0, 10, 10)), (9, (10, 0, 12, 5))] 5 = 0 from by decide +kernel]
  rw [show dropS [(2, (10, 5, 20, 8)), (5, (0, 0, 10, 10)), (9, (10, 0, 12, 5))] 5 = [(2, (10, 5, 20, 8)), (9, (10, 0, 12, 5))] from by decide +kernel] at hsw
  have hw21 : Grew w w21 := Kp.grewOf (hw20.trans (by (repeat' (first | exact Grew.refl _ | assumption | refine Grew.alloc ?_ _ | refine Grew.drew ?_ | refine Grew.drewN ?_ _ | refine Grew.setCell ?_ ?_ _ | (simp; done) | (simp; omega))))) hk (fun x hx => by simp at hx; omega)
  have HS21 := Lib.hid hsw
  clear hsw hk
  go_wp2_with fail
  refine (pairs_any sb mb [(2, (10, 5, 20, 8)), (9, (10, 0, 12, 5))] _ (HS21.out.grew (by (repeat' (first | exact Grew.refl _ | assumption | refine Grew.alloc ?_ _ | refine Grew.drew ?_ | refine Grew.drewN ?_ _ | refine Grew.setCell ?_ ?_ _ | (simp; done) | (simp; omega)))))).mono ?_
  rintro e w22 ⟨vp, rfl, hsp, hg⟩
  rw [show pairsOf [(2, (10, 5, 20, 8)), (9, (10, 0, 12, 5))] = [(2, 9)] from by decide +kernel] at hsp
  obtain ⟨pp, pc, rfl, -⟩ := hsp.shape
  have hw22 := hw21.trans (Grew.trans (by (repeat' (first | exact Grew.refl _ | assumption | refine Grew.alloc ?_ _ | refine Grew.drew ?_ | refine Grew.drewN ?_ _ | refine Grew.setCell ?_ ?_ _ | (simp; done) | (simp; omega)))) hg)
  have HS22 := Lib.hid ((HS21.out.grew (by (repeat' (first | exact Grew.refl _ | assumption | refine Grew.alloc ?_ _ | refine Grew.drew ?_ | refine Grew.drewN ?_ _ | refine Grew.setCell ?_ ?_ _ | (simp; done) | (simp; omega))))).grew hg)
  have HB := Lib.hid hsp
  clear hsp hg
  go_wp2_with fail
  have hgW : Grew w22 (w22.alloc (.cells #[.int .i64 2, .int .i64 9] 95)) := (Grew.refl _).alloc _
  have hr : RdP (w22.alloc (.cells #[.int .i64 2, .int .i64 9] 95)) (some ⟨w22.heap.size, 0, none⟩) [(2, 9)] := .inr ⟨w22.heap.size, rfl, by simp, fun j hj => by
    match j, hj with
    | 0, _ => exact ⟨by simp, by simp⟩⟩
  have hS := samePairs_any pp (some ⟨w22.heap.size, 0, none⟩) pc 1 [(2, 9)] [(2, 9)] _ (HB.out.rd.grew hgW) hr (by decide)
  rw [decide_eq_true rfl] at hS
  refine hS.mono ?_
  rintro e w23 ⟨rfl, hg⟩
  have hw23 := hw22.trans (hgW.trans hg)
  have HS23 := Lib.hid (HS22.out.grew (hgW.trans hg))
  clear hS hr hgW hg HB
  go_wp2_with fail
  refine (boxAt_any sb mb [(2, (10, 5, 20, 8)), (9, (10, 0, 12, 5))] 5 _ (HS23.out.grew (by (repeat' (first | exact Grew.refl _ | assumption | refine Grew.alloc ?_ _ | refine Grew.drew ?_ | refine Grew.drewN ?_ _ | refine Grew.setCell ?_ ?_ _ | (simp; done) | (simp; omega))))) (by unfold I64; decide)).mono ?_
  rintro e w24 ⟨rfl, hg⟩
  rw [show getL [(2, (10, 5, 20, 8)), (9, (10, 0, 12, 5))] 5 = (0, 0, 0, 0) from by decide +kernel, show hasL [(2, (10, 5, 20, 8)), (9, (10, 0, 12, 5))] 5 = false from by decide +kernel]
  have hw24 := hw23.trans (Grew.trans (by (repeat' (first | exact Grew.refl _ | assumption | refine Grew.alloc ?_ _ | refine Grew.drew ?_ | refine Grew.drewN ?_ _ | refine Grew.setCell ?_ ?_ _ | (simp; done) | (simp; omega)))) hg)
  have HS24 := Lib.hid ((HS23.out.grew (by (repeat' (first | exact Grew.refl _ | assumption | refine Grew.alloc ?_ _ | refine Grew.drew ?_ | refine Grew.drewN ?_ _ | refine Grew.setCell ?_ ?_ _ | (simp; done) | (simp; omega))))).grew hg)
  clear hg
  go_wp2_with fail
  have hg : Grew w24 (w24.alloc (.cells #[.int .i64 0, .int .i64 0, .int .i64 0, .int .i64 0] 32)) := (Grew.refl _).alloc _
  obtain ⟨ab, hab⟩ : ∃ ab, w24.heap.size = ab := ⟨_, rfl⟩
  have c0 : (w24.alloc (.cells #[.int .i64 0, .int .i64 0, .int .i64 0, .int .i64 0] 32)).cell? ⟨ab, 0, none⟩ = some (.int .i64 0) := by rw [← hab]; simp
  have c1 : (w24.alloc (.cells #[.int .i64 0, .int .i64 0, .int .i64 0, .int .i64 0] 32)).cell? ⟨ab, 1, none⟩ = some (.int .i64 0) := by rw [← hab]; simp
  have c2 : (w24.alloc (.cells #[.int .i64 0, .int .i64 0, .int .i64 0, .int .i64 0] 32)).cell? ⟨ab, 2, none⟩ = some (.int .i64 0) := by rw [← hab]; simp
  have c3 : (w24.alloc (.cells #[.int .i64 0, .int .i64 0, .int .i64 0, .int .i64 0] 32)).cell? ⟨ab, 3, none⟩ = some (.int .i64 0) := by rw [← hab]; simp
  try rw [hab]
  generalize (w24.alloc (.cells #[.int .i64 0, .int .i64 0, .int .i64 0, .int .i64 0] 32)) = w25 at hg c0 c1 c2 c3 ⊢
  have hw25 := hw24.trans hg
  have HS25 := Lib.hid (HS24.out.grew hg)
  clear hg hab
  go_wp2_with fail
  refine (boxAt_any sb mb [(2, (10, 5, 20, 8)), (9, (10, 0, 12, 5))] 2 _ (HS25.out.grew (by (repeat' (first | exact Grew.refl _ | assumption | refine Grew.alloc ?_ _ | refine Grew.drew ?_ | refine Grew.drewN ?_ _ | refine Grew.setCell ?_ ?_ _ | (simp; done) | (simp; omega))))) (by unfold I64; decide)).mono ?_
  rintro e w26 ⟨rfl, hg⟩
  rw [show getL [(2, (10, 5, 20, 8)), (9, (10, 0, 12, 5))] 2 = (10, 5, 20, 8) from by decide +kernel, show hasL [(2, (10, 5, 20, 8)), (9, (10, 0, 12, 5))] 2 = true from by decide +kernel]
  have hw26 := hw25.trans (Grew.trans (by (repeat' (first | exact Grew.refl _ | assumption | refine Grew.alloc ?_ _ | refine Grew.drew ?_ | refine Grew.drewN ?_ _ | refine Grew.setCell ?_ ?_ _ | (simp; done) | (simp; omega)))) hg)
  have HS26 := Lib.hid ((HS25.out.grew (by (repeat' (first | exact Grew.refl _ | assumption | refine Grew.alloc ?_ _ | refine Grew.drew ?_ | refine Grew.drewN ?_ _ | refine Grew.setCell ?_ ?_ _ | (simp; done) | (simp; omega))))).grew hg)
  have c0 := hg.cell' c0
  have c1 := hg.cell' c1
  have c2 := hg.cell' c2
  have c3 := hg.cell' c3
  clear hg
  go_wp2_with fail
  have hg : Grew w26 (w26.alloc (.cells #[.int .i64 10, .int .i64 5, .int .i64 20, .int .i64 8] 32)) := (Grew.refl _).alloc _
  obtain ⟨bb, hbb⟩ : ∃ bb, w26.heap.size = bb := ⟨_, rfl⟩
  have d0 : (w26.alloc (.cells #[.int .i64 10, .int .i64 5, .int .i64 20, .int .i64 8] 32)).cell? ⟨bb, 0, none⟩ = some (.int .i64 10) := by rw [← hbb]; simp
  have d1 : (w26.alloc (.cells #[.int .i64 10, .int .i64 5, .int .i64 20, .int .i64 8] 32)).cell? ⟨bb, 1, none⟩ = some (.int .i64 5) := by rw [← hbb]; simp
  have d2 : (w26.alloc (.cells #[.int .i64 10, .int .i64 5, .int .i64 20, .int .i64 8] 32)).cell? ⟨bb, 2, none⟩ = some (.int .i64 20) := by rw [← hbb]; simp
  have d3 : (w26.alloc (.cells #[.int .i64 10, .int .i64 5, .int .i64 20, .int .i64 8] 32)).cell? ⟨bb, 3, none⟩ = some (.int .i64 8) := by rw [← hbb]; simp
  try rw [hbb]
  generalize (w26.alloc (.cells #[.int .i64 10, .int .i64 5, .int .i64 20, .int .i64 8] 32)) = w27 at hg d0 d1 d2 d3 ⊢
  have hw27 := hw26.trans hg
  have HS27 := Lib.hid (HS26.out.grew hg)
  have c0 := hg.cell' c0
  have c1 := hg.cell' c1
  have c2 := hg.cell' c2
  have c3 := hg.cell' c3
  clear hg hbb
  have E0 := fun w => eqBox 0 0 0 0 0 0 0 0 w
  have E1 := fun w => eqBox 10 5 20 8 10 5 20 8 w
  have HF : Aside (∀ W, Grew w27 W → (W.cell? ⟨ab, 0, none⟩ = some (.int .i64 0) ∧ W.cell? ⟨ab, 1, none⟩ = some (.int .i64 0) ∧ W.cell? ⟨ab, 2, none⟩ = some (.int .i64 0) ∧ W.cell? ⟨ab, 3, none⟩ = some (.int .i64 0) ∧ W.cell? ⟨bb, 0, none⟩ = some (.int .i64 10) ∧ W.cell? ⟨bb, 1, none⟩ = some (.int .i64 5) ∧ W.cell? ⟨bb, 2, none⟩ = some (.int .i64 20) ∧ W.cell? ⟨bb, 3, none⟩ = some (.int .i64 8))) := fun W g => ⟨g.cell' c0, g.cell' c1, g.cell' c2, g.cell' c3, g.cell' d0, g.cell' d1, g.cell' d2, g.cell' d3⟩
  go_wp2_with fail
  go_region_held3 (fun W => W.cell? ⟨ab, 0, none⟩ = some (.int .i64 0) ∧ W.cell? ⟨ab, 1, none⟩ = some (.int .i64 0) ∧ W.cell? ⟨ab, 2, none⟩ = some (.int .i64 0) ∧ W.cell? ⟨ab, 3, none⟩ = some (.int .i64 0) ∧ W.cell? ⟨bb, 0, none⟩ = some (.int .i64 10) ∧ W.cell? ⟨bb, 1, none⟩ = some (.int .i64 5) ∧ W.cell? ⟨bb, 2, none⟩ = some (.int .i64 20) ∧ W.cell? ⟨bb, 3, none⟩ = some (.int .i64 8))
    ((refine HF.out _ ?_; (repeat' (first | exact Grew.refl _ | assumption | refine Grew.alloc ?_ _ | refine Grew.drew ?_ | refine Grew.drewN ?_ _ | refine Grew.setCell ?_ ?_ _ | (simp; done) | (simp; omega))); done))
    (first | (go_at_call 25; refine (box_any 10 5 20 8 _).mono ?_; rintro e wz ⟨rfl, hgz⟩; replace hgz := Grew.trans (show Grew w27 _ by (repeat' (first | exact Grew.refl _ | assumption | refine Grew.alloc ?_ _ | refine Grew.drew ?_ | refine Grew.drewN ?_ _ | refine Grew.setCell ?_ ?_ _ | (simp; done) | (simp; omega)))) hgz))
  all_goals
    go_wp2_with fail
    go_ret
    exact ⟨rfl, hw27.trans (by (repeat' (first | exact Grew.refl _ | assumption | refine Grew.alloc ?_ _ | refine Grew.drew ?_ | refine Grew.drewN ?_ _ | refine Grew.setCell ?_ ?_ _ | (simp; done) | (simp; omega))))⟩

end Go.Proofs.YtmoaefcpbphgmaaGreat

/- The walk of IndexFull: it returns true. -/
import Derived.Test.YtmoaefcpbphgmaaFullPlain
import Derived.Deep.LoopGhost
import Derived.Deep.RegionHeld3
import Derived.Deep.DrawnRows
namespace Go.Proofs.Ytmoaefcpbphgmaa
open Go.RowKit Go.Maps Go.Sort Go.Shelf
attribute [local go_sem ↓] Go.wp_at_zero Go.wp_at_succ

set_option maxHeartbeats 2000000 in
set_option maxRecDepth 100000 in
theorem indexFull_any (n : Int) (w : World) :
    Calls Try.prog 5 #[.int .i64 n] w fun e w' => e = .returned (.bool true) ∧ Grew w w' := by
  have M := fun w => mod_any n 1048576 w (by omega)
  obtain ⟨r, hr⟩ : ∃ r, n % 1048576 = r := ⟨_, rfl⟩
  have hr0 : 0 ≤ r ∧ r < 1048576 := by omega
  rw [hr] at M
  clear hr
  go_enter Try.func5, Try.ntmps5
  go_wp2_with fail
  refine (M _).mono ?_
  rintro e w0 ⟨rfl, rfl⟩
  go_wp2_with fail
  refine (newSweep_any _).mono ?_
  rintro e w1 ⟨sb, mb, rfl, hsw, hg1, hsb, hmb⟩
  have hw1 : Grew w w1 := Grew.trans (by (repeat' (first | exact Grew.refl _ | assumption | refine Grew.alloc ?_ _ | refine Grew.drew ?_ | refine Grew.drewN ?_ _ | refine Grew.setCell ?_ ?_ _ | (simp; done) | (simp; omega)))) hg1
  have HS1 := Lib.hid hsw
  have hlt := lt_of_cell hsw.cell
  clear hsw hg1
  go_wp2_with fail
  have hs : 1 ≤ 1 + r ∧ 1 + r ≤ 1048576 := by omega
  generalize 1 + r = s at *
  go_loopg [5] 256 (fun gg s5 wr => ∃ i : Nat, i ≤ 256 ∧ 256 - i ≤ gg ∧ s5 = .int .i64 i ∧ Grew w wr ∧ Aside (SweepAt wr sb mb (entF s i)))
  case atStart => exact ⟨0, by omega, by omega, rfl, by (repeat' (first | exact Grew.refl _ | assumption | refine Grew.alloc ?_ _ | refine Grew.drew ?_ | refine Grew.drewN ?_ _ | refine Grew.setCell ?_ ?_ _ | (simp; done) | (simp; omega))), HS1.out⟩
  case round =>
    obtain ⟨i, hi, hgg, rfl, hgw, A⟩ := hrel
    by_cases h1 : i < 256
    · have h1z : (i : Int) < 256 := by omega
      have hk := keyF_le hs hi
      unfold keyF at hk
      have hz : putE (entF s i) (keyF s i) (boxF i) = 0 := putE_zero (by have := keyF_le hs hi; omega) (okF i hi) (fun p hp => by
        obtain ⟨j, hj, rfl⟩ := List.mem_map.1 hp
        have := keyF_lt hs.1 (List.mem_range.1 hj)
        show keyF s j ≠ keyF s i
        omega) (by unfold entF; rw [List.length_map, List.length_range]; exact h1)
      have hp : putS (entF s i) (keyF s i) (boxF i) = entF s (i + 1) := by rw [putS_zero hz, entF_succ s hs.1]
      have HZ := Lib.hid hz
      have HP := Lib.hid hp
      clear hz hp
      go_wp2_with fail
      refine (box_any (3 * (i : Int)) 0 (3 * (i : Int) + 1) 1 _).mono ?_
      rintro e w2 ⟨rfl, hg2⟩
      have hw2 : Grew w w2 := Grew.trans (by (repeat' (first | exact Grew.refl _ | assumption | refine Grew.alloc ?_ _ | refine Grew.drew ?_ | refine Grew.drewN ?_ _ | refine Grew.setCell ?_ ?_ _ | (simp; done) | (simp; omega)))) hg2
      have HA2 := Lib.hid ((A.out.grew (by (repeat' (first | exact Grew.refl _ | assumption | refine Grew.alloc ?_ _ | refine Grew.drew ?_ | refine Grew.drewN ?_ _ | refine Grew.setCell ?_ ?_ _ | (simp; done) | (simp; omega))))).grew hg2)
      clear hg2
      go_wp2_with fail
      refine (put_any sb mb (entF s i) (keyF s i) (boxF i) _ (HA2.out.grew (by (repeat' (first | exact Grew.refl _ | assumption | refine Grew.alloc ?_ _ | refine Grew.drew ?_ | refine Grew.drewN ?_ _ | refine Grew.setCell ?_ ?_ _ | (simp; done) | (simp; omega))))) (by unfold I64 keyF; omega) (by unfold I64 boxF; simp only; omega) (by unfold I64 boxF; simp only; omega) (by unfold I64 boxF; simp only; omega) (by unfold I64 boxF; simp only; omega)).mono ?_
      rintro e w3 ⟨rfl, hsw, hk3⟩
      rw [HZ.out]
      rw [HP.out] at hsw
      have hw3 : Grew w w3 := Kp.grewOf (by (repeat' (first | exact Grew.refl _ | assumption | refine Grew.alloc ?_ _ | refine Grew.drew ?_ | refine Grew.drewN ?_ _ | refine Grew.setCell ?_ ?_ _ | (simp; done) | (simp; omega)))) hk3 (fun x hx => by simp at hx; omega)
      have HS3 := Lib.hid hsw
      clear hsw hk3
      go_wp2_with fail
      go_roundg (256 - (i + 1))
      case measure => omega
      case rel => exact ⟨i + 1, by omega, by omega, by go_num, hw3, HS3.out⟩
    · have h1z : ¬ (i : Int) < 256 := by omega
      obtain rfl : i = 256 := by omega
      have hs256 : 0 ≤ 256 * s ∧ 256 * s ≤ 268435456 := by omega
      have FL := Lib.hid (full_laws s hs)
      have PF := Lib.hid (pairsF s hs.1 256 (by omega))
      have PL := Lib.hid (pairs_last s hs.1)
      have hl0 : (entF s 256).length = 256 := by unfold entF; rw [List.length_map, List.length_range]
      have hl1 : (lastF s).length = 256 := by unfold lastF; rw [List.length_append, List.length_cons, List.length_map, List.length_range']; rfl
      have HL0 := Lib.hid hl0
      have HL1 := Lib.hid hl1
      clear hl0 hl1
      go_wp2_with fail
      refine (box_any 1 1 2 2 _).mono ?_
      rintro e w2 ⟨rfl, hg2⟩
      have hw2 : Grew w w2 := Grew.trans (by (repeat' (first | exact Grew.refl _ | assumption | refine Grew.alloc ?_ _ | refine Grew.drew ?_ | refine Grew.drewN ?_ _ | refine Grew.setCell ?_ ?_ _ | (simp; done) | (simp; omega)))) hg2
      have HS2 := Lib.hid ((A.out.grew (by (repeat' (first | exact Grew.refl _ | assumption | refine Grew.alloc ?_ _ | refine Grew.drew ?_ | refine Grew.drewN ?_ _ | refine Grew.setCell ?_ ?_ _ | (simp; done) | (simp; omega))))).grew hg2)
      clear hg2
      go_wp2_with fail
      refine (len_any sb mb (entF s 256) _ (HS2.out.grew (by (repeat' (first | exact Grew.refl _ | assumption | refine Grew.alloc ?_ _ | refine Grew.drew ?_ | refine Grew.drewN ?_ _ | refine Grew.setCell ?_ ?_ _ | (simp; done) | (simp; omega)))))).mono ?_
      rintro e w3 ⟨rfl, rfl⟩
      rw [HL0.out]
      go_wp2_with fail
      refine (pairs_any sb mb (entF s 256) _ (HS2.out.grew (by (repeat' (first | exact Grew.refl _ | assumption | refine Grew.alloc ?_ _ | refine Grew.drew ?_ | refine Grew.drewN ?_ _ | refine Grew.setCell ?_ ?_ _ | (simp; done) | (simp; omega)))))).mono ?_
      rintro e w4 ⟨vp, rfl, hsp, hg4⟩
      rw [PF.out] at hsp
      obtain ⟨pp, pc, rfl, _⟩ := hsp.shape
      obtain ⟨B0, hB0⟩ : ∃ B0, w2.heap.size = B0 := ⟨_, rfl⟩
      have j0 : w4.cell? ⟨w2.heap.size, 0, none⟩ = some (.int .i64 1) := hg4.cell' (by first | (simp [go_sem]; done) | (simp [*, go_sem]; done) | (go_cell; done))
      have j1 : w4.cell? ⟨w2.heap.size, 1, none⟩ = some (.int .i64 1) := hg4.cell' (by first | (simp [go_sem]; done) | (simp [*, go_sem]; done) | (go_cell; done))
      have j2 : w4.cell? ⟨w2.heap.size, 2, none⟩ = some (.int .i64 2) := hg4.cell' (by first | (simp [go_sem]; done) | (simp [*, go_sem]; done) | (go_cell; done))
      have j3 : w4.cell? ⟨w2.heap.size, 3, none⟩ = some (.int .i64 2) := hg4.cell' (by first | (simp [go_sem]; done) | (simp [*, go_sem]; done) | (go_cell; done))
      have hw4 : Grew w w4 := Grew.trans (by (repeat' (first | exact Grew.refl _ | assumption | refine Grew.alloc ?_ _ | refine Grew.drew ?_ | refine Grew.drewN ?_ _ | refine Grew.setCell ?_ ?_ _ | (simp; done) | (simp; omega)))) hg4
      have HS4 := Lib.hid ((HS2.out.grew (by (repeat' (first | exact Grew.refl _ | assumption | refine Grew.alloc ?_ _ | refine Grew.drew ?_ | refine Grew.drewN ?_ _ | refine Grew.setCell ?_ ?_ _ | (simp; done) | (simp; omega))))).grew hg4)
      have hBm : B0 ∉ [mb] := by have := HS2.out.lt.2; simp; omega
      have hwm : w.heap.size ≤ mb := hmb
      rw [hB0] at j0 j1 j2 j3 ⊢
      clear hg4 hsp hB0
      go_wp2_with fail
      refine (put_any sb mb (entF s 256) (256 * s) boxL _ (HS4.out.grew (by (repeat' (first | exact Grew.refl _ | assumption | refine Grew.alloc ?_ _ | refine Grew.drew ?_ | refine Grew.drewN ?_ _ | refine Grew.setCell ?_ ?_ _ | (simp; done) | (simp; omega))))) (by unfold I64; omega) (by unfold I64; decide) (by unfold I64; decide) (by unfold I64; decide) (by unfold I64; decide)).mono ?_
      rintro e w5 ⟨rfl, hsw, hkk⟩
      rw [FL.out.1.1]
      rw [FL.out.1.2] at hsw
      have k0 : w5.cell? ⟨B0, 0, none⟩ = some (.int .i64 1) := hkk.cell (by first | (simp [go_sem]; done) | (simp [*, go_sem]; done) | (go_cell; done)) hBm
      have k1 : w5.cell? ⟨B0, 1, none⟩ = some (.int .i64 1) := hkk.cell (by first | (simp [go_sem]; done) | (simp [*, go_sem]; done) | (go_cell; done)) hBm
      have k2 : w5.cell? ⟨B0, 2, none⟩ = some (.int .i64 2) := hkk.cell (by first | (simp [go_sem]; done) | (simp [*, go_sem]; done) | (go_cell; done)) hBm
      have k3 : w5.cell? ⟨B0, 3, none⟩ = some (.int .i64 2) := hkk.cell (by first | (simp [go_sem]; done) | (simp [*, go_sem]; done) | (go_cell; done)) hBm
      have hw5 : Grew w w5 := Kp.grewOf (by (repeat' (first | exact Grew.refl _ | assumption | refine Grew.alloc ?_ _ | refine Grew.drew ?_ | refine Grew.drewN ?_ _ | refine Grew.setCell ?_ ?_ _ | (simp; done) | (simp; omega)))) hkk (fun x hx => by simp at hx; omega)
      have HS5 := Lib.hid hsw
      clear hsw hkk
      go_wp2_with fail
      refine (put_any sb mb (entF s 256) s boxL _ (HS5.out.grew (by (repeat' (first | exact Grew.refl _ | assumption | refine Grew.alloc ?_ _ | refine Grew.drew ?_ | refine Grew.drewN ?_ _ | refine Grew.setCell ?_ ?_ _ | (simp; done) | (simp; omega))))) (by unfold I64; omega) (by unfold I64; decide) (by unfold I64; decide) (by unfold I64; decide) (by unfold I64; decide)).mono ?_
      rintro e w6 ⟨rfl, hsw, hkk⟩
      rw [FL.out.2.1.1]
      rw [FL.out.2.1.2] at hsw
      have k0 : w6.cell? ⟨B0, 0, none⟩ = some (.int .i64 1) := hkk.cell (by first | (simp [go_sem]; done) | (simp [*, go_sem]; done) | (go_cell; done)) hBm
      have k1 : w6.cell? ⟨B0, 1, none⟩ = some (.int .i64 1) := hkk.cell (by first | (simp [go_sem]; done) | (simp [*, go_sem]; done) | (go_cell; done)) hBm
      have k2 : w6.cell? ⟨B0, 2, none⟩ = some (.int .i64 2) := hkk.cell (by first | (simp [go_sem]; done) | (simp [*, go_sem]; done) | (go_cell; done)) hBm
      have k3 : w6.cell? ⟨B0, 3, none⟩ = some (.int .i64 2) := hkk.cell (by first | (simp [go_sem]; done) | (simp [*, go_sem]; done) | (go_cell; done)) hBm
      have hw6 : Grew w w6 := Kp.grewOf (by (repeat' (first | exact Grew.refl _ | assumption | refine Grew.alloc ?_ _ | refine Grew.drew ?_ | refine Grew.drewN ?_ _ | refine Grew.setCell ?_ ?_ _ | (simp; done) | (simp; omega)))) hkk (fun x hx => by simp at hx; omega)
      have HS6 := Lib.hid hsw
      clear hsw hkk
      go_wp2_with fail
      refine (drop_any sb mb (entF s 256) s _ (HS6.out.grew (by (repeat' (first | exact Grew.refl _ | assumption | refine Grew.alloc ?_ _ | refine Grew.drew ?_ | refine Grew.drewN ?_ _ | refine Grew.setCell ?_ ?_ _ | (simp; done) | (simp; omega))))) (by unfold I64; omega)).mono ?_
      rintro e w7 ⟨rfl, hsw, hkk⟩
      rw [FL.out.2.2.1.1]
      rw [FL.out.2.2.1.2] at hsw
      have k0 : w7.cell? ⟨B0, 0, none⟩ = some (.int .i64 1) := hkk.cell (by first | (simp [go_sem]; done) | (simp [*, go_sem]; done) | (go_cell; done)) hBm
      have k1 : w7.cell? ⟨B0, 1, none⟩ = some (.int .i64 1) := hkk.cell (by first | (simp [go_sem]; done) | (simp [*, go_sem]; done) | (go_cell; done)) hBm
      have k2 : w7.cell? ⟨B0, 2, none⟩ = some (.int .i64 2) := hkk.cell (by first | (simp [go_sem]; done) | (simp [*, go_sem]; done) | (go_cell; done)) hBm
      have k3 : w7.cell? ⟨B0, 3, none⟩ = some (.int .i64 2) := hkk.cell (by first | (simp [go_sem]; done) | (simp [*, go_sem]; done) | (go_cell; done)) hBm
      have hw7 : Grew w w7 := Kp.grewOf (by (repeat' (first | exact Grew.refl _ | assumption | refine Grew.alloc ?_ _ | refine Grew.drew ?_ | refine Grew.drewN ?_ _ | refine Grew.setCell ?_ ?_ _ | (simp; done) | (simp; omega)))) hkk (fun x hx => by simp at hx; omega)
      have HS7 := Lib.hid hsw
      clear hsw hkk
      go_wp2_with fail
      refine (put_any sb mb (delL (entF s 256) s) (256 * s) boxL _ (HS7.out.grew (by (repeat' (first | exact Grew.refl _ | assumption | refine Grew.alloc ?_ _ | refine Grew.drew ?_ | refine Grew.drewN ?_ _ | refine Grew.setCell ?_ ?_ _ | (simp; done) | (simp; omega))))) (by unfold I64; omega) (by unfold I64; decide) (by unfold I64; decide) (by unfold I64; decide) (by unfold I64; decide)).mono ?_
      rintro e w8 ⟨rfl, hsw, hkk⟩
      rw [FL.out.2.2.2.1]
      rw [FL.out.2.2.2.2] at hsw
      have k0 : w8.cell? ⟨B0, 0, none⟩ = some (.int .i64 1) := hkk.cell (by first | (simp [go_sem]; done) | (simp [*, go_sem]; done) | (go_cell; done)) hBm
      have k1 : w8.cell? ⟨B0, 1, none⟩ = some (.int .i64 1) := hkk.cell (by first | (simp [go_sem]; done) | (simp [*, go_sem]; done) | (go_cell; done)) hBm
      have k2 : w8.cell? ⟨B0, 2, none⟩ = some (.int .i64 2) := hkk.cell (by first | (simp [go_sem]; done) | (simp [*, go_sem]; done) | (go_cell; done)) hBm
      have k3 : w8.cell? ⟨B0, 3, none⟩ = some (.int .i64 2) := hkk.cell (by first | (simp [go_sem]; done) | (simp [*, go_sem]; done) | (go_cell; done)) hBm
      have hw8 : Grew w w8 := Kp.grewOf (by (repeat' (first | exact Grew.refl _ | assumption | refine Grew.alloc ?_ _ | refine Grew.drew ?_ | refine Grew.drewN ?_ _ | refine Grew.setCell ?_ ?_ _ | (simp; done) | (simp; omega)))) hkk (fun x hx => by simp at hx; omega)
      have HS8 := Lib.hid hsw
      clear hsw hkk
      go_wp2_with fail
      refine (len_any sb mb (lastF s) _ (HS8.out.grew (by (repeat' (first | exact Grew.refl _ | assumption | refine Grew.alloc ?_ _ | refine Grew.drew ?_ | refine Grew.drewN ?_ _ | refine Grew.setCell ?_ ?_ _ | (simp; done) | (simp; omega)))))).mono ?_
      rintro e w9 ⟨rfl, rfl⟩
      rw [HL1.out]
      go_wp2_with fail
      refine (pairs_any sb mb (lastF s) _ (HS8.out.grew (by (repeat' (first | exact Grew.refl _ | assumption | refine Grew.alloc ?_ _ | refine Grew.drew ?_ | refine Grew.drewN ?_ _ | refine Grew.setCell ?_ ?_ _ | (simp; done) | (simp; omega)))))).mono ?_
      rintro e w10 ⟨vq, rfl, hsq, hg10⟩
      rw [PL.out] at hsq
      have hk256 : keyF s 256 = 256 * s := rfl
      rw [hk256] at hsq
      obtain ⟨qp, qc, rfl, hqq⟩ := hsq.shape
      obtain ⟨qg, rfl⟩ := hqq (by simp)
      have hw10 : Grew w w10 := Grew.trans (by (repeat' (first | exact Grew.refl _ | assumption | refine Grew.alloc ?_ _ | refine Grew.drew ?_ | refine Grew.drewN ?_ _ | refine Grew.setCell ?_ ?_ _ | (simp; done) | (simp; omega)))) hg10
      have HQ := Lib.hid hsq
      clear hg10 hsq hqq hk256
      go_wp2_with fail
      have hr1 : RdP (w10.alloc (.cells #[.int .i64 0, .int .i64 (256 * s)] 32)) (some ⟨w10.heap.size, 0, none⟩) [(0, 256 * s)] := .inr ⟨w10.heap.size, rfl, by simp, fun j hj => by
        obtain rfl : j = 0 := by simp at hj; omega
        exact ⟨by simp, by simp⟩⟩
      refine (samePairs_any (some ⟨qg, 0, none⟩) (some ⟨w10.heap.size, 0, none⟩) qc 1 [(0, 256 * s)] [(0, 256 * s)] _ (HQ.out.rd.grew (by (repeat' (first | exact Grew.refl _ | assumption | refine Grew.alloc ?_ _ | refine Grew.drew ?_ | refine Grew.drewN ?_ _ | refine Grew.setCell ?_ ?_ _ | (simp; done) | (simp; omega))))) hr1 (by unfold maxLen; simp)).mono ?_
      rintro e w11 ⟨rfl, hg11⟩
      rw [show decide (([(0, 256 * s)] : List (Int × Int)) = [(0, 256 * s)]) = true from decide_eq_true rfl]
      have hw11 : Grew w w11 := Grew.trans (by (repeat' (first | exact Grew.refl _ | assumption | refine Grew.alloc ?_ _ | refine Grew.drew ?_ | refine Grew.drewN ?_ _ | refine Grew.setCell ?_ ?_ _ | (simp; done) | (simp; omega)))) hg11
      clear hg11 hr1
      go_wp2_with fail
      refine (awake_any _).mono ?_
      rintro e w12 ⟨rfl, hg12⟩
      have hw12 : Grew w w12 := Grew.trans (by (repeat' (first | exact Grew.refl _ | assumption | refine Grew.alloc ?_ _ | refine Grew.drew ?_ | refine Grew.drewN ?_ _ | refine Grew.setCell ?_ ?_ _ | (simp; done) | (simp; omega)))) hg12
      clear hg12
      go_wp2_with fail
      go_ret
      exact ⟨rfl, by (repeat' (first | exact Grew.refl _ | assumption | refine Grew.alloc ?_ _ | refine Grew.drew ?_ | refine Grew.drewN ?_ _ | refine Grew.setCell ?_ ?_ _ | (simp; done) | (simp; omega)))⟩

end Go.Proofs.Ytmoaefcpbphgmaa

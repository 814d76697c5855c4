/- The statements' awake returns true. -/
import Derived.Test.YtcelamaiebjdaaaGreatAwake
import Derived.Test.YtcelamaiebjdaaaGreatKit
namespace Go.Proofs.YtcelamaiebjdaaaGreat
open Go.RowKit Go.Maps Go.Sort Go.Shelf
attribute [local go_sem ↓] Go.wp_at_zero Go.wp_at_succ

theorem slot_laws : (List.replicate 3 0 = ([0, 0, 0] : List Int) ∧ List.replicate 3 false = [false, false, false]) ∧
    (takeH [0, 0, 0] [false, false, false] = (0, 1, 0) ∧ takeG [0, 0, 0] [false, false, false] = [1, 0, 0] ∧ takeS [0, 0, 0] [false, false, false] = [true, false, false]) ∧
    (takeH [1, 0, 0] [true, false, false] = (1, 1, 0) ∧ takeG [1, 0, 0] [true, false, false] = [1, 1, 0] ∧ takeS [1, 0, 0] [true, false, false] = [true, true, false]) ∧
    (freeE [1, 1, 0] [true, true, false] 1 1 = 0 ∧ freeS [1, 1, 0] [true, true, false] 1 1 = [true, false, false]) ∧
    (hasB [1, 1, 0] [true, false, false] 1 1 = false ∧ hasB [1, 1, 0] [true, false, false] 0 1 = true) ∧
    pairsOf shownL = [(2, 5)] ∧ idsOf (fun x => meetB x.1 x.2.1 x.2.2.1 x.2.2.2 12 4 13 6) shownL = [2, 9] := by decide

theorem SlP.rd {w : World} {B : Nat} {p : Option Addr} {n cap : Nat} {xs : List (Int × Int)} (h : SlP w B (.slice p n cap) xs) : RdP w p xs := by
  rcases h.form with ⟨_, rfl⟩ | ⟨g, cap', hv, _, hg, _⟩
  · exact .inl rfl
  · simp at hv
    obtain ⟨rfl, rfl, rfl⟩ := hv
    refine .inr ⟨g, rfl, hg, fun j hj => ?_⟩
    have h0 := h.cell (j * 2) (by omega)
    have h1 := h.cell (j * 2 + 1) (by omega)
    rw [show j * 2 / 2 = j by omega, show j * 2 % 2 = 0 by omega, getElem!_pos xs j hj] at h0
    rw [show (j * 2 + 1) / 2 = j by omega, show (j * 2 + 1) % 2 = 1 by omega, getElem!_pos xs j hj] at h1
    exact ⟨h0, h1⟩
theorem SlI.rd {w : World} {B : Nat} {p : Option Addr} {n cap : Nat} {xs : List Int} (h : SlI w B (.slice p n cap) xs) : RdI w p xs := by
  rcases h.form with ⟨_, rfl⟩ | ⟨g, cap', hv, _, hg, _⟩
  · exact .inl rfl
  · simp at hv
    obtain ⟨rfl, rfl, rfl⟩ := hv
    refine .inr ⟨⟨g, 0, none⟩, rfl, hg, fun j hj => ?_⟩
    have e : (⟨g, 0, none⟩ : Addr).add j = ⟨g, j, none⟩ := by unfold Addr.add; split <;> simp_all
    rw [e]
    exact h.cell j hj

set_option maxHeartbeats 1000000 in
set_option maxRecDepth 100000 in
theorem awake_any (w : World) : Calls Tryz.prog 15 #[] w fun e w' => e = .returned (.bool true) ∧ Grew w w' := by
  have L := Lib.hid slot_laws
  go_enter Tryz.func15, Tryz.ntmps15
  go_wp2_with fail
  refine (newSlots_any 3 _).mono ?_
  intro e w1 h
  unfold NewSl at h
  rw [if_pos (by decide)] at h
  obtain ⟨tb, gb, rfl, hs, hg1, htb, hgb⟩ := h
  rw [show (3 : Int).toNat = 3 from rfl, L.out.1.1, L.out.1.2] at hs
  have hlt := hs.lt
  have hw1 : Grew w w1 := Grew.trans (by (repeat' (first | exact Grew.refl _ | assumption | refine Grew.alloc ?_ _ | refine Grew.drew ?_ | refine Grew.drewN ?_ _ | refine Grew.setCell ?_ ?_ _ | (simp; done) | (simp; omega)))) hg1
  have HT1 := Lib.hid hs
  clear hs
  go_wp2_with fail
  refine (shown_any _).mono ?_
  rintro e w2 ⟨sb, mb, rfl, hsw, hg2, hsb, hmb⟩
  have hw2 : Grew w w2 := Grew.trans (by (repeat' (first | exact Grew.refl _ | assumption | refine Grew.alloc ?_ _ | refine Grew.drew ?_ | refine Grew.drewN ?_ _ | refine Grew.setCell ?_ ?_ _ | (simp; done) | (simp; omega)))) hg2
  have HT2 := Lib.hid (HT1.out.grew hg2)
  have HW2 := Lib.hid hsw
  have hlw := hsw.lt
  have hs1 := hg1.size
  have hs2 := hg2.size
  have hd1 : sb ≠ tb ∧ sb ≠ gb ∧ mb ≠ tb ∧ mb ≠ gb := by omega
  clear hsw hg2 hg1
  go_wp2_with fail
  refine (take_any tb gb [0, 0, 0] [false, false, false] _ (HT2.out.grew (by (repeat' (first | exact Grew.refl _ | assumption | refine Grew.alloc ?_ _ | refine Grew.drew ?_ | refine Grew.drewN ?_ _ | refine Grew.setCell ?_ ?_ _ | (simp; done) | (simp; omega)))))).mono ?_
  rintro e w3 ⟨rfl, hs, hk⟩
  rw [L.out.2.1.1]
  rw [L.out.2.1.2.1, L.out.2.1.2.2] at hs
  have hw3 : Grew w w3 := Kp.grewOf (by (repeat' (first | exact Grew.refl _ | assumption | refine Grew.alloc ?_ _ | refine Grew.drew ?_ | refine Grew.drewN ?_ _ | refine Grew.setCell ?_ ?_ _ | (simp; done) | (simp; omega)))) hk (fun x hx => by simp at hx; omega)
  have HT3 := Lib.hid hs
  have HW3 := Lib.hid ((HW2.out.grew (Grew.refl _)).kp hk (by simp [hd1]) (by simp [hd1]))
  have hs3 := hk.size
  clear hs hk
  go_wp2_with fail
  refine (take_any tb gb [1, 0, 0] [true, false, false] _ (HT3.out.grew (by (repeat' (first | exact Grew.refl _ | assumption | refine Grew.alloc ?_ _ | refine Grew.drew ?_ | refine Grew.drewN ?_ _ | refine Grew.setCell ?_ ?_ _ | (simp; done) | (simp; omega)))))).mono ?_
  rintro e w4 ⟨rfl, hs, hk⟩
  rw [L.out.2.2.1.1]
  rw [L.out.2.2.1.2.1, L.out.2.2.1.2.2] at hs
  have hA : w3.heap.size ∉ [tb, gb] := by simp; omega
  have a0 : w4.cell? ⟨w3.heap.size, 0, none⟩ = some (.int .i64 0) := hk.cell (by first | (simp [go_sem]; done) | (simp [*, go_sem]; done) | (go_cell; done)) hA
  have a1 : w4.cell? ⟨w3.heap.size, 1, none⟩ = some (.int .i64 1) := hk.cell (by first | (simp [go_sem]; done) | (simp [*, go_sem]; done) | (go_cell; done)) hA
  have hw4 : Grew w w4 := Kp.grewOf (by (repeat' (first | exact Grew.refl _ | assumption | refine Grew.alloc ?_ _ | refine Grew.drew ?_ | refine Grew.drewN ?_ _ | refine Grew.setCell ?_ ?_ _ | (simp; done) | (simp; omega)))) hk (fun x hx => by simp at hx; omega)
  have HT4 := Lib.hid hs
  have HW4 := Lib.hid ((HW3.out.grew (by (repeat' (first | exact Grew.refl _ | assumption | refine Grew.alloc ?_ _ | refine Grew.drew ?_ | refine Grew.drewN ?_ _ | refine Grew.setCell ?_ ?_ _ | (simp; done) | (simp; omega))))).kp hk (by simp [hd1]) (by simp [hd1]))
  have hs4 := hk.size
  have hs4' : w3.heap.size < w4.heap.size := lt_of_cell a0
  clear hs hk
  go_wp2_with fail
  refine (free_any tb gb [1, 1, 0] [true, true, false] 1 1 _ (HT4.out.grew (by (repeat' (first | exact Grew.refl _ | assumption | refine Grew.alloc ?_ _ | refine Grew.drew ?_ | refine Grew.drewN ?_ _ | refine Grew.setCell ?_ ?_ _ | (simp; done) | (simp; omega)))))).mono ?_
  rintro e w5 ⟨rfl, hs, hk⟩
  rw [L.out.2.2.2.1.1]
  rw [L.out.2.2.2.1.2] at hs
  have hA' : w3.heap.size ∉ [tb] := by simp; omega
  have hB' : w4.heap.size ∉ [tb] := by simp; omega
  have c0 : w5.cell? ⟨w3.heap.size, 0, none⟩ = some (.int .i64 0) := hk.cell (by first | (simp [go_sem]; done) | (simp [*, go_sem]; done) | (go_cell; done)) hA'
  have c1 : w5.cell? ⟨w3.heap.size, 1, none⟩ = some (.int .i64 1) := hk.cell (by first | (simp [go_sem]; done) | (simp [*, go_sem]; done) | (go_cell; done)) hA'
  have b0 : w5.cell? ⟨w4.heap.size, 0, none⟩ = some (.int .i64 1) := hk.cell (by first | (simp [go_sem]; done) | (simp [*, go_sem]; done) | (go_cell; done)) hB'
  have b1 : w5.cell? ⟨w4.heap.size, 1, none⟩ = some (.int .i64 1) := hk.cell (by first | (simp [go_sem]; done) | (simp [*, go_sem]; done) | (go_cell; done)) hB'
  have hw5 : Grew w w5 := Kp.grewOf (by (repeat' (first | exact Grew.refl _ | assumption | refine Grew.alloc ?_ _ | refine Grew.drew ?_ | refine Grew.drewN ?_ _ | refine Grew.setCell ?_ ?_ _ | (simp; done) | (simp; omega)))) hk (fun x hx => by simp at hx; omega)
  have HT5 := Lib.hid hs
  have HW5 := Lib.hid ((HW4.out.grew (by (repeat' (first | exact Grew.refl _ | assumption | refine Grew.alloc ?_ _ | refine Grew.drew ?_ | refine Grew.drewN ?_ _ | refine Grew.setCell ?_ ?_ _ | (simp; done) | (simp; omega))))).kp hk (by simp [hd1]) (by simp [hd1]))
  have hs5' : w4.heap.size < w5.heap.size := lt_of_cell b0
  clear hs hk a0 a1
  go_wp2_with fail
  refine (has_any tb gb [1, 1, 0] [true, false, false] 1 1 _ (HT5.out.grew (by (repeat' (first | exact Grew.refl _ | assumption | refine Grew.alloc ?_ _ | refine Grew.drew ?_ | refine Grew.drewN ?_ _ | refine Grew.setCell ?_ ?_ _ | (simp; done) | (simp; omega)))))).mono ?_
  rintro e w6 ⟨rfl, hg6⟩
  rw [L.out.2.2.2.2.1.1]
  have d0 := hg6.cell' c0
  have d1 := hg6.cell' c1
  have hw6 : Grew w w6 := hw5.trans hg6
  have HW6 := Lib.hid (HW5.out.grew hg6)
  have HT6 := Lib.hid (HT5.out.grew hg6)
  clear hg6 c0 c1 b0 b1
  go_wp2_with fail
  refine (has_any tb gb [1, 1, 0] [true, false, false] 0 1 _ (HT6.out.grew (by (repeat' (first | exact Grew.refl _ | assumption | refine Grew.alloc ?_ _ | refine Grew.drew ?_ | refine Grew.drewN ?_ _ | refine Grew.setCell ?_ ?_ _ | (simp; done) | (simp; omega)))))).mono ?_
  rintro e w7 ⟨rfl, hg7⟩
  rw [L.out.2.2.2.2.1.2]
  have hw7 : Grew w w7 := hw6.trans hg7
  have HW7 := Lib.hid (HW6.out.grew hg7)
  clear hg7 d0 d1
  go_wp2_with fail
  refine (pairs_any sb mb shownL _ (HW7.out.grew (by (repeat' (first | exact Grew.refl _ | assumption | refine Grew.alloc ?_ _ | refine Grew.drew ?_ | refine Grew.drewN ?_ _ | refine Grew.setCell ?_ ?_ _ | (simp; done) | (simp; omega)))))).mono ?_
  rintro e w8 ⟨vp, rfl, hsp, hg8⟩
  rw [L.out.2.2.2.2.2.1] at hsp
  have hw8 : Grew w w8 := Grew.trans (by (repeat' (first | exact Grew.refl _ | assumption | refine Grew.alloc ?_ _ | refine Grew.drew ?_ | refine Grew.drewN ?_ _ | refine Grew.setCell ?_ ?_ _ | (simp; done) | (simp; omega)))) hg8
  have HW8 := Lib.hid (HW7.out.grew hg8)
  obtain ⟨pp, pc, rfl, hpp⟩ := hsp.shape
  obtain ⟨pg, rfl⟩ := hpp (by decide)
  have HSP := Lib.hid hsp
  clear hg8 hpp hsp
  go_wp2_with fail
  have hr1 : RdP (w8.alloc (.cells #[.int .i64 2, .int .i64 5] 83)) (some ⟨w8.heap.size, 0, none⟩) [(2, 5)] := .inr ⟨w8.heap.size, rfl, by simp, fun j hj => by
    obtain rfl : j = 0 := by simp at hj; omega
    exact ⟨by simp, by simp⟩⟩
  refine (samePairs_any (some ⟨pg, 0, none⟩) (some ⟨w8.heap.size, 0, none⟩) pc 1 [(2, 5)] [(2, 5)] _ (HSP.out.rd.grew (by (repeat' (first | exact Grew.refl _ | assumption | refine Grew.alloc ?_ _ | refine Grew.drew ?_ | refine Grew.drewN ?_ _ | refine Grew.setCell ?_ ?_ _ | (simp; done) | (simp; omega))))) hr1 (by decide)).mono ?_
  rintro e w9 ⟨rfl, hg9⟩
  rw [show decide (([(2, 5)] : List (Int × Int)) = [(2, 5)]) = true from decide_eq_true rfl]
  have hw9 : Grew w w9 := Grew.trans (by (repeat' (first | exact Grew.refl _ | assumption | refine Grew.alloc ?_ _ | refine Grew.drew ?_ | refine Grew.drewN ?_ _ | refine Grew.setCell ?_ ?_ _ | (simp; done) | (simp; omega)))) hg9
  have HW9 := Lib.hid ((HW8.out.grew (by (repeat' (first | exact Grew.refl _ | assumption | refine Grew.alloc ?_ _ | refine Grew.drew ?_ | refine Grew.drewN ?_ _ | refine Grew.setCell ?_ ?_ _ | (simp; done) | (simp; omega))))).grew hg9)
  clear hg9 hr1
  go_wp2_with fail
  refine (box_any 12 4 13 6 _).mono ?_
  rintro e v9 ⟨rfl, hb9⟩
  have hv9 : Grew w v9 := Grew.trans (by (repeat' (first | exact Grew.refl _ | assumption | refine Grew.alloc ?_ _ | refine Grew.drew ?_ | refine Grew.drewN ?_ _ | refine Grew.setCell ?_ ?_ _ | (simp; done) | (simp; omega)))) hb9
  have HV9 := Lib.hid (HW9.out.grew hb9)
  clear hb9
  go_wp2_with fail
  refine (near_any sb mb shownL (12, 4, 13, 6) _ (HV9.out.grew (by (repeat' (first | exact Grew.refl _ | assumption | refine Grew.alloc ?_ _ | refine Grew.drew ?_ | refine Grew.drewN ?_ _ | refine Grew.setCell ?_ ?_ _ | (simp; done) | (simp; omega))))) (by unfold I64; decide) (by unfold I64; decide) (by unfold I64; decide) (by unfold I64; decide)).mono ?_
  rintro e w10 ⟨vi, rfl, hsi, hg10⟩
  obtain ⟨B, hsB⟩ : ∃ B, SlI w10 B vi [2, 9] := ⟨_, by have h := L.out.2.2.2.2.2.2; rw [← h]; exact hsi⟩
  clear hsi
  have hw10 : Grew w w10 := Grew.trans (by (repeat' (first | exact Grew.refl _ | assumption | refine Grew.alloc ?_ _ | refine Grew.drew ?_ | refine Grew.drewN ?_ _ | refine Grew.setCell ?_ ?_ _ | (simp; done) | (simp; omega)))) hg10
  obtain ⟨ip, ic, rfl, hip⟩ := hsB.shape
  obtain ⟨ig, rfl⟩ := hip (by decide)
  have HSI := Lib.hid hsB
  clear hg10 hip hsB
  go_wp2_with fail
  have hr2 : RdI (w10.alloc (.cells #[.int .i64 2, .int .i64 9] 3)) (some ⟨w10.heap.size, 0, none⟩) [2, 9] := .inr ⟨⟨w10.heap.size, 0, none⟩, rfl, by simp, fun j hj => by
    match j, hj with
    | 0, _ => simp [Addr.add]
    | 1, _ => simp [Addr.add]⟩
  refine (sameInts_any (some ⟨ig, 0, none⟩) (some ⟨w10.heap.size, 0, none⟩) ic 2 [2, 9] [2, 9] _ (HSI.out.rd.grew (by (repeat' (first | exact Grew.refl _ | assumption | refine Grew.alloc ?_ _ | refine Grew.drew ?_ | refine Grew.drewN ?_ _ | refine Grew.setCell ?_ ?_ _ | (simp; done) | (simp; omega))))) hr2 (by decide)).mono ?_
  rintro e w11 ⟨rfl, hg11⟩
  rw [show decide (([2, 9] : List Int) = [2, 9]) = true from decide_eq_true rfl]
  have hw11 : Grew w w11 := Grew.trans (by (repeat' (first | exact Grew.refl _ | assumption | refine Grew.alloc ?_ _ | refine Grew.drew ?_ | refine Grew.drewN ?_ _ | refine Grew.setCell ?_ ?_ _ | (simp; done) | (simp; omega)))) hg11
  clear hg11 hr2
  go_wp2_with fail
  go_ret
  exact ⟨rfl, by (repeat' (first | exact Grew.refl _ | assumption | refine Grew.alloc ?_ _ | refine Grew.drew ?_ | refine Grew.drewN ?_ _ | refine Grew.setCell ?_ ?_ _ | (simp; done) | (simp; omega)))⟩

end Go.Proofs.YtcelamaiebjdaaaGreat

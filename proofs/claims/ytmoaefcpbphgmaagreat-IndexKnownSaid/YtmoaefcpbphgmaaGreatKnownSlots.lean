/- The chapter's examples of tables. -/
import Derived.Test.YtmoaefcpbphgmaaGreatTab
import Derived.Test.YtmoaefcpbphgmaaGreatWake
namespace Go.Proofs.YtmoaefcpbphgmaaGreat
open Go.RowKit Go.Maps Go.Sort Go.Shelf
attribute [local go_sem ↓] Go.wp_at_zero Go.wp_at_succ

set_option maxHeartbeats 1000000 in
set_option maxRecDepth 100000 in
theorem takes_true (sb gb : Nat) (G : List Int) (T : List Bool) (G' : List Int) (T' : List Bool) (s g e : Int) (w : World) (h : SlotsAt w sb gb G T) (h1 : takeH G T = (s, g, e) ∧ takeG G T = G' ∧ takeS G T = T') :
    Calls Tryz.prog 106 #[.pointer (some ⟨sb, 0, none⟩), .int .i64 s, .int .i64 g, .int .i64 e] w fun e w' => e = .returned (.bool true) ∧ SlotsAt w' sb gb G' T' ∧ Kp [sb, gb] w w' := by
  obtain ⟨h1, rfl, rfl⟩ := h1
  have hlt := h.lt
  have HS := Lib.hid h
  have H1 := Lib.hid h1
  have E0 := fun w => eqHandle s g s g w
  clear h h1
  go_enter Tryz.func106, Tryz.ntmps106
  go_wp2_with fail
  refine (take_any sb gb G T _ (HS.out.grew (by (repeat' (first | exact Grew.refl _ | assumption | refine Grew.alloc ?_ _ | refine Grew.drew ?_ | refine Grew.drewN ?_ _ | refine Grew.setCell ?_ ?_ _ | (simp; done) | (simp; omega)))))).mono ?_
  rintro e w1 ⟨rfl, hs, hk⟩
  rw [H1.out]
  have HS1 := Lib.hid hs
  have HK := Lib.hid (show Kp [sb, gb] w w1 from (Grew.kp (by (repeat' (first | exact Grew.refl _ | assumption | refine Grew.alloc ?_ _ | refine Grew.drew ?_ | refine Grew.drewN ?_ _ | refine Grew.setCell ?_ ?_ _ | (simp; done) | (simp; omega)))) _).trans hk)
  clear hs hk
  go_wp2_with fail
  go_ret
  exact ⟨rfl, HS1.out.grew (by (repeat' (first | exact Grew.refl _ | assumption | refine Grew.alloc ?_ _ | refine Grew.drew ?_ | refine Grew.drewN ?_ _ | refine Grew.setCell ?_ ?_ _ | (simp; done) | (simp; omega)))), HK.out.trans (Grew.kp (by (repeat' (first | exact Grew.refl _ | assumption | refine Grew.alloc ?_ _ | refine Grew.drew ?_ | refine Grew.drewN ?_ _ | refine Grew.setCell ?_ ?_ _ | (simp; done) | (simp; omega)))) _)⟩

theorem rdI_lit {w : World} {g : Nat} {xs : List Int} (hg : g < w.heap.size) (h : ∀ j (hj : j < xs.length), w.cell? ⟨g, j, none⟩ = some (.int .i64 xs[j])) : RdI w (some ⟨g, 0, none⟩) xs :=
  .inr ⟨_, rfl, hg, fun j hj => by rw [add_zero_off, Nat.zero_add]; exact h j hj⟩
theorem rdB_lit {w : World} {g : Nat} {xs : List Bool} (hg : g < w.heap.size) (h : ∀ j (hj : j < xs.length), w.cell? ⟨g, j, none⟩ = some (.bool xs[j])) : RdB w (some ⟨g, 0, none⟩) xs :=
  .inr ⟨_, rfl, hg, fun j hj => by rw [add_zero_off, Nat.zero_add]; exact h j hj⟩
theorem frees_is (sb gb : Nat) (G : List Int) (T T' : List Bool) (s g e : Int) (w : World) (h : SlotsAt w sb gb G T) (h1 : freeE G T s g = e ∧ freeS G T s g = T') :
    Calls Tryz.prog 44 #[.pointer (some ⟨sb, 0, none⟩), .agg #[.int .i64 s, .int .i64 g]] w fun x w' => x = .returned (.int .i64 e) ∧ SlotsAt w' sb gb G T' ∧ Kp [sb, gb] w w' := by
  obtain ⟨rfl, rfl⟩ := h1
  exact (free_any sb gb G T s g w h).mono fun x w' ⟨h1, h2, h3⟩ => ⟨h1, h2, h3.mono (by simp)⟩

set_option maxHeartbeats 4000000 in
set_option maxRecDepth 100000 in
theorem knownSlots_any (w : World) : Calls Tryz.prog 58 #[] w fun e w' => e = .returned (.bool true) ∧ Grew w w' := by
  go_enter Tryz.func58, Tryz.ntmps58
  go_wp2_with fail
  refine (newSlots_any 3 _).mono ?_
  intro e w1 h
  unfold NewSl at h
  rw [if_pos (by decide)] at h
  obtain ⟨tb, gb, rfl, hs, hg1, htb, hgb⟩ := h
  have hlt := hs.lt
  have hw1 : Grew w w1 := Grew.trans (by (repeat' (first | exact Grew.refl _ | assumption | refine Grew.alloc ?_ _ | refine Grew.drew ?_ | refine Grew.drewN ?_ _ | refine Grew.setCell ?_ ?_ _ | (simp; done) | (simp; omega)))) hg1
  have HT1 : Aside (SlotsAt w1 tb gb [0, 0, 0] [false, false, false]) := hs
  have hs1 := hg1.size
  have hb0 : w.heap.size ≤ tb ∧ w.heap.size ≤ gb := by omega
  clear hs hg1 htb hgb
  go_wp2_with fail
  refine (takes_true tb gb [0, 0, 0] [false, false, false] [1, 0, 0] [true, false, false] 0 1 0 _ (HT1.out.grew (by (repeat' (first | exact Grew.refl _ | assumption | refine Grew.alloc ?_ _ | refine Grew.drew ?_ | refine Grew.drewN ?_ _ | refine Grew.setCell ?_ ?_ _ | (simp; done) | (simp; omega))))) (by decide +kernel)).mono ?_
  rintro e w2 ⟨rfl, hs, hk⟩
  have hw2 : Grew w w2 := Kp.grewOf (by (repeat' (first | exact Grew.refl _ | assumption | refine Grew.alloc ?_ _ | refine Grew.drew ?_ | refine Grew.drewN ?_ _ | refine Grew.setCell ?_ ?_ _ | (simp; done) | (simp; omega)))) hk (fun x hx => by simp at hx; omega)
  have HT2 : Aside (SlotsAt w2 tb gb [1, 0, 0] [true, false, false]) := hs
  have hsz2 := hk.size
  clear hs hk
  go_wp2_with fail
  refine (takes_true tb gb [1, 0, 0] [true, false, false] [1, 1, 0] [true, true, false] 1 1 0 _ (HT2.out.grew (by (repeat' (first | exact Grew.refl _ | assumption | refine Grew.alloc ?_ _ | refine Grew.drew ?_ | refine Grew.drewN ?_ _ | refine Grew.setCell ?_ ?_ _ | (simp; done) | (simp; omega))))) (by decide +kernel)).mono ?_
  rintro e w3 ⟨rfl, hs, hk⟩
  have hw3 : Grew w w3 := Kp.grewOf (by (repeat' (first | exact Grew.refl _ | assumption | refine Grew.alloc ?_ _ | refine Grew.drew ?_ | refine Grew.drewN ?_ _ | refine Grew.setCell ?_ ?_ _ | (simp; done) | (simp; omega)))) hk (fun x hx => by simp at hx; omega)
  have HT3 : Aside (SlotsAt w3 tb gb [1, 1, 0] [true, true, false]) := hs
  have hsz3 := hk.size
  clear hs hk
  go_wp2_with fail
  refine (takes_true tb gb [1, 1, 0] [true, true, false] [1, 1, 1] [true, true, true] 2 1 0 _ (HT3.out.grew (by (repeat' (first | exact Grew.refl _ | assumption | refine Grew.alloc ?_ _ | refine Grew.drew ?_ | refine Grew.drewN ?_ _ | refine Grew.setCell ?_ ?_ _ | (simp; done) | (simp; omega))))) (by decide +kernel)).mono ?_
  rintro e w4 ⟨rfl, hs, hk⟩
  have hw4 : Grew w w4 := Kp.grewOf (by (repeat' (first | exact Grew.refl _ | assumption | refine Grew.alloc ?_ _ | refine Grew.drew ?_ | refine Grew.drewN ?_ _ | refine Grew.setCell ?_ ?_ _ | (simp; done) | (simp; omega)))) hk (fun x hx => by simp at hx; omega)
  have HT4 : Aside (SlotsAt w4 tb gb [1, 1, 1] [true, true, true]) := hs
  have hsz4 := hk.size
  clear hs hk
  go_wp2_with fail
  refine (takes_true tb gb [1, 1, 1] [true, true, true] [1, 1, 1] [true, true, true] 0 0 10 _ (HT4.out.grew (by (repeat' (first | exact Grew.refl _ | assumption | refine Grew.alloc ?_ _ | refine Grew.drew ?_ | refine Grew.drewN ?_ _ | refine Grew.setCell ?_ ?_ _ | (simp; done) | (simp; omega))))) (by decide +kernel)).mono ?_
  rintro e w5 ⟨rfl, hs, hk⟩
  have hw5 : Grew w w5 := Kp.grewOf (by (repeat' (first | exact Grew.refl _ | assumption | refine Grew.alloc ?_ _ | refine Grew.drew ?_ | refine Grew.drewN ?_ _ | refine Grew.setCell ?_ ?_ _ | (simp; done) | (simp; omega)))) hk (fun x hx => by simp at hx; omega)
  have HT5 : Aside (SlotsAt w5 tb gb [1, 1, 1] [true, true, true]) := hs
  have hsz5 := hk.size
  clear hs hk
  go_wp2_with fail
  have hg : Grew w5 (w5.alloc (.cells #[.int .i64 1, .int .i64 1] 64)) := (Grew.refl _).alloc _
  obtain ⟨ob, hob⟩ : ∃ ob, w5.heap.size = ob := ⟨_, rfl⟩
  have a0 : (w5.alloc (.cells #[.int .i64 1, .int .i64 1] 64)).cell? ⟨ob, 0, none⟩ = some (.int .i64 1) := by rw [← hob]; simp
  have a1 : (w5.alloc (.cells #[.int .i64 1, .int .i64 1] 64)).cell? ⟨ob, 1, none⟩ = some (.int .i64 1) := by rw [← hob]; simp
  have hlz := HT5.out.lt
  have hobn : ob ≠ tb ∧ ob ≠ gb := by omega
  rw [hob]
  generalize (w5.alloc (.cells #[.int .i64 1, .int .i64 1] 64)) = w6 at hg a0 a1 ⊢
  have hw6 : Grew w w6 := hw5.trans hg
  have HT6 : Aside (SlotsAt w6 tb gb [1, 1, 1] [true, true, true]) := HT5.out.grew hg
  have hoz := lt_of_cell a0
  have hsz6 := hg.size
  clear hg hob
  go_wp2_with fail
  refine (frees_is tb gb [1, 1, 1] [true, true, true] [true, false, true] 1 1 0 _ (HT6.out.grew (by (repeat' (first | exact Grew.refl _ | assumption | refine Grew.alloc ?_ _ | refine Grew.drew ?_ | refine Grew.drewN ?_ _ | refine Grew.setCell ?_ ?_ _ | (simp; done) | (simp; omega))))) (by decide +kernel)).mono ?_
  rintro e w7 ⟨rfl, hs, hk⟩
  have hw7 : Grew w w7 := Kp.grewOf (by (repeat' (first | exact Grew.refl _ | assumption | refine Grew.alloc ?_ _ | refine Grew.drew ?_ | refine Grew.drewN ?_ _ | refine Grew.setCell ?_ ?_ _ | (simp; done) | (simp; omega)))) hk (fun x hx => by simp at hx; omega)
  have HT7 : Aside (SlotsAt w7 tb gb [1, 1, 1] [true, false, true]) := hs
  have a0 := hk.cell a0 (by simp; omega)
  have a1 := hk.cell a1 (by simp; omega)
  have hoz := lt_of_cell a0
  have hsz7 := hk.size
  clear hs hk
  go_wp2_with fail
  refine (has_any tb gb [1, 1, 1] [true, false, true] 1 1 _ (HT7.out.grew (by (repeat' (first | exact Grew.refl _ | assumption | refine Grew.alloc ?_ _ | refine Grew.drew ?_ | refine Grew.drewN ?_ _ | refine Grew.setCell ?_ ?_ _ | (simp; done) | (simp; omega)))))).mono ?_
  rintro e w8 ⟨rfl, hg⟩
  rw [show hasB [1, 1, 1] [true, false, true] 1 1 = false from by decide +kernel]
  have hw8 : Grew w w8 := Grew.trans (by (repeat' (first | exact Grew.refl _ | assumption | refine Grew.alloc ?_ _ | refine Grew.drew ?_ | refine Grew.drewN ?_ _ | refine Grew.setCell ?_ ?_ _ | (simp; done) | (simp; omega)))) hg
  have HT8 : Aside (SlotsAt w8 tb gb [1, 1, 1] [true, false, true]) := (HT7.out.grew (by (repeat' (first | exact Grew.refl _ | assumption | refine Grew.alloc ?_ _ | refine Grew.drew ?_ | refine Grew.drewN ?_ _ | refine Grew.setCell ?_ ?_ _ | (simp; done) | (simp; omega))))).grew hg
  have a0 := hg.cell' a0
  have a1 := hg.cell' a1
  have hoz := lt_of_cell a0
  have hsz8 := hg.size
  clear hg
  go_wp2_with fail
  refine (takes_true tb gb [1, 1, 1] [true, false, true] [1, 2, 1] [true, true, true] 1 2 0 _ (HT8.out.grew (by (repeat' (first | exact Grew.refl _ | assumption | refine Grew.alloc ?_ _ | refine Grew.drew ?_ | refine Grew.drewN ?_ _ | refine Grew.setCell ?_ ?_ _ | (simp; done) | (simp; omega))))) (by decide +kernel)).mono ?_
  rintro e w9 ⟨rfl, hs, hk⟩
  have hw9 : Grew w w9 := Kp.grewOf (by (repeat' (first | exact Grew.refl _ | assumption | refine Grew.alloc ?_ _ | refine Grew.drew ?_ | refine Grew.drewN ?_ _ | refine Grew.setCell ?_ ?_ _ | (simp; done) | (simp; omega)))) hk (fun x hx => by simp at hx; omega)
  have HT9 : Aside (SlotsAt w9 tb gb [1, 2, 1] [true, true, true]) := hs
  have a0 := hk.cell a0 (by simp; omega)
  have a1 := hk.cell a1 (by simp; omega)
  have hoz := lt_of_cell a0
  have hsz9 := hk.size
  clear hs hk
  go_wp2_with fail
  refine (has_any tb gb [1, 2, 1] [true, true, true] 1 1 _ (HT9.out.grew (by (repeat' (first | exact Grew.refl _ | assumption | refine Grew.alloc ?_ _ | refine Grew.drew ?_ | refine Grew.drewN ?_ _ | refine Grew.setCell ?_ ?_ _ | (simp; done) | (simp; omega)))))).mono ?_
  rintro e w10 ⟨rfl, hg⟩
  rw [show hasB [1, 2, 1] [true, true, true] 1 1 = false from by decide +kernel]
  have hw10 : Grew w w10 := Grew.trans (by (repeat' (first | exact Grew.refl _ | assumption | refine Grew.alloc ?_ _ | refine Grew.drew ?_ | refine Grew.drewN ?_ _ | refine Grew.setCell ?_ ?_ _ | (simp; done) | (simp; omega)))) hg
  have HT10 : Aside (SlotsAt w10 tb gb [1, 2, 1] [true, true, true]) := (HT9.out.grew (by (repeat' (first | exact Grew.refl _ | assumption | refine Grew.alloc ?_ _ | refine Grew.drew ?_ | refine Grew.drewN ?_ _ | refine Grew.setCell ?_ ?_ _ | (simp; done) | (simp; omega))))).grew hg
  have a0 := hg.cell' a0
  have a1 := hg.cell' a1
  have hoz := lt_of_cell a0
  have hsz10 := hg.size
  clear hg
  go_wp2_with fail
  refine (has_any tb gb [1, 2, 1] [true, true, true] 1 2 _ (HT10.out.grew (by (repeat' (first | exact Grew.refl _ | assumption | refine Grew.alloc ?_ _ | refine Grew.drew ?_ | refine Grew.drewN ?_ _ | refine Grew.setCell ?_ ?_ _ | (simp; done) | (simp; omega)))))).mono ?_
  rintro e w11 ⟨rfl, hg⟩
  rw [show hasB [1, 2, 1] [true, true, true] 1 2 = true from by decide +kernel]
  have hw11 : Grew w w11 := Grew.trans (by (repeat' (first | exact Grew.refl _ | assumption | refine Grew.alloc ?_ _ | refine Grew.drew ?_ | refine Grew.drewN ?_ _ | refine Grew.setCell ?_ ?_ _ | (simp; done) | (simp; omega)))) hg
  have HT11 : Aside (SlotsAt w11 tb gb [1, 2, 1] [true, true, true]) := (HT10.out.grew (by (repeat' (first | exact Grew.refl _ | assumption | refine Grew.alloc ?_ _ | refine Grew.drew ?_ | refine Grew.drewN ?_ _ | refine Grew.setCell ?_ ?_ _ | (simp; done) | (simp; omega))))).grew hg
  have a0 := hg.cell' a0
  have a1 := hg.cell' a1
  have hoz := lt_of_cell a0
  have hsz11 := hg.size
  clear hg
  go_wp2_with fail
  refine (at_any tb gb [1, 2, 1] [true, true, true] 0 _ (HT11.out.grew (by (repeat' (first | exact Grew.refl _ | assumption | refine Grew.alloc ?_ _ | refine Grew.drew ?_ | refine Grew.drewN ?_ _ | refine Grew.setCell ?_ ?_ _ | (simp; done) | (simp; omega)))))).mono ?_
  rintro e w12 ⟨rfl, hg⟩
  rw [show atG [1, 2, 1] [true, true, true] 0 = (0, 1) from by decide +kernel, show atB [1, 2, 1] [true, true, true] 0 = true from by decide +kernel]
  have hw12 : Grew w w12 := Grew.trans (by (repeat' (first | exact Grew.refl _ | assumption | refine Grew.alloc ?_ _ | refine Grew.drew ?_ | refine Grew.drewN ?_ _ | refine Grew.setCell ?_ ?_ _ | (simp; done) | (simp; omega)))) hg
  have HT12 : Aside (SlotsAt w12 tb gb [1, 2, 1] [true, true, true]) := (HT11.out.grew (by (repeat' (first | exact Grew.refl _ | assumption | refine Grew.alloc ?_ _ | refine Grew.drew ?_ | refine Grew.drewN ?_ _ | refine Grew.setCell ?_ ?_ _ | (simp; done) | (simp; omega))))).grew hg
  have a0 := hg.cell' a0
  have a1 := hg.cell' a1
  have hoz := lt_of_cell a0
  have hsz12 := hg.size
  clear hg
  go_wp2_with fail
  have hg : Grew w12 (w12.alloc (.cells #[.int .i64 0, .int .i64 1] 64)) := (Grew.refl _).alloc _
  obtain ⟨qb, hqb⟩ : ∃ qb, w12.heap.size = qb := ⟨_, rfl⟩
  have b0 : (w12.alloc (.cells #[.int .i64 0, .int .i64 1] 64)).cell? ⟨qb, 0, none⟩ = some (.int .i64 0) := by rw [← hqb]; simp
  have b1 : (w12.alloc (.cells #[.int .i64 0, .int .i64 1] 64)).cell? ⟨qb, 1, none⟩ = some (.int .i64 1) := by rw [← hqb]; simp
  have hlz := HT12.out.lt
  have hqbn : qb ≠ tb ∧ qb ≠ gb := by omega
  rw [hqb]
  generalize (w12.alloc (.cells #[.int .i64 0, .int .i64 1] 64)) = w13 at hg b0 b1 ⊢
  have hw13 : Grew w w13 := hw12.trans hg
  have HT13 : Aside (SlotsAt w13 tb gb [1, 2, 1] [true, true, true]) := HT12.out.grew hg
  have a0 := hg.cell' a0
  have a1 := hg.cell' a1
  have hoz := lt_of_cell a0
  have hqz := lt_of_cell b0
  have hsz13 := hg.size
  clear hg hqb
  go_wp2_with fail
  refine (frees_is tb gb [1, 2, 1] [true, true, true] [true, true, true] 1 1 9 _ (HT13.out.grew (by (repeat' (first | exact Grew.refl _ | assumption | refine Grew.alloc ?_ _ | refine Grew.drew ?_ | refine Grew.drewN ?_ _ | refine Grew.setCell ?_ ?_ _ | (simp; done) | (simp; omega))))) (by decide +kernel)).mono ?_
  rintro e w14 ⟨rfl, hs, hk⟩
  have hw14 : Grew w w14 := Kp.grewOf (by (repeat' (first | exact Grew.refl _ | assumption | refine Grew.alloc ?_ _ | refine Grew.drew ?_ | refine Grew.drewN ?_ _ | refine Grew.setCell ?_ ?_ _ | (simp; done) | (simp; omega)))) hk (fun x hx => by simp at hx; omega)
  have HT14 : Aside (SlotsAt w14 tb gb [1, 2, 1] [true, true, true]) := hs
  have a0 := hk.cell a0 (by simp; omega)
  have a1 := hk.cell a1 (by simp; omega)
  have b0 := hk.cell b0 (by simp; omega)
  have b1 := hk.cell b1 (by simp; omega)
  have hoz := lt_of_cell a0
  have hqz := lt_of_cell b0
  have hsz14 := hk.size
  clear hs hk
  go_wp2_with fail
  refine (frees_is tb gb [1, 2, 1] [true, true, true] [true, true, true] 7 1 9 _ (HT14.out.grew (by (repeat' (first | exact Grew.refl _ | assumption | refine Grew.alloc ?_ _ | refine Grew.drew ?_ | refine Grew.drewN ?_ _ | refine Grew.setCell ?_ ?_ _ | (simp; done) | (simp; omega))))) (by decide +kernel)).mono ?_
  rintro e w15 ⟨rfl, hs, hk⟩
  have hw15 : Grew w w15 := Kp.grewOf (by (repeat' (first | exact Grew.refl _ | assumption | refine Grew.alloc ?_ _ | refine Grew.drew ?_ | refine Grew.drewN ?_ _ | refine Grew.setCell ?_ ?_ _ | (simp; done) | (simp; omega)))) hk (fun x hx => by simp at hx; omega)
  have HT15 : Aside (SlotsAt w15 tb gb [1, 2, 1] [true, true, true]) := hs
  have a0 := hk.cell a0 (by simp; omega)
  have a1 := hk.cell a1 (by simp; omega)
  have b0 := hk.cell b0 (by simp; omega)
  have b1 := hk.cell b1 (by simp; omega)
  have hoz := lt_of_cell a0
  have hqz := lt_of_cell b0
  have hsz15 := hk.size
  clear hs hk
  go_wp2_with fail
  refine (slLen_any tb gb [1, 2, 1] [true, true, true] _ (HT15.out.grew (by (repeat' (first | exact Grew.refl _ | assumption | refine Grew.alloc ?_ _ | refine Grew.drew ?_ | refine Grew.drewN ?_ _ | refine Grew.setCell ?_ ?_ _ | (simp; done) | (simp; omega)))))).mono ?_
  rintro e w15x ⟨rfl, rfl⟩
  rw [show lenT [true, true, true] = 3 from by decide +kernel]
  go_wp2_with fail
  refine (gen_any tb gb [1, 2, 1] [true, true, true] 1 _ (HT15.out.grew (by (repeat' (first | exact Grew.refl _ | assumption | refine Grew.alloc ?_ _ | refine Grew.drew ?_ | refine Grew.drewN ?_ _ | refine Grew.setCell ?_ ?_ _ | (simp; done) | (simp; omega)))))).mono ?_
  rintro e w15x ⟨rfl, rfl⟩
  rw [show genAt [1, 2, 1] 1 = 2 from by decide +kernel]
  go_wp2_with fail
  refine (gen_any tb gb [1, 2, 1] [true, true, true] 9 _ (HT15.out.grew (by (repeat' (first | exact Grew.refl _ | assumption | refine Grew.alloc ?_ _ | refine Grew.drew ?_ | refine Grew.drewN ?_ _ | refine Grew.setCell ?_ ?_ _ | (simp; done) | (simp; omega)))))).mono ?_
  rintro e w15x ⟨rfl, rfl⟩
  rw [show genAt [1, 2, 1] 9 = 0 from by decide +kernel]
  have NE := fun w => neHandle 0 1 0 1 w
  go_wp2_with fail
  have hgW : Grew w15 ((w15.alloc (.cells #[.int .i64 2147483646, .int .i64 2147483647] 3)).alloc (.cells #[.bool false, .bool false] 4)) := ((Grew.refl _).alloc _).alloc _
  have hx : RdI ((w15.alloc (.cells #[.int .i64 2147483646, .int .i64 2147483647] 3)).alloc (.cells #[.bool false, .bool false] 4)) (some ⟨w15.heap.size, 0, none⟩) [2147483646, 2147483647] := rdI_lit (by simp; omega) fun j hj => by
    match j, hj with
    | 0, _ => simp
    | 1, _ => simp
  have hy : RdB ((w15.alloc (.cells #[.int .i64 2147483646, .int .i64 2147483647] 3)).alloc (.cells #[.bool false, .bool false] 4)) (some ⟨w15.heap.size + 1, 0, none⟩) [false, false] := rdB_lit (by simp) fun j hj => by
    match j, hj with
    | 0, _ => simp
    | 1, _ => simp
  have hC := restore_any (some ⟨w15.heap.size, 0, none⟩) (some ⟨w15.heap.size + 1, 0, none⟩) 2 2 [2147483646, 2147483647] [false, false] ((w15.alloc (.cells #[.int .i64 2147483646, .int .i64 2147483647] 3)).alloc (.cells #[.bool false, .bool false] 4)) hx hy (by decide) (by decide)
  refine hC.mono ?_
  intro e w16 h
  unfold Restored at h
  rw [if_pos (by decide +kernel)] at h
  obtain ⟨rb, rg, rfl, hs, hg6, hrb, hrg⟩ := h
  have hrw : w.heap.size ≤ rb ∧ w.heap.size ≤ rg := by have := hw15.size; have := hgW.size; omega
  have HR16 := Lib.hid hs
  clear hs hrb hrg
  have hg := hgW.trans hg6
  have hw16 : Grew w w16 := hw15.trans hg
  have HT16 := Lib.hid (HT15.out.grew hg)
  clear hC hx hy hg6 hgW hg
  go_wp2_with fail
  have hgW : Grew w16 ((w16.alloc (.cells #[.int .i64 0] 3)).alloc (.cells #[.bool true] 4)) := ((Grew.refl _).alloc _).alloc _
  have hx : RdI ((w16.alloc (.cells #[.int .i64 0] 3)).alloc (.cells #[.bool true] 4)) (some ⟨w16.heap.size, 0, none⟩) [0] := rdI_lit (by simp; omega) fun j hj => by
    match j, hj with
    | 0, _ => simp
  have hy : RdB ((w16.alloc (.cells #[.int .i64 0] 3)).alloc (.cells #[.bool true] 4)) (some ⟨w16.heap.size + 1, 0, none⟩) [true] := rdB_lit (by simp) fun j hj => by
    match j, hj with
    | 0, _ => simp
  have hC := restore_any (some ⟨w16.heap.size, 0, none⟩) (some ⟨w16.heap.size + 1, 0, none⟩) 1 1 [0] [true] ((w16.alloc (.cells #[.int .i64 0] 3)).alloc (.cells #[.bool true] 4)) hx hy (by decide) (by decide)
  refine hC.mono ?_
  intro e w17 h
  unfold Restored at h
  rw [if_neg (by decide +kernel), show restE [0] [true] = 4 from by decide +kernel] at h
  obtain ⟨rfl, hg6⟩ := h
  have hg := hgW.trans hg6
  have hw17 : Grew w w17 := hw16.trans hg
  have HT17 := Lib.hid (HT16.out.grew hg)
  have HR17 := Lib.hid (HR16.out.grew hg)
  clear hC hx hy hg6 hgW hg
  go_wp2_with fail
  refine (restore_any none none 0 0 [] [] _ (.inl rfl) (.inl rfl) (by decide) (by decide)).mono ?_
  intro e w18 h
  unfold Restored at h
  rw [if_neg (by decide +kernel), show restE [] [] = 3 from by decide +kernel] at h
  obtain ⟨rfl, hg⟩ := h
  have hw18 : Grew w w18 := hw17.trans hg
  have HT18 := Lib.hid (HT17.out.grew hg)
  have HR18 := Lib.hid (HR17.out.grew hg)
  clear hg
  go_wp2_with fail
  have hgW : Grew w18 ((w18.alloc (.cells #[.int .i64 1, .int .i64 2] 3)).alloc (.cells #[.bool false] 4)) := ((Grew.refl _).alloc _).alloc _
  have hx : RdI ((w18.alloc (.cells #[.int .i64 1, .int .i64 2] 3)).alloc (.cells #[.bool false] 4)) (some ⟨w18.heap.size, 0, none⟩) [1, 2] := rdI_lit (by simp; omega) fun j hj => by
    match j, hj with
    | 0, _ => simp
    | 1, _ => simp
  have hy : RdB ((w18.alloc (.cells #[.int .i64 1, .int .i64 2] 3)).alloc (.cells #[.bool false] 4)) (some ⟨w18.heap.size + 1, 0, none⟩) [false] := rdB_lit (by simp) fun j hj => by
    match j, hj with
    | 0, _ => simp
  have hC := restore_any (some ⟨w18.heap.size, 0, none⟩) (some ⟨w18.heap.size + 1, 0, none⟩) 2 1 [1, 2] [false] ((w18.alloc (.cells #[.int .i64 1, .int .i64 2] 3)).alloc (.cells #[.bool false] 4)) hx hy (by decide) (by decide)
  refine hC.mono ?_
  intro e w19 h
  unfold Restored at h
  rw [if_neg (by decide +kernel), show restE [1, 2] [false] = 4 from by decide +kernel] at h
  obtain ⟨rfl, hg6⟩ := h
  have hg := hgW.trans hg6
  have hw19 : Grew w w19 := hw18.trans hg
  have HT19 := Lib.hid (HT18.out.grew hg)
  have HR19 := Lib.hid (HR18.out.grew hg)
  clear hC hx hy hg6 hgW hg
  go_wp2_with fail
  refine (all_any tb gb [1, 2, 1] [true, true, true] _ HT19.out).mono ?_
  rintro e w20 ⟨va, rfl, hsa, hg⟩
  have hth : takenH [1, 2, 1] [true, true, true] = [(0, 1), (1, 2), (2, 1)] := by decide +kernel
  rw [hth] at hsa
  obtain ⟨ap, ac, rfl, -⟩ := hsa.shape
  have hw20 : Grew w w20 := hw19.trans hg
  have HR20 := Lib.hid (HR19.out.grew hg)
  have HA := Lib.hid hsa
  clear hsa hg hth
  go_wp2_with fail
  have hgW : Grew w20 (w20.alloc (.cells #[.int .i64 0, .int .i64 1, .int .i64 1, .int .i64 2, .int .i64 2, .int .i64 1] 64)) := (Grew.refl _).alloc _
  have hr : RdP (w20.alloc (.cells #[.int .i64 0, .int .i64 1, .int .i64 1, .int .i64 2, .int .i64 2, .int .i64 1] 64)) (some ⟨w20.heap.size, 0, none⟩) [(0, 1), (1, 2), (2, 1)] := .inr ⟨w20.heap.size, rfl, by simp, fun j hj => by
    match j, hj with
    | 0, _ => exact ⟨by simp, by simp⟩
    | 1, _ => exact ⟨by simp, by simp⟩
    | 2, _ => exact ⟨by simp, by simp⟩
    ⟩
  have hS := sameHandles_any ap (some ⟨w20.heap.size, 0, none⟩) ac 3 [(0, 1), (1, 2), (2, 1)] [(0, 1), (1, 2), (2, 1)] _ (HA.out.grew hgW).rdP hr (by decide)
  rw [decide_eq_true rfl] at hS
  refine hS.mono ?_
  rintro e w21 ⟨rfl, hg⟩
  have hw21 : Grew w w21 := hw20.trans (hgW.trans hg)
  have HR21 := Lib.hid (HR20.out.grew (hgW.trans hg))
  clear hS hr hgW hg
  go_wp2_with fail
  refine (takes_true rb rg [2147483646, 2147483647] [false, false] [2147483647, 2147483647] [true, false] 0 2147483647 0 _ (HR21.out.grew (by (repeat' (first | exact Grew.refl _ | assumption | refine Grew.alloc ?_ _ | refine Grew.drew ?_ | refine Grew.drewN ?_ _ | refine Grew.setCell ?_ ?_ _ | (simp; done) | (simp; omega))))) (by decide +kernel)).mono ?_
  rintro e w22 ⟨rfl, hs, hk⟩
  have hw22 : Grew w w22 := Kp.grewOf (by (repeat' (first | exact Grew.refl _ | assumption | refine Grew.alloc ?_ _ | refine Grew.drew ?_ | refine Grew.drewN ?_ _ | refine Grew.setCell ?_ ?_ _ | (simp; done) | (simp; omega)))) hk (fun x hx => by simp at hx; omega)
  have HR22 := Lib.hid hs
  clear hs hk
  go_wp2_with fail
  refine (takes_true rb rg [2147483647, 2147483647] [true, false] [2147483647, 2147483647] [true, false] 0 0 10 _ (HR22.out.grew (by (repeat' (first | exact Grew.refl _ | assumption | refine Grew.alloc ?_ _ | refine Grew.drew ?_ | refine Grew.drewN ?_ _ | refine Grew.setCell ?_ ?_ _ | (simp; done) | (simp; omega))))) (by decide +kernel)).mono ?_
  rintro e w23 ⟨rfl, hs, hk⟩
  have hw23 : Grew w w23 := Kp.grewOf (by (repeat' (first | exact Grew.refl _ | assumption | refine Grew.alloc ?_ _ | refine Grew.drew ?_ | refine Grew.drewN ?_ _ | refine Grew.setCell ?_ ?_ _ | (simp; done) | (simp; omega)))) hk (fun x hx => by simp at hx; omega)
  have HR23 := Lib.hid hs
  clear hs hk
  go_wp2_with fail
  go_ret
  exact ⟨rfl, by (repeat' (first | exact Grew.refl _ | assumption | refine Grew.alloc ?_ _ | refine Grew.drew ?_ | refine Grew.drewN ?_ _ | refine Grew.setCell ?_ ?_ _ | (simp; done) | (simp; omega)))⟩

end Go.Proofs.YtmoaefcpbphgmaaGreat

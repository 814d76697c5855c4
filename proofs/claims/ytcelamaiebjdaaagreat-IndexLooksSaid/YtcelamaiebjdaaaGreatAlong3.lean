/- Contract of the reference's Along: it is as package solid's. -/
import Derived.Test.YtcelamaiebjdaaaGreatJoin3
import Derived.Test.YtcelamaiebjdaaaGreatAlongAny
namespace Go.Proofs.YtcelamaiebjdaaaGreat
open Go.RowKit Go.Maps Go.Sort Go.Shelf
attribute [local go_sem ↓] Go.wp_at_zero Go.wp_at_succ

def cntP (l : List Int) : Nat := (l.filter fun t => decide (0 < t)).length
def cntM (l : List Int) : Nat := (l.filter fun t => decide (t < 0)).length
theorem low_cnt (b : Bx) (fx fy tx ty t0 t1 t2 t3 : Int) (h0 : turnL fx fy tx ty (cornX b 0) (cornY b 0) = t0) (h1 : turnL fx fy tx ty (cornX b 2) (cornY b 2) = t1) (h2 : turnL fx fy tx ty (cornX b 3) (cornY b 3) = t2) (h3 : turnL fx fy tx ty (cornX b 1) (cornY b 1) = t3) :
    lowN b fx fy tx ty 4 = decide (cntP [t0, t1, t2, t3] < 4) ∧ highN b fx fy tx ty 4 = decide (cntM [t0, t1, t2, t3] < 4) := by
  have e : ∀ t : Int, decide (t ≤ 0) = !decide (0 < t) := fun t => by by_cases h : 0 < t <;> simp [h] <;> omega
  have e' : ∀ t : Int, decide (0 ≤ t) = !decide (t < 0) := fun t => by by_cases h : t < 0 <;> simp [h] <;> omega
  have hz : lowN b fx fy tx ty 0 = false ∧ highN b fx fy tx ty 0 = false := ⟨rfl, rfl⟩
  constructor
  · rw [lowN_succ, lowN_succ, lowN_succ, lowN_succ, hz.1, h0, h1, h2, h3, e, e, e, e]
    unfold cntP
    simp only [List.filter_cons, List.filter_nil]
    generalize decide (0 < t0) = p0
    generalize decide (0 < t1) = p1
    generalize decide (0 < t2) = p2
    generalize decide (0 < t3) = p3
    cases p0 <;> cases p1 <;> cases p2 <;> cases p3 <;> rfl
  · rw [highN_succ, highN_succ, highN_succ, highN_succ, hz.2, h0, h1, h2, h3, e', e', e', e']
    unfold cntM
    simp only [List.filter_cons, List.filter_nil]
    generalize decide (t0 < 0) = p0
    generalize decide (t1 < 0) = p1
    generalize decide (t2 < 0) = p2
    generalize decide (t3 < 0) = p3
    cases p0 <;> cases p1 <;> cases p2 <;> cases p3 <;> rfl
theorem cntP_snoc (l : List Int) (t : Int) : cntP (l ++ [t]) = cntP l + if 0 < t then 1 else 0 := by
  unfold cntP
  rw [List.filter_append, List.length_append]
  congr 1
  by_cases h : 0 < t <;> simp [h]
theorem cntM_snoc (l : List Int) (t : Int) : cntM (l ++ [t]) = cntM l + if t < 0 then 1 else 0 := by
  unfold cntM
  rw [List.filter_append, List.length_append]
  congr 1
  by_cases h : t < 0 <;> simp [h]
theorem cnt_le (l : List Int) : cntP l ≤ l.length ∧ cntM l ≤ l.length := ⟨List.length_filter_le _ _, List.length_filter_le _ _⟩

set_option maxHeartbeats 4000000 in
set_option maxRecDepth 100000 in
theorem along3_any (b0 b1 b2 b3 fx fy tx ty : Int) (w : World) :
    Calls Tryz.prog 80 #[.agg #[.int .i64 b0, .int .i64 b1, .int .i64 b2, .int .i64 b3], .agg #[.int .i64 fx, .int .i64 fy], .agg #[.int .i64 tx, .int .i64 ty]] w fun e w' => e = .returned (.bool (alongB (b0, b1, b2, b3) fx fy tx ty)) ∧ Grew w w' := by
  obtain ⟨rc, hrc⟩ : ∃ r, chk b0 b1 b2 b3 = r := ⟨_, rfl⟩
  obtain ⟨r1, hr1⟩ : ∃ r, fairB fx fy = r := ⟨_, rfl⟩
  obtain ⟨r2, hr2⟩ : ∃ r, fairB tx ty = r := ⟨_, rfl⟩
  obtain ⟨r3, hr3⟩ : ∃ r, meetB b0 b1 b2 b3 (min fx tx) (min fy ty) (max fx tx) (max fy ty) = r := ⟨_, rfl⟩
  obtain ⟨lo, hlo⟩ : ∃ r, lowN (b0, b1, b2, b3) fx fy tx ty 4 = r := ⟨_, rfl⟩
  obtain ⟨hh, hhh⟩ : ∃ r, highN (b0, b1, b2, b3) fx fy tx ty 4 = r := ⟨_, rfl⟩
  have hal : alongB (b0, b1, b2, b3) fx fy tx ty = ((r1 && r2) && (r3 && (lo && hh))) := by rw [← hr1, ← hr2, ← hr3, ← hlo, ← hhh]; rfl
  have hr3c : rc ≠ 0 → r3 = false := fun h => by
    rw [← hr3]
    unfold meetB
    exact decide_eq_false (fun h2 => h (hrc.symm.trans h2.1))
  obtain ⟨al, hall⟩ : ∃ al, alongB (b0, b1, b2, b3) fx fy tx ty = al := ⟨_, rfl⟩
  rw [hall] at hal ⊢
  have HAL := Lib.hid hal
  have HRC := Lib.hid hrc
  have H1 := Lib.hid hr1
  have H2 := Lib.hid hr2
  have H3 := Lib.hid hr3
  have HLO := Lib.hid hlo
  have HHI := Lib.hid hhh
  have HR3 := Lib.hid hr3c
  clear hal hrc hr1 hr2 hr3 hlo hhh hr3c hall
  obtain ⟨B, hB⟩ : ∃ B, w.heap.size = B := ⟨_, rfl⟩
  go_enter Tryz.func80, Tryz.ntmps80
  go_wp2_with fail
  obtain ⟨w1, hw1e⟩ : ∃ w1, ((w.alloc (.cells #[.int .i64 b0, .int .i64 b1, .int .i64 b2, .int .i64 b3] 32)).alloc (.cells #[.int .i64 fx, .int .i64 fy] 29)).alloc (.cells #[.int .i64 tx, .int .i64 ty] 29) = w1 := ⟨_, rfl⟩
  have hg1 : Grew w w1 := by rw [← hw1e]; (repeat' (first | (with_reducible assumption) | (with_reducible exact Grew.refl _) | (with_reducible refine Grew.alloc ?_ _) | (with_reducible refine Grew.drew ?_) | (with_reducible refine Grew.drewN ?_ _) | (with_reducible refine Grew.setCell ?_ ?_ _) | (simp; done) | (simp; omega)))
  have HF : Aside (∀ W, Grew w1 W → (W.cell? ⟨B, 0, none⟩ = some (.int .i64 b0) ∧ W.cell? ⟨B, 1, none⟩ = some (.int .i64 b1) ∧ W.cell? ⟨B, 2, none⟩ = some (.int .i64 b2) ∧ W.cell? ⟨B, 3, none⟩ = some (.int .i64 b3) ∧
    W.cell? ⟨B + 1, 0, none⟩ = some (.int .i64 fx) ∧ W.cell? ⟨B + 1, 1, none⟩ = some (.int .i64 fy) ∧ W.cell? ⟨B + 1 + 1, 0, none⟩ = some (.int .i64 tx) ∧ W.cell? ⟨B + 1 + 1, 1, none⟩ = some (.int .i64 ty))) := by
    intro W g
    refine ⟨g.cell' ?_, g.cell' ?_, g.cell' ?_, g.cell' ?_, g.cell' ?_, g.cell' ?_, g.cell' ?_, g.cell' ?_⟩
    all_goals (rw [← hw1e, ← hB]; simp [go_sem])
  obtain ⟨c0, c1, c2, c3, d0, d1, e0, e1⟩ := HF.out w1 (Grew.refl _)
  try rw [hB]
  try rw [hw1e]
  clear hw1e hB
  refine (refCheck_any b0 b1 b2 b3 _).mono ?_
  rintro e w2 ⟨rfl, hg2⟩
  rw [HRC.out]
  have hw2 := hg1.trans hg2
  obtain ⟨c0, c1, c2, c3, d0, d1, e0, e1⟩ := HF.out w2 hg2
  by_cases hrc0 : rc = 0
  case neg =>
    have hrb : (rc != 0) = true := by simpa using hrc0
    have hz := HR3.out hrc0
    have HZ := Lib.hid hz
    clear hz hrc0
    go_wp2_with fail
    go_ret
    refine ⟨ret_bool ?_, hw2⟩
    rw [HAL.out, HZ.out]
    simp
  subst hrc0
  go_wp2_with fail
  refine (valid3_any fx fy _).mono ?_
  rintro e w3 ⟨rfl, hg3⟩
  rw [H1.out]
  have hg13 := hg2.trans hg3
  have hw3 := hg1.trans hg13
  obtain ⟨c0, c1, c2, c3, d0, d1, e0, e1⟩ := HF.out w3 hg13
  clear hg2 hg3 hw2
  cases r1
  · go_wp2_with fail
    go_ret
    refine ⟨ret_bool ?_, hw3⟩
    rw [HAL.out]
    rfl
  go_wp2_with fail
  refine (valid3_any tx ty _).mono ?_
  rintro e w4 ⟨rfl, hg4⟩
  rw [H2.out]
  have hg14 := hg13.trans hg4
  have hw4 := hg1.trans hg14
  obtain ⟨c0, c1, c2, c3, d0, d1, e0, e1⟩ := HF.out w4 hg14
  clear hg13 hg4 hw3
  cases r2
  · go_wp2_with fail
    go_ret
    refine ⟨ret_bool ?_, hw4⟩
    rw [HAL.out]
    rfl
  have HG14 := Lib.hid hg14
  have hmm := H3.out
  go_wp2_with fail
  go_cut [33] from 25 to 33 (fun s33 wx => s33 = .bool (!r3) ∧ Grew w4 wx)
  case first =>
    go_region_held3 (fun W => W.cell? ⟨B, 0, none⟩ = some (.int .i64 b0) ∧ W.cell? ⟨B, 1, none⟩ = some (.int .i64 b1) ∧ W.cell? ⟨B, 2, none⟩ = some (.int .i64 b2) ∧ W.cell? ⟨B, 3, none⟩ = some (.int .i64 b3) ∧
      W.cell? ⟨B + 1, 0, none⟩ = some (.int .i64 fx) ∧ W.cell? ⟨B + 1, 1, none⟩ = some (.int .i64 fy) ∧ W.cell? ⟨B + 1 + 1, 0, none⟩ = some (.int .i64 tx) ∧ W.cell? ⟨B + 1 + 1, 1, none⟩ = some (.int .i64 ty))
      ((refine HF.out _ (HG14.out.trans ?_); (repeat' (first | (with_reducible assumption) | (with_reducible exact Grew.refl _) | (with_reducible refine Grew.alloc ?_ _) | (with_reducible refine Grew.drew ?_) | (with_reducible refine Grew.drewN ?_ _) | (with_reducible refine Grew.setCell ?_ ?_ _) | (simp; done) | (simp; omega))); done))
      (first | (go_at_call 111; refine (around_any _ _ _ ?_).mono ?_; (· first | (with_reducible exact H1.out) | (with_reducible exact H2.out)); rintro e w5 ⟨rfl, hg5⟩; replace hg5 := Grew.trans (show Grew w4 _ by (repeat' (first | (with_reducible assumption) | (with_reducible exact Grew.refl _) | (with_reducible refine Grew.alloc ?_ _) | (with_reducible refine Grew.drew ?_) | (with_reducible refine Grew.drewN ?_ _) | (with_reducible refine Grew.setCell ?_ ?_ _) | (simp; done) | (simp; omega)))) hg5)
             | (go_at_call 110; refine (join3_any fx fy fx fy tx ty tx ty _ _ (chk_spot H1.out) (chk_spot H2.out) (by first | (simp [go_sem]; done) | (simp [*, go_sem]; done) | (go_cell; done)) (by first | (simp [go_sem]; done) | (simp [*, go_sem]; done) | (go_cell; done)) (by first | (simp [go_sem]; done) | (simp [*, go_sem]; done) | (go_cell; done)) (by first | (simp [go_sem]; done) | (simp [*, go_sem]; done) | (go_cell; done)) (by first | (simp [go_sem]; done) | (simp [*, go_sem]; done) | (go_cell; done)) (by first | (simp [go_sem]; done) | (simp [*, go_sem]; done) | (go_cell; done)) (by first | (simp [go_sem]; done) | (simp [*, go_sem]; done) | (go_cell; done)) (by first | (simp [go_sem]; done) | (simp [*, go_sem]; done) | (go_cell; done))).mono ?_; rintro e w6 ⟨rfl, hg6⟩; replace hg6 := Grew.trans (show Grew w4 _ by (repeat' (first | (with_reducible assumption) | (with_reducible exact Grew.refl _) | (with_reducible refine Grew.alloc ?_ _) | (with_reducible refine Grew.drew ?_) | (with_reducible refine Grew.drewN ?_ _) | (with_reducible refine Grew.setCell ?_ ?_ _) | (simp; done) | (simp; omega)))) hg6)
             | (go_at_call 79; refine (refMeets_any (b0, b1, b2, b3) (min fx tx, min fy ty, max fx tx, max fy ty) _).mono ?_; rintro e w7 ⟨rfl, hg7⟩; rw [show mB (b0, b1, b2, b3) (min fx tx, min fy ty, max fx tx, max fy ty) = r3 from hmm]; replace hg7 := Grew.trans (show Grew w4 _ by (repeat' (first | (with_reducible assumption) | (with_reducible exact Grew.refl _) | (with_reducible refine Grew.alloc ?_ _) | (with_reducible refine Grew.drew ?_) | (with_reducible refine Grew.drewN ?_ _) | (with_reducible refine Grew.setCell ?_ ?_ _) | (simp; done) | (simp; omega)))) hg7))
    all_goals
      go_wp2_with fail
      go_meet
      exact ⟨rfl, by (repeat' (first | (with_reducible assumption) | (with_reducible exact Grew.refl _) | (with_reducible refine Grew.alloc ?_ _) | (with_reducible refine Grew.drew ?_) | (with_reducible refine Grew.drewN ?_ _) | (with_reducible refine Grew.setCell ?_ ?_ _) | (simp; done) | (simp; omega)))⟩
  obtain ⟨hs33, hgc⟩ := hcut
  subst hs33
  have hgF := HG14.out.trans hgc
  have hwF := hg1.trans hgF
  obtain ⟨c0, c1, c2, c3, d0, d1, e0, e1⟩ := HF.out wc hgF
  clear hgc hw4 hmm hg14
  cases r3
  · go_wp2_with fail
    go_ret
    refine ⟨ret_bool ?_, hwF⟩
    rw [HAL.out]
    rfl
  have hcf : fairB b0 b1 = true ∧ fairB b2 b3 = true := by
    have hck := HRC.out
    unfold chk at hck
    split at hck
    · rename_i h; simpa using h
    · cases hck
  have q1 := of_decide_eq_true hcf.1
  have q2 := of_decide_eq_true hcf.2
  have g0 : fairB b0 b1 = true := hcf.1
  have g1 : fairB b2 b1 = true := fairB_mk (by omega)
  have g2 : fairB b2 b3 = true := hcf.2
  have g3 : fairB b0 b3 = true := fairB_mk (by omega)
  obtain ⟨t0, ht0⟩ : ∃ t, turnL fx fy tx ty b0 b1 = t := ⟨_, rfl⟩
  obtain ⟨t1, ht1⟩ : ∃ t, turnL fx fy tx ty b2 b1 = t := ⟨_, rfl⟩
  obtain ⟨t2, ht2⟩ : ∃ t, turnL fx fy tx ty b2 b3 = t := ⟨_, rfl⟩
  obtain ⟨t3, ht3⟩ : ∃ t, turnL fx fy tx ty b0 b3 = t := ⟨_, rfl⟩
  have hlc := low_cnt (b0, b1, b2, b3) fx fy tx ty t0 t1 t2 t3 ht0 ht1 ht2 ht3
  rw [HLO.out, HHI.out] at hlc
  have HLC := Lib.hid hlc
  have S0 := fun W => side_any fx fy tx ty b0 b1 W H1.out H2.out g0
  have S1 := fun W => side_any fx fy tx ty b2 b1 W H1.out H2.out g1
  have S2 := fun W => side_any fx fy tx ty b2 b3 W H1.out H2.out g2
  have S3 := fun W => side_any fx fy tx ty b0 b3 W H1.out H2.out g3
  rw [ht0] at S0
  rw [ht1] at S1
  rw [ht2] at S2
  rw [ht3] at S3
  have HS0 := Lib.hid S0
  have HS1 := Lib.hid S1
  have HS2 := Lib.hid S2
  have HS3 := Lib.hid S3
  clear S0 S1 S2 S3 hlc ht0 ht1 ht2 ht3 g0 g1 g2 g3 q1 q2 hcf
  obtain ⟨Lb, hLb⟩ : ∃ Lb, wc.heap.size = Lb := ⟨_, rfl⟩
  obtain ⟨w9, hw9e⟩ : ∃ w9, wc.alloc (.cells #[.int .i64 b0, .int .i64 b1, .int .i64 b2, .int .i64 b1, .int .i64 b2, .int .i64 b3, .int .i64 b0, .int .i64 b3] 29) = w9 := ⟨_, rfl⟩
  have hg9 : Grew wc w9 := by rw [← hw9e]; (repeat' (first | (with_reducible assumption) | (with_reducible exact Grew.refl _) | (with_reducible refine Grew.alloc ?_ _) | (with_reducible refine Grew.drew ?_) | (with_reducible refine Grew.drewN ?_ _) | (with_reducible refine Grew.setCell ?_ ?_ _) | (simp; done) | (simp; omega)))
  have HL9 : Aside (w9.cell? ⟨Lb, 0, none⟩ = some (.int .i64 b0) ∧ w9.cell? ⟨Lb, 1, none⟩ = some (.int .i64 b1) ∧ w9.cell? ⟨Lb, 2, none⟩ = some (.int .i64 b2) ∧ w9.cell? ⟨Lb, 3, none⟩ = some (.int .i64 b1) ∧
    w9.cell? ⟨Lb, 4, none⟩ = some (.int .i64 b2) ∧ w9.cell? ⟨Lb, 5, none⟩ = some (.int .i64 b3) ∧ w9.cell? ⟨Lb, 6, none⟩ = some (.int .i64 b0) ∧ w9.cell? ⟨Lb, 7, none⟩ = some (.int .i64 b3)) := by
    refine ⟨?_, ?_, ?_, ?_, ?_, ?_, ?_, ?_⟩
    all_goals (rw [← hw9e, ← hLb]; simp [go_sem])
  have HG9 := Lib.hid (hgF.trans hg9)
  have HW9 := Lib.hid (hwF.trans hg9)
  go_wp2_with fail
  clear c0 c1 c2 c3 d0 d1 e0 e1 hg9 hgF hwF hw9e hLb
  go_loopg [8, 9, 10] 4 (fun gg s8 s9 s10 wr => ∃ j p m : Nat, j ≤ 4 ∧ 4 - j ≤ gg ∧ s8 = .int .i64 p ∧ s9 = .int .i64 m ∧ s10 = .int .i64 j ∧ p ≤ j ∧ m ≤ j ∧ Grew w9 wr ∧ Aside (cntP ([t0, t1, t2, t3].take j) = p ∧ cntM ([t0, t1, t2, t3].take j) = m))
  case atStart => exact ⟨0, 0, 0, by omega, by omega, rfl, rfl, rfl, by omega, by omega, by (repeat' (first | (with_reducible assumption) | (with_reducible exact Grew.refl _) | (with_reducible refine Grew.alloc ?_ _) | (with_reducible refine Grew.drew ?_) | (with_reducible refine Grew.drewN ?_ _) | (with_reducible refine Grew.setCell ?_ ?_ _) | (simp; done) | (simp; omega))), rfl, rfl⟩
  case round =>
    obtain ⟨j, p, m, hj, hgg, rfl, rfl, rfl, hp, hm, hgw, A⟩ := hrel
    have hj5 := Lib.hid (show j = 0 ∨ j = 1 ∨ j = 2 ∨ j = 3 ∨ j = 4 by omega)
    rcases hj5.out with rfl | rfl | rfl | rfl | rfl
    · have k0 := hgw.cell' HL9.out.1
      have k1 := hgw.cell' HL9.out.2.1
      have hgx := HG9.out.trans hgw
      have HX : Aside (∀ W, Grew wr W → (W.cell? ⟨B + 1, 0, none⟩ = some (.int .i64 fx) ∧ W.cell? ⟨B + 1, 1, none⟩ = some (.int .i64 fy) ∧ W.cell? ⟨B + 1 + 1, 0, none⟩ = some (.int .i64 tx) ∧ W.cell? ⟨B + 1 + 1, 1, none⟩ = some (.int .i64 ty) ∧ W.cell? ⟨Lb, 0, none⟩ = some (.int .i64 b0) ∧ W.cell? ⟨Lb, 1, none⟩ = some (.int .i64 b1))) := fun W g => by
        obtain ⟨-, -, -, -, q0, q1, q2, q3⟩ := HF.out W (hgx.trans g)
        exact ⟨q0, q1, q2, q3, g.cell' k0, g.cell' k1⟩
      obtain ⟨q0, q1, q2, q3, k0, k1⟩ := HX.out wr (Grew.refl _)
      have hP := cntP_snoc ([t0, t1, t2, t3].take 0) t0
      have hM := cntM_snoc ([t0, t1, t2, t3].take 0) t0
      rw [A.out.1] at hP
      rw [A.out.2] at hM
      have HP := Lib.hid hP
      have HM := Lib.hid hM
      clear hP hM hgx
      go_wp2_with fail
      go_cut [11] from 61 to 67 (fun s11 wx => s11 = .int .i64 (sgn t0) ∧ Grew wr wx)
      case first =>
        go_region_held3 (fun W => W.cell? ⟨B + 1, 0, none⟩ = some (.int .i64 fx) ∧ W.cell? ⟨B + 1, 1, none⟩ = some (.int .i64 fy) ∧ W.cell? ⟨B + 1 + 1, 0, none⟩ = some (.int .i64 tx) ∧ W.cell? ⟨B + 1 + 1, 1, none⟩ = some (.int .i64 ty) ∧ W.cell? ⟨Lb, 0, none⟩ = some (.int .i64 b0) ∧ W.cell? ⟨Lb, 1, none⟩ = some (.int .i64 b1))
          ((refine HX.out _ ?_; (repeat' (first | (with_reducible assumption) | (with_reducible exact Grew.refl _) | (with_reducible refine Grew.alloc ?_ _) | (with_reducible refine Grew.drew ?_) | (with_reducible refine Grew.drewN ?_ _) | (with_reducible refine Grew.setCell ?_ ?_ _) | (simp; done) | (simp; omega))); done))
          (first | (go_at_call 112; refine (HS0.out _).mono ?_; rintro e w10 ⟨rfl, hg10⟩; replace hg10 := Grew.trans (show Grew wr _ by (repeat' (first | (with_reducible assumption) | (with_reducible exact Grew.refl _) | (with_reducible refine Grew.alloc ?_ _) | (with_reducible refine Grew.drew ?_) | (with_reducible refine Grew.drewN ?_ _) | (with_reducible refine Grew.setCell ?_ ?_ _) | (simp; done) | (simp; omega)))) hg10))
        all_goals
          go_wp2_with fail
          go_meet
          exact ⟨rfl, by (repeat' (first | (with_reducible assumption) | (with_reducible exact Grew.refl _) | (with_reducible refine Grew.alloc ?_ _) | (with_reducible refine Grew.drew ?_) | (with_reducible refine Grew.drewN ?_ _) | (with_reducible refine Grew.setCell ?_ ?_ _) | (simp; done) | (simp; omega)))⟩
      obtain ⟨hs11, hgc2⟩ := hcut
      subst hs11
      have hgn := hgw.trans hgc2
      clear q0 q1 q2 q3 k0 k1 HX hgc2
      have htri : Aside ((sgn t0 = 1 ∧ 0 < t0) ∨ (sgn t0 = -1 ∧ t0 < 0) ∨ (sgn t0 = 0 ∧ t0 = 0)) := by
        show _ ∨ _ ∨ _
        unfold sgn
        by_cases u1 : 0 < t0
        · exact .inl ⟨if_pos u1, u1⟩
        · by_cases u2 : t0 < 0
          · exact .inr (.inl ⟨by rw [if_neg u1, if_pos u2], u2⟩)
          · exact .inr (.inr ⟨by rw [if_neg u1, if_neg u2], by omega⟩)
      generalize sgn t0 = sg at htri
      rcases htri.out with ⟨rfl, u⟩ | ⟨rfl, u⟩ | ⟨rfl, u⟩
      · have hp1 : cntP ([t0, t1, t2, t3].take (0 + 1)) = p + 1 := by rw [show [t0, t1, t2, t3].take (0 + 1) = [t0, t1, t2, t3].take 0 ++ [t0] from rfl, HP.out, if_pos u]
        have hm1 : cntM ([t0, t1, t2, t3].take (0 + 1)) = m := by rw [show [t0, t1, t2, t3].take (0 + 1) = [t0, t1, t2, t3].take 0 ++ [t0] from rfl, HM.out, if_neg (by omega)]; rfl
        have HPM := Lib.hid (And.intro hp1 hm1)
        clear u hp1 hm1 htri
        go_wp2_with fail
        go_roundg (4 - (0 + 1))
        case measure => omega
        case rel => exact ⟨0 + 1, p + 1, m, by omega, by omega, by go_num, rfl, by go_num, by omega, by omega, hgn, HPM.out⟩
      · have hp1 : cntP ([t0, t1, t2, t3].take (0 + 1)) = p := by rw [show [t0, t1, t2, t3].take (0 + 1) = [t0, t1, t2, t3].take 0 ++ [t0] from rfl, HP.out, if_neg (by omega)]; rfl
        have hm1 : cntM ([t0, t1, t2, t3].take (0 + 1)) = m + 1 := by rw [show [t0, t1, t2, t3].take (0 + 1) = [t0, t1, t2, t3].take 0 ++ [t0] from rfl, HM.out, if_pos u]
        have HPM := Lib.hid (And.intro hp1 hm1)
        clear u hp1 hm1 htri
        go_wp2_with fail
        go_roundg (4 - (0 + 1))
        case measure => omega
        case rel => exact ⟨0 + 1, p, m + 1, by omega, by omega, rfl, by go_num, by go_num, by omega, by omega, hgn, HPM.out⟩
      · have hp1 : cntP ([t0, t1, t2, t3].take (0 + 1)) = p := by rw [show [t0, t1, t2, t3].take (0 + 1) = [t0, t1, t2, t3].take 0 ++ [t0] from rfl, HP.out, if_neg (by omega)]; rfl
        have hm1 : cntM ([t0, t1, t2, t3].take (0 + 1)) = m := by rw [show [t0, t1, t2, t3].take (0 + 1) = [t0, t1, t2, t3].take 0 ++ [t0] from rfl, HM.out, if_neg (by omega)]; rfl
        have HPM := Lib.hid (And.intro hp1 hm1)
        clear u hp1 hm1 htri
        go_wp2_with fail
        go_roundg (4 - (0 + 1))
        case measure => omega
        case rel => exact ⟨0 + 1, p, m, by omega, by omega, rfl, rfl, by go_num, by omega, by omega, hgn, HPM.out⟩
    · have k0 := hgw.cell' HL9.out.2.2.1
      have k1 := hgw.cell' HL9.out.2.2.2.1
      have hgx := HG9.out.trans hgw
      have HX : Aside (∀ W, Grew wr W → (W.cell? ⟨B + 1, 0, none⟩ = some (.int .i64 fx) ∧ W.cell? ⟨B + 1, 1, none⟩ = some (.int .i64 fy) ∧ W.cell? ⟨B + 1 + 1, 0, none⟩ = some (.int .i64 tx) ∧ W.cell? ⟨B + 1 + 1, 1, none⟩ = some (.int .i64 ty) ∧ W.cell? ⟨Lb, 2, none⟩ = some (.int .i64 b2) ∧ W.cell? ⟨Lb, 3, none⟩ = some (.int .i64 b1))) := fun W g => by
        obtain ⟨-, -, -, -, q0, q1, q2, q3⟩ := HF.out W (hgx.trans g)
        exact ⟨q0, q1, q2, q3, g.cell' k0, g.cell' k1⟩
      obtain ⟨q0, q1, q2, q3, k0, k1⟩ := HX.out wr (Grew.refl _)
      have hP := cntP_snoc ([t0, t1, t2, t3].take 1) t1
      have hM := cntM_snoc ([t0, t1, t2, t3].take 1) t1
      rw [A.out.1] at hP
      rw [A.out.2] at hM
      have HP := Lib.hid hP
      have HM := Lib.hid hM
      clear hP hM hgx
      go_wp2_with fail
      go_cut [11] from 61 to 67 (fun s11 wx => s11 = .int .i64 (sgn t1) ∧ Grew wr wx)
      case first =>
        go_region_held3 (fun W => W.cell? ⟨B + 1, 0, none⟩ = some (.int .i64 fx) ∧ W.cell? ⟨B + 1, 1, none⟩ = some (.int .i64 fy) ∧ W.cell? ⟨B + 1 + 1, 0, none⟩ = some (.int .i64 tx) ∧ W.cell? ⟨B + 1 + 1, 1, none⟩ = some (.int .i64 ty) ∧ W.cell? ⟨Lb, 2, none⟩ = some (.int .i64 b2) ∧ W.cell? ⟨Lb, 3, none⟩ = some (.int .i64 b1))
          ((refine HX.out _ ?_; (repeat' (first | (with_reducible assumption) | (with_reducible exact Grew.refl _) | (with_reducible refine Grew.alloc ?_ _) | (with_reducible refine Grew.drew ?_) | (with_reducible refine Grew.drewN ?_ _) | (with_reducible refine Grew.setCell ?_ ?_ _) | (simp; done) | (simp; omega))); done))
          (first | (go_at_call 112; refine (HS1.out _).mono ?_; rintro e w10 ⟨rfl, hg10⟩; replace hg10 := Grew.trans (show Grew wr _ by (repeat' (first | (with_reducible assumption) | (with_reducible exact Grew.refl _) | (with_reducible refine Grew.alloc ?_ _) | (with_reducible refine Grew.drew ?_) | (with_reducible refine Grew.drewN ?_ _) | (with_reducible refine Grew.setCell ?_ ?_ _) | (simp; done) | (simp; omega)))) hg10))
        all_goals
          go_wp2_with fail
          go_meet
          exact ⟨rfl, by (repeat' (first | (with_reducible assumption) | (with_reducible exact Grew.refl _) | (with_reducible refine Grew.alloc ?_ _) | (with_reducible refine Grew.drew ?_) | (with_reducible refine Grew.drewN ?_ _) | (with_reducible refine Grew.setCell ?_ ?_ _) | (simp; done) | (simp; omega)))⟩
      obtain ⟨hs11, hgc2⟩ := hcut
      subst hs11
      have hgn := hgw.trans hgc2
      clear q0 q1 q2 q3 k0 k1 HX hgc2
      have htri : Aside ((sgn t1 = 1 ∧ 0 < t1) ∨ (sgn t1 = -1 ∧ t1 < 0) ∨ (sgn t1 = 0 ∧ t1 = 0)) := by
        show _ ∨ _ ∨ _
        unfold sgn
        by_cases u1 : 0 < t1
        · exact .inl ⟨if_pos u1, u1⟩
        · by_cases u2 : t1 < 0
          · exact .inr (.inl ⟨by rw [if_neg u1, if_pos u2], u2⟩)
          · exact .inr (.inr ⟨by rw [if_neg u1, if_neg u2], by omega⟩)
      generalize sgn t1 = sg at htri
      rcases htri.out with ⟨rfl, u⟩ | ⟨rfl, u⟩ | ⟨rfl, u⟩
      · have hp1 : cntP ([t0, t1, t2, t3].take (1 + 1)) = p + 1 := by rw [show [t0, t1, t2, t3].take (1 + 1) = [t0, t1, t2, t3].take 1 ++ [t1] from rfl, HP.out, if_pos u]
        have hm1 : cntM ([t0, t1, t2, t3].take (1 + 1)) = m := by rw [show [t0, t1, t2, t3].take (1 + 1) = [t0, t1, t2, t3].take 1 ++ [t1] from rfl, HM.out, if_neg (by omega)]; rfl
        have HPM := Lib.hid (And.intro hp1 hm1)
        clear u hp1 hm1 htri
        go_wp2_with fail
        go_roundg (4 - (1 + 1))
        case measure => omega
        case rel => exact ⟨1 + 1, p + 1, m, by omega, by omega, by go_num, rfl, by go_num, by omega, by omega, hgn, HPM.out⟩
      · have hp1 : cntP ([t0, t1, t2, t3].take (1 + 1)) = p := by rw [show [t0, t1, t2, t3].take (1 + 1) = [t0, t1, t2, t3].take 1 ++ [t1] from rfl, HP.out, if_neg (by omega)]; rfl
        have hm1 : cntM ([t0, t1, t2, t3].take (1 + 1)) = m + 1 := by rw [show [t0, t1, t2, t3].take (1 + 1) = [t0, t1, t2, t3].take 1 ++ [t1] from rfl, HM.out, if_pos u]
        have HPM := Lib.hid (And.intro hp1 hm1)
        clear u hp1 hm1 htri
        go_wp2_with fail
        go_roundg (4 - (1 + 1))
        case measure => omega
        case rel => exact ⟨1 + 1, p, m + 1, by omega, by omega, rfl, by go_num, by go_num, by omega, by omega, hgn, HPM.out⟩
      · have hp1 : cntP ([t0, t1, t2, t3].take (1 + 1)) = p := by rw [show [t0, t1, t2, t3].take (1 + 1) = [t0, t1, t2, t3].take 1 ++ [t1] from rfl, HP.out, if_neg (by omega)]; rfl
        have hm1 : cntM ([t0, t1, t2, t3].take (1 + 1)) = m := by rw [show [t0, t1, t2, t3].take (1 + 1) = [t0, t1, t2, t3].take 1 ++ [t1] from rfl, HM.out, if_neg (by omega)]; rfl
        have HPM := Lib.hid (And.intro hp1 hm1)
        clear u hp1 hm1 htri
        go_wp2_with fail
        go_roundg (4 - (1 + 1))
        case measure => omega
        case rel => exact ⟨1 + 1, p, m, by omega, by omega, rfl, rfl, by go_num, by omega, by omega, hgn, HPM.out⟩
    · have k0 := hgw.cell' HL9.out.2.2.2.2.1
      have k1 := hgw.cell' HL9.out.2.2.2.2.2.1
      have hgx := HG9.out.trans hgw
      have HX : Aside (∀ W, Grew wr W → (W.cell? ⟨B + 1, 0, none⟩ = some (.int .i64 fx) ∧ W.cell? ⟨B + 1, 1, none⟩ = some (.int .i64 fy) ∧ W.cell? ⟨B + 1 + 1, 0, none⟩ = some (.int .i64 tx) ∧ W.cell? ⟨B + 1 + 1, 1, none⟩ = some (.int .i64 ty) ∧ W.cell? ⟨Lb, 4, none⟩ = some (.int .i64 b2) ∧ W.cell? ⟨Lb, 5, none⟩ = some (.int .i64 b3))) := fun W g => by
        obtain ⟨-, -, -, -, q0, q1, q2, q3⟩ := HF.out W (hgx.trans g)
        exact ⟨q0, q1, q2, q3, g.cell' k0, g.cell' k1⟩
      obtain ⟨q0, q1, q2, q3, k0, k1⟩ := HX.out wr (Grew.refl _)
      have hP := cntP_snoc ([t0, t1, t2, t3].take 2) t2
      have hM := cntM_snoc ([t0, t1, t2, t3].take 2) t2
      rw [A.out.1] at hP
      rw [A.out.2] at hM
      have HP := Lib.hid hP
      have HM := Lib.hid hM
      clear hP hM hgx
      go_wp2_with fail
      go_cut [11] from 61 to 67 (fun s11 wx => s11 = .int .i64 (sgn t2) ∧ Grew wr wx)
      case first =>
        go_region_held3 (fun W => W.cell? ⟨B + 1, 0, none⟩ = some (.int .i64 fx) ∧ W.cell? ⟨B + 1, 1, none⟩ = some (.int .i64 fy) ∧ W.cell? ⟨B + 1 + 1, 0, none⟩ = some (.int .i64 tx) ∧ W.cell? ⟨B + 1 + 1, 1, none⟩ = some (.int .i64 ty) ∧ W.cell? ⟨Lb, 4, none⟩ = some (.int .i64 b2) ∧ W.cell? ⟨Lb, 5, none⟩ = some (.int .i64 b3))
          ((refine HX.out _ ?_; (repeat' (first | (with_reducible assumption) | (with_reducible exact Grew.refl _) | (with_reducible refine Grew.alloc ?_ _) | (with_reducible refine Grew.drew ?_) | (with_reducible refine Grew.drewN ?_ _) | (with_reducible refine Grew.setCell ?_ ?_ _) | (simp; done) | (simp; omega))); done))
          (first | (go_at_call 112; refine (HS2.out _).mono ?_; rintro e w10 ⟨rfl, hg10⟩; replace hg10 := Grew.trans (show Grew wr _ by (repeat' (first | (with_reducible assumption) | (with_reducible exact Grew.refl _) | (with_reducible refine Grew.alloc ?_ _) | (with_reducible refine Grew.drew ?_) | (with_reducible refine Grew.drewN ?_ _) | (with_reducible refine Grew.setCell ?_ ?_ _) | (simp; done) | (simp; omega)))) hg10))
        all_goals
          go_wp2_with fail
          go_meet
          exact ⟨rfl, by (repeat' (first | (with_reducible assumption) | (with_reducible exact Grew.refl _) | (with_reducible refine Grew.alloc ?_ _) | (with_reducible refine Grew.drew ?_) | (with_reducible refine Grew.drewN ?_ _) | (with_reducible refine Grew.setCell ?_ ?_ _) | (simp; done) | (simp; omega)))⟩
      obtain ⟨hs11, hgc2⟩ := hcut
      subst hs11
      have hgn := hgw.trans hgc2
      clear q0 q1 q2 q3 k0 k1 HX hgc2
      have htri : Aside ((sgn t2 = 1 ∧ 0 < t2) ∨ (sgn t2 = -1 ∧ t2 < 0) ∨ (sgn t2 = 0 ∧ t2 = 0)) := by
        show _ ∨ _ ∨ _
        unfold sgn
        by_cases u1 : 0 < t2
        · exact .inl ⟨if_pos u1, u1⟩
        · by_cases u2 : t2 < 0
          · exact .inr (.inl ⟨by rw [if_neg u1, if_pos u2], u2⟩)
          · exact .inr (.inr ⟨by rw [if_neg u1, if_neg u2], by omega⟩)
      generalize sgn t2 = sg at htri
      rcases htri.out with ⟨rfl, u⟩ | ⟨rfl, u⟩ | ⟨rfl, u⟩
      · have hp1 : cntP ([t0, t1, t2, t3].take (2 + 1)) = p + 1 := by rw [show [t0, t1, t2, t3].take (2 + 1) = [t0, t1, t2, t3].take 2 ++ [t2] from rfl, HP.out, if_pos u]
        have hm1 : cntM ([t0, t1, t2, t3].take (2 + 1)) = m := by rw [show [t0, t1, t2, t3].take (2 + 1) = [t0, t1, t2, t3].take 2 ++ [t2] from rfl, HM.out, if_neg (by omega)]; rfl
        have HPM := Lib.hid (And.intro hp1 hm1)
        clear u hp1 hm1 htri
        go_wp2_with fail
        go_roundg (4 - (2 + 1))
        case measure => omega
        case rel => exact ⟨2 + 1, p + 1, m, by omega, by omega, by go_num, rfl, by go_num, by omega, by omega, hgn, HPM.out⟩
      · have hp1 : cntP ([t0, t1, t2, t3].take (2 + 1)) = p := by rw [show [t0, t1, t2, t3].take (2 + 1) = [t0, t1, t2, t3].take 2 ++ [t2] from rfl, HP.out, if_neg (by omega)]; rfl
        have hm1 : cntM ([t0, t1, t2, t3].take (2 + 1)) = m + 1 := by rw [show [t0, t1, t2, t3].take (2 + 1) = [t0, t1, t2, t3].take 2 ++ [t2] from rfl, HM.out, if_pos u]
        have HPM := Lib.hid (And.intro hp1 hm1)
        clear u hp1 hm1 htri
        go_wp2_with fail
        go_roundg (4 - (2 + 1))
        case measure => omega
        case rel => exact ⟨2 + 1, p, m + 1, by omega, by omega, rfl, by go_num, by go_num, by omega, by omega, hgn, HPM.out⟩
      · have hp1 : cntP ([t0, t1, t2, t3].take (2 + 1)) = p := by rw [show [t0, t1, t2, t3].take (2 + 1) = [t0, t1, t2, t3].take 2 ++ [t2] from rfl, HP.out, if_neg (by omega)]; rfl
        have hm1 : cntM ([t0, t1, t2, t3].take (2 + 1)) = m := by rw [show [t0, t1, t2, t3].take (2 + 1) = [t0, t1, t2, t3].take 2 ++ [t2] from rfl, HM.out, if_neg (by omega)]; rfl
        have HPM := Lib.hid (And.intro hp1 hm1)
        clear u hp1 hm1 htri
        go_wp2_with fail
        go_roundg (4 - (2 + 1))
        case measure => omega
        case rel => exact ⟨2 + 1, p, m, by omega, by omega, rfl, rfl, by go_num, by omega, by omega, hgn, HPM.out⟩
    · have k0 := hgw.cell' HL9.out.2.2.2.2.2.2.1
      have k1 := hgw.cell' HL9.out.2.2.2.2.2.2.2
      have hgx := HG9.out.trans hgw
      have HX : Aside (∀ W, Grew wr W → (W.cell? ⟨B + 1, 0, none⟩ = some (.int .i64 fx) ∧ W.cell? ⟨B + 1, 1, none⟩ = some (.int .i64 fy) ∧ W.cell? ⟨B + 1 + 1, 0, none⟩ = some (.int .i64 tx) ∧ W.cell? ⟨B + 1 + 1, 1, none⟩ = some (.int .i64 ty) ∧ W.cell? ⟨Lb, 6, none⟩ = some (.int .i64 b0) ∧ W.cell? ⟨Lb, 7, none⟩ = some (.int .i64 b3))) := fun W g => by
        obtain ⟨-, -, -, -, q0, q1, q2, q3⟩ := HF.out W (hgx.trans g)
        exact ⟨q0, q1, q2, q3, g.cell' k0, g.cell' k1⟩
      obtain ⟨q0, q1, q2, q3, k0, k1⟩ := HX.out wr (Grew.refl _)
      have hP := cntP_snoc ([t0, t1, t2, t3].take 3) t3
      have hM := cntM_snoc ([t0, t1, t2, t3].take 3) t3
      rw [A.out.1] at hP
      rw [A.out.2] at hM
      have HP := Lib.hid hP
      have HM := Lib.hid hM
      clear hP hM hgx
      go_wp2_with fail
      go_cut [11] from 61 to 67 (fun s11 wx => s11 = .int .i64 (sgn t3) ∧ Grew wr wx)
      case first =>
        go_region_held3 (fun W => W.cell? ⟨B + 1, 0, none⟩ = some (.int .i64 fx) ∧ W.cell? ⟨B + 1, 1, none⟩ = some (.int .i64 fy) ∧ W.cell? ⟨B + 1 + 1, 0, none⟩ = some (.int .i64 tx) ∧ W.cell? ⟨B + 1 + 1, 1, none⟩ = some (.int .i64 ty) ∧ W.cell? ⟨Lb, 6, none⟩ = some (.int .i64 b0) ∧ W.cell? ⟨Lb, 7, none⟩ = some (.int .i64 b3))
          ((refine HX.out _ ?_; (repeat' (first | (with_reducible assumption) | (with_reducible exact Grew.refl _) | (with_reducible refine Grew.alloc ?_ _) | (with_reducible refine Grew.drew ?_) | (with_reducible refine Grew.drewN ?_ _) | (with_reducible refine Grew.setCell ?_ ?_ _) | (simp; done) | (simp; omega))); done))
          (first | (go_at_call 112; refine (HS3.out _).mono ?_; rintro e w10 ⟨rfl, hg10⟩; replace hg10 := Grew.trans (show Grew wr _ by (repeat' (first | (with_reducible assumption) | (with_reducible exact Grew.refl _) | (with_reducible refine Grew.alloc ?_ _) | (with_reducible refine Grew.drew ?_) | (with_reducible refine Grew.drewN ?_ _) | (with_reducible refine Grew.setCell ?_ ?_ _) | (simp; done) | (simp; omega)))) hg10))
        all_goals
          go_wp2_with fail
          go_meet
          exact ⟨rfl, by (repeat' (first | (with_reducible assumption) | (with_reducible exact Grew.refl _) | (with_reducible refine Grew.alloc ?_ _) | (with_reducible refine Grew.drew ?_) | (with_reducible refine Grew.drewN ?_ _) | (with_reducible refine Grew.setCell ?_ ?_ _) | (simp; done) | (simp; omega)))⟩
      obtain ⟨hs11, hgc2⟩ := hcut
      subst hs11
      have hgn := hgw.trans hgc2
      clear q0 q1 q2 q3 k0 k1 HX hgc2
      have htri : Aside ((sgn t3 = 1 ∧ 0 < t3) ∨ (sgn t3 = -1 ∧ t3 < 0) ∨ (sgn t3 = 0 ∧ t3 = 0)) := by
        show _ ∨ _ ∨ _
        unfold sgn
        by_cases u1 : 0 < t3
        · exact .inl ⟨if_pos u1, u1⟩
        · by_cases u2 : t3 < 0
          · exact .inr (.inl ⟨by rw [if_neg u1, if_pos u2], u2⟩)
          · exact .inr (.inr ⟨by rw [if_neg u1, if_neg u2], by omega⟩)
      generalize sgn t3 = sg at htri
      rcases htri.out with ⟨rfl, u⟩ | ⟨rfl, u⟩ | ⟨rfl, u⟩
      · have hp1 : cntP ([t0, t1, t2, t3].take (3 + 1)) = p + 1 := by rw [show [t0, t1, t2, t3].take (3 + 1) = [t0, t1, t2, t3].take 3 ++ [t3] from rfl, HP.out, if_pos u]
        have hm1 : cntM ([t0, t1, t2, t3].take (3 + 1)) = m := by rw [show [t0, t1, t2, t3].take (3 + 1) = [t0, t1, t2, t3].take 3 ++ [t3] from rfl, HM.out, if_neg (by omega)]; rfl
        have HPM := Lib.hid (And.intro hp1 hm1)
        clear u hp1 hm1 htri
        go_wp2_with fail
        go_roundg (4 - (3 + 1))
        case measure => omega
        case rel => exact ⟨3 + 1, p + 1, m, by omega, by omega, by go_num, rfl, by go_num, by omega, by omega, hgn, HPM.out⟩
      · have hp1 : cntP ([t0, t1, t2, t3].take (3 + 1)) = p := by rw [show [t0, t1, t2, t3].take (3 + 1) = [t0, t1, t2, t3].take 3 ++ [t3] from rfl, HP.out, if_neg (by omega)]; rfl
        have hm1 : cntM ([t0, t1, t2, t3].take (3 + 1)) = m + 1 := by rw [show [t0, t1, t2, t3].take (3 + 1) = [t0, t1, t2, t3].take 3 ++ [t3] from rfl, HM.out, if_pos u]
        have HPM := Lib.hid (And.intro hp1 hm1)
        clear u hp1 hm1 htri
        go_wp2_with fail
        go_roundg (4 - (3 + 1))
        case measure => omega
        case rel => exact ⟨3 + 1, p, m + 1, by omega, by omega, rfl, by go_num, by go_num, by omega, by omega, hgn, HPM.out⟩
      · have hp1 : cntP ([t0, t1, t2, t3].take (3 + 1)) = p := by rw [show [t0, t1, t2, t3].take (3 + 1) = [t0, t1, t2, t3].take 3 ++ [t3] from rfl, HP.out, if_neg (by omega)]; rfl
        have hm1 : cntM ([t0, t1, t2, t3].take (3 + 1)) = m := by rw [show [t0, t1, t2, t3].take (3 + 1) = [t0, t1, t2, t3].take 3 ++ [t3] from rfl, HM.out, if_neg (by omega)]; rfl
        have HPM := Lib.hid (And.intro hp1 hm1)
        clear u hp1 hm1 htri
        go_wp2_with fail
        go_roundg (4 - (3 + 1))
        case measure => omega
        case rel => exact ⟨3 + 1, p, m, by omega, by omega, rfl, rfl, by go_num, by omega, by omega, hgn, HPM.out⟩
    · have hfin : al = (decide (p < 4) && decide (m < 4)) := by
        rw [HAL.out, HLC.out.1, HLC.out.2, show cntP [t0, t1, t2, t3] = p from A.out.1, show cntM [t0, t1, t2, t3] = m from A.out.2]
        rfl
      have HFin := Lib.hid hfin
      clear hfin
      by_cases hp4 : (p : Int) < 4
      · by_cases hm4 : (m : Int) < 4
        · go_wp2_with fail
          go_ret
          refine ⟨ret_bool ?_, HW9.out.trans hgw⟩
          rw [HFin.out, decide_eq_true (show p < 4 by omega), decide_eq_true (show m < 4 by omega)]
          simp
          try omega
        · go_wp2_with fail
          go_ret
          refine ⟨ret_bool ?_, HW9.out.trans hgw⟩
          rw [HFin.out, decide_eq_false (show ¬ m < 4 by omega)]
          simp
          try omega
      · go_wp2_with fail
        go_ret
        refine ⟨ret_bool ?_, HW9.out.trans hgw⟩
        rw [HFin.out, decide_eq_false (show ¬ p < 4 by omega)]
        simp
        try omega

end Go.Proofs.YtcelamaiebjdaaaGreat

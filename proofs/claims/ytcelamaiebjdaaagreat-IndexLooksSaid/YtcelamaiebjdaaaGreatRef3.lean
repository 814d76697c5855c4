/- Contracts of the reference's functions on spots and boxes; what asked returns. -/
import Derived.Test.YtcelamaiebjdaaaGreatRefSw
namespace Go.Proofs.YtcelamaiebjdaaaGreat
open Go.RowKit Go.Maps Go.Sort Go.Shelf
attribute [local go_sem ↓] Go.wp_at_zero Go.wp_at_succ

set_option maxHeartbeats 400000 in
theorem valid3_any (x y : Int) (w : World) : Calls Tryz.prog 109 #[.agg #[.int .i64 x, .int .i64 y]] w fun e w' => e = .returned (.bool (fairB x y)) ∧ Grew w w' := by
  go_enter Tryz.func109, Tryz.ntmps109
  go_wp2_with fail
  all_goals
    go_ret
    refine ⟨ret_bool ?_, by (repeat' (first | (with_reducible assumption) | (with_reducible exact Grew.refl _) | (with_reducible refine Grew.alloc ?_ _) | (with_reducible refine Grew.drew ?_) | (with_reducible refine Grew.drewN ?_ _) | (with_reducible refine Grew.setCell ?_ ?_ _) | (simp; done) | (simp; omega)))⟩
    unfold fairB
    first
      | (symm; exact decide_eq_true (by omega))
      | (symm; exact decide_eq_false (by omega))
      | (rw [eq_comm, decide_eq_decide]; omega)

set_option maxHeartbeats 1000000 in
set_option maxRecDepth 100000 in
theorem refCheck_any (a b c d : Int) (w : World) : Calls Tryz.prog 78 #[.agg #[.int .i64 a, .int .i64 b, .int .i64 c, .int .i64 d]] w fun e w' => e = .returned (.int .i64 (chk a b c d)) ∧ Grew w w' := by
  obtain ⟨r1, h1⟩ : ∃ r, fairB a b = r := ⟨_, rfl⟩
  obtain ⟨r2, h2⟩ : ∃ r, fairB c d = r := ⟨_, rfl⟩
  have hk : chk a b c d = if (r1 && r2) = true then (if c < a ∨ d < b then 5 else 0) else 3 := by rw [← h1, ← h2]; rfl
  have H1 := Lib.hid h1
  have H2 := Lib.hid h2
  have HK := Lib.hid hk
  clear h1 h2 hk
  obtain ⟨B, hB⟩ : ∃ B, w.heap.size = B := ⟨_, rfl⟩
  go_enter Tryz.func78, Tryz.ntmps78
  go_wp2_with fail
  refine (valid3_any a b _).mono ?_
  rintro e w1 ⟨rfl, hg1⟩
  have k0 := hg1.cell' (b := B) (o := 0) (v := .int .i64 a) (by rw [← hB]; simp [go_sem])
  have k1 := hg1.cell' (b := B) (o := 1) (v := .int .i64 b) (by rw [← hB]; simp [go_sem])
  have k2 := hg1.cell' (b := B) (o := 2) (v := .int .i64 c) (by rw [← hB]; simp [go_sem])
  have k3 := hg1.cell' (b := B) (o := 3) (v := .int .i64 d) (by rw [← hB]; simp [go_sem])
  have hw1 : Grew w w1 := Grew.trans (by (repeat' (first | (with_reducible assumption) | (with_reducible exact Grew.refl _) | (with_reducible refine Grew.alloc ?_ _) | (with_reducible refine Grew.drew ?_) | (with_reducible refine Grew.drewN ?_ _) | (with_reducible refine Grew.setCell ?_ ?_ _) | (simp; done) | (simp; omega)))) hg1
  rw [H1.out]
  clear hg1 hB
  cases r1
  · go_wp2_with fail
    go_ret
    refine ⟨ret_int ?_, hw1⟩
    rw [HK.out]; rfl
  · go_wp2_with fail
    refine (valid3_any c d _).mono ?_
    rintro e w2 ⟨rfl, hg2⟩
    have k0 := hg2.cell' k0
    have k1 := hg2.cell' k1
    have k2 := hg2.cell' k2
    have k3 := hg2.cell' k3
    have hw2 := hw1.trans hg2
    rw [H2.out]
    clear hg2
    cases r2
    · go_wp2_with fail
      go_ret
      refine ⟨ret_int ?_, hw2⟩
      rw [HK.out]; rfl
    · go_wp2_with fail
      all_goals
        go_ret
        refine ⟨ret_int ?_, hw2⟩
        rw [HK.out, if_pos (show (true && true) = true from rfl)]
        first | (rw [if_pos (by omega)]) | (rw [if_neg (by omega)])

set_option maxHeartbeats 1000000 in
set_option maxRecDepth 100000 in
theorem refMeets_any (a b : Bx) (w : World) : Calls Tryz.prog 79 #[.agg #[.int .i64 a.1, .int .i64 a.2.1, .int .i64 a.2.2.1, .int .i64 a.2.2.2], .agg #[.int .i64 b.1, .int .i64 b.2.1, .int .i64 b.2.2.1, .int .i64 b.2.2.2]] w fun e w' => e = .returned (.bool (mB a b)) ∧ Grew w w' := by
  obtain ⟨a0, a1, a2, a3⟩ := a
  obtain ⟨b0, b1, b2, b3⟩ := b
  simp only
  obtain ⟨r1, h1⟩ : ∃ r, chk a0 a1 a2 a3 = r := ⟨_, rfl⟩
  obtain ⟨r2, h2⟩ : ∃ r, chk b0 b1 b2 b3 = r := ⟨_, rfl⟩
  have hl1 : r1 = 0 → a0 ≤ a2 ∧ a1 ≤ a3 := fun h => chk_le (h1.trans h)
  have hl2 : r2 = 0 → b0 ≤ b2 ∧ b1 ≤ b3 := fun h => chk_le (h2.trans h)
  have hk : mB (a0, a1, a2, a3) (b0, b1, b2, b3) = decide (r1 = 0 ∧ r2 = 0 ∧ max a0 b0 ≤ min a2 b2 ∧ max a1 b1 ≤ min a3 b3) := by rw [← h1, ← h2]; rfl
  have H1 := Lib.hid h1
  have H2 := Lib.hid h2
  have HK := Lib.hid hk
  have HL1 := Lib.hid hl1
  have HL2 := Lib.hid hl2
  clear h1 h2 hk hl1 hl2
  obtain ⟨B, hB⟩ : ∃ B, w.heap.size = B := ⟨_, rfl⟩
  go_enter Tryz.func79, Tryz.ntmps79
  go_wp2_with fail
  refine (refCheck_any a0 a1 a2 a3 _).mono ?_
  rintro e w1 ⟨rfl, hg1⟩
  have k0 := hg1.cell' (b := B) (o := 0) (v := .int .i64 a0) (by rw [← hB]; simp [go_sem])
  have k1 := hg1.cell' (b := B) (o := 1) (v := .int .i64 a1) (by rw [← hB]; simp [go_sem])
  have k2 := hg1.cell' (b := B) (o := 2) (v := .int .i64 a2) (by rw [← hB]; simp [go_sem])
  have k3 := hg1.cell' (b := B) (o := 3) (v := .int .i64 a3) (by rw [← hB]; simp [go_sem])
  have m0 := hg1.cell' (b := B + 1) (o := 0) (v := .int .i64 b0) (by rw [← hB]; simp [go_sem])
  have m1 := hg1.cell' (b := B + 1) (o := 1) (v := .int .i64 b1) (by rw [← hB]; simp [go_sem])
  have m2 := hg1.cell' (b := B + 1) (o := 2) (v := .int .i64 b2) (by rw [← hB]; simp [go_sem])
  have m3 := hg1.cell' (b := B + 1) (o := 3) (v := .int .i64 b3) (by rw [← hB]; simp [go_sem])
  have hw1 : Grew w w1 := Grew.trans (by (repeat' (first | (with_reducible assumption) | (with_reducible exact Grew.refl _) | (with_reducible refine Grew.alloc ?_ _) | (with_reducible refine Grew.drew ?_) | (with_reducible refine Grew.drewN ?_ _) | (with_reducible refine Grew.setCell ?_ ?_ _) | (simp; done) | (simp; omega)))) hg1
  rw [H1.out]
  clear hg1 hB
  by_cases e1 : r1 = 0
  case neg =>
    have e2 : (r1 == 0) = false := by simpa using e1
    go_wp2_with fail
    go_ret
    refine ⟨ret_bool ?_, hw1⟩
    rw [HK.out]
    exact (decide_eq_false (fun h => e1 h.1)).symm
  case pos =>
    have e2 : (r1 == 0) = true := by simpa using e1
    have hl1 := HL1.out e1
    go_wp2_with fail
    refine (refCheck_any b0 b1 b2 b3 _).mono ?_
    rintro e w2 ⟨rfl, hg2⟩
    have k0 := hg2.cell' k0
    have k1 := hg2.cell' k1
    have k2 := hg2.cell' k2
    have k3 := hg2.cell' k3
    have m0 := hg2.cell' m0
    have m1 := hg2.cell' m1
    have m2 := hg2.cell' m2
    have m3 := hg2.cell' m3
    have hw2 := hw1.trans hg2
    rw [H2.out]
    clear hg2
    by_cases e3 : r2 = 0
    case neg =>
      have e4 : (r2 == 0) = false := by simpa using e3
      go_wp2_with fail
      go_ret
      refine ⟨ret_bool ?_, hw2⟩
      rw [HK.out]
      exact (decide_eq_false (fun h => e3 h.2.1)).symm
    case pos =>
      have e4 : (r2 == 0) = true := by simpa using e3
      have hl2 := HL2.out e3
      go_wp2_with fail
      all_goals
        go_ret
        refine ⟨ret_bool ?_, hw2⟩
        rw [HK.out]
        clear k0 k1 k2 k3 m0 m1 m2 m3
        first
          | (symm; exact decide_eq_true (by omega))
          | (symm; exact decide_eq_false (by omega))
          | (rw [decide_eq_decide]; omega)

/-- What asked returns. -/
def askE (k : Int) (b : Bx) : Int := if idE k ≠ 0 then idE k else chk b.1 b.2.1 b.2.2.1 b.2.2.2
set_option maxHeartbeats 1000000 in
set_option maxRecDepth 100000 in
theorem asked_any (rb : Nat) (k : Int) (b : Bx) (w : World) (c0 : w.cell? ⟨rb, 0, none⟩ = some (.bool true)) :
    Calls Tryz.prog 103 #[.pointer (some ⟨rb, 0, none⟩), .int .i64 k, .agg #[.int .i64 b.1, .int .i64 b.2.1, .int .i64 b.2.2.1, .int .i64 b.2.2.2]] w fun e w' => e = .returned (.int .i64 (askE k b)) ∧ Grew w w' := by
  have hB := lt_of_cell c0
  obtain ⟨b0, b1, b2, b3⟩ := b
  simp only
  have hk : askE k (b0, b1, b2, b3) = if 0 ≤ k ∧ k ≤ 2147483647 then chk b0 b1 b2 b3 else 3 := by
    unfold askE idE
    split <;> simp
  have HK := Lib.hid hk
  clear hk
  go_enter Tryz.func103, Tryz.ntmps103
  go_wp2_with fail
  refine (swValid_any rb _ (by first | (simp [go_sem]; done) | (simp [*, go_sem]; done) | (go_cell; done))).mono ?_
  rintro e w1 ⟨rfl, rfl⟩
  by_cases h1 : k < 0
  · go_wp2_with fail
    go_ret
    refine ⟨ret_int ?_, by (repeat' (first | (with_reducible assumption) | (with_reducible exact Grew.refl _) | (with_reducible refine Grew.alloc ?_ _) | (with_reducible refine Grew.drew ?_) | (with_reducible refine Grew.drewN ?_ _) | (with_reducible refine Grew.setCell ?_ ?_ _) | (simp; done) | (simp; omega)))⟩
    rw [HK.out, if_neg (by omega)]
  by_cases h2 : 2147483647 < k
  · go_wp2_with fail
    go_ret
    refine ⟨ret_int ?_, by (repeat' (first | (with_reducible assumption) | (with_reducible exact Grew.refl _) | (with_reducible refine Grew.alloc ?_ _) | (with_reducible refine Grew.drew ?_) | (with_reducible refine Grew.drewN ?_ _) | (with_reducible refine Grew.setCell ?_ ?_ _) | (simp; done) | (simp; omega)))⟩
    rw [HK.out, if_neg (by omega)]
  · go_wp2_with fail
    refine (refCheck_any b0 b1 b2 b3 _).mono ?_
    rintro e w2 ⟨rfl, hg2⟩
    have hw2 : Grew w w2 := Grew.trans (by (repeat' (first | (with_reducible assumption) | (with_reducible exact Grew.refl _) | (with_reducible refine Grew.alloc ?_ _) | (with_reducible refine Grew.drew ?_) | (with_reducible refine Grew.drewN ?_ _) | (with_reducible refine Grew.setCell ?_ ?_ _) | (simp; done) | (simp; omega)))) hg2
    clear hg2
    go_wp2_with fail
    go_ret
    refine ⟨ret_int ?_, hw2⟩
    rw [HK.out, if_pos (by omega)]

end Go.Proofs.YtcelamaiebjdaaaGreat

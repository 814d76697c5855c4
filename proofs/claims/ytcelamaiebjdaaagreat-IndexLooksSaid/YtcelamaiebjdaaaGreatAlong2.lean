/- Contract of package solid's Along: whether a way meets a box. -/
import Derived.Test.YtcelamaiebjdaaaGreatAlong
import Derived.Deep.RegionWith
namespace Go.Proofs.YtcelamaiebjdaaaGreat
open Go.RowKit Go.Sort
attribute [local go_sem ↓] Go.wp_at_zero Go.wp_at_succ

theorem index0 (a b : Int) (w : World) : (Instr.index 122 (.agg #[.int .i64 a, .int .i64 b]) (.int .i64 0)).run Tryz.prog w = .ok (.int .i64 a) w := by kernel_rfl
theorem index1 (a b : Int) (w : World) : (Instr.index 122 (.agg #[.int .i64 a, .int .i64 b]) (.int .i64 1)).run Tryz.prog w = .ok (.int .i64 b) w := by kernel_rfl
theorem fairB_i64 {x y : Int} (h : fairB x y = true) : I64 x ∧ I64 y := by
  have := of_decide_eq_true h
  unfold I64
  omega
theorem chk_spot {x y : Int} (h : fairB x y = true) : chk x y x y = 0 := by
  unfold chk
  rw [h]
  simp

/-- What Along holds on to: the box, the two spots. -/
def AlF (B : Nat) (b : Bx4) (fx fy tx ty : Int) (W : World) : Prop :=
  W.cell? ⟨B, 0, none⟩ = some (.int .i64 b.1) ∧ W.cell? ⟨B, 1, none⟩ = some (.int .i64 b.2.1) ∧ W.cell? ⟨B, 2, none⟩ = some (.int .i64 b.2.2.1) ∧ W.cell? ⟨B, 3, none⟩ = some (.int .i64 b.2.2.2) ∧
    W.cell? ⟨B + 1, 0, none⟩ = some (.int .i64 fx) ∧ W.cell? ⟨B + 1, 1, none⟩ = some (.int .i64 fy) ∧ W.cell? ⟨B + 1 + 1, 0, none⟩ = some (.int .i64 tx) ∧ W.cell? ⟨B + 1 + 1, 1, none⟩ = some (.int .i64 ty)
theorem AlF.grew {B : Nat} {b : Bx4} {fx fy tx ty : Int} {W W' : World} (h : AlF B b fx fy tx ty W) (g : Grew W W') : AlF B b fx fy tx ty W' :=
  ⟨g.cell' h.1, g.cell' h.2.1, g.cell' h.2.2.1, g.cell' h.2.2.2.1, g.cell' h.2.2.2.2.1, g.cell' h.2.2.2.2.2.1, g.cell' h.2.2.2.2.2.2.1, g.cell' h.2.2.2.2.2.2.2⟩

set_option maxHeartbeats 4000000 in
set_option maxRecDepth 100000 in
theorem solidAlong_any (b0 b1 b2 b3 fx fy tx ty : Int) (w : World) (i0 : I64 b0) (i1 : I64 b1) (i2 : I64 b2) (i3 : I64 b3) (j0 : I64 fx) (j1 : I64 fy) (j2 : I64 tx) (j3 : I64 ty) :
    Calls Tryz.prog 39 #[.agg #[.int .i64 b0, .int .i64 b1, .int .i64 b2, .int .i64 b3], .agg #[.int .i64 fx, .int .i64 fy], .agg #[.int .i64 tx, .int .i64 ty]] w fun e w' => e = .returned (.bool (alongB (b0, b1, b2, b3) fx fy tx ty)) ∧ Grew w w' := by
  obtain ⟨r1, hr1⟩ : ∃ r, (fairB fx fy && fairB tx ty) = r := ⟨_, rfl⟩
  obtain ⟨r2, hr2⟩ : ∃ r, meetB b0 b1 b2 b3 (min fx tx) (min fy ty) (max fx tx) (max fy ty) = r := ⟨_, rfl⟩
  have hal : alongB (b0, b1, b2, b3) fx fy tx ty = (r1 && (r2 && (lowN (b0, b1, b2, b3) fx fy tx ty 4 && highN (b0, b1, b2, b3) fx fy tx ty 4))) := by rw [← hr1, ← hr2]; rfl
  have HAL := Lib.hid hal
  have H1 := Lib.hid hr1
  have H2 := Lib.hid hr2
  clear hal hr1 hr2
  obtain ⟨B, hB⟩ : ∃ B, w.heap.size = B := ⟨_, rfl⟩
  go_enter Tryz.func39, Tryz.ntmps39
  go_wp2_with fail
  obtain ⟨w1, hw1e⟩ : ∃ w1, ((w.alloc (.cells #[.int .i64 b0, .int .i64 b1, .int .i64 b2, .int .i64 b3] 32)).alloc (.cells #[.int .i64 fx, .int .i64 fy] 29)).alloc (.cells #[.int .i64 tx, .int .i64 ty] 29) = w1 := ⟨_, rfl⟩
  have hg1 : Grew w w1 := by rw [← hw1e]; (repeat' (first | (with_reducible assumption) | (with_reducible exact Grew.refl _) | (with_reducible refine Grew.alloc ?_ _) | (with_reducible refine Grew.drew ?_) | (with_reducible refine Grew.drewN ?_ _) | (with_reducible refine Grew.setCell ?_ ?_ _) | (simp; done) | (simp; omega)))
  have hF : AlF B (b0, b1, b2, b3) fx fy tx ty w1 := by
    rw [← hw1e, ← hB]
    exact ⟨by simp [go_sem], by simp [go_sem], by simp [go_sem], by simp [go_sem], by simp [go_sem], by simp [go_sem], by simp [go_sem], by simp [go_sem]⟩
  have HF := Lib.hid hF
  obtain ⟨c0, c1, c2, c3, d0, d1, e0, e1⟩ := hF
  simp only at c0 c1 c2 c3
  have HG1 := Lib.hid hg1
  try rw [hB]
  try rw [hw1e]
  clear hw1e hB
  cases r1
  · go_region_with (go_at_call 87; refine (fair_any fx fy tx ty _ _ j0 j1 j2 j3 (by first | (simp [go_sem]; done) | (simp [*, go_sem]; done) | (go_cell; done)) (by first | (simp [go_sem]; done) | (simp [*, go_sem]; done) | (go_cell; done)) (by first | (simp [go_sem]; done) | (simp [*, go_sem]; done) | (go_cell; done)) (by first | (simp [go_sem]; done) | (simp [*, go_sem]; done) | (go_cell; done))).mono ?_; rintro e w2 ⟨rfl, hg2⟩; rw [H1.out]; replace hg2 := Grew.trans (show Grew w1 _ by (repeat' (first | (with_reducible assumption) | (with_reducible exact Grew.refl _) | (with_reducible refine Grew.alloc ?_ _) | (with_reducible refine Grew.drew ?_) | (with_reducible refine Grew.drewN ?_ _) | (with_reducible refine Grew.setCell ?_ ?_ _) | (simp; done) | (simp; omega)))) hg2)
    all_goals
      go_wp2_with fail
      go_ret
      refine ⟨ret_bool ?_, HG1.out.trans (Grew.trans hg2 (by (repeat' (first | (with_reducible assumption) | (with_reducible exact Grew.refl _) | (with_reducible refine Grew.alloc ?_ _) | (with_reducible refine Grew.drew ?_) | (with_reducible refine Grew.drewN ?_ _) | (with_reducible refine Grew.setCell ?_ ?_ _) | (simp; done) | (simp; omega)))))⟩
      rw [HAL.out]
      rfl
  · have hfair := H1.out
    simp only [Bool.and_eq_true] at hfair
    have HS : Aside (∀ W, Grew w1 W → (W.cell? ⟨B, 0, none⟩ = some (.int .i64 b0) ∧ W.cell? ⟨B, 1, none⟩ = some (.int .i64 b1) ∧ W.cell? ⟨B, 2, none⟩ = some (.int .i64 b2) ∧ W.cell? ⟨B, 3, none⟩ = some (.int .i64 b3) ∧
      W.cell? ⟨B + 1, 0, none⟩ = some (.int .i64 fx) ∧ W.cell? ⟨B + 1, 1, none⟩ = some (.int .i64 fy) ∧ W.cell? ⟨B + 1 + 1, 0, none⟩ = some (.int .i64 tx) ∧ W.cell? ⟨B + 1 + 1, 1, none⟩ = some (.int .i64 ty))) := fun W g => HF.out.grew g
    go_region_held3 (fun W => W.cell? ⟨B, 0, none⟩ = some (.int .i64 b0) ∧ W.cell? ⟨B, 1, none⟩ = some (.int .i64 b1) ∧ W.cell? ⟨B, 2, none⟩ = some (.int .i64 b2) ∧ W.cell? ⟨B, 3, none⟩ = some (.int .i64 b3) ∧
      W.cell? ⟨B + 1, 0, none⟩ = some (.int .i64 fx) ∧ W.cell? ⟨B + 1, 1, none⟩ = some (.int .i64 fy) ∧ W.cell? ⟨B + 1 + 1, 0, none⟩ = some (.int .i64 tx) ∧ W.cell? ⟨B + 1 + 1, 1, none⟩ = some (.int .i64 ty))
      ((refine HS.out _ ?_; (repeat' (first | (with_reducible assumption) | (with_reducible exact Grew.refl _) | (with_reducible refine Grew.alloc ?_ _) | (with_reducible refine Grew.drew ?_) | (with_reducible refine Grew.drewN ?_ _) | (with_reducible refine Grew.setCell ?_ ?_ _) | (simp; done) | (simp; omega))); done))
      (first | (go_at_call 87; refine (fair_any fx fy tx ty _ _ j0 j1 j2 j3 (by first | (simp [go_sem]; done) | (simp [*, go_sem]; done) | (go_cell; done)) (by first | (simp [go_sem]; done) | (simp [*, go_sem]; done) | (go_cell; done)) (by first | (simp [go_sem]; done) | (simp [*, go_sem]; done) | (go_cell; done)) (by first | (simp [go_sem]; done) | (simp [*, go_sem]; done) | (go_cell; done))).mono ?_; rintro e w2 ⟨rfl, hg2⟩; rw [H1.out]; replace hg2 := Grew.trans (show Grew w1 _ by (repeat' (first | (with_reducible assumption) | (with_reducible exact Grew.refl _) | (with_reducible refine Grew.alloc ?_ _) | (with_reducible refine Grew.drew ?_) | (with_reducible refine Grew.drewN ?_ _) | (with_reducible refine Grew.setCell ?_ ?_ _) | (simp; done) | (simp; omega)))) hg2)
             | (go_at_call 89; refine (grown_any _ _ _ ?_).mono ?_; (· first | (with_reducible exact hfair.1) | (with_reducible exact hfair.2)); rintro e w3 ⟨rfl, hg3⟩; replace hg3 := Grew.trans (show Grew w1 _ by (repeat' (first | (with_reducible assumption) | (with_reducible exact Grew.refl _) | (with_reducible refine Grew.alloc ?_ _) | (with_reducible refine Grew.drew ?_) | (with_reducible refine Grew.drewN ?_ _) | (with_reducible refine Grew.setCell ?_ ?_ _) | (simp; done) | (simp; omega)))) hg3)
             | (go_at_call 88; refine (join_any fx fy fx fy tx ty tx ty _ _ (chk_spot hfair.1) (chk_spot hfair.2) ⟨j0, j1, j0, j1⟩ ⟨j2, j3, j2, j3⟩ (by first | (simp [go_sem]; done) | (simp [*, go_sem]; done) | (go_cell; done)) (by first | (simp [go_sem]; done) | (simp [*, go_sem]; done) | (go_cell; done)) (by first | (simp [go_sem]; done) | (simp [*, go_sem]; done) | (go_cell; done)) (by first | (simp [go_sem]; done) | (simp [*, go_sem]; done) | (go_cell; done)) (by first | (simp [go_sem]; done) | (simp [*, go_sem]; done) | (go_cell; done)) (by first | (simp [go_sem]; done) | (simp [*, go_sem]; done) | (go_cell; done)) (by first | (simp [go_sem]; done) | (simp [*, go_sem]; done) | (go_cell; done)) (by first | (simp [go_sem]; done) | (simp [*, go_sem]; done) | (go_cell; done))).mono ?_; rintro e w4 ⟨rfl, hg4⟩; replace hg4 := Grew.trans (show Grew w1 _ by (repeat' (first | (with_reducible assumption) | (with_reducible exact Grew.refl _) | (with_reducible refine Grew.alloc ?_ _) | (with_reducible refine Grew.drew ?_) | (with_reducible refine Grew.drewN ?_ _) | (with_reducible refine Grew.setCell ?_ ?_ _) | (simp; done) | (simp; omega)))) hg4)
             | (go_at_call 77; refine (meets_any b0 b1 b2 b3 _ _ _ _ _ i0 i1 i2 i3 ?_ ?_ ?_ ?_).mono ?_; (· unfold I64 at *; omega); (· unfold I64 at *; omega); (· unfold I64 at *; omega); (· unfold I64 at *; omega); rintro e w5 ⟨rfl, hg5⟩; rw [H2.out]; replace hg5 := Grew.trans (show Grew w1 _ by (repeat' (first | (with_reducible assumption) | (with_reducible exact Grew.refl _) | (with_reducible refine Grew.alloc ?_ _) | (with_reducible refine Grew.drew ?_) | (with_reducible refine Grew.drewN ?_ _) | (with_reducible refine Grew.setCell ?_ ?_ _) | (simp; done) | (simp; omega)))) hg5))
    all_goals
      obtain ⟨w6, hw6e⟩ : ∃ w6, w6 = w5 := ⟨_, rfl⟩
      subst hw6e
      have HF6 := Lib.hid (HF.out.grew hg5)
      have HG6 := Lib.hid (HG1.out.trans hg5)
      clear hg5 c0 c1 c2 c3 d0 d1 e0 e1 HS
      try clear hg2
      try clear hg3
      try clear hg4
      cases r2
    all_goals try (go_wp2_with fail; go_ret; refine ⟨ret_bool ?_, Grew.trans HG6.out (by (repeat' (first | (with_reducible assumption) | (with_reducible exact Grew.refl _) | (with_reducible refine Grew.alloc ?_ _) | (with_reducible refine Grew.drew ?_) | (with_reducible refine Grew.drewN ?_ _) | (with_reducible refine Grew.setCell ?_ ?_ _) | (simp; done) | (simp; omega))))⟩; rw [HAL.out]; rfl; done)
    all_goals
      have hck := (of_decide_eq_true H2.out).1
      have hcf : fairB b0 b1 = true ∧ fairB b2 b3 = true := by
        unfold chk at hck
        split at hck
        · rename_i h; simpa using h
        · cases hck
      have hco : ∀ m, m < 4 → fairB (cornX (b0, b1, b2, b3) m) (cornY (b0, b1, b2, b3) m) = true := fun m hm => by
        have h1 := of_decide_eq_true hcf.1
        have h2 := of_decide_eq_true hcf.2
        have h3 : m = 0 ∨ m = 1 ∨ m = 2 ∨ m = 3 := by omega
        unfold fairB
        rcases h3 with rfl | rfl | rfl | rfl
        all_goals
          simp only [cornX, cornY]
          exact decide_eq_true (by simp; omega)
      have HCO := Lib.hid hco
      have hfx := hfair.1
      have hfy := hfair.2
      have HT : Aside (∀ m, m < 4 → ∀ W, Calls Tryz.prog 90 #[.agg #[.int .i64 fx, .int .i64 fy], .agg #[.int .i64 tx, .int .i64 ty], .agg #[.int .i64 (cornX (b0, b1, b2, b3) m), .int .i64 (cornY (b0, b1, b2, b3) m)]] W fun e w' => e = .returned (.int .i64 (turnL fx fy tx ty (cornX (b0, b1, b2, b3) m) (cornY (b0, b1, b2, b3) m))) ∧ Grew W w') := fun m hm W =>
        turn_any fx fy tx ty _ _ W hfx hfy (hco m hm)
      obtain ⟨c0, c1, c2, c3, -, -, -, -⟩ := HF6.out
      simp only at c0 c1 c2 c3
      clear hck hcf hco hfair hfx hfy i0 i1 i2 i3 j0 j1 j2 j3
      obtain ⟨wz, hwz⟩ : ∃ wz, wz = w6 := ⟨_, rfl⟩
      have HWZ := Lib.hid hwz
      clear hwz
      go_wp2_with fail
      clear c0 c1 c2 c3
      go_loopg [7, 8, 35] 2 (fun gg s7 s8 s35 wr => ∃ i : Nat, i ≤ 2 ∧ 2 - i ≤ gg ∧ s7 = .bool (lowN (b0, b1, b2, b3) fx fy tx ty (2 * i)) ∧ s8 = .bool (highN (b0, b1, b2, b3) fx fy tx ty (2 * i)) ∧ s35 = .int .i64 i ∧ Grew w6 wr)
      case atStart => exact ⟨0, by omega, by omega, rfl, rfl, rfl, by (repeat' (first | (with_reducible assumption) | (with_reducible exact Grew.refl _) | (with_reducible refine Grew.alloc ?_ _) | (with_reducible refine Grew.drew ?_) | (with_reducible refine Grew.drewN ?_ _) | (with_reducible refine Grew.setCell ?_ ?_ _) | (simp; done) | (simp; omega)))⟩
      case round =>
        obtain ⟨i, hi, hgg, rfl, rfl, rfl, hgw⟩ := hrel
        have hi3 : i = 0 ∨ i = 1 ∨ i = 2 := by omega
        rcases hi3 with rfl | rfl | rfl
        · have I0 := fun w => index0 b0 b2 w
          have I1 := fun w => index1 b0 b2 w
          obtain ⟨c0, c1, c2, c3, d0, d1, e0, e1⟩ := HF6.out.grew hgw
          simp only at c0 c1 c2 c3
          obtain ⟨lo, hlo⟩ : ∃ lo, lowN (b0, b1, b2, b3) fx fy tx ty (2 * 0) = lo := ⟨_, rfl⟩
          obtain ⟨hh, hhh⟩ : ∃ hh, highN (b0, b1, b2, b3) fx fy tx ty (2 * 0) = hh := ⟨_, rfl⟩
          rw [hlo, hhh]
          have HLO := Lib.hid hlo
          have HHI := Lib.hid hhh
          clear hlo hhh
          obtain ⟨wq, hwq⟩ : ∃ wq, wq = wr := ⟨_, rfl⟩
          subst hwq
          go_wp2_with fail
          clear c0 c1 c2 c3 d0 d1 e0 e1
          go_loopg [7, 8, 43] 2 (fun gg s7 s8 s43 wr => ∃ k : Nat, k ≤ 2 ∧ 2 - k ≤ gg ∧ s7 = .bool (lowN (b0, b1, b2, b3) fx fy tx ty (2 * 0 + k)) ∧ s8 = .bool (highN (b0, b1, b2, b3) fx fy tx ty (2 * 0 + k)) ∧ s43 = .int .i64 k ∧ Grew wq wr)
          case atStart => exact ⟨0, by omega, by omega, by rw [Nat.add_zero, HLO.out], by rw [Nat.add_zero, HHI.out], rfl, by (repeat' (first | (with_reducible assumption) | (with_reducible exact Grew.refl _) | (with_reducible refine Grew.alloc ?_ _) | (with_reducible refine Grew.drew ?_) | (with_reducible refine Grew.drewN ?_ _) | (with_reducible refine Grew.setCell ?_ ?_ _) | (simp; done) | (simp; omega)))⟩
          case round =>
            obtain ⟨k, hk, hgg2, rfl, rfl, rfl, hgw2⟩ := hrel
            have hk3 : k = 0 ∨ k = 1 ∨ k = 2 := by omega
            rcases hk3 with rfl | rfl | rfl
            · have I0 := fun w => index0 b1 b3 w
              have I1 := fun w => index1 b1 b3 w
              obtain ⟨-, -, -, -, d0, d1, e0, e1⟩ := HF6.out.grew (hgw.trans hgw2)
              have ht := HT.out 0 (by decide)
              have hls := lowN_succ (b0, b1, b2, b3) fx fy tx ty 0
              have hhs := highN_succ (b0, b1, b2, b3) fx fy tx ty 0
              obtain ⟨n, hn⟩ : ∃ n, turnL fx fy tx ty (cornX (b0, b1, b2, b3) 0) (cornY (b0, b1, b2, b3) 0) = n := ⟨_, rfl⟩
              obtain ⟨l1, hl1⟩ : ∃ l1, lowN (b0, b1, b2, b3) fx fy tx ty 0 = l1 := ⟨_, rfl⟩
              obtain ⟨h1, hh1⟩ : ∃ h1, highN (b0, b1, b2, b3) fx fy tx ty 0 = h1 := ⟨_, rfl⟩
              rw [hn] at ht hls hhs
              rw [hl1] at hls
              rw [hh1] at hhs
              have ht : ∀ W, Calls Tryz.prog 90 #[.agg #[.int .i64 fx, .int .i64 fy], .agg #[.int .i64 tx, .int .i64 ty], .agg #[.int .i64 b0, .int .i64 b1]] W fun e w' => e = .returned (.int .i64 n) ∧ Grew W w' := ht
              rw [show lowN (b0, b1, b2, b3) fx fy tx ty (2 * 0 + 0) = l1 from hl1, show highN (b0, b1, b2, b3) fx fy tx ty (2 * 0 + 0) = h1 from hh1]
              have HTm := Lib.hid ht
              have HLS := Lib.hid hls
              have HHS := Lib.hid hhs
              clear ht hls hhs hn hl1 hh1
              go_wp2_with fail
              refine (HTm.out _).mono ?_
              rintro e w8 ⟨rfl, hg8⟩
              have hw8 : Grew wq w8 := Grew.trans (by (repeat' (first | (with_reducible assumption) | (with_reducible exact Grew.refl _) | (with_reducible refine Grew.alloc ?_ _) | (with_reducible refine Grew.drew ?_) | (with_reducible refine Grew.drewN ?_ _) | (with_reducible refine Grew.setCell ?_ ?_ _) | (simp; done) | (simp; omega)))) hg8
              clear hg8 d0 d1 e0 e1
              cases l1 <;> cases h1
              all_goals
                go_wp2_with fail
                all_goals
                  go_roundg (2 - (0 + 1))
                  case measure => omega
                  case rel =>
                    refine ⟨0 + 1, by omega, by omega, ?_, ?_, by go_num, hw8⟩
                    · show Value.bool _ = .bool (lowN (b0, b1, b2, b3) fx fy tx ty 1)
                      rw [HLS.out]
                      simp
                      try omega
                    · show Value.bool _ = .bool (highN (b0, b1, b2, b3) fx fy tx ty 1)
                      rw [HHS.out]
                      simp
                      try omega
            · have I0 := fun w => index0 b1 b3 w
              have I1 := fun w => index1 b1 b3 w
              obtain ⟨-, -, -, -, d0, d1, e0, e1⟩ := HF6.out.grew (hgw.trans hgw2)
              have ht := HT.out 1 (by decide)
              have hls := lowN_succ (b0, b1, b2, b3) fx fy tx ty 1
              have hhs := highN_succ (b0, b1, b2, b3) fx fy tx ty 1
              obtain ⟨n, hn⟩ : ∃ n, turnL fx fy tx ty (cornX (b0, b1, b2, b3) 1) (cornY (b0, b1, b2, b3) 1) = n := ⟨_, rfl⟩
              obtain ⟨l1, hl1⟩ : ∃ l1, lowN (b0, b1, b2, b3) fx fy tx ty 1 = l1 := ⟨_, rfl⟩
              obtain ⟨h1, hh1⟩ : ∃ h1, highN (b0, b1, b2, b3) fx fy tx ty 1 = h1 := ⟨_, rfl⟩
              rw [hn] at ht hls hhs
              rw [hl1] at hls
              rw [hh1] at hhs
              have ht : ∀ W, Calls Tryz.prog 90 #[.agg #[.int .i64 fx, .int .i64 fy], .agg #[.int .i64 tx, .int .i64 ty], .agg #[.int .i64 b0, .int .i64 b3]] W fun e w' => e = .returned (.int .i64 n) ∧ Grew W w' := ht
              rw [show lowN (b0, b1, b2, b3) fx fy tx ty (2 * 0 + 1) = l1 from hl1, show highN (b0, b1, b2, b3) fx fy tx ty (2 * 0 + 1) = h1 from hh1]
              have HTm := Lib.hid ht
              have HLS := Lib.hid hls
              have HHS := Lib.hid hhs
              clear ht hls hhs hn hl1 hh1
              go_wp2_with fail
              refine (HTm.out _).mono ?_
              rintro e w8 ⟨rfl, hg8⟩
              have hw8 : Grew wq w8 := Grew.trans (by (repeat' (first | (with_reducible assumption) | (with_reducible exact Grew.refl _) | (with_reducible refine Grew.alloc ?_ _) | (with_reducible refine Grew.drew ?_) | (with_reducible refine Grew.drewN ?_ _) | (with_reducible refine Grew.setCell ?_ ?_ _) | (simp; done) | (simp; omega)))) hg8
              clear hg8 d0 d1 e0 e1
              cases l1 <;> cases h1
              all_goals
                go_wp2_with fail
                all_goals
                  go_roundg (2 - (1 + 1))
                  case measure => omega
                  case rel =>
                    refine ⟨1 + 1, by omega, by omega, ?_, ?_, by go_num, hw8⟩
                    · show Value.bool _ = .bool (lowN (b0, b1, b2, b3) fx fy tx ty 2)
                      rw [HLS.out]
                      simp
                      try omega
                    · show Value.bool _ = .bool (highN (b0, b1, b2, b3) fx fy tx ty 2)
                      rw [HHS.out]
                      simp
                      try omega
            · go_wp2_with fail
              go_roundg (2 - (0 + 1))
              case measure => omega
              case rel => exact ⟨0 + 1, by omega, by omega, rfl, rfl, by go_num, hgw.trans hgw2⟩
        · have I0 := fun w => index0 b0 b2 w
          have I1 := fun w => index1 b0 b2 w
          obtain ⟨c0, c1, c2, c3, d0, d1, e0, e1⟩ := HF6.out.grew hgw
          simp only at c0 c1 c2 c3
          obtain ⟨lo, hlo⟩ : ∃ lo, lowN (b0, b1, b2, b3) fx fy tx ty (2 * 1) = lo := ⟨_, rfl⟩
          obtain ⟨hh, hhh⟩ : ∃ hh, highN (b0, b1, b2, b3) fx fy tx ty (2 * 1) = hh := ⟨_, rfl⟩
          rw [hlo, hhh]
          have HLO := Lib.hid hlo
          have HHI := Lib.hid hhh
          clear hlo hhh
          obtain ⟨wq, hwq⟩ : ∃ wq, wq = wr := ⟨_, rfl⟩
          subst hwq
          go_wp2_with fail
          clear c0 c1 c2 c3 d0 d1 e0 e1
          go_loopg [7, 8, 43] 2 (fun gg s7 s8 s43 wr => ∃ k : Nat, k ≤ 2 ∧ 2 - k ≤ gg ∧ s7 = .bool (lowN (b0, b1, b2, b3) fx fy tx ty (2 * 1 + k)) ∧ s8 = .bool (highN (b0, b1, b2, b3) fx fy tx ty (2 * 1 + k)) ∧ s43 = .int .i64 k ∧ Grew wq wr)
          case atStart => exact ⟨0, by omega, by omega, by rw [Nat.add_zero, HLO.out], by rw [Nat.add_zero, HHI.out], rfl, by (repeat' (first | (with_reducible assumption) | (with_reducible exact Grew.refl _) | (with_reducible refine Grew.alloc ?_ _) | (with_reducible refine Grew.drew ?_) | (with_reducible refine Grew.drewN ?_ _) | (with_reducible refine Grew.setCell ?_ ?_ _) | (simp; done) | (simp; omega)))⟩
          case round =>
            obtain ⟨k, hk, hgg2, rfl, rfl, rfl, hgw2⟩ := hrel
            have hk3 : k = 0 ∨ k = 1 ∨ k = 2 := by omega
            rcases hk3 with rfl | rfl | rfl
            · have I0 := fun w => index0 b1 b3 w
              have I1 := fun w => index1 b1 b3 w
              obtain ⟨-, -, -, -, d0, d1, e0, e1⟩ := HF6.out.grew (hgw.trans hgw2)
              have ht := HT.out 2 (by decide)
              have hls := lowN_succ (b0, b1, b2, b3) fx fy tx ty 2
              have hhs := highN_succ (b0, b1, b2, b3) fx fy tx ty 2
              obtain ⟨n, hn⟩ : ∃ n, turnL fx fy tx ty (cornX (b0, b1, b2, b3) 2) (cornY (b0, b1, b2, b3) 2) = n := ⟨_, rfl⟩
              obtain ⟨l1, hl1⟩ : ∃ l1, lowN (b0, b1, b2, b3) fx fy tx ty 2 = l1 := ⟨_, rfl⟩
              obtain ⟨h1, hh1⟩ : ∃ h1, highN (b0, b1, b2, b3) fx fy tx ty 2 = h1 := ⟨_, rfl⟩
              rw [hn] at ht hls hhs
              rw [hl1] at hls
              rw [hh1] at hhs
              have ht : ∀ W, Calls Tryz.prog 90 #[.agg #[.int .i64 fx, .int .i64 fy], .agg #[.int .i64 tx, .int .i64 ty], .agg #[.int .i64 b2, .int .i64 b1]] W fun e w' => e = .returned (.int .i64 n) ∧ Grew W w' := ht
              rw [show lowN (b0, b1, b2, b3) fx fy tx ty (2 * 1 + 0) = l1 from hl1, show highN (b0, b1, b2, b3) fx fy tx ty (2 * 1 + 0) = h1 from hh1]
              have HTm := Lib.hid ht
              have HLS := Lib.hid hls
              have HHS := Lib.hid hhs
              clear ht hls hhs hn hl1 hh1
              go_wp2_with fail
              refine (HTm.out _).mono ?_
              rintro e w8 ⟨rfl, hg8⟩
              have hw8 : Grew wq w8 := Grew.trans (by (repeat' (first | (with_reducible assumption) | (with_reducible exact Grew.refl _) | (with_reducible refine Grew.alloc ?_ _) | (with_reducible refine Grew.drew ?_) | (with_reducible refine Grew.drewN ?_ _) | (with_reducible refine Grew.setCell ?_ ?_ _) | (simp; done) | (simp; omega)))) hg8
              clear hg8 d0 d1 e0 e1
              cases l1 <;> cases h1
              all_goals
                go_wp2_with fail
                all_goals
                  go_roundg (2 - (0 + 1))
                  case measure => omega
                  case rel =>
                    refine ⟨0 + 1, by omega, by omega, ?_, ?_, by go_num, hw8⟩
                    · show Value.bool _ = .bool (lowN (b0, b1, b2, b3) fx fy tx ty 3)
                      rw [HLS.out]
                      simp
                      try omega
                    · show Value.bool _ = .bool (highN (b0, b1, b2, b3) fx fy tx ty 3)
                      rw [HHS.out]
                      simp
                      try omega
            · have I0 := fun w => index0 b1 b3 w
              have I1 := fun w => index1 b1 b3 w
              obtain ⟨-, -, -, -, d0, d1, e0, e1⟩ := HF6.out.grew (hgw.trans hgw2)
              have ht := HT.out 3 (by decide)
              have hls := lowN_succ (b0, b1, b2, b3) fx fy tx ty 3
              have hhs := highN_succ (b0, b1, b2, b3) fx fy tx ty 3
              obtain ⟨n, hn⟩ : ∃ n, turnL fx fy tx ty (cornX (b0, b1, b2, b3) 3) (cornY (b0, b1, b2, b3) 3) = n := ⟨_, rfl⟩
              obtain ⟨l1, hl1⟩ : ∃ l1, lowN (b0, b1, b2, b3) fx fy tx ty 3 = l1 := ⟨_, rfl⟩
              obtain ⟨h1, hh1⟩ : ∃ h1, highN (b0, b1, b2, b3) fx fy tx ty 3 = h1 := ⟨_, rfl⟩
              rw [hn] at ht hls hhs
              rw [hl1] at hls
              rw [hh1] at hhs
              have ht : ∀ W, Calls Tryz.prog 90 #[.agg #[.int .i64 fx, .int .i64 fy], .agg #[.int .i64 tx, .int .i64 ty], .agg #[.int .i64 b2, .int .i64 b3]] W fun e w' => e = .returned (.int .i64 n) ∧ Grew W w' := ht
              rw [show lowN (b0, b1, b2, b3) fx fy tx ty (2 * 1 + 1) = l1 from hl1, show highN (b0, b1, b2, b3) fx fy tx ty (2 * 1 + 1) = h1 from hh1]
              have HTm := Lib.hid ht
              have HLS := Lib.hid hls
              have HHS := Lib.hid hhs
              clear ht hls hhs hn hl1 hh1
              go_wp2_with fail
              refine (HTm.out _).mono ?_
              rintro e w8 ⟨rfl, hg8⟩
              have hw8 : Grew wq w8 := Grew.trans (by (repeat' (first | (with_reducible assumption) | (with_reducible exact Grew.refl _) | (with_reducible refine Grew.alloc ?_ _) | (with_reducible refine Grew.drew ?_) | (with_reducible refine Grew.drewN ?_ _) | (with_reducible refine Grew.setCell ?_ ?_ _) | (simp; done) | (simp; omega)))) hg8
              clear hg8 d0 d1 e0 e1
              cases l1 <;> cases h1
              all_goals
                go_wp2_with fail
                all_goals
                  go_roundg (2 - (1 + 1))
                  case measure => omega
                  case rel =>
                    refine ⟨1 + 1, by omega, by omega, ?_, ?_, by go_num, hw8⟩
                    · show Value.bool _ = .bool (lowN (b0, b1, b2, b3) fx fy tx ty 4)
                      rw [HLS.out]
                      simp
                      try omega
                    · show Value.bool _ = .bool (highN (b0, b1, b2, b3) fx fy tx ty 4)
                      rw [HHS.out]
                      simp
                      try omega
            · go_wp2_with fail
              go_roundg (2 - (1 + 1))
              case measure => omega
              case rel => exact ⟨1 + 1, by omega, by omega, rfl, rfl, by go_num, hgw.trans hgw2⟩
        · obtain ⟨lo, hlo⟩ : ∃ lo, lowN (b0, b1, b2, b3) fx fy tx ty 4 = lo := ⟨_, rfl⟩
          obtain ⟨hh, hhh⟩ : ∃ hh, highN (b0, b1, b2, b3) fx fy tx ty 4 = hh := ⟨_, rfl⟩
          rw [show lowN (b0, b1, b2, b3) fx fy tx ty (2 * 2) = lo from hlo, show highN (b0, b1, b2, b3) fx fy tx ty (2 * 2) = hh from hhh]
          rw [hlo, hhh] at HAL
          clear hlo hhh
          cases lo <;> cases hh
          all_goals
            go_wp2_with fail
            go_ret
            refine ⟨ret_bool ?_, HG6.out.trans hgw⟩
            rw [HAL.out]
            rfl

end Go.Proofs.YtcelamaiebjdaaaGreat

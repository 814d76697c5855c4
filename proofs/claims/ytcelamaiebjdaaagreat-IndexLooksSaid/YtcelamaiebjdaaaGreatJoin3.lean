/- Contracts of the reference's Side, Join and what they call. Contract of the reference's Join of two boxes. -/
import Derived.Test.YtcelamaiebjdaaaGreatRef3
import Derived.Test.YtcelamaiebjdaaaGreatAlong
import Derived.Test.YtcelamaiebjdaaaGreatTurn
import Derived.RegionTactic
import Derived.BigRegion
import Derived.Deep.CutRange
import Derived.Test.YtcelamaiebjdaaaGreatRefDrop
namespace Go.Proofs.YtcelamaiebjdaaaGreat
open Go.RowKit Go.Maps Go.Sort Go.Shelf
attribute [local go_sem ↓] Go.wp_at_zero Go.wp_at_succ
attribute [local go_sem] isSome_setCell

set_option maxHeartbeats 400000 in
theorem cross3_any (a b c d : Int) (w : World) (ha : -4194304 ≤ a ∧ a ≤ 4194304) (hb : -4194304 ≤ b ∧ b ≤ 4194304) (hc : -4194304 ≤ c ∧ c ≤ 4194304) (hd : -4194304 ≤ d ∧ d ≤ 4194304) :
    Calls Tryz.prog 125 #[.agg #[.int .i64 a, .int .i64 b], .agg #[.int .i64 c, .int .i64 d]] w fun e w' => e = .returned (.int .i64 (a * d - b * c)) ∧ Grew w w' := by
  have h1 := mul_in ha hd
  have h2 := mul_in hb hc
  have e1 : IntKind.i64.wrap (a * d) = a * d := IntWalk.i64_in _ (by omega)
  have e2 : IntKind.i64.wrap (b * c) = b * c := IntWalk.i64_in _ (by omega)
  have e3 : IntKind.i64.wrap (a * d - b * c) = a * d - b * c := IntWalk.i64_in _ (by omega)
  go_enter Tryz.func125, Tryz.ntmps125
  go_wp2_with fail
  go_ret
  exact ⟨rfl, by (repeat' (first | (with_reducible assumption) | (with_reducible exact Grew.refl _) | (with_reducible refine Grew.alloc ?_ _) | (with_reducible refine Grew.drew ?_) | (with_reducible refine Grew.drewN ?_ _) | (with_reducible refine Grew.setCell ?_ ?_ _) | (simp; done) | (simp; omega)))⟩
set_option maxHeartbeats 400000 in
theorem minus_any (a b c d : Int) (w : World) (ha : -2097152 ≤ a ∧ a ≤ 2097152) (hb : -2097152 ≤ b ∧ b ≤ 2097152) (hc : -2097152 ≤ c ∧ c ≤ 2097152) (hd : -2097152 ≤ d ∧ d ≤ 2097152) :
    Calls Tryz.prog 126 #[.agg #[.int .i64 a, .int .i64 b], .agg #[.int .i64 c, .int .i64 d]] w fun e w' => e = .returned (.agg #[.int .i64 (a - c), .int .i64 (b - d)]) ∧ Grew w w' := by
  go_enter Tryz.func126, Tryz.ntmps126
  go_wp2_with fail
  go_returns
  exact ⟨rfl, by (repeat' (first | (with_reducible assumption) | (with_reducible exact Grew.refl _) | (with_reducible refine Grew.alloc ?_ _) | (with_reducible refine Grew.drew ?_) | (with_reducible refine Grew.drewN ?_ _) | (with_reducible refine Grew.setCell ?_ ?_ _) | (simp; done) | (simp; omega)))⟩
set_option maxHeartbeats 400000 in
theorem around_any (x y : Int) (w : World) (h : fairB x y = true) :
    Calls Tryz.prog 111 #[.agg #[.int .i64 x, .int .i64 y], .int .i64 0] w fun e w' => e = .returned (.agg #[.int .i64 x, .int .i64 y, .int .i64 x, .int .i64 y]) ∧ Grew w w' := by
  have h := of_decide_eq_true h
  go_enter Tryz.func111, Tryz.ntmps111
  go_wp2_with fail
  go_returns
  exact ⟨by simp, by (repeat' (first | (with_reducible assumption) | (with_reducible exact Grew.refl _) | (with_reducible refine Grew.alloc ?_ _) | (with_reducible refine Grew.drew ?_) | (with_reducible refine Grew.drewN ?_ _) | (with_reducible refine Grew.setCell ?_ ?_ _) | (simp; done) | (simp; omega)))⟩

/-- The sign of a turn. -/
def sgn (n : Int) : Int := if 0 < n then 1 else if n < 0 then -1 else 0
set_option maxHeartbeats 2000000 in
set_option maxRecDepth 100000 in
theorem side_any (fx fy tx ty x y : Int) (w : World) (h1 : fairB fx fy = true) (h2 : fairB tx ty = true) (h3 : fairB x y = true) :
    Calls Tryz.prog 112 #[.agg #[.int .i64 fx, .int .i64 fy], .agg #[.int .i64 tx, .int .i64 ty], .agg #[.int .i64 x, .int .i64 y]] w fun e w' => e = .returned (.int .i64 (sgn (turnL fx fy tx ty x y))) ∧ Grew w w' := by
  have H1 := Lib.hid h1
  have H2 := Lib.hid h2
  have H3 := Lib.hid h3
  have b1 := of_decide_eq_true h1
  have b2 := of_decide_eq_true h2
  have b3 := of_decide_eq_true h3
  have htl : turnL fx fy tx ty x y = (tx - fx) * (y - fy) - (ty - fy) * (x - fx) := rfl
  obtain ⟨t, ht⟩ : ∃ t, turnL fx fy tx ty x y = t := ⟨_, rfl⟩
  rw [ht] at htl ⊢
  have HT := Lib.hid htl
  have HSg := Lib.hid (show sgn t = if 0 < t then 1 else if t < 0 then -1 else 0 from rfl)
  obtain ⟨sg, hsg⟩ : ∃ sg, sgn t = sg := ⟨_, rfl⟩
  rw [hsg] at HSg ⊢
  clear h1 h2 h3 htl ht hsg
  obtain ⟨B, hB⟩ : ∃ B, w.heap.size = B := ⟨_, rfl⟩
  go_enter Tryz.func112, Tryz.ntmps112
  go_wp2_with fail
  obtain ⟨w1, hw1e⟩ : ∃ w1, ((w.alloc (.cells #[.int .i64 fx, .int .i64 fy] 29)).alloc (.cells #[.int .i64 tx, .int .i64 ty] 29)).alloc (.cells #[.int .i64 x, .int .i64 y] 29) = w1 := ⟨_, rfl⟩
  have hg1 : Grew w w1 := by rw [← hw1e]; (repeat' (first | (with_reducible assumption) | (with_reducible exact Grew.refl _) | (with_reducible refine Grew.alloc ?_ _) | (with_reducible refine Grew.drew ?_) | (with_reducible refine Grew.drewN ?_ _) | (with_reducible refine Grew.setCell ?_ ?_ _) | (simp; done) | (simp; omega)))
  have a0 : w1.cell? ⟨B, 0, none⟩ = some (.int .i64 fx) := by rw [← hw1e, ← hB]; simp [go_sem]
  have a1 : w1.cell? ⟨B, 1, none⟩ = some (.int .i64 fy) := by rw [← hw1e, ← hB]; simp [go_sem]
  have c0 : w1.cell? ⟨B + 1, 0, none⟩ = some (.int .i64 tx) := by rw [← hw1e, ← hB]; simp [go_sem]
  have c1 : w1.cell? ⟨B + 1, 1, none⟩ = some (.int .i64 ty) := by rw [← hw1e, ← hB]; simp [go_sem]
  have d0 : w1.cell? ⟨B + 1 + 1, 0, none⟩ = some (.int .i64 x) := by rw [← hw1e, ← hB]; simp [go_sem]
  have d1 : w1.cell? ⟨B + 1 + 1, 1, none⟩ = some (.int .i64 y) := by rw [← hw1e, ← hB]; simp [go_sem]
  have HF : Aside (∀ W, Grew w1 W → (W.cell? ⟨B, 0, none⟩ = some (.int .i64 fx) ∧ W.cell? ⟨B, 1, none⟩ = some (.int .i64 fy) ∧ W.cell? ⟨B + 1, 0, none⟩ = some (.int .i64 tx) ∧ W.cell? ⟨B + 1, 1, none⟩ = some (.int .i64 ty) ∧ W.cell? ⟨B + 1 + 1, 0, none⟩ = some (.int .i64 x) ∧ W.cell? ⟨B + 1 + 1, 1, none⟩ = some (.int .i64 y))) := fun W g =>
    ⟨g.cell' a0, g.cell' a1, g.cell' c0, g.cell' c1, g.cell' d0, g.cell' d1⟩
  try rw [hB]
  try rw [hw1e]
  clear hw1e hB
  refine (valid3_any fx fy _).mono ?_
  rintro e w2 ⟨rfl, hg2⟩
  rw [H1.out]
  obtain ⟨a0, a1, c0, c1, d0, d1⟩ := HF.out w2 hg2
  go_wp2_with fail
  refine (valid3_any tx ty _).mono ?_
  rintro e w3 ⟨rfl, hg3⟩
  rw [H2.out]
  have hg13 := hg2.trans hg3
  obtain ⟨a0, a1, c0, c1, d0, d1⟩ := HF.out w3 hg13
  clear hg2 hg3
  go_wp2_with fail
  refine (valid3_any x y _).mono ?_
  rintro e w4 ⟨rfl, hg4⟩
  rw [H3.out]
  have hg14 := hg13.trans hg4
  obtain ⟨a0, a1, c0, c1, d0, d1⟩ := HF.out w4 hg14
  clear hg13 hg4
  go_wp2_with fail
  go_cut [7] from 21 to 27 (fun s7 wx => s7 = .int .i64 t ∧ Grew w4 wx)
  case first =>
    go_region_held3 (fun W => W.cell? ⟨B, 0, none⟩ = some (.int .i64 fx) ∧ W.cell? ⟨B, 1, none⟩ = some (.int .i64 fy) ∧ W.cell? ⟨B + 1, 0, none⟩ = some (.int .i64 tx) ∧ W.cell? ⟨B + 1, 1, none⟩ = some (.int .i64 ty) ∧ W.cell? ⟨B + 1 + 1, 0, none⟩ = some (.int .i64 x) ∧ W.cell? ⟨B + 1 + 1, 1, none⟩ = some (.int .i64 y))
      ((refine HF.out _ (hg14.trans ?_); (repeat' (first | (with_reducible assumption) | (with_reducible exact Grew.refl _) | (with_reducible refine Grew.alloc ?_ _) | (with_reducible refine Grew.drew ?_) | (with_reducible refine Grew.drewN ?_ _) | (with_reducible refine Grew.setCell ?_ ?_ _) | (simp; done) | (simp; omega))); done))
      (first | (go_at_call 126; refine (minus_any _ _ _ _ _ ?_ ?_ ?_ ?_).mono ?_; (· omega); (· omega); (· omega); (· omega); rintro e w5 ⟨rfl, hg5⟩; replace hg5 := Grew.trans (show Grew w4 _ by (repeat' (first | (with_reducible assumption) | (with_reducible exact Grew.refl _) | (with_reducible refine Grew.alloc ?_ _) | (with_reducible refine Grew.drew ?_) | (with_reducible refine Grew.drewN ?_ _) | (with_reducible refine Grew.setCell ?_ ?_ _) | (simp; done) | (simp; omega)))) hg5)
             | (go_at_call 125; refine (cross3_any _ _ _ _ _ ?_ ?_ ?_ ?_).mono ?_; (· omega); (· omega); (· omega); (· omega); rintro e w6 ⟨rfl, hg6⟩; replace hg6 := Grew.trans (show Grew w4 _ by (repeat' (first | (with_reducible assumption) | (with_reducible exact Grew.refl _) | (with_reducible refine Grew.alloc ?_ _) | (with_reducible refine Grew.drew ?_) | (with_reducible refine Grew.drewN ?_ _) | (with_reducible refine Grew.setCell ?_ ?_ _) | (simp; done) | (simp; omega)))) hg6))
    all_goals
      go_wp2_with fail
      go_meet
      exact ⟨by rw [HT.out], by (repeat' (first | (with_reducible assumption) | (with_reducible exact Grew.refl _) | (with_reducible refine Grew.alloc ?_ _) | (with_reducible refine Grew.drew ?_) | (with_reducible refine Grew.drewN ?_ _) | (with_reducible refine Grew.setCell ?_ ?_ _) | (simp; done) | (simp; omega)))⟩
  obtain ⟨hs7, hgc⟩ := hcut
  subst hs7
  have hgF := hg1.trans (hg14.trans hgc)
  clear hgc hg14
  by_cases t1 : 0 < t
  · go_wp2_with fail
    go_ret
    exact ⟨ret_int (by rw [HSg.out, if_pos (by omega)]), hgF⟩
  by_cases t2 : t < 0
  · go_wp2_with fail
    go_ret
    exact ⟨ret_int (by rw [HSg.out, if_neg (by omega), if_pos (by omega)]), hgF⟩
  · go_wp2_with fail
    go_ret
    exact ⟨ret_int (by rw [HSg.out, if_neg (by omega), if_neg (by omega)]), hgF⟩

end Go.Proofs.YtcelamaiebjdaaaGreat

namespace Go.Proofs.YtcelamaiebjdaaaGreat
open Go.RowKit Go.Maps Go.Sort Go.Shelf
attribute [local go_sem ↓] Go.wp_at_zero Go.wp_at_succ
attribute [local go_sem] isSome_setCell

/-- A statement whose only store into memory that was there comes last. -/
structure OneW (w4 : World) (P : World → Prop) (N : Nat) (l : Nat → Bool) (x : Nat → Value) (W : World) : Prop where
  g : l N = false → Grew w4 W
  fin : l N = true → P W
  o : l N = true → ∀ q, q < N → l q = true
theorem OneW.start {w4 : World} {P : World → Prop} {N : Nat} (x : Nat → Value) : OneW w4 P N (fun _ => false) x w4.drew := ⟨fun _ => (Grew.refl _).drew, (by intro h; cases h), (by intro h; cases h)⟩
theorem OneW.notk {w4 : World} {P : World → Prop} {N : Nat} {l : Nat → Bool} {x : Nat → Value} {W : World} (r : OneW w4 P N l x W) (k : Nat) (hk : k < N) (hl : l k = false) : l N = false := by
  cases h : l N with
  | false => rfl
  | true => have := r.o h k hk; rw [hl] at this; cases this
theorem OneW.same {w4 : World} {P : World → Prop} {N : Nat} {l : Nat → Bool} {x : Nat → Value} {W : World} (r : OneW w4 P N l x W) (k : Nat) (d : Option Nat) (u : Value) (hk : k < N) (hl : l k = false) : OneW w4 P N (setL l k) (upd x d u) W := by
  have e := r.notk k hk hl
  have eN : setL l k N = false := by rw [gL_ne (by omega)]; exact e
  exact ⟨fun _ => r.g e, (by rw [eN]; intro h; cases h), (by rw [eN]; intro h; cases h)⟩
theorem OneW.store {w4 : World} {P : World → Prop} {N : Nat} {l : Nat → Bool} {x : Nat → Value} {W' : World} (hall : ∀ q, q < N → l q = true) (hp : P W') : OneW w4 P N (setL l N) x W' := by
  have eN := gL_self l N
  exact ⟨(by rw [eN]; intro h; cases h), fun _ => hp, fun _ q hq => gL_mono (hall q hq)⟩

set_option maxHeartbeats 4000000 in
set_option maxRecDepth 100000 in
theorem join3_any (a0 a1 a2 a3 b0 b1 b2 b3 : Int) (B : Nat) (w : World) (ha : chk a0 a1 a2 a3 = 0) (hb : chk b0 b1 b2 b3 = 0)
    (c0 : w.cell? ⟨B, 0, none⟩ = some (.int .i64 a0)) (c1 : w.cell? ⟨B, 1, none⟩ = some (.int .i64 a1)) (c2 : w.cell? ⟨B, 2, none⟩ = some (.int .i64 a2)) (c3 : w.cell? ⟨B, 3, none⟩ = some (.int .i64 a3))
    (d0 : w.cell? ⟨B, 4, none⟩ = some (.int .i64 b0)) (d1 : w.cell? ⟨B, 5, none⟩ = some (.int .i64 b1)) (d2 : w.cell? ⟨B, 6, none⟩ = some (.int .i64 b2)) (d3 : w.cell? ⟨B, 7, none⟩ = some (.int .i64 b3)) :
    Calls Tryz.prog 110 #[.slice (some ⟨B, 0, none⟩) 2 2] w fun e w' => e = .returned (.agg #[.int .i64 (min a0 b0), .int .i64 (min a1 b1), .int .i64 (max a2 b2), .int .i64 (max a3 b3)]) ∧ Grew w w' := by
  have hB := lt_of_cell c0
  have HA := Lib.hid ha
  have HB := Lib.hid hb
  have HC : Aside (w.cell? ⟨B, 0, none⟩ = some (.int .i64 a0) ∧ w.cell? ⟨B, 1, none⟩ = some (.int .i64 a1) ∧ w.cell? ⟨B, 2, none⟩ = some (.int .i64 a2) ∧ w.cell? ⟨B, 3, none⟩ = some (.int .i64 a3)) := ⟨c0, c1, c2, c3⟩
  have HD : Aside (w.cell? ⟨B, 4, none⟩ = some (.int .i64 b0) ∧ w.cell? ⟨B, 5, none⟩ = some (.int .i64 b1) ∧ w.cell? ⟨B, 6, none⟩ = some (.int .i64 b2) ∧ w.cell? ⟨B, 7, none⟩ = some (.int .i64 b3)) := ⟨d0, d1, d2, d3⟩
  obtain ⟨R, hR⟩ : ∃ R, w.heap.size = R := ⟨_, rfl⟩
  have HR := Lib.hid hR
  rw [hR] at hB
  have hJ : JoinF w ((w.alloc (.cells #[.int .i64 0, .int .i64 0, .int .i64 0, .int .i64 0] 32)).alloc (.cells #[.int .i64 0, .int .i64 0, .int .i64 0, .int .i64 0] 32)) R 0 0 0 0 :=
    ⟨by (repeat' (first | (with_reducible assumption) | (with_reducible exact Grew.refl _) | (with_reducible refine Grew.alloc ?_ _) | (with_reducible refine Grew.drew ?_) | (with_reducible refine Grew.drewN ?_ _) | (with_reducible refine Grew.setCell ?_ ?_ _) | (simp; done) | (simp; omega))), ⟨by rw [← hR]; simp [go_sem], by rw [← hR]; simp [go_sem], by rw [← hR]; simp [go_sem], by rw [← hR]; simp [go_sem]⟩, ⟨by rw [← hR]; simp [go_sem], by rw [← hR]; simp [go_sem], by rw [← hR]; simp [go_sem], by rw [← hR]; simp [go_sem]⟩, fun j => by rw [← hR]; simp [go_sem], fun j => by rw [← hR]; simp [go_sem]⟩
  have HJ := Lib.hid hJ
  clear ha hb c0 c1 c2 c3 d0 d1 d2 d3 hJ
  go_enter Tryz.func110, Tryz.ntmps110
  go_wp2_with fail
  clear hR
  go_loopg [4] 2 (fun gg s4 wr => ∃ j : Nat, j ≤ 2 ∧ 2 - j ≤ gg ∧ s4 = .int .i64 j ∧ Aside (JoinF w wr R (joinN (a0, a1, a2, a3) (b0, b1, b2, b3) j).1 (joinN (a0, a1, a2, a3) (b0, b1, b2, b3) j).2.1 (joinN (a0, a1, a2, a3) (b0, b1, b2, b3) j).2.2.1 (joinN (a0, a1, a2, a3) (b0, b1, b2, b3) j).2.2.2))
  case atStart => exact ⟨0, by omega, by omega, rfl, HJ.out⟩
  case round =>
    obtain ⟨j, hj, hgg, rfl, A⟩ := hrel
    have hj3 : j = 0 ∨ j = 1 ∨ j = 2 := by omega
    rcases hj3 with rfl | rfl | rfl
    · have J : JoinF w wr R 0 0 0 0 := A.out
      have JH := Lib.hid J
      obtain ⟨c0, c1, c2, c3⟩ := HC.out
      have c0 := J.g.cell' c0
      have c1 := J.g.cell' c1
      have c2 := J.g.cell' c2
      have c3 := J.g.cell' c3
      clear J A
      go_wp2_with fail
      refine (refCheck_any a0 a1 a2 a3 _).mono ?_
      rintro ee w4 ⟨rfl, hg4⟩
      rw [HA.out]
      have c0 := hg4.cell' c0
      have c1 := hg4.cell' c1
      have c2 := hg4.cell' c2
      have c3 := hg4.cell' c3
      have J4 := JH.out.grew hg4
      have J4s := Lib.hid (J4.set HR.out a0 a1 a2 a3)
      obtain ⟨-, ⟨o0, o1, o2, o3⟩, -, fo, -⟩ := J4
      have f0 := fo 0
      have f1 := fo 1
      have f2 := fo 2
      have f3 := fo 3
      clear fo hg4 JH
      go_wp2_with fail
      go_roundg (2 - (0 + 1))
      case measure => omega
      case rel => exact ⟨1, by omega, by omega, by go_num, J4s.out⟩
    · have J : JoinF w wr R a0 a1 a2 a3 := A.out
      have JH := Lib.hid J
      obtain ⟨c0, c1, c2, c3⟩ := HD.out
      have c0 := J.g.cell' c0
      have c1 := J.g.cell' c1
      have c2 := J.g.cell' c2
      have c3 := J.g.cell' c3
      clear J A
      go_wp2_with fail
      refine (refCheck_any b0 b1 b2 b3 _).mono ?_
      rintro ee w4 ⟨rfl, hg4⟩
      rw [HB.out]
      have c0 := hg4.cell' c0
      have c1 := hg4.cell' c1
      have c2 := hg4.cell' c2
      have c3 := hg4.cell' c3
      have J4 := JH.out.grew hg4
      have J4 := Lib.hid J4
      clear hg4 JH
      go_wp2_with fail
      refine wp_region_free (by kernel_rfl) [24, 25, 26, 27, 28, 29, 30, 31, 32, 33, 34, 35, 36, 37, 38, 39, 40, 41, 42, 43, 44, 45, 46, 47, 48, 49, 50, 51, 52, 53, 54, 55, 56] (by kernel_rfl) (fun j v => (([fun v => v = (.pointer (some ⟨R + 1, 0, none⟩)), fun v => v = (.int .i64 a0), fun v => v = (.slice (some ⟨B, 0, none⟩) 2 2), fun v => v = (.int .i64 1), fun v => v = (.pointer (some ⟨B, 4, none⟩)), fun v => v = (.pointer (some ⟨B, 4, none⟩)), fun v => v = (.int .i64 b0), fun v => v = (.int .i64 (min a0 b0)), fun v => v = (.pointer (some ⟨R + 1, 1, none⟩)), fun v => v = (.int .i64 a1), fun v => v = (.slice (some ⟨B, 0, none⟩) 2 2), fun v => v = (.int .i64 1), fun v => v = (.pointer (some ⟨B, 4, none⟩)), fun v => v = (.pointer (some ⟨B, 5, none⟩)), fun v => v = (.int .i64 b1), fun v => v = (.int .i64 (min a1 b1)), fun v => v = (.pointer (some ⟨R + 1, 2, none⟩)), fun v => v = (.int .i64 a2), fun v => v = (.slice (some ⟨B, 0, none⟩) 2 2), fun v => v = (.int .i64 1), fun v => v = (.pointer (some ⟨B, 4, none⟩)), fun v => v = (.pointer (some ⟨B, 6, none⟩)), fun v => v = (.int .i64 b2), fun v => v = (.int .i64 (max a2 b2)), fun v => v = (.pointer (some ⟨R + 1, 3, none⟩)), fun v => v = (.int .i64 a3), fun v => v = (.slice (some ⟨B, 0, none⟩) 2 2), fun v => v = (.int .i64 1), fun v => v = (.pointer (some ⟨B, 4, none⟩)), fun v => v = (.pointer (some ⟨B, 7, none⟩)), fun v => v = (.int .i64 b3), fun v => v = (.int .i64 (max a3 b3)), fun v => v = (.agg #[.int .i64 (min a0 b0), .int .i64 (min a1 b1), .int .i64 (max a2 b2), .int .i64 (max a3 b3)]), fun _ => True] : List (Value → Prop)).getD j (fun _ => True)) v) (OneW w4 (fun W => JoinF w W R (min a0 b0) (min a1 b1) (max a2 b2) (max a3 b3)) 33) (fun x => OneW.start x) ?_ ?_
      · refine StepsAt.next ?_ ?_
        · intro ρ l x W hρ hc hR hl hd
          have t3 : ρ (.tmp 3) = (.pointer (some ⟨R + 1, 0, none⟩)) := by rw [hρ]; rfl
          have g0 := hR.g (hR.notk 0 (by decide) hl)
          clear hρ
          refine .inl ⟨rfl, fun R' hR' => ?_⟩
          unfold OpDoes
          go_simp
          exact hR' _ _ (fun _ _ => (by first | rfl | (simp; done))) (hR.same 0 _ _ (by decide) hl)
        refine StepsAt.next ?_ ?_
        · intro ρ l x W hρ hc hR hl hd
          have t24 : ρ (.tmp 24) = (.pointer (some ⟨R + 1, 0, none⟩)) := (show ρ (.tmp 24) = x 24 by rw [hρ]; rfl).trans ((hd.1 rfl).2 24 rfl)
          have g0 := hR.g (hR.notk 1 (by decide) hl)
          have cc := g0.cell' J4.out.o.1
          clear hρ
          refine .inl ⟨rfl, fun R' hR' => ?_⟩
          unfold OpDoes
          go_simp
          exact hR' _ _ (fun _ _ => (by first | rfl | (simp; done))) (hR.same 1 _ _ (by decide) hl)
        refine StepsAt.next ?_ ?_
        · intro ρ l x W hρ hc hR hl hd
          have t0 : ρ (.tmp 0) = (.slice (some ⟨B, 0, none⟩) 2 2) := by rw [hρ]; rfl
          have g0 := hR.g (hR.notk 2 (by decide) hl)
          clear hρ
          refine .inl ⟨rfl, fun R' hR' => ?_⟩
          unfold OpDoes
          go_simp
          exact hR' _ _ (fun _ _ => (by first | rfl | (simp; done))) (hR.same 2 _ _ (by decide) hl)
        refine StepsAt.next ?_ ?_
        · intro ρ l x W hρ hc hR hl hd
          have t4 : ρ (.tmp 4) = (.int .i64 1) := by rw [hρ]; rfl
          have g0 := hR.g (hR.notk 3 (by decide) hl)
          clear hρ
          refine .inl ⟨rfl, fun R' hR' => ?_⟩
          unfold OpDoes
          go_simp
          exact hR' _ _ (fun _ _ => (by first | rfl | (simp; done))) (hR.same 3 _ _ (by decide) hl)
        refine StepsAt.next ?_ ?_
        · intro ρ l x W hρ hc hR hl hd
          have t26 : ρ (.tmp 26) = (.slice (some ⟨B, 0, none⟩) 2 2) := (show ρ (.tmp 26) = x 26 by rw [hρ]; rfl).trans ((hd.1 rfl).2 26 rfl)
          have t27 : ρ (.tmp 27) = (.int .i64 1) := (show ρ (.tmp 27) = x 27 by rw [hρ]; rfl).trans ((hd.2.1 rfl).2 27 rfl)
          have g0 := hR.g (hR.notk 4 (by decide) hl)
          clear hρ
          refine .inl ⟨rfl, fun R' hR' => ?_⟩
          unfold OpDoes
          go_simp
          exact hR' _ _ (fun _ _ => (by first | rfl | (simp; done))) (hR.same 4 _ _ (by decide) hl)
        refine StepsAt.next ?_ ?_
        · intro ρ l x W hρ hc hR hl hd
          have t28 : ρ (.tmp 28) = (.pointer (some ⟨B, 4, none⟩)) := (show ρ (.tmp 28) = x 28 by rw [hρ]; rfl).trans ((hd.1 rfl).2 28 rfl)
          have g0 := hR.g (hR.notk 5 (by decide) hl)
          clear hρ
          refine .inl ⟨rfl, fun R' hR' => ?_⟩
          unfold OpDoes
          go_simp
          exact hR' _ _ (fun _ _ => (by first | rfl | (simp; done))) (hR.same 5 _ _ (by decide) hl)
        refine StepsAt.next ?_ ?_
        · intro ρ l x W hρ hc hR hl hd
          have t29 : ρ (.tmp 29) = (.pointer (some ⟨B, 4, none⟩)) := (show ρ (.tmp 29) = x 29 by rw [hρ]; rfl).trans ((hd.1 rfl).2 29 rfl)
          have g0 := hR.g (hR.notk 6 (by decide) hl)
          have cc := g0.cell' c0
          clear hρ
          refine .inl ⟨rfl, fun R' hR' => ?_⟩
          unfold OpDoes
          go_simp
          exact hR' _ _ (fun _ _ => (by first | rfl | (simp; done))) (hR.same 6 _ _ (by decide) hl)
        refine StepsAt.next ?_ ?_
        · intro ρ l x W hρ hc hR hl hd
          have t25 : ρ (.tmp 25) = (.int .i64 a0) := (show ρ (.tmp 25) = x 25 by rw [hρ]; rfl).trans ((hd.1 rfl).2 25 rfl)
          have t30 : ρ (.tmp 30) = (.int .i64 b0) := (show ρ (.tmp 30) = x 30 by rw [hρ]; rfl).trans ((hd.2.1 rfl).2 30 rfl)
          have g0 := hR.g (hR.notk 7 (by decide) hl)
          clear hρ
          refine .inl ⟨rfl, fun R' hR' => ?_⟩
          unfold OpDoes
          go_simp
          exact hR' _ _ (fun _ _ => (by first | rfl | (simp; done))) (hR.same 7 _ _ (by decide) hl)
        refine StepsAt.next ?_ ?_
        · intro ρ l x W hρ hc hR hl hd
          have t3 : ρ (.tmp 3) = (.pointer (some ⟨R + 1, 0, none⟩)) := by rw [hρ]; rfl
          have g0 := hR.g (hR.notk 8 (by decide) hl)
          clear hρ
          refine .inl ⟨rfl, fun R' hR' => ?_⟩
          unfold OpDoes
          go_simp
          exact hR' _ _ (fun _ _ => (by first | rfl | (simp; done))) (hR.same 8 _ _ (by decide) hl)
        refine StepsAt.next ?_ ?_
        · intro ρ l x W hρ hc hR hl hd
          have t32 : ρ (.tmp 32) = (.pointer (some ⟨R + 1, 1, none⟩)) := (show ρ (.tmp 32) = x 32 by rw [hρ]; rfl).trans ((hd.1 rfl).2 32 rfl)
          have g0 := hR.g (hR.notk 9 (by decide) hl)
          have cc := g0.cell' J4.out.o.2.1
          clear hρ
          refine .inl ⟨rfl, fun R' hR' => ?_⟩
          unfold OpDoes
          go_simp
          exact hR' _ _ (fun _ _ => (by first | rfl | (simp; done))) (hR.same 9 _ _ (by decide) hl)
        refine StepsAt.next ?_ ?_
        · intro ρ l x W hρ hc hR hl hd
          have t0 : ρ (.tmp 0) = (.slice (some ⟨B, 0, none⟩) 2 2) := by rw [hρ]; rfl
          have g0 := hR.g (hR.notk 10 (by decide) hl)
          clear hρ
          refine .inl ⟨rfl, fun R' hR' => ?_⟩
          unfold OpDoes
          go_simp
          exact hR' _ _ (fun _ _ => (by first | rfl | (simp; done))) (hR.same 10 _ _ (by decide) hl)
        refine StepsAt.next ?_ ?_
        · intro ρ l x W hρ hc hR hl hd
          have t4 : ρ (.tmp 4) = (.int .i64 1) := by rw [hρ]; rfl
          have g0 := hR.g (hR.notk 11 (by decide) hl)
          clear hρ
          refine .inl ⟨rfl, fun R' hR' => ?_⟩
          unfold OpDoes
          go_simp
          exact hR' _ _ (fun _ _ => (by first | rfl | (simp; done))) (hR.same 11 _ _ (by decide) hl)
        refine StepsAt.next ?_ ?_
        · intro ρ l x W hρ hc hR hl hd
          have t34 : ρ (.tmp 34) = (.slice (some ⟨B, 0, none⟩) 2 2) := (show ρ (.tmp 34) = x 34 by rw [hρ]; rfl).trans ((hd.1 rfl).2 34 rfl)
          have t35 : ρ (.tmp 35) = (.int .i64 1) := (show ρ (.tmp 35) = x 35 by rw [hρ]; rfl).trans ((hd.2.1 rfl).2 35 rfl)
          have g0 := hR.g (hR.notk 12 (by decide) hl)
          clear hρ
          refine .inl ⟨rfl, fun R' hR' => ?_⟩
          unfold OpDoes
          go_simp
          exact hR' _ _ (fun _ _ => (by first | rfl | (simp; done))) (hR.same 12 _ _ (by decide) hl)
        refine StepsAt.next ?_ ?_
        · intro ρ l x W hρ hc hR hl hd
          have t36 : ρ (.tmp 36) = (.pointer (some ⟨B, 4, none⟩)) := (show ρ (.tmp 36) = x 36 by rw [hρ]; rfl).trans ((hd.1 rfl).2 36 rfl)
          have g0 := hR.g (hR.notk 13 (by decide) hl)
          clear hρ
          refine .inl ⟨rfl, fun R' hR' => ?_⟩
          unfold OpDoes
          go_simp
          exact hR' _ _ (fun _ _ => (by first | rfl | (simp; done))) (hR.same 13 _ _ (by decide) hl)
        refine StepsAt.next ?_ ?_
        · intro ρ l x W hρ hc hR hl hd
          have t37 : ρ (.tmp 37) = (.pointer (some ⟨B, 5, none⟩)) := (show ρ (.tmp 37) = x 37 by rw [hρ]; rfl).trans ((hd.1 rfl).2 37 rfl)
          have g0 := hR.g (hR.notk 14 (by decide) hl)
          have cc := g0.cell' c1
          clear hρ
          refine .inl ⟨rfl, fun R' hR' => ?_⟩
          unfold OpDoes
          go_simp
          exact hR' _ _ (fun _ _ => (by first | rfl | (simp; done))) (hR.same 14 _ _ (by decide) hl)
        refine StepsAt.next ?_ ?_
        · intro ρ l x W hρ hc hR hl hd
          have t33 : ρ (.tmp 33) = (.int .i64 a1) := (show ρ (.tmp 33) = x 33 by rw [hρ]; rfl).trans ((hd.1 rfl).2 33 rfl)
          have t38 : ρ (.tmp 38) = (.int .i64 b1) := (show ρ (.tmp 38) = x 38 by rw [hρ]; rfl).trans ((hd.2.1 rfl).2 38 rfl)
          have g0 := hR.g (hR.notk 15 (by decide) hl)
          clear hρ
          refine .inl ⟨rfl, fun R' hR' => ?_⟩
          unfold OpDoes
          go_simp
          exact hR' _ _ (fun _ _ => (by first | rfl | (simp; done))) (hR.same 15 _ _ (by decide) hl)
        refine StepsAt.next ?_ ?_
        · intro ρ l x W hρ hc hR hl hd
          have t3 : ρ (.tmp 3) = (.pointer (some ⟨R + 1, 0, none⟩)) := by rw [hρ]; rfl
          have g0 := hR.g (hR.notk 16 (by decide) hl)
          clear hρ
          refine .inl ⟨rfl, fun R' hR' => ?_⟩
          unfold OpDoes
          go_simp
          exact hR' _ _ (fun _ _ => (by first | rfl | (simp; done))) (hR.same 16 _ _ (by decide) hl)
        refine StepsAt.next ?_ ?_
        · intro ρ l x W hρ hc hR hl hd
          have t40 : ρ (.tmp 40) = (.pointer (some ⟨R + 1, 2, none⟩)) := (show ρ (.tmp 40) = x 40 by rw [hρ]; rfl).trans ((hd.1 rfl).2 40 rfl)
          have g0 := hR.g (hR.notk 17 (by decide) hl)
          have cc := g0.cell' J4.out.o.2.2.1
          clear hρ
          refine .inl ⟨rfl, fun R' hR' => ?_⟩
          unfold OpDoes
          go_simp
          exact hR' _ _ (fun _ _ => (by first | rfl | (simp; done))) (hR.same 17 _ _ (by decide) hl)
        refine StepsAt.next ?_ ?_
        · intro ρ l x W hρ hc hR hl hd
          have t0 : ρ (.tmp 0) = (.slice (some ⟨B, 0, none⟩) 2 2) := by rw [hρ]; rfl
          have g0 := hR.g (hR.notk 18 (by decide) hl)
          clear hρ
          refine .inl ⟨rfl, fun R' hR' => ?_⟩
          unfold OpDoes
          go_simp
          exact hR' _ _ (fun _ _ => (by first | rfl | (simp; done))) (hR.same 18 _ _ (by decide) hl)
        refine StepsAt.next ?_ ?_
        · intro ρ l x W hρ hc hR hl hd
          have t4 : ρ (.tmp 4) = (.int .i64 1) := by rw [hρ]; rfl
          have g0 := hR.g (hR.notk 19 (by decide) hl)
          clear hρ
          refine .inl ⟨rfl, fun R' hR' => ?_⟩
          unfold OpDoes
          go_simp
          exact hR' _ _ (fun _ _ => (by first | rfl | (simp; done))) (hR.same 19 _ _ (by decide) hl)
        refine StepsAt.next ?_ ?_
        · intro ρ l x W hρ hc hR hl hd
          have t42 : ρ (.tmp 42) = (.slice (some ⟨B, 0, none⟩) 2 2) := (show ρ (.tmp 42) = x 42 by rw [hρ]; rfl).trans ((hd.1 rfl).2 42 rfl)
          have t43 : ρ (.tmp 43) = (.int .i64 1) := (show ρ (.tmp 43) = x 43 by rw [hρ]; rfl).trans ((hd.2.1 rfl).2 43 rfl)
          have g0 := hR.g (hR.notk 20 (by decide) hl)
          clear hρ
          refine .inl ⟨rfl, fun R' hR' => ?_⟩
          unfold OpDoes
          go_simp
          exact hR' _ _ (fun _ _ => (by first | rfl | (simp; done))) (hR.same 20 _ _ (by decide) hl)
        refine StepsAt.next ?_ ?_
        · intro ρ l x W hρ hc hR hl hd
          have t44 : ρ (.tmp 44) = (.pointer (some ⟨B, 4, none⟩)) := (show ρ (.tmp 44) = x 44 by rw [hρ]; rfl).trans ((hd.1 rfl).2 44 rfl)
          have g0 := hR.g (hR.notk 21 (by decide) hl)
          clear hρ
          refine .inl ⟨rfl, fun R' hR' => ?_⟩
          unfold OpDoes
          go_simp
          exact hR' _ _ (fun _ _ => (by first | rfl | (simp; done))) (hR.same 21 _ _ (by decide) hl)
        refine StepsAt.next ?_ ?_
        · intro ρ l x W hρ hc hR hl hd
          have t45 : ρ (.tmp 45) = (.pointer (some ⟨B, 6, none⟩)) := (show ρ (.tmp 45) = x 45 by rw [hρ]; rfl).trans ((hd.1 rfl).2 45 rfl)
          have g0 := hR.g (hR.notk 22 (by decide) hl)
          have cc := g0.cell' c2
          clear hρ
          refine .inl ⟨rfl, fun R' hR' => ?_⟩
          unfold OpDoes
          go_simp
          exact hR' _ _ (fun _ _ => (by first | rfl | (simp; done))) (hR.same 22 _ _ (by decide) hl)
        refine StepsAt.next ?_ ?_
        · intro ρ l x W hρ hc hR hl hd
          have t41 : ρ (.tmp 41) = (.int .i64 a2) := (show ρ (.tmp 41) = x 41 by rw [hρ]; rfl).trans ((hd.1 rfl).2 41 rfl)
          have t46 : ρ (.tmp 46) = (.int .i64 b2) := (show ρ (.tmp 46) = x 46 by rw [hρ]; rfl).trans ((hd.2.1 rfl).2 46 rfl)
          have g0 := hR.g (hR.notk 23 (by decide) hl)
          clear hρ
          refine .inl ⟨rfl, fun R' hR' => ?_⟩
          unfold OpDoes
          go_simp
          exact hR' _ _ (fun _ _ => (by first | rfl | (simp; done))) (hR.same 23 _ _ (by decide) hl)
        refine StepsAt.next ?_ ?_
        · intro ρ l x W hρ hc hR hl hd
          have t3 : ρ (.tmp 3) = (.pointer (some ⟨R + 1, 0, none⟩)) := by rw [hρ]; rfl
          have g0 := hR.g (hR.notk 24 (by decide) hl)
          clear hρ
          refine .inl ⟨rfl, fun R' hR' => ?_⟩
          unfold OpDoes
          go_simp
          exact hR' _ _ (fun _ _ => (by first | rfl | (simp; done))) (hR.same 24 _ _ (by decide) hl)
        refine StepsAt.next ?_ ?_
        · intro ρ l x W hρ hc hR hl hd
          have t48 : ρ (.tmp 48) = (.pointer (some ⟨R + 1, 3, none⟩)) := (show ρ (.tmp 48) = x 48 by rw [hρ]; rfl).trans ((hd.1 rfl).2 48 rfl)
          have g0 := hR.g (hR.notk 25 (by decide) hl)
          have cc := g0.cell' J4.out.o.2.2.2
          clear hρ
          refine .inl ⟨rfl, fun R' hR' => ?_⟩
          unfold OpDoes
          go_simp
          exact hR' _ _ (fun _ _ => (by first | rfl | (simp; done))) (hR.same 25 _ _ (by decide) hl)
        refine StepsAt.next ?_ ?_
        · intro ρ l x W hρ hc hR hl hd
          have t0 : ρ (.tmp 0) = (.slice (some ⟨B, 0, none⟩) 2 2) := by rw [hρ]; rfl
          have g0 := hR.g (hR.notk 26 (by decide) hl)
          clear hρ
          refine .inl ⟨rfl, fun R' hR' => ?_⟩
          unfold OpDoes
          go_simp
          exact hR' _ _ (fun _ _ => (by first | rfl | (simp; done))) (hR.same 26 _ _ (by decide) hl)
        refine StepsAt.next ?_ ?_
        · intro ρ l x W hρ hc hR hl hd
          have t4 : ρ (.tmp 4) = (.int .i64 1) := by rw [hρ]; rfl
          have g0 := hR.g (hR.notk 27 (by decide) hl)
          clear hρ
          refine .inl ⟨rfl, fun R' hR' => ?_⟩
          unfold OpDoes
          go_simp
          exact hR' _ _ (fun _ _ => (by first | rfl | (simp; done))) (hR.same 27 _ _ (by decide) hl)
        refine StepsAt.next ?_ ?_
        · intro ρ l x W hρ hc hR hl hd
          have t50 : ρ (.tmp 50) = (.slice (some ⟨B, 0, none⟩) 2 2) := (show ρ (.tmp 50) = x 50 by rw [hρ]; rfl).trans ((hd.1 rfl).2 50 rfl)
          have t51 : ρ (.tmp 51) = (.int .i64 1) := (show ρ (.tmp 51) = x 51 by rw [hρ]; rfl).trans ((hd.2.1 rfl).2 51 rfl)
          have g0 := hR.g (hR.notk 28 (by decide) hl)
          clear hρ
          refine .inl ⟨rfl, fun R' hR' => ?_⟩
          unfold OpDoes
          go_simp
          exact hR' _ _ (fun _ _ => (by first | rfl | (simp; done))) (hR.same 28 _ _ (by decide) hl)
        refine StepsAt.next ?_ ?_
        · intro ρ l x W hρ hc hR hl hd
          have t52 : ρ (.tmp 52) = (.pointer (some ⟨B, 4, none⟩)) := (show ρ (.tmp 52) = x 52 by rw [hρ]; rfl).trans ((hd.1 rfl).2 52 rfl)
          have g0 := hR.g (hR.notk 29 (by decide) hl)
          clear hρ
          refine .inl ⟨rfl, fun R' hR' => ?_⟩
          unfold OpDoes
          go_simp
          exact hR' _ _ (fun _ _ => (by first | rfl | (simp; done))) (hR.same 29 _ _ (by decide) hl)
        refine StepsAt.next ?_ ?_
        · intro ρ l x W hρ hc hR hl hd
          have t53 : ρ (.tmp 53) = (.pointer (some ⟨B, 7, none⟩)) := (show ρ (.tmp 53) = x 53 by rw [hρ]; rfl).trans ((hd.1 rfl).2 53 rfl)
          have g0 := hR.g (hR.notk 30 (by decide) hl)
          have cc := g0.cell' c3
          clear hρ
          refine .inl ⟨rfl, fun R' hR' => ?_⟩
          unfold OpDoes
          go_simp
          exact hR' _ _ (fun _ _ => (by first | rfl | (simp; done))) (hR.same 30 _ _ (by decide) hl)
        refine StepsAt.next ?_ ?_
        · intro ρ l x W hρ hc hR hl hd
          have t49 : ρ (.tmp 49) = (.int .i64 a3) := (show ρ (.tmp 49) = x 49 by rw [hρ]; rfl).trans ((hd.1 rfl).2 49 rfl)
          have t54 : ρ (.tmp 54) = (.int .i64 b3) := (show ρ (.tmp 54) = x 54 by rw [hρ]; rfl).trans ((hd.2.1 rfl).2 54 rfl)
          have g0 := hR.g (hR.notk 31 (by decide) hl)
          clear hρ
          refine .inl ⟨rfl, fun R' hR' => ?_⟩
          unfold OpDoes
          go_simp
          exact hR' _ _ (fun _ _ => (by first | rfl | (simp; done))) (hR.same 31 _ _ (by decide) hl)
        refine StepsAt.next ?_ ?_
        · intro ρ l x W hρ hc hR hl hd
          have t31 : ρ (.tmp 31) = (.int .i64 (min a0 b0)) := (show ρ (.tmp 31) = x 31 by rw [hρ]; rfl).trans ((hd.1 rfl).2 31 rfl)
          have t39 : ρ (.tmp 39) = (.int .i64 (min a1 b1)) := (show ρ (.tmp 39) = x 39 by rw [hρ]; rfl).trans ((hd.2.1 rfl).2 39 rfl)
          have t47 : ρ (.tmp 47) = (.int .i64 (max a2 b2)) := (show ρ (.tmp 47) = x 47 by rw [hρ]; rfl).trans ((hd.2.2.1 rfl).2 47 rfl)
          have t55 : ρ (.tmp 55) = (.int .i64 (max a3 b3)) := (show ρ (.tmp 55) = x 55 by rw [hρ]; rfl).trans ((hd.2.2.2.1 rfl).2 55 rfl)
          have g0 := hR.g (hR.notk 32 (by decide) hl)
          clear hρ
          refine .inl ⟨rfl, fun R' hR' => ?_⟩
          unfold OpDoes
          go_simp
          exact hR' _ _ (fun _ _ => (by first | rfl | (simp; done))) (hR.same 32 _ _ (by decide) hl)
        refine StepsAt.next ?_ ?_
        · intro ρ l x W hρ hc hR hl hd
          have t3 : ρ (.tmp 3) = (.pointer (some ⟨R + 1, 0, none⟩)) := by rw [hρ]; rfl
          have t56 : ρ (.tmp 56) = (.agg #[.int .i64 (min a0 b0), .int .i64 (min a1 b1), .int .i64 (max a2 b2), .int .i64 (max a3 b3)]) := (show ρ (.tmp 56) = x 56 by rw [hρ]; rfl).trans ((hd.1 rfl).2 56 rfl)
          have hall : ∀ q, q < 33 → l q = true := by
            intro q hq
            have hq2 : q = 0 ∨ q = 1 ∨ q = 2 ∨ q = 3 ∨ q = 4 ∨ q = 5 ∨ q = 6 ∨ q = 7 ∨ q = 8 ∨ q = 9 ∨ q = 10 ∨ q = 11 ∨ q = 12 ∨ q = 13 ∨ q = 14 ∨ q = 15 ∨ q = 16 ∨ q = 17 ∨ q = 18 ∨ q = 19 ∨ q = 20 ∨ q = 21 ∨ q = 22 ∨ q = 23 ∨ q = 24 ∨ q = 25 ∨ q = 26 ∨ q = 27 ∨ q = 28 ∨ q = 29 ∨ q = 30 ∨ q = 31 ∨ q = 32 := by omega
            rcases hq2 with rfl | rfl | rfl | rfl | rfl | rfl | rfl | rfl | rfl | rfl | rfl | rfl | rfl | rfl | rfl | rfl | rfl | rfl | rfl | rfl | rfl | rfl | rfl | rfl | rfl | rfl | rfl | rfl | rfl | rfl | rfl | rfl | rfl
            · exact (hd.2.1 rfl).1
            · exact (hd.2.2.1 rfl).1
            · exact (hd.2.2.2.1 rfl).1
            · exact (hd.2.2.2.2.1 rfl).1
            · exact (hd.2.2.2.2.2.1 rfl).1
            · exact (hd.2.2.2.2.2.2.1 rfl).1
            · exact (hd.2.2.2.2.2.2.2.1 rfl).1
            · exact (hd.2.2.2.2.2.2.2.2.1 rfl).1
            · exact (hd.2.2.2.2.2.2.2.2.2.1 rfl).1
            · exact (hd.2.2.2.2.2.2.2.2.2.2.1 rfl).1
            · exact (hd.2.2.2.2.2.2.2.2.2.2.2.1 rfl).1
            · exact (hd.2.2.2.2.2.2.2.2.2.2.2.2.1 rfl).1
            · exact (hd.2.2.2.2.2.2.2.2.2.2.2.2.2.1 rfl).1
            · exact (hd.2.2.2.2.2.2.2.2.2.2.2.2.2.2.1 rfl).1
            · exact (hd.2.2.2.2.2.2.2.2.2.2.2.2.2.2.2.1 rfl).1
            · exact (hd.2.2.2.2.2.2.2.2.2.2.2.2.2.2.2.2.1 rfl).1
            · exact (hd.2.2.2.2.2.2.2.2.2.2.2.2.2.2.2.2.2.1 rfl).1
            · exact (hd.2.2.2.2.2.2.2.2.2.2.2.2.2.2.2.2.2.2.1 rfl).1
            · exact (hd.2.2.2.2.2.2.2.2.2.2.2.2.2.2.2.2.2.2.2.1 rfl).1
            · exact (hd.2.2.2.2.2.2.2.2.2.2.2.2.2.2.2.2.2.2.2.2.1 rfl).1
            · exact (hd.2.2.2.2.2.2.2.2.2.2.2.2.2.2.2.2.2.2.2.2.2.1 rfl).1
            · exact (hd.2.2.2.2.2.2.2.2.2.2.2.2.2.2.2.2.2.2.2.2.2.2.1 rfl).1
            · exact (hd.2.2.2.2.2.2.2.2.2.2.2.2.2.2.2.2.2.2.2.2.2.2.2.1 rfl).1
            · exact (hd.2.2.2.2.2.2.2.2.2.2.2.2.2.2.2.2.2.2.2.2.2.2.2.2.1 rfl).1
            · exact (hd.2.2.2.2.2.2.2.2.2.2.2.2.2.2.2.2.2.2.2.2.2.2.2.2.2.1 rfl).1
            · exact (hd.2.2.2.2.2.2.2.2.2.2.2.2.2.2.2.2.2.2.2.2.2.2.2.2.2.2.1 rfl).1
            · exact (hd.2.2.2.2.2.2.2.2.2.2.2.2.2.2.2.2.2.2.2.2.2.2.2.2.2.2.2.1 rfl).1
            · exact (hd.2.2.2.2.2.2.2.2.2.2.2.2.2.2.2.2.2.2.2.2.2.2.2.2.2.2.2.2.1 rfl).1
            · exact (hd.2.2.2.2.2.2.2.2.2.2.2.2.2.2.2.2.2.2.2.2.2.2.2.2.2.2.2.2.2.1 rfl).1
            · exact (hd.2.2.2.2.2.2.2.2.2.2.2.2.2.2.2.2.2.2.2.2.2.2.2.2.2.2.2.2.2.2.1 rfl).1
            · exact (hd.2.2.2.2.2.2.2.2.2.2.2.2.2.2.2.2.2.2.2.2.2.2.2.2.2.2.2.2.2.2.2.1 rfl).1
            · exact (hd.2.2.2.2.2.2.2.2.2.2.2.2.2.2.2.2.2.2.2.2.2.2.2.2.2.2.2.2.2.2.2.2.1 rfl).1
            · exact (hd.1 rfl).1
          have g0 := hR.g hl
          have J9 := J4.out.grew g0
          have J9s := Lib.hid (J9.set HR.out (min a0 b0) (min a1 b1) (max a2 b2) (max a3 b3))
          obtain ⟨-, ⟨o0, o1, o2, o3⟩, -, fo, -⟩ := J9
          have f0 := fo 0
          have f1 := fo 1
          have f2 := fo 2
          have f3 := fo 3
          clear hρ fo
          refine .inl ⟨rfl, fun R' hR' => ?_⟩
          unfold OpDoes
          go_simp
          exact hR' _ _ (fun _ h => by cases h) (OneW.store hall J9s.out)
        exact trivial
      · intro l x W hR hall hV
        have hp := hR.fin (hall 33 (Nat.le_of_ble_eq_true rfl))
        have HPp := Lib.hid hp
        clear hR hall hV hp
        simp only [Fr, mapFrom, List.mem_cons, List.not_mem_nil, or_false, Nat.reduceAdd]
        simp only [Nat.reduceEqDiff, reduceIte, or_false, or_self, or_true]
        go_wp2_with fail
        go_roundg (2 - (1 + 1))
        case measure => omega
        case rel => exact ⟨2, by omega, by omega, by go_num, HPp.out⟩
    · obtain ⟨g, ⟨o0, o1, o2, o3⟩, ⟨r0, r1, r2, r3⟩, fo, fr⟩ := (show JoinF w wr R (min a0 b0) (min a1 b1) (max a2 b2) (max a3 b3) from A.out)
      have f0 := fr 0
      have f1 := fr 1
      have f2 := fr 2
      have f3 := fr 3
      clear fo fr A
      obtain ⟨W4, hW4⟩ : ∃ W4, (((wr.setCell ⟨R, 0, none⟩ (.int .i64 (min a0 b0))).setCell ⟨R, 1, none⟩ (.int .i64 (min a1 b1))).setCell ⟨R, 2, none⟩ (.int .i64 (max a2 b2))).setCell ⟨R, 3, none⟩ (.int .i64 (max a3 b3)) = W4 := ⟨_, rfl⟩
      have y0 : W4.cell? ⟨R, 0, none⟩ = some (.int .i64 (min a0 b0)) := by rw [← hW4]; simp [go_sem, r0]
      have y1 : W4.cell? ⟨R, 1, none⟩ = some (.int .i64 (min a1 b1)) := by rw [← hW4]; simp [go_sem, r1]
      have y2 : W4.cell? ⟨R, 2, none⟩ = some (.int .i64 (max a2 b2)) := by rw [← hW4]; simp [go_sem, r2]
      have y3 : W4.cell? ⟨R, 3, none⟩ = some (.int .i64 (max a3 b3)) := by rw [← hW4]; simp [go_sem, r3]
      have hg4 : Grew w W4 := by
        have hR := HR.out
        rw [← hW4]
        (repeat' (first | (with_reducible assumption) | (with_reducible exact Grew.refl _) | (with_reducible refine Grew.alloc ?_ _) | (with_reducible refine Grew.drew ?_) | (with_reducible refine Grew.drewN ?_ _) | (with_reducible refine Grew.setCell ?_ ?_ _) | (simp; done) | (simp; omega)))
      go_wp2_with fail
      refine bodyPost_ret (by simp [results, Tryz.results110, y0, y1, y2, y3, go_sem]; try rfl) rfl ?_
      exact ⟨rfl, hg4⟩

end Go.Proofs.YtcelamaiebjdaaaGreat

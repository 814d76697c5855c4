/- Contracts of package solid's Along and what it calls. -/
import Derived.Test.YtcelamaiebjdaaaGreatSolid
import Derived.Test.YtcelamaiebjdaaaGreatTurn
import Derived.RegionTactic
import Derived.Deep.LoopGhost
import Derived.Deep.CutRange
namespace Go.Proofs.YtcelamaiebjdaaaGreat
open Go.RowKit Go.Sort
attribute [local go_sem ↓] Go.wp_at_zero Go.wp_at_succ

theorem isSome_setCell (w : World) (a b : Addr) (v : Value) : ((w.setCell a v).cell? b).isSome = (w.cell? b).isSome := by
  by_cases h : a = b
  · subst h
    cases hc : w.cell? a with
    | some u => rw [World.cell?_setCell_same w _ _ hc]; rfl
    | none =>
      simp only [World.setCell, World.cell?, Array.getElem?_modify, if_true] at hc ⊢
      cases hh : w.heap[a.block]? with
      | none => simp
      | some x =>
        rw [hh] at hc
        cases x <;> simp at hc ⊢
        all_goals try (intro hs; simp [hs] at hc ⊢; omega)
  · rw [World.cell?_setCell_other w _ _ _ h]
attribute [local go_sem] isSome_setCell
theorem Grew.frozen_new {w w' : World} (h : Grew w w') {b : Nat} (hb : b < w.heap.size) (hf : ∀ j, w.frozen? ⟨b, j, none⟩ = false) : ∀ j, w'.frozen? ⟨b, j, none⟩ = false := fun j => (h.frozen (p := ⟨b, j, none⟩) hb).trans (hf j)
theorem wp_named {P : Program} {c : Code} {Q : Exit → Act → World → Prop} {a : Act} {w : World} (h : ∀ W, w = W → Code.wp P c Q a W) : Code.wp P c Q a w := h w rfl
theorem mul_in {a b : Int} (ha : -4194304 ≤ a ∧ a ≤ 4194304) (hb : -4194304 ≤ b ∧ b ≤ 4194304) : -17592186044416 ≤ a * b ∧ a * b ≤ 17592186044416 := by
  have h1 := Int.mul_nonneg (show 0 ≤ 4194304 - a by omega) (show 0 ≤ 4194304 + b by omega)
  have h2 := Int.mul_nonneg (show 0 ≤ 4194304 + a by omega) (show 0 ≤ 4194304 - b by omega)
  have h3 := Int.mul_nonneg (show 0 ≤ 4194304 - a by omega) (show 0 ≤ 4194304 - b by omega)
  have h4 := Int.mul_nonneg (show 0 ≤ 4194304 + a by omega) (show 0 ≤ 4194304 + b by omega)
  rw [Int.sub_mul, Int.mul_add, Int.mul_add] at h1
  rw [Int.add_mul, Int.mul_sub, Int.mul_sub] at h2
  rw [Int.sub_mul, Int.mul_sub, Int.mul_sub] at h3
  rw [Int.add_mul, Int.mul_add, Int.mul_add] at h4
  omega

set_option maxHeartbeats 400000 in
theorem cross_any (a b c d : Int) (w : World) (ha : -4194304 ≤ a ∧ a ≤ 4194304) (hb : -4194304 ≤ b ∧ b ≤ 4194304) (hc : -4194304 ≤ c ∧ c ≤ 4194304) (hd : -4194304 ≤ d ∧ d ≤ 4194304) :
    Calls Tryz.prog 114 #[.agg #[.int .i64 a, .int .i64 b], .agg #[.int .i64 c, .int .i64 d]] w fun e w' => e = .returned (.int .i64 (a * d - b * c)) ∧ Grew w w' := by
  have h1 := mul_in ha hd
  have h2 := mul_in hb hc
  have e1 : IntKind.i64.wrap (a * d) = a * d := IntWalk.i64_in _ (by omega)
  have e2 : IntKind.i64.wrap (b * c) = b * c := IntWalk.i64_in _ (by omega)
  have e3 : IntKind.i64.wrap (a * d - b * c) = a * d - b * c := IntWalk.i64_in _ (by omega)
  go_enter Tryz.func114, Tryz.ntmps114
  go_wp2_with fail
  go_ret
  exact ⟨rfl, by (repeat' (first | exact Grew.refl _ | assumption | refine Grew.alloc ?_ _ | refine Grew.drew ?_ | refine Grew.drewN ?_ _ | refine Grew.setCell ?_ ?_ _ | (simp; done) | (simp; omega)))⟩
set_option maxHeartbeats 400000 in
theorem way_any (a b c d : Int) (w : World) (ha : -2097152 ≤ a ∧ a ≤ 2097152) (hb : -2097152 ≤ b ∧ b ≤ 2097152) (hc : -2097152 ≤ c ∧ c ≤ 2097152) (hd : -2097152 ≤ d ∧ d ≤ 2097152) :
    Calls Tryz.prog 115 #[.agg #[.int .i64 a, .int .i64 b], .agg #[.int .i64 c, .int .i64 d]] w fun e w' => e = .returned (.agg #[.int .i64 (c - a), .int .i64 (d - b)]) ∧ Grew w w' := by
  go_enter Tryz.func115, Tryz.ntmps115
  go_wp2_with fail
  go_returns
  exact ⟨rfl, by (repeat' (first | exact Grew.refl _ | assumption | refine Grew.alloc ?_ _ | refine Grew.drew ?_ | refine Grew.drewN ?_ _ | refine Grew.setCell ?_ ?_ _ | (simp; done) | (simp; omega)))⟩

set_option maxHeartbeats 1000000 in
set_option maxRecDepth 100000 in
theorem turn_any (fx fy tx ty x y : Int) (w : World) (h1 : fairB fx fy = true) (h2 : fairB tx ty = true) (h3 : fairB x y = true) :
    Calls Tryz.prog 90 #[.agg #[.int .i64 fx, .int .i64 fy], .agg #[.int .i64 tx, .int .i64 ty], .agg #[.int .i64 x, .int .i64 y]] w fun e w' => e = .returned (.int .i64 (turnL fx fy tx ty x y)) ∧ Grew w w' := by
  have h1 := of_decide_eq_true h1
  have h2 := of_decide_eq_true h2
  have h3 := of_decide_eq_true h3
  obtain ⟨B, hB⟩ : ∃ B, w.heap.size = B := ⟨_, rfl⟩
  go_enter Tryz.func90, Tryz.ntmps90
  go_wp2_with fail
  obtain ⟨w1, hw1e⟩ : ∃ w1, ((w.alloc (.cells #[.int .i64 fx, .int .i64 fy] 29)).alloc (.cells #[.int .i64 tx, .int .i64 ty] 29)).alloc (.cells #[.int .i64 x, .int .i64 y] 29) = w1 := ⟨_, rfl⟩
  have hg1 : Grew w w1 := by rw [← hw1e]; (repeat' (first | exact Grew.refl _ | assumption | refine Grew.alloc ?_ _ | refine Grew.drew ?_ | refine Grew.drewN ?_ _ | refine Grew.setCell ?_ ?_ _ | (simp; done) | (simp; omega)))
  have a0 : w1.cell? ⟨B, 0, none⟩ = some (.int .i64 fx) := by rw [← hw1e, ← hB]; simp [go_sem]
  have a1 : w1.cell? ⟨B, 1, none⟩ = some (.int .i64 fy) := by rw [← hw1e, ← hB]; simp [go_sem]
  have b0 : w1.cell? ⟨B + 1, 0, none⟩ = some (.int .i64 tx) := by rw [← hw1e, ← hB]; simp [go_sem]
  have b1 : w1.cell? ⟨B + 1, 1, none⟩ = some (.int .i64 ty) := by rw [← hw1e, ← hB]; simp [go_sem]
  have c0 : w1.cell? ⟨B + 1 + 1, 0, none⟩ = some (.int .i64 x) := by rw [← hw1e, ← hB]; simp [go_sem]
  have c1 : w1.cell? ⟨B + 1 + 1, 1, none⟩ = some (.int .i64 y) := by rw [← hw1e, ← hB]; simp [go_sem]
  have HF : Aside (∀ W, Grew w1 W → (W.cell? ⟨B, 0, none⟩ = some (.int .i64 fx) ∧ W.cell? ⟨B, 1, none⟩ = some (.int .i64 fy) ∧ W.cell? ⟨B + 1, 0, none⟩ = some (.int .i64 tx) ∧ W.cell? ⟨B + 1, 1, none⟩ = some (.int .i64 ty) ∧ W.cell? ⟨B + 1 + 1, 0, none⟩ = some (.int .i64 x) ∧ W.cell? ⟨B + 1 + 1, 1, none⟩ = some (.int .i64 y))) := fun W g =>
    ⟨g.cell' a0, g.cell' a1, g.cell' b0, g.cell' b1, g.cell' c0, g.cell' c1⟩
  try rw [hB]
  try rw [hw1e]
  clear hw1e hB
  go_region_held3 (fun W => W.cell? ⟨B, 0, none⟩ = some (.int .i64 fx) ∧ W.cell? ⟨B, 1, none⟩ = some (.int .i64 fy) ∧ W.cell? ⟨B + 1, 0, none⟩ = some (.int .i64 tx) ∧ W.cell? ⟨B + 1, 1, none⟩ = some (.int .i64 ty) ∧ W.cell? ⟨B + 1 + 1, 0, none⟩ = some (.int .i64 x) ∧ W.cell? ⟨B + 1 + 1, 1, none⟩ = some (.int .i64 y))
    ((refine HF.out _ ?_; (repeat' (first | exact Grew.refl _ | assumption | refine Grew.alloc ?_ _ | refine Grew.drew ?_ | refine Grew.drewN ?_ _ | refine Grew.setCell ?_ ?_ _ | (simp; done) | (simp; omega))); done))
    (first | (go_at_call 115; refine (way_any _ _ _ _ _ ?_ ?_ ?_ ?_).mono ?_; (· omega); (· omega); (· omega); (· omega); rintro e w2 ⟨rfl, hg2⟩; replace hg2 := Grew.trans (show Grew w1 _ by (repeat' (first | exact Grew.refl _ | assumption | refine Grew.alloc ?_ _ | refine Grew.drew ?_ | refine Grew.drewN ?_ _ | refine Grew.setCell ?_ ?_ _ | (simp; done) | (simp; omega)))) hg2)
           | (go_at_call 114; refine (cross_any _ _ _ _ _ ?_ ?_ ?_ ?_).mono ?_; (· omega); (· omega); (· omega); (· omega); rintro e w4 ⟨rfl, hg4⟩; replace hg4 := Grew.trans (show Grew w1 _ by (repeat' (first | exact Grew.refl _ | assumption | refine Grew.alloc ?_ _ | refine Grew.drew ?_ | refine Grew.drewN ?_ _ | refine Grew.setCell ?_ ?_ _ | (simp; done) | (simp; omega)))) hg4))
  all_goals
    go_wp2_with fail
    go_ret
    exact ⟨rfl, hg1.trans (Grew.trans hg4 (by (repeat' (first | exact Grew.refl _ | assumption | refine Grew.alloc ?_ _ | refine Grew.drew ?_ | refine Grew.drewN ?_ _ | refine Grew.setCell ?_ ?_ _ | (simp; done) | (simp; omega)))))⟩

set_option maxHeartbeats 400000 in
theorem grown_any (x y : Int) (w : World) (h : fairB x y = true) :
    Calls Tryz.prog 89 #[.agg #[.int .i64 x, .int .i64 y], .int .i64 0] w fun e w' => e = .returned (.agg #[.int .i64 x, .int .i64 y, .int .i64 x, .int .i64 y]) ∧ Grew w w' := by
  have h := of_decide_eq_true h
  go_enter Tryz.func89, Tryz.ntmps89
  go_wp2_with fail
  go_returns
  exact ⟨by simp, by (repeat' (first | exact Grew.refl _ | assumption | refine Grew.alloc ?_ _ | refine Grew.drew ?_ | refine Grew.drewN ?_ _ | refine Grew.setCell ?_ ?_ _ | (simp; done) | (simp; omega)))⟩

/-- What Join holds on to: the result's block R, the box so far in R + 1. -/
structure JoinF (w0 w : World) (R : Nat) (x0 x1 x2 x3 : Int) : Prop where
  g : Grew w0 w
  o : w.cell? ⟨R + 1, 0, none⟩ = some (.int .i64 x0) ∧ w.cell? ⟨R + 1, 1, none⟩ = some (.int .i64 x1) ∧ w.cell? ⟨R + 1, 2, none⟩ = some (.int .i64 x2) ∧ w.cell? ⟨R + 1, 3, none⟩ = some (.int .i64 x3)
  r : w.cell? ⟨R, 0, none⟩ = some (.int .i64 0) ∧ w.cell? ⟨R, 1, none⟩ = some (.int .i64 0) ∧ w.cell? ⟨R, 2, none⟩ = some (.int .i64 0) ∧ w.cell? ⟨R, 3, none⟩ = some (.int .i64 0)
  fo : ∀ j, w.frozen? ⟨R + 1, j, none⟩ = false
  fr : ∀ j, w.frozen? ⟨R, j, none⟩ = false
theorem JoinF.grew {w0 w w' : World} {R : Nat} {x0 x1 x2 x3 : Int} (h : JoinF w0 w R x0 x1 x2 x3) (k : Grew w w') : JoinF w0 w' R x0 x1 x2 x3 :=
  ⟨h.g.trans k, ⟨k.cell' h.o.1, k.cell' h.o.2.1, k.cell' h.o.2.2.1, k.cell' h.o.2.2.2⟩, ⟨k.cell' h.r.1, k.cell' h.r.2.1, k.cell' h.r.2.2.1, k.cell' h.r.2.2.2⟩, k.frozen_new (lt_of_cell h.o.1) h.fo, k.frozen_new (lt_of_cell h.r.1) h.fr⟩
theorem JoinF.set {w0 w : World} {R : Nat} {x0 x1 x2 x3 : Int} (h : JoinF w0 w R x0 x1 x2 x3) (hR : w0.heap.size = R) (y0 y1 y2 y3 : Int) :
    JoinF w0 ((((w.setCell ⟨R + 1, 0, none⟩ (.int .i64 y0)).setCell ⟨R + 1, 1, none⟩ (.int .i64 y1)).setCell ⟨R + 1, 2, none⟩ (.int .i64 y2)).setCell ⟨R + 1, 3, none⟩ (.int .i64 y3)) R y0 y1 y2 y3 := by
  obtain ⟨g, ⟨o0, o1, o2, o3⟩, ⟨r0, r1, r2, r3⟩, fo, fr⟩ := h
  exact ⟨by (repeat' (first | (with_reducible assumption) | (with_reducible exact Grew.refl _) | (with_reducible refine Grew.alloc ?_ _) | (with_reducible refine Grew.drew ?_) | (with_reducible refine Grew.drewN ?_ _) | (with_reducible refine Grew.setCell ?_ ?_ _) | (simp; done) | (simp; omega))), ⟨by simp [go_sem, o0], by simp [go_sem, o1], by simp [go_sem, o2], by simp [go_sem, o3]⟩, ⟨by simp [go_sem, r0], by simp [go_sem, r1], by simp [go_sem, r2], by simp [go_sem, r3]⟩, fun j => by simp [go_sem, fo], fun j => by simp [go_sem, fr]⟩
theorem JoinF.lows {w0 w : World} {R : Nat} {x0 x1 x2 x3 : Int} (h : JoinF w0 w R x0 x1 x2 x3) (hR : w0.heap.size = R) (y0 y1 : Int) : JoinF w0 ((w.setCell ⟨R + 1, 0, none⟩ (.int .i64 y0)).setCell ⟨R + 1, 1, none⟩ (.int .i64 y1)) R y0 y1 x2 x3 := by
  obtain ⟨g, ⟨o0, o1, o2, o3⟩, ⟨r0, r1, r2, r3⟩, fo, fr⟩ := h
  exact ⟨by (repeat' (first | (with_reducible assumption) | (with_reducible exact Grew.refl _) | (with_reducible refine Grew.alloc ?_ _) | (with_reducible refine Grew.drew ?_) | (with_reducible refine Grew.drewN ?_ _) | (with_reducible refine Grew.setCell ?_ ?_ _) | (simp; done) | (simp; omega))), ⟨by simp [go_sem, o0], by simp [go_sem, o1], by simp [go_sem, o2], by simp [go_sem, o3]⟩, ⟨by simp [go_sem, r0], by simp [go_sem, r1], by simp [go_sem, r2], by simp [go_sem, r3]⟩, fun j => by simp [go_sem, fo], fun j => by simp [go_sem, fr]⟩
theorem JoinF.highs {w0 w : World} {R : Nat} {x0 x1 x2 x3 : Int} (h : JoinF w0 w R x0 x1 x2 x3) (hR : w0.heap.size = R) (y2 y3 : Int) : JoinF w0 ((w.setCell ⟨R + 1, 2, none⟩ (.int .i64 y2)).setCell ⟨R + 1, 3, none⟩ (.int .i64 y3)) R x0 x1 y2 y3 := by
  obtain ⟨g, ⟨o0, o1, o2, o3⟩, ⟨r0, r1, r2, r3⟩, fo, fr⟩ := h
  exact ⟨by (repeat' (first | (with_reducible assumption) | (with_reducible exact Grew.refl _) | (with_reducible refine Grew.alloc ?_ _) | (with_reducible refine Grew.drew ?_) | (with_reducible refine Grew.drewN ?_ _) | (with_reducible refine Grew.setCell ?_ ?_ _) | (simp; done) | (simp; omega))), ⟨by simp [go_sem, o0], by simp [go_sem, o1], by simp [go_sem, o2], by simp [go_sem, o3]⟩, ⟨by simp [go_sem, r0], by simp [go_sem, r1], by simp [go_sem, r2], by simp [go_sem, r3]⟩, fun j => by simp [go_sem, fo], fun j => by simp [go_sem, fr]⟩

/-- The box so far. -/
def joinN (a b : Int × Int × Int × Int) : Nat → Int × Int × Int × Int
  | 0 => (0, 0, 0, 0)
  | 1 => a
  | _ => (min a.1 b.1, min a.2.1 b.2.1, max a.2.2.1 b.2.2.1, max a.2.2.2 b.2.2.2)
set_option maxHeartbeats 4000000 in
set_option maxRecDepth 100000 in
theorem join_any (a0 a1 a2 a3 b0 b1 b2 b3 : Int) (B : Nat) (w : World) (ha : chk a0 a1 a2 a3 = 0) (hb : chk b0 b1 b2 b3 = 0) (ia : I64 a0 ∧ I64 a1 ∧ I64 a2 ∧ I64 a3) (ib : I64 b0 ∧ I64 b1 ∧ I64 b2 ∧ I64 b3)
    (c0 : w.cell? ⟨B, 0, none⟩ = some (.int .i64 a0)) (c1 : w.cell? ⟨B, 1, none⟩ = some (.int .i64 a1)) (c2 : w.cell? ⟨B, 2, none⟩ = some (.int .i64 a2)) (c3 : w.cell? ⟨B, 3, none⟩ = some (.int .i64 a3))
    (d0 : w.cell? ⟨B, 4, none⟩ = some (.int .i64 b0)) (d1 : w.cell? ⟨B, 5, none⟩ = some (.int .i64 b1)) (d2 : w.cell? ⟨B, 6, none⟩ = some (.int .i64 b2)) (d3 : w.cell? ⟨B, 7, none⟩ = some (.int .i64 b3)) :
    Calls Tryz.prog 88 #[.slice (some ⟨B, 0, none⟩) 2 2] w fun e w' => e = .returned (.agg #[.int .i64 (min a0 b0), .int .i64 (min a1 b1), .int .i64 (max a2 b2), .int .i64 (max a3 b3)]) ∧ Grew w w' := by
  have hB := lt_of_cell c0
  have HA := Lib.hid ha
  have HB := Lib.hid hb
  have HC : Aside (w.cell? ⟨B, 0, none⟩ = some (.int .i64 a0) ∧ w.cell? ⟨B, 1, none⟩ = some (.int .i64 a1) ∧ w.cell? ⟨B, 2, none⟩ = some (.int .i64 a2) ∧ w.cell? ⟨B, 3, none⟩ = some (.int .i64 a3)) := ⟨c0, c1, c2, c3⟩
  have HD : Aside (w.cell? ⟨B, 4, none⟩ = some (.int .i64 b0) ∧ w.cell? ⟨B, 5, none⟩ = some (.int .i64 b1) ∧ w.cell? ⟨B, 6, none⟩ = some (.int .i64 b2) ∧ w.cell? ⟨B, 7, none⟩ = some (.int .i64 b3)) := ⟨d0, d1, d2, d3⟩
  obtain ⟨R, hR⟩ : ∃ R, w.heap.size = R := ⟨_, rfl⟩
  have HR := Lib.hid hR
  rw [hR] at hB
  have hJ : JoinF w ((w.alloc (.cells #[.int .i64 0, .int .i64 0, .int .i64 0, .int .i64 0] 32)).alloc (.cells #[.int .i64 0, .int .i64 0, .int .i64 0, .int .i64 0] 32)) R 0 0 0 0 :=
    ⟨by (repeat' (first | (with_reducible assumption) | (with_reducible exact Grew.refl _) | (with_reducible refine Grew.alloc ?_ _) | (with_reducible refine Grew.drew ?_) | (with_reducible refine Grew.drewN ?_ _) | (with_reducible refine Grew.setCell ?_ ?_ _) | (simp; done) | (simp; omega))), ⟨by rw [← hR]; simp [go_sem], by rw [← hR]; simp [go_sem], by rw [← hR]; simp [go_sem], by rw [← hR]; simp [go_sem]⟩, ⟨by rw [← hR]; simp [go_sem], by rw [← hR]; simp [go_sem], by rw [← hR]; simp [go_sem], by rw [← hR]; simp [go_sem]⟩, fun j => by rw [← hR]; simp [go_sem], fun j => by rw [← hR]; simp [go_sem]⟩
  have HJ := Lib.hid hJ
  clear ha hb c0 c1 c2 c3 d0 d1 d2 d3 hJ
  go_enter Tryz.func88, Tryz.ntmps88
  go_wp2_with fail
  clear hR
  go_loopg [8] 2 (fun gg s8 wr => ∃ j : Nat, j ≤ 2 ∧ 2 - j ≤ gg ∧ s8 = .int .i64 j ∧ Aside (JoinF w wr R (joinN (a0, a1, a2, a3) (b0, b1, b2, b3) j).1 (joinN (a0, a1, a2, a3) (b0, b1, b2, b3) j).2.1 (joinN (a0, a1, a2, a3) (b0, b1, b2, b3) j).2.2.1 (joinN (a0, a1, a2, a3) (b0, b1, b2, b3) j).2.2.2))
  case atStart => exact ⟨0, by omega, by omega, rfl, HJ.out⟩
  case round =>
    obtain ⟨j, hj, hgg, rfl, A⟩ := hrel
    have hj3 : j = 0 ∨ j = 1 ∨ j = 2 := by omega
    rcases hj3 with rfl | rfl | rfl
    · have J : JoinF w wr R (0) (0) (0) (0) := A.out
      have JH := Lib.hid J
      obtain ⟨c0, c1, c2, c3⟩ := HC.out
      have c0 := J.g.cell' c0
      have c1 := J.g.cell' c1
      have c2 := J.g.cell' c2
      have c3 := J.g.cell' c3
      obtain ⟨V, hV⟩ : ∃ V, wr.heap.size = V := ⟨_, rfl⟩
      have hVR : R + 1 < V := by rw [← hV]; exact lt_of_cell J.o.1
      clear J A
      go_wp2_with fail
      refine (check_any a0 a1 a2 a3 _ ia.1 ia.2.1 ia.2.2.1 ia.2.2.2).mono ?_
      rintro ee w4 ⟨rfl, hg4⟩
      rw [HA.out]
      have v0 := hg4.cell' (b := V) (o := 0) (v := .int .i64 a0) (by rw [← hV]; simp [go_sem])
      have v1 := hg4.cell' (b := V) (o := 1) (v := .int .i64 a1) (by rw [← hV]; simp [go_sem])
      have v2 := hg4.cell' (b := V) (o := 2) (v := .int .i64 a2) (by rw [← hV]; simp [go_sem])
      have v3 := hg4.cell' (b := V) (o := 3) (v := .int .i64 a3) (by rw [← hV]; simp [go_sem])
      have hVn : ¬ V = R + 1 := by omega
      have J4 := JH.out.grew (show Grew wr w4 from Grew.trans (by (repeat' (first | (with_reducible assumption) | (with_reducible exact Grew.refl _) | (with_reducible refine Grew.alloc ?_ _) | (with_reducible refine Grew.drew ?_) | (with_reducible refine Grew.drewN ?_ _) | (with_reducible refine Grew.setCell ?_ ?_ _) | (simp; done) | (simp; omega)))) hg4)
      clear hg4 hV c0 c1 c2 c3 JH
      have J4s := Lib.hid (J4.set HR.out a0 a1 a2 a3)
      obtain ⟨-, ⟨o0, o1, o2, o3⟩, -, fo, -⟩ := J4
      have f0 := fo 0
      have f1 := fo 1
      have f2 := fo 2
      have f3 := fo 3
      clear fo
      go_wp2_with fail
      refine wp_named fun w5 h5 => ?_
      rw [h5] at J4s
      replace v0 : w5.cell? ⟨V, 0, none⟩ = some (.int .i64 a0) := by rw [← h5]; simp [go_sem, v0]
      replace v1 : w5.cell? ⟨V, 1, none⟩ = some (.int .i64 a1) := by rw [← h5]; simp [go_sem, v1]
      replace v2 : w5.cell? ⟨V, 2, none⟩ = some (.int .i64 a2) := by rw [← h5]; simp [go_sem, v2]
      replace v3 : w5.cell? ⟨V, 3, none⟩ = some (.int .i64 a3) := by rw [← h5]; simp [go_sem, v3]
      clear h5 o0 o1 o2 o3 f0 f1 f2 f3
      obtain ⟨-, ⟨o0, o1, o2, o3⟩, -, fo, -⟩ := J4s.out
      have J5 := J4s
      clear J4s
      have f0 := fo 0
      have f1 := fo 1
      have f2 := fo 2
      have f3 := fo 3
      clear fo
      have J6 := Lib.hid (J5.out.lows HR.out (a0) (a1))
      clear J5
      go_cut [9] from 9 to 44 (fun _ wx => JoinF w wx R (a0) (a1) (a2) (a3) ∧ wx.cell? ⟨V, 2, none⟩ = some (.int .i64 a2) ∧ wx.cell? ⟨V, 3, none⟩ = some (.int .i64 a3))
      case first =>
        go_region
        go_wp2_with fail
        go_meet
        exact ⟨J6.out.grew (by (repeat' (first | (with_reducible assumption) | (with_reducible exact Grew.refl _) | (with_reducible refine Grew.alloc ?_ _) | (with_reducible refine Grew.drew ?_) | (with_reducible refine Grew.drewN ?_ _) | (with_reducible refine Grew.setCell ?_ ?_ _) | (simp; done) | (simp; omega)))), by simp [go_sem, v2], by simp [go_sem, v3]⟩
      clear o0 o1 o2 o3 v0 v1 v2 v3 f0 f1 f2 f3 J6
      obtain ⟨J6', v2, v3⟩ := hcut
      have J7 := Lib.hid (J6'.highs HR.out (a2) (a3))
      obtain ⟨-, ⟨o0, o1, o2, o3⟩, -, fo, -⟩ := J6'
      have f0 := fo 0
      have f1 := fo 1
      have f2 := fo 2
      have f3 := fo 3
      clear fo
      go_wp2_with fail
      go_region
      go_wp2_with fail
      go_roundg (2 - (0 + 1))
      case measure => omega
      case rel => exact ⟨1, by omega, by omega, by go_num, (show Aside _ from J7.out.grew (by (repeat' (first | (with_reducible assumption) | (with_reducible exact Grew.refl _) | (with_reducible refine Grew.alloc ?_ _) | (with_reducible refine Grew.drew ?_) | (with_reducible refine Grew.drewN ?_ _) | (with_reducible refine Grew.setCell ?_ ?_ _) | (simp; done) | (simp; omega)))))⟩
    · have J : JoinF w wr R (a0) (a1) (a2) (a3) := A.out
      have JH := Lib.hid J
      obtain ⟨c0, c1, c2, c3⟩ := HD.out
      have c0 := J.g.cell' c0
      have c1 := J.g.cell' c1
      have c2 := J.g.cell' c2
      have c3 := J.g.cell' c3
      obtain ⟨V, hV⟩ : ∃ V, wr.heap.size = V := ⟨_, rfl⟩
      have hVR : R + 1 < V := by rw [← hV]; exact lt_of_cell J.o.1
      clear J A
      go_wp2_with fail
      refine (check_any b0 b1 b2 b3 _ ib.1 ib.2.1 ib.2.2.1 ib.2.2.2).mono ?_
      rintro ee w4 ⟨rfl, hg4⟩
      rw [HB.out]
      have v0 := hg4.cell' (b := V) (o := 0) (v := .int .i64 b0) (by rw [← hV]; simp [go_sem])
      have v1 := hg4.cell' (b := V) (o := 1) (v := .int .i64 b1) (by rw [← hV]; simp [go_sem])
      have v2 := hg4.cell' (b := V) (o := 2) (v := .int .i64 b2) (by rw [← hV]; simp [go_sem])
      have v3 := hg4.cell' (b := V) (o := 3) (v := .int .i64 b3) (by rw [← hV]; simp [go_sem])
      have hVn : ¬ V = R + 1 := by omega
      have J4 := JH.out.grew (show Grew wr w4 from Grew.trans (by (repeat' (first | (with_reducible assumption) | (with_reducible exact Grew.refl _) | (with_reducible refine Grew.alloc ?_ _) | (with_reducible refine Grew.drew ?_) | (with_reducible refine Grew.drewN ?_ _) | (with_reducible refine Grew.setCell ?_ ?_ _) | (simp; done) | (simp; omega)))) hg4)
      clear hg4 hV c0 c1 c2 c3 JH
      have J5 := Lib.hid J4
      obtain ⟨-, ⟨o0, o1, o2, o3⟩, -, fo, -⟩ := J4
      go_wp2_with fail
      refine wp_named fun w5 h5 => ?_
      subst h5
      have f0 := fo 0
      have f1 := fo 1
      have f2 := fo 2
      have f3 := fo 3
      clear fo
      have J6 := Lib.hid (J5.out.lows HR.out (min a0 b0) (min a1 b1))
      clear J5
      go_cut [9] from 9 to 44 (fun _ wx => JoinF w wx R (min a0 b0) (min a1 b1) (a2) (a3) ∧ wx.cell? ⟨V, 2, none⟩ = some (.int .i64 b2) ∧ wx.cell? ⟨V, 3, none⟩ = some (.int .i64 b3))
      case first =>
        go_region
        go_wp2_with fail
        go_meet
        exact ⟨J6.out.grew (by (repeat' (first | (with_reducible assumption) | (with_reducible exact Grew.refl _) | (with_reducible refine Grew.alloc ?_ _) | (with_reducible refine Grew.drew ?_) | (with_reducible refine Grew.drewN ?_ _) | (with_reducible refine Grew.setCell ?_ ?_ _) | (simp; done) | (simp; omega)))), by simp [go_sem, v2], by simp [go_sem, v3]⟩
      clear o0 o1 o2 o3 v0 v1 v2 v3 f0 f1 f2 f3 J6
      obtain ⟨J6', v2, v3⟩ := hcut
      have J7 := Lib.hid (J6'.highs HR.out (max a2 b2) (max a3 b3))
      obtain ⟨-, ⟨o0, o1, o2, o3⟩, -, fo, -⟩ := J6'
      have f0 := fo 0
      have f1 := fo 1
      have f2 := fo 2
      have f3 := fo 3
      clear fo
      go_wp2_with fail
      go_region
      go_wp2_with fail
      go_roundg (2 - (1 + 1))
      case measure => omega
      case rel => exact ⟨2, by omega, by omega, by go_num, (show Aside _ from J7.out.grew (by (repeat' (first | (with_reducible assumption) | (with_reducible exact Grew.refl _) | (with_reducible refine Grew.alloc ?_ _) | (with_reducible refine Grew.drew ?_) | (with_reducible refine Grew.drewN ?_ _) | (with_reducible refine Grew.setCell ?_ ?_ _) | (simp; done) | (simp; omega)))))⟩
    · obtain ⟨g, ⟨o0, o1, o2, o3⟩, ⟨r0, r1, r2, r3⟩, fo, fr⟩ := (show JoinF w wr R (min a0 b0) (min a1 b1) (max a2 b2) (max a3 b3) from A.out)
      have f0 := fr 0
      have f1 := fr 1
      have f2 := fr 2
      have f3 := fr 3
      clear fo fr A
      obtain ⟨W4, hW4⟩ : ∃ W4, (((wr.setCell ⟨R, 0, none⟩ (.int .i64 (min a0 b0))).setCell ⟨R, 1, none⟩ (.int .i64 (min a1 b1))).setCell ⟨R, 2, none⟩ (.int .i64 (max a2 b2))).setCell ⟨R, 3, none⟩ (.int .i64 (max a3 b3)) = W4 := ⟨_, rfl⟩
      have y0 : W4.cell? ⟨R, 0, none⟩ = some (.int .i64 (min a0 b0)) := by rw [← hW4]; simp [go_sem, r0]
      have y1 : W4.cell? ⟨R, 1, none⟩ = some (.int .i64 (min a1 b1)) := by rw [← hW4]; simp [go_sem, r1]
      have y2 : W4.cell? ⟨R, 2, none⟩ = some (.int .i64 (max a2 b2)) := by rw [← hW4]; simp [go_sem, r2]
      have y3 : W4.cell? ⟨R, 3, none⟩ = some (.int .i64 (max a3 b3)) := by rw [← hW4]; simp [go_sem, r3]
      have hg4 : Grew w W4 := by
        have hR := HR.out
        rw [← hW4]
        (repeat' (first | (with_reducible assumption) | (with_reducible exact Grew.refl _) | (with_reducible refine Grew.alloc ?_ _) | (with_reducible refine Grew.drew ?_) | (with_reducible refine Grew.drewN ?_ _) | (with_reducible refine Grew.setCell ?_ ?_ _) | (simp; done) | (simp; omega)))
      go_wp2_with fail
      refine bodyPost_ret (by simp [results, Tryz.results88, y0, y1, y2, y3, go_sem]; try rfl) rfl ?_
      exact ⟨rfl, hg4⟩

end Go.Proofs.YtcelamaiebjdaaaGreat

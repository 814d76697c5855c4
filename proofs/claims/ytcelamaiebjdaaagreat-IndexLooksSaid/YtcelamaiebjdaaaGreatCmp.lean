/- The comparisons that the sweep sorts by. -/
import Derived.Test.YtcelamaiebjdaaaGreatIds
import Derived.Deep.RegionHeld3
import Derived.Deep.DrawnRows
namespace Go.Proofs.YtcelamaiebjdaaaGreat
open Go.RowKit Go.Maps Go.Sort Go.Shelf
attribute [local go_sem ↓] Go.wp_at_zero Go.wp_at_succ

theorem cmpI_any (x y : Int) (w : World) : Calls Tryz.prog 98 #[.int .i64 x, .int .i64 y] w fun e w' => e = .returned (.int .i64 (Lib.compareInt x y)) ∧ w' = w := AnyG.cmp_Compare_int Tryz.cmpI x y w
theorem cmpI64_any (x y : Int) (w : World) : Calls Tryz.prog 97 #[.int .i64 x, .int .i64 y] w fun e w' => e = .returned (.int .i64 (Lib.compareInt x y)) ∧ w' = w := AnyG.cmp_Compare_int Tryz.cmpI64 x y w

/-- cmp.Or of two. -/
def orI (x y : Int) : Int := if x = 0 then y else x

set_option maxHeartbeats 400000 in
theorem or_any (x y : Int) (b : Nat) (w : World) (c0 : w.cell? ⟨b, 0, none⟩ = some (.int .i64 x)) (c1 : w.cell? ⟨b, 1, none⟩ = some (.int .i64 y)) :
    Calls Tryz.prog 96 #[.slice (some ⟨b, 0, none⟩) 2 2] w fun e w' => e = .returned (.int .i64 (orI x y)) ∧ w' = w := by
  have hk : orI x y = if x = 0 then y else x := rfl
  have Hk := Lib.hid hk
  clear hk
  go_enter Tryz.func96, Tryz.ntmps96
  go_wp2_with fail
  refine wp_loop_rounds 3 ?_
  repeat any_goals (rw [rounds_succ]; go_wp2_with fail)
  all_goals
    go_ret
    refine ⟨ret_int ?_, rfl⟩
    rw [Hk.out]
    simp_all

/-- The order of Pairs: by the left ends, then by the ids. -/
def cfI (l : Sw) (x y : Int) : Int := orI (Lib.compareInt (getL l x).1 (getL l y).1) (Lib.compareInt x y)

set_option maxHeartbeats 1000000 in
set_option maxRecDepth 100000 in
theorem closure1 (sb mb ck : Nat) (l : Sw) (x y : Int) (W : World) (h : SweepAt W sb mb l) (cc : W.cell? ⟨ck, 0, none⟩ = some (.pointer (some ⟨sb, 0, none⟩))) (hx : I64 x) (hy : I64 y) :
    Calls Tryz.prog 95 #[.int .i64 x, .int .i64 y, .pointer (some ⟨ck, 0, none⟩)] W fun e w' => e = .returned (.int .i64 (cfI l x y)) ∧ ∃ q os', w' = grow (W.drewN q) os' := by
  have HS0 : ∀ W', Grew W W' → (W'.cell? ⟨ck, 0, none⟩ = some (.pointer (some ⟨sb, 0, none⟩)) ∧ W'.cell? ⟨sb, 0, none⟩ = some (.map (some mb)) ∧
      (Instr.lookup 84 (.map (some mb)) (.int .i64 x) false).run Tryz.prog W' = .ok (.agg #[.int .i64 (getL l x).1, .int .i64 (getL l x).2.1, .int .i64 (getL l x).2.2.1, .int .i64 (getL l x).2.2.2]) W' ∧
      (Instr.lookup 84 (.map (some mb)) (.int .i64 y) false).run Tryz.prog W' = .ok (.agg #[.int .i64 (getL l y).1, .int .i64 (getL l y).2.1, .int .i64 (getL l y).2.2.1, .int .i64 (getL l y).2.2.2]) W') :=
    fun W' g => ⟨g.cell' cc, (h.grew g).cell, (h.grew g).map.look hx, (h.grew g).map.look hy⟩
  have HS := Lib.hid HS0
  have hcf : cfI l x y = orI (Lib.compareInt (getL l x).1 (getL l y).1) (Lib.compareInt x y) := rfl
  rw [hcf]
  clear hcf HS0 h cc
  have hf := fun (a b c d : Int) w => field_box0 a b c d w
  go_enter Tryz.func95, Tryz.ntmps95
  go_wp2_with fail
  go_region_held3 (fun W' => W'.cell? ⟨ck, 0, none⟩ = some (.pointer (some ⟨sb, 0, none⟩)) ∧ W'.cell? ⟨sb, 0, none⟩ = some (.map (some mb)) ∧
      (Instr.lookup 84 (.map (some mb)) (.int .i64 x) false).run Tryz.prog W' = .ok (.agg #[.int .i64 (getL l x).1, .int .i64 (getL l x).2.1, .int .i64 (getL l x).2.2.1, .int .i64 (getL l x).2.2.2]) W' ∧
      (Instr.lookup 84 (.map (some mb)) (.int .i64 y) false).run Tryz.prog W' = .ok (.agg #[.int .i64 (getL l y).1, .int .i64 (getL l y).2.1, .int .i64 (getL l y).2.2.1, .int .i64 (getL l y).2.2.2]) W')
    (exact HS.out _ (by (repeat' (first | exact Grew.refl _ | assumption | refine Grew.alloc ?_ _ | refine Grew.drew ?_ | refine Grew.drewN ?_ _ | refine Grew.setCell ?_ ?_ _ | (simp; done) | (simp; omega)))))
    (first
      | (go_at_call 97; refine (cmpI64_any _ _ _).mono ?_; rintro e w' ⟨rfl, rfl⟩)
      | (go_at_call 98; refine (cmpI_any _ _ _).mono ?_; rintro e w' ⟨rfl, rfl⟩)
      | (go_at_call 96; refine (or_any (Lib.compareInt (getL l x).1 (getL l y).1) (Lib.compareInt x y) _ _ ?_ ?_).mono ?_; (· simp [go_sem]); (· simp [go_sem]); rintro e w' ⟨rfl, rfl⟩))
  all_goals go_wp2_with fail
  all_goals
    go_ret
    exact ⟨rfl, 1, _, by rw [alloc_eq_grow]; rfl⟩

theorem compareInt_lt {x y : Int} : (Lib.compareInt x y < 0 ↔ x < y) ∧ (Lib.compareInt x y = 0 ↔ x = y) := by
  unfold Lib.compareInt
  by_cases h1 : x < y
  · rw [if_pos h1]; omega
  · rw [if_neg h1]
    by_cases h2 : x > y
    · rw [if_pos h2]; omega
    · rw [if_neg h2]; omega
theorem cfI_lt (l : Sw) (x y : Int) : ltOf (cfI l) x y = decide ((getL l x).1 < (getL l y).1 ∨ (getL l x).1 = (getL l y).1 ∧ x < y) := by
  unfold ltOf cfI orI
  have h1 := @compareInt_lt (getL l x).1 (getL l y).1
  have h2 := @compareInt_lt x y
  rw [decide_eq_decide]
  split <;> omega
theorem swoI (l : Sw) : SWO (ltOf (cfI l)) where
  irrefl x := by rw [cfI_lt]; simp
  trans x y z h1 h2 := by rw [cfI_lt] at *; simp only [decide_eq_true_eq] at *; omega
  ntrans x y z h1 h2 := by rw [cfI_lt] at *; simp only [decide_eq_false_iff_not] at *; omega
theorem totI (l : Sw) (x y : Int) (h1 : ltOf (cfI l) x y = false) (h2 : ltOf (cfI l) y x = false) : x = y := by
  rw [cfI_lt] at *; simp only [decide_eq_false_iff_not] at *; omega

set_option maxHeartbeats 1000000 in
set_option maxRecDepth 100000 in
theorem closure3 (a b c d : Int) (W : World) :
    Calls Tryz.prog 101 #[.agg #[.int .i64 a, .int .i64 b], .agg #[.int .i64 c, .int .i64 d]] W fun e w' => e = .returned (.int .i64 (orI (Lib.compareInt a c) (Lib.compareInt b d))) ∧ ∃ q os', w' = grow (W.drewN q) os' := by
  go_enter Tryz.func101, Tryz.ntmps101
  go_wp2_with fail
  go_region_held3 (fun W' => W'.cell? ⟨W.heap.size, 0, none⟩ = some (.int .i64 a) ∧ W'.cell? ⟨W.heap.size, 1, none⟩ = some (.int .i64 b) ∧ W'.cell? ⟨W.heap.size + 1, 0, none⟩ = some (.int .i64 c) ∧ W'.cell? ⟨W.heap.size + 1, 1, none⟩ = some (.int .i64 d))
    (first | go_keep | (simp [go_sem]; done))
    (first
      | (go_at_call 98; refine (cmpI_any _ _ _).mono ?_; rintro e w' ⟨rfl, rfl⟩)
      | (go_at_call 96; refine (or_any (Lib.compareInt a c) (Lib.compareInt b d) _ _ ?_ ?_).mono ?_; (· simp [go_sem]); (· simp [go_sem]); rintro e w' ⟨rfl, rfl⟩))
  all_goals go_wp2_with fail
  all_goals
    go_ret
    exact ⟨rfl, 1, _, by rw [alloc_eq_grow, alloc_eq_grow, alloc_eq_grow, grow_grow, grow_grow]; rfl⟩

end Go.Proofs.YtcelamaiebjdaaaGreat

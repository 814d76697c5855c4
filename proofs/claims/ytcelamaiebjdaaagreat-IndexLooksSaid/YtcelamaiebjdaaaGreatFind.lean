/- (*Sweep).find and Near: the ids of the boxes for which a question is answered with yes, ascending. -/
import Derived.Test.YtcelamaiebjdaaaGreatPairs
namespace Go.Proofs.YtcelamaiebjdaaaGreat
open Go.RowKit Go.Maps Go.Sort Go.Shelf
attribute [local go_sem ↓] Go.wp_at_zero Go.wp_at_succ

/-- What is asked of a question: in every world that has only grown it answers p of each box, and only makes memory. -/
def IsG (g : Nat) (lb : Array Value) (p : Bx → Bool) (w : World) : Prop :=
  ∀ W, Grew w W → ∀ b : Bx, I64 b.1 → I64 b.2.1 → I64 b.2.2.1 → I64 b.2.2.2 →
    Calls Tryz.prog g (#[.agg #[.int .i64 b.1, .int .i64 b.2.1, .int .i64 b.2.2.1, .int .i64 b.2.2.2]] ++ lb) W fun e w' => e = .returned (.bool (p b)) ∧ Grew W w'

set_option maxHeartbeats 1000000 in
set_option maxRecDepth 100000 in
theorem find1 (g : Nat) (lb : Array Value) (eg : ∀ args w, (callFunc g args).run Tryz.prog w = .ok (.enter g args) w) (p : Bx → Bool) (sb mb cf ck : Nat) (l : Sw) (x : Int) (W : World) (h : SweepAt W sb mb l)
    (cg : W.cell? ⟨cf, 0, none⟩ = some (.func (.func g) #[] lb)) (cc : W.cell? ⟨ck, 0, none⟩ = some (.pointer (some ⟨sb, 0, none⟩))) (hx : I64 x) (hg : IsG g lb p W) :
    Calls Tryz.prog 86 #[.int .i64 x, .pointer (some ⟨cf, 0, none⟩), .pointer (some ⟨ck, 0, none⟩)] W fun e w' => e = .returned (.bool (!p (getL l x))) ∧ Grew W w' := by
  have HS0 : ∀ W', Grew W W' → (W'.cell? ⟨cf, 0, none⟩ = some (.func (.func g) #[] lb) ∧ W'.cell? ⟨ck, 0, none⟩ = some (.pointer (some ⟨sb, 0, none⟩)) ∧ W'.cell? ⟨sb, 0, none⟩ = some (.map (some mb)) ∧
      (Instr.lookup 84 (.map (some mb)) (.int .i64 x) false).run Tryz.prog W' = .ok (.agg #[.int .i64 (getL l x).1, .int .i64 (getL l x).2.1, .int .i64 (getL l x).2.2.1, .int .i64 (getL l x).2.2.2]) W') :=
    fun W' g => ⟨g.cell' cg, g.cell' cc, (h.grew g).cell, (h.grew g).map.look hx⟩
  have HS := Lib.hid HS0
  have bI := h.ok.getI x
  have HG := Lib.hid hg
  clear HS0 h cc cg hg
  generalize getL l x = v at *
  obtain ⟨r, hr⟩ : ∃ r, p v = r := ⟨_, rfl⟩
  have HR := Lib.hid hr
  rw [hr]
  clear hr
  go_enter Tryz.func86, Tryz.ntmps86
  go_wp2_with fail
  go_region_held3 (fun W' => W'.cell? ⟨cf, 0, none⟩ = some (.func (.func g) #[] lb) ∧ W'.cell? ⟨ck, 0, none⟩ = some (.pointer (some ⟨sb, 0, none⟩)) ∧ W'.cell? ⟨sb, 0, none⟩ = some (.map (some mb)) ∧
      (Instr.lookup 84 (.map (some mb)) (.int .i64 x) false).run Tryz.prog W' = .ok (.agg #[.int .i64 v.1, .int .i64 v.2.1, .int .i64 v.2.2.1, .int .i64 v.2.2.2]) W')
    (first | (refine HS.out _ ?_; (repeat' (first | exact Grew.refl _ | assumption | refine Grew.alloc ?_ _ | refine Grew.drew ?_ | refine Grew.drewN ?_ _ | refine Grew.setCell ?_ ?_ _ | (simp; done) | (simp; omega))); done) | (refine HS.out _ (Grew.trans ?_ (by assumption)); (repeat' (first | exact Grew.refl _ | assumption | refine Grew.alloc ?_ _ | refine Grew.drew ?_ | refine Grew.drewN ?_ _ | refine Grew.setCell ?_ ?_ _ | (simp; done) | (simp; omega))); done))
    (first | (go_at_fn g; refine (HG.out _ ?_ v bI.1 bI.2.1 bI.2.2.1 bI.2.2.2).mono ?_; (· (repeat' (first | exact Grew.refl _ | assumption | refine Grew.alloc ?_ _ | refine Grew.drew ?_ | refine Grew.drewN ?_ _ | refine Grew.setCell ?_ ?_ _ | (simp; done) | (simp; omega)))); rintro e w5 ⟨rfl, hg5⟩; rw [HR.out]))
  all_goals
    go_wp2_with fail
    go_ret
    exact ⟨rfl, Grew.trans (by (repeat' (first | exact Grew.refl _ | assumption | refine Grew.alloc ?_ _ | refine Grew.drew ?_ | refine Grew.drewN ?_ _ | refine Grew.setCell ?_ ?_ _ | (simp; done) | (simp; omega)))) hg5⟩

/-- The ids of the boxes for which p holds. -/
def idsOf (p : Bx → Bool) (l : Sw) : List Int := (l.filter fun q => p q.2).map (·.1)

theorem getL_of_mem : ∀ {l : Sw}, Asc l → ∀ {q}, q ∈ l → getL l q.1 = q.2
  | [], _, q, h => by cases h
  | a :: r, h, q, hq => by
    obtain ⟨h1, h2⟩ := List.pairwise_cons.1 h
    unfold getL
    rw [List.find?_cons]
    rcases List.mem_cons.1 hq with rfl | hq
    · simp
    · have := h1 q hq
      rw [show decide (a.1 = q.1) = false from decide_eq_false (by omega)]
      exact getL_of_mem h2 hq
theorem idsOf_filter {p : Bx → Bool} {l : Sw} (h : Asc l) : ((l.map (·.1)).filter fun x => !!p (getL l x)) = idsOf p l := by
  unfold idsOf
  rw [List.filter_map]
  congr 1
  refine List.filter_congr fun q hq => ?_
  simp only [Function.comp, Bool.not_not]
  rw [getL_of_mem h hq]

theorem Kp.grewOf {w0 w1 w2 : World} {bs : List Nat} (h : Grew w0 w1) (k : Kp bs w1 w2) (hb : ∀ x ∈ bs, w0.heap.size ≤ x) : Grew w0 w2 :=
  ((h.kp []).then k fun x hx => .inr (hb x hx)).grew (by simp)

set_option maxHeartbeats 1000000 in
set_option maxRecDepth 100000 in
theorem find_any (g : Nat) (lb : Array Value) (eg : ∀ args w, (callFunc g args).run Tryz.prog w = .ok (.enter g args) w) (p : Bx → Bool) (sb mb : Nat) (l : Sw) (w : World) (h : SweepAt w sb mb l) (hg : IsG g lb p w) :
    Calls Tryz.prog 37 #[.pointer (some ⟨sb, 0, none⟩), .func (.func g) #[] lb] w (NewInts w (idsOf p l)) := by
  have hlt := h.lt
  have HG := Lib.hid hg
  have Heg := Lib.hid eg
  clear hg eg
  go_enter Tryz.func37, Tryz.ntmps37
  go_wp2_with fail
  refine (ids_any sb mb l _ (h.grew (by (repeat' (first | exact Grew.refl _ | assumption | refine Grew.alloc ?_ _ | refine Grew.drew ?_ | refine Grew.drewN ?_ _ | refine Grew.setCell ?_ ?_ _ | (simp; done) | (simp; omega)))))).mono ?_
  rintro e w1 ⟨v, rfl, hv, hg1⟩
  have hw1 : Grew w w1 := Grew.trans (by (repeat' (first | exact Grew.refl _ | assumption | refine Grew.alloc ?_ _ | refine Grew.drew ?_ | refine Grew.drewN ?_ _ | refine Grew.setCell ?_ ?_ _ | (simp; done) | (simp; omega)))) hg1
  have cc := hg1.cell' (b := w.heap.size) (o := 0) (v := .pointer (some ⟨sb, 0, none⟩)) (by first | (simp [go_sem]; done) | (simp [*, go_sem]; done) | (go_cell; done))
  have cf := hg1.cell' (b := w.heap.size + 1) (o := 0) (v := .func (.func g) #[] lb) (by first | (simp [go_sem]; done) | (simp [*, go_sem]; done) | (go_cell; done))
  have hv2 : SlI w1 (w.heap.size + 2) v (l.map (·.1)) := hv.base (by simp)
  have hsw := h.grew hw1
  clear hg1 hv
  go_wp2_with fail
  have vge := hv2.own_ge
  have nl : ∀ x, x < w.heap.size + 2 → x ∉ own v := fun x hx hm => by have := vge x hm; omega
  have hpred : PredG 86 #[.pointer (some ⟨w.heap.size + 1, 0, none⟩), .pointer (some ⟨w.heap.size, 0, none⟩)] (fun x => !p (getL l x)) (own v) (l.map (·.1)) w1 := fun W k x hx =>
    find1 g lb Heg.out p sb mb (w.heap.size + 1) w.heap.size l x W (hsw.kp k (nl _ (by omega)) (nl _ (by omega))) (k.cell cf (nl _ (by omega))) (k.cell cc (nl _ (by omega))) (h.ok.keyI hx)
      (fun W' g' => HG.out W' ((Kp.grewOf hw1 k fun x hx => by have := vge x hx; omega).trans g'))
  have e1 : ∀ args w, (callFunc 86 args).run Tryz.prog w = .ok (.enter 86 args) w := enters_of Tryz.func86 (by kernel_rfl) rfl
  refine (deleteFunc_any _ _ e1 _ (l.map (·.1)) (w.heap.size + 2) v w1 hv2 hpred).mono ?_
  rintro e w4 ⟨v', rfl, hl4, ho4, hk4⟩
  clear e1 hpred cc cf
  go_wp2_with fail
  go_ret
  rw [idsOf_filter h.ok.asc] at hl4
  exact ⟨_, rfl, hl4.base (by omega), Kp.grewOf hw1 hk4 fun x hx => by have := vge x hx; omega⟩

set_option maxHeartbeats 1000000 in
set_option maxRecDepth 100000 in
theorem near1 (b x : Bx) (cb : Nat) (W : World) (d0 : W.cell? ⟨cb, 0, none⟩ = some (.int .i64 b.1)) (d1 : W.cell? ⟨cb, 1, none⟩ = some (.int .i64 b.2.1)) (d2 : W.cell? ⟨cb, 2, none⟩ = some (.int .i64 b.2.2.1)) (d3 : W.cell? ⟨cb, 3, none⟩ = some (.int .i64 b.2.2.2))
    (b0 : I64 b.1) (b1 : I64 b.2.1) (b2 : I64 b.2.2.1) (b3 : I64 b.2.2.2) (x0 : I64 x.1) (x1 : I64 x.2.1) (x2 : I64 x.2.2.1) (x3 : I64 x.2.2.2) :
    Calls Tryz.prog 76 #[.agg #[.int .i64 x.1, .int .i64 x.2.1, .int .i64 x.2.2.1, .int .i64 x.2.2.2], .pointer (some ⟨cb, 0, none⟩)] W fun e w' =>
      e = .returned (.bool (meetB x.1 x.2.1 x.2.2.1 x.2.2.2 b.1 b.2.1 b.2.2.1 b.2.2.2)) ∧ Grew W w' := by
  have hB := lt_of_cell d0
  go_enter Tryz.func76, Tryz.ntmps76
  go_wp2_with (go_at_call 77; refine (meets_any _ _ _ _ _ _ _ _ _ x0 x1 x2 x3 b0 b1 b2 b3).mono ?_; rintro e w1 ⟨rfl, hg⟩)
  go_ret
  exact ⟨rfl, Grew.trans (by (repeat' (first | exact Grew.refl _ | assumption | refine Grew.alloc ?_ _ | refine Grew.drew ?_ | refine Grew.drewN ?_ _ | refine Grew.setCell ?_ ?_ _ | (simp; done) | (simp; omega)))) hg⟩

set_option maxHeartbeats 1000000 in
set_option maxRecDepth 100000 in
theorem near_any (sb mb : Nat) (l : Sw) (b : Bx) (w : World) (h : SweepAt w sb mb l) (b0 : I64 b.1) (b1 : I64 b.2.1) (b2 : I64 b.2.2.1) (b3 : I64 b.2.2.2) :
    Calls Tryz.prog 27 #[.pointer (some ⟨sb, 0, none⟩), .agg #[.int .i64 b.1, .int .i64 b.2.1, .int .i64 b.2.2.1, .int .i64 b.2.2.2]] w (NewInts w (idsOf (fun x => meetB x.1 x.2.1 x.2.2.1 x.2.2.2 b.1 b.2.1 b.2.2.1 b.2.2.2) l)) := by
  have e1 : ∀ args w, (callFunc 76 args).run Tryz.prog w = .ok (.enter 76 args) w := enters_of Tryz.func76 (by kernel_rfl) rfl
  have E1 := Lib.hid e1
  clear e1
  go_enter Tryz.func27, Tryz.ntmps27
  go_wp2_with fail
  obtain ⟨W1, hW1⟩ : ∃ W1, w.alloc (.cells #[.int .i64 b.1, .int .i64 b.2.1, .int .i64 b.2.2.1, .int .i64 b.2.2.2] 32) = W1 := ⟨_, rfl⟩
  have hw1 : Grew w W1 := by rw [← hW1]; (repeat' (first | exact Grew.refl _ | assumption | refine Grew.alloc ?_ _ | refine Grew.drew ?_ | refine Grew.drewN ?_ _ | refine Grew.setCell ?_ ?_ _ | (simp; done) | (simp; omega)))
  have d0 : W1.cell? ⟨w.heap.size, 0, none⟩ = some (.int .i64 b.1) := by rw [← hW1]; simp
  have d1 : W1.cell? ⟨w.heap.size, 1, none⟩ = some (.int .i64 b.2.1) := by rw [← hW1]; simp
  have d2 : W1.cell? ⟨w.heap.size, 2, none⟩ = some (.int .i64 b.2.2.1) := by rw [← hW1]; simp
  have d3 : W1.cell? ⟨w.heap.size, 3, none⟩ = some (.int .i64 b.2.2.2) := by rw [← hW1]; simp
  have hIs : IsG 76 #[.pointer (some ⟨w.heap.size, 0, none⟩)] (fun x => meetB x.1 x.2.1 x.2.2.1 x.2.2.2 b.1 b.2.1 b.2.2.1 b.2.2.2) W1 := fun W hW x x0 x1 x2 x3 =>
    near1 b x w.heap.size W (hW.cell' d0) (hW.cell' d1) (hW.cell' d2) (hW.cell' d3) b0 b1 b2 b3 x0 x1 x2 x3
  rw [hW1]
  refine (find_any 76 #[.pointer (some ⟨w.heap.size, 0, none⟩)] E1.out (fun x => meetB x.1 x.2.1 x.2.2.1 x.2.2.2 b.1 b.2.1 b.2.2.1 b.2.2.2) sb mb l W1 (h.grew hw1) hIs).mono ?_
  clear hIs d0 d1 d2 d3 hW1
  rintro e w2 ⟨v, rfl, hv, hg⟩
  go_wp2_with fail
  go_ret
  exact ⟨_, rfl, hv.base hw1.size, hw1.trans hg⟩

#print axioms near_any
end Go.Proofs.YtcelamaiebjdaaaGreat

/- What holds while told appends a handle to both lists of its story (a statement whose order Go leaves open). -/
import Derived.Test.YtmoaefcpbphgmaaGreatToldPlain
import Derived.Test.YtmoaefcpbphgmaaGreatRegion
namespace Go.Proofs.YtmoaefcpbphgmaaGreat
open Go.RowKit Go.Maps Go.Sort Go.Shelf

/-- A new slice of the one handle h. -/
def OneH (h : Int × Int) (B : Nat) (v : Value) (w : World) : Prop := ∃ b, v = .slice (some ⟨b, 0, none⟩) 1 1 ∧ B ≤ b ∧ b < w.heap.size ∧ w.cell? ⟨b, 0, none⟩ = some (.int .i64 h.1) ∧ w.cell? ⟨b, 1, none⟩ = some (.int .i64 h.2)
/-- What each operation yields. -/
def V16 (tb : Nat) (vl vg : Value) (h : Int × Int) (B : Nat) : Nat → Value → World → Prop
  | 0, v, _ => v = .pointer (some ⟨tb, 1, none⟩)
  | 1, v, _ => v = vl
  | 2, v, _ => v = .agg #[.int .i64 h.1, .int .i64 h.2]
  | 3, v, w => OneH h B v w
  | 5, v, _ => v = .pointer (some ⟨tb, 2, none⟩)
  | 6, v, _ => v = vg
  | 7, v, _ => v = .agg #[.int .i64 h.1, .int .i64 h.2]
  | 8, v, w => OneH h B v w
  | 10, v, _ => v = .pointer (some ⟨tb, 1, none⟩)
  | 12, v, _ => v = .pointer (some ⟨tb, 2, none⟩)
  | _, _, _ => True
theorem OneH.kp {h : Int × Int} {B : Nat} {v : Value} {w w' : World} {bs : List Nat} (o : OneH h B v w) (k : Kp bs w w') (hb : ∀ b ∈ bs, b < B) : OneH h B v w' := by
  obtain ⟨b, hv, h1, h2, h3, h4⟩ := o
  have hn : b ∉ bs := fun hm => by have := hb b hm; omega
  exact ⟨b, hv, h1, Nat.lt_of_lt_of_le h2 k.size, k.cell h3 hn, k.cell h4 hn⟩
theorem V16.mono {tb : Nat} {vl vg : Value} {h : Int × Int} {B : Nat} {bs : List Nat} (hb : ∀ b ∈ bs, b < B) : ∀ (j : Nat) (v : Value) (w w' : World), Kp bs w w' → V16 tb vl vg h B j v w → V16 tb vl vg h B j v w'
  | 0, _, _, _, _, h => h
  | 1, _, _, _, _, h => h
  | 2, _, _, _, _, h => h
  | 3, _, _, _, k, h => OneH.kp h k hb
  | 4, _, _, _, _, h => h
  | 5, _, _, _, _, h => h
  | 6, _, _, _, _, h => h
  | 7, _, _, _, _, h => h
  | 8, _, _, _, k, h => OneH.kp h k hb
  | 9, _, _, _, _, h => h
  | 10, _, _, _, _, h => h
  | 11, _, _, _, _, h => h
  | 12, _, _, _, _, h => h
  | _ + 13, _, _, _, _, _ => trivial

/-- What the story, and the two lists, are when the operations of l have come up. -/
structure R16 (w7 : World) (tb : Nat) (s0 vl vg : Value) (L V : List (Int × Int)) (h : Int × Int) (l : Nat → Bool) (x : Nat → Value) (w : World) : Prop where
  kp : Kp (tb :: (own vl ++ own vg)) w7 w
  f : ∀ j, w.frozen? ⟨tb, j, none⟩ = false
  c0 : w.cell? ⟨tb, 0, none⟩ = some s0
  c1 : w.cell? ⟨tb, 1, none⟩ = some (if l 11 = true then x 114 else vl)
  c2 : w.cell? ⟨tb, 2, none⟩ = some (if l 13 = true then x 119 else vg)
  c3 : w.cell? ⟨tb, 3, none⟩ = some (.bool true)
  o1 : l 9 = true → l 4 = true
  o2 : l 11 = true ∨ l 13 = true → l 9 = true
  o3 : l 4 = true → l 1 = true
  o4 : l 9 = true → l 6 = true
  a1 : Sl kH w (tb + 1) (if l 4 = true then x 114 else vl) (if l 4 = true then L ++ [h] else L)
  a2 : Sl kH w (tb + 1) (if l 9 = true then x 119 else vg) (if l 9 = true then V ++ [h] else V)
  w1 : ∀ g ∈ own (if l 4 = true then x 114 else vl), g ∈ own vl ∨ w7.heap.size ≤ g
  w2 : ∀ g ∈ own (if l 9 = true then x 119 else vg), g ∈ own vg ∨ w7.heap.size ≤ g
  d : ∀ g ∈ own (if l 4 = true then x 114 else vl), g ∉ own (if l 9 = true then x 119 else vg)

theorem setL_ne {l : Nat → Bool} {j k : Nat} (h : k ≠ j) : setL l j k = l k := by unfold setL; rw [if_neg h]
theorem setL_mono {l : Nat → Bool} {j k : Nat} (h : l k = true) : setL l j k = true := by
  unfold setL
  split
  · rfl
  · exact h
theorem setL_self (l : Nat → Bool) (j : Nat) : setL l j j = true := by unfold setL; rw [if_pos rfl]
theorem upd_ne {x : Nat → Value} {d : Option Nat} {v : Value} {k : Nat} (h : d ≠ some k) : upd x d v k = x k := by unfold upd; rw [if_neg h]
theorem upd_self (x : Nat → Value) (k : Nat) (v : Value) : upd x (some k) v k = v := by unfold upd; rw [if_pos rfl]

section
variable {w7 : World} {tb : Nat} {s0 vl vg : Value} {L V : List (Int × Int)} {h : Int × Int} {l : Nat → Bool} {x : Nat → Value} {w : World}

theorem R16.same (r : R16 w7 tb s0 vl vg L V h l x w) (j : Nat) (d : Option Nat) (v : Value) (hj : j ≠ 4 ∧ j ≠ 9 ∧ j ≠ 11 ∧ j ≠ 13) (hd : d ≠ some 114 ∧ d ≠ some 119) : R16 w7 tb s0 vl vg L V h (setL l j) (upd x d v) w := by
  have e4 := setL_ne (l := l) (Ne.symm hj.1)
  have e9 := setL_ne (l := l) (Ne.symm hj.2.1)
  have e11 := setL_ne (l := l) (Ne.symm hj.2.2.1)
  have e13 := setL_ne (l := l) (Ne.symm hj.2.2.2)
  have x1 := upd_ne (x := x) (v := v) hd.1
  have x2 := upd_ne (x := x) (v := v) hd.2
  refine ⟨r.kp, r.f, r.c0, ?_, ?_, r.c3, ?_, ?_, ?_, ?_, ?_, ?_, ?_, ?_, ?_⟩
  · rw [e11, x1]; exact r.c1
  · rw [e13, x2]; exact r.c2
  · rw [e9, e4]; exact r.o1
  · rw [e11, e13, e9]; exact r.o2
  · rw [e4]; exact fun h => setL_mono (r.o3 h)
  · rw [e9]; exact fun h => setL_mono (r.o4 h)
  · rw [e4, x1]; exact r.a1
  · rw [e9, x2]; exact r.a2
  · rw [e4, x1]; exact r.w1
  · rw [e9, x2]; exact r.w2
  · rw [e4, x1, e9, x2]; exact r.d
theorem R16.lt (r : R16 w7 tb s0 vl vg L V h l x w) : tb < w.heap.size := lt_of_cell r.c0
theorem R16.grew (r : R16 w7 tb s0 vl vg L V h l x w) {w' : World} (g : Grew w w') : R16 w7 tb s0 vl vg L V h l x w' :=
  ⟨r.kp.trans (g.kp _), fun j => (g.frozen (p := ⟨tb, j, none⟩) r.lt).trans (r.f j), g.cell' r.c0, g.cell' r.c1, g.cell' r.c2, g.cell' r.c3, r.o1, r.o2, r.o3, r.o4, r.a1.grew g, r.a2.grew g, r.w1, r.w2, r.d⟩
theorem R16.app1 (r : R16 w7 tb s0 vl vg L V h l x w) (h1 : l 1 = true) (hl : l 4 = false) {v : Value} {w' : World} (hs : Sl kH w' (tb + 1) v (L ++ [h])) (hk : Kp (own vl) w w') (ho : ∀ g ∈ own v, g ∈ own vl ∨ w.heap.size ≤ g) :
    R16 w7 tb s0 vl vg L V h (setL l 4) (upd x (some 114) v) w' := by
  have h9 : l 9 = false := by
    cases h9 : l 9 with
    | false => rfl
    | true => have := r.o1 h9; rw [hl] at this; cases this
  have h11 : l 11 = false := by
    cases h1 : l 11 with
    | false => rfl
    | true => have := r.o2 (.inl h1); rw [h9] at this; cases this
  have h13 : l 13 = false := by
    cases h1 : l 13 with
    | false => rfl
    | true => have := r.o2 (.inr h1); rw [h9] at this; cases this
  have a1 := r.a1
  have a2 := r.a2
  have d := r.d
  rw [hl, if_neg (by simp), if_neg (by simp)] at a1
  rw [h9, if_neg (by simp), if_neg (by simp)] at a2
  rw [hl, h9, if_neg (by simp), if_neg (by simp)] at d
  have ht : tb ∉ own vl := fun hm => by have := a1.own_ge tb hm; omega
  have e9 : setL l 4 9 = false := by rw [setL_ne (by decide)]; exact h9
  have e11 : setL l 4 11 = false := by rw [setL_ne (by decide)]; exact h11
  have e13 : setL l 4 13 = false := by rw [setL_ne (by decide)]; exact h13
  have e4 := setL_self l 4
  have x1 := upd_self x 114 v
  have c1 := r.c1
  have c2 := r.c2
  rw [h11, if_neg (by simp)] at c1
  rw [h13, if_neg (by simp)] at c2
  have hsz := r.kp.size
  refine ⟨r.kp.trans (hk.mono fun y hy => by simp [hy]), fun j => (World.frozen?_of_block (w := w) (a := ⟨tb, j, none⟩) (hk.block tb r.lt ht)).trans (r.f j), hk.cell r.c0 ht, ?_, ?_, hk.cell r.c3 ht, fun _ => e4, ?_, fun _ => setL_mono h1, ?_, ?_, ?_, ?_, ?_, ?_⟩
  · rw [e11, if_neg (by simp)]; exact hk.cell c1 ht
  · rw [e13, if_neg (by simp)]; exact hk.cell c2 ht
  · rw [e11, e13]; intro h; rcases h with h | h <;> cases h
  · rw [e9]; intro h; cases h
  · rw [e4, if_pos rfl, if_pos rfl, x1]; exact hs
  · rw [e9, if_neg (by simp), if_neg (by simp)]; exact a2.kp hk fun g hg hm => d g hm hg
  · rw [e4, if_pos rfl, x1]; intro g hg; exact (ho g hg).imp id fun h => by omega
  · rw [e9, if_neg (by simp)]; exact fun g hg => .inl hg
  · rw [e4, if_pos rfl, x1, e9, if_neg (by simp)]
    intro g hg hm
    rcases ho g hg with h1 | h1
    · exact d g h1 hm
    · have := a2.own_ge g hm; omega
theorem R16.app2 (r : R16 w7 tb s0 vl vg L V h l x w) (h6 : l 6 = true) (h4 : l 4 = true) (hl : l 9 = false) {v : Value} {w' : World} (hs : Sl kH w' (tb + 1) v (V ++ [h])) (hk : Kp (own vg) w w') (ho : ∀ g ∈ own v, g ∈ own vg ∨ w.heap.size ≤ g) :
    R16 w7 tb s0 vl vg L V h (setL l 9) (upd x (some 119) v) w' := by
  have h11 : l 11 = false := by
    cases h1 : l 11 with
    | false => rfl
    | true => have := r.o2 (.inl h1); rw [hl] at this; cases this
  have h13 : l 13 = false := by
    cases h1 : l 13 with
    | false => rfl
    | true => have := r.o2 (.inr h1); rw [hl] at this; cases this
  have a1 := r.a1
  have a2 := r.a2
  have d := r.d
  have w1 := r.w1
  rw [h4, if_pos rfl, if_pos rfl] at a1
  rw [h4, if_pos rfl] at w1
  rw [hl, if_neg (by simp), if_neg (by simp)] at a2
  rw [h4, hl, if_pos rfl, if_neg (by simp)] at d
  have ht : tb ∉ own vg := fun hm => by have := a2.own_ge tb hm; omega
  have e4 : setL l 9 4 = true := by rw [setL_ne (by decide)]; exact h4
  have e11 : setL l 9 11 = false := by rw [setL_ne (by decide)]; exact h11
  have e13 : setL l 9 13 = false := by rw [setL_ne (by decide)]; exact h13
  have e9 := setL_self l 9
  have x1 : upd x (some 119) v 114 = x 114 := upd_ne (by decide)
  have x2 := upd_self x 119 v
  have c1 := r.c1
  have c2 := r.c2
  rw [h11, if_neg (by simp)] at c1
  rw [h13, if_neg (by simp)] at c2
  have hsz := r.kp.size
  refine ⟨r.kp.trans (hk.mono fun y hy => by simp [hy]), fun j => (World.frozen?_of_block (w := w) (a := ⟨tb, j, none⟩) (hk.block tb r.lt ht)).trans (r.f j), hk.cell r.c0 ht, ?_, ?_, hk.cell r.c3 ht, fun _ => e4, fun _ => e9, fun _ => setL_mono (r.o3 h4), fun _ => setL_mono h6, ?_, ?_, ?_, ?_, ?_⟩
  · rw [e11, if_neg (by simp)]; exact hk.cell c1 ht
  · rw [e13, if_neg (by simp)]; exact hk.cell c2 ht
  · rw [e4, if_pos rfl, if_pos rfl, x1]; exact a1.kp hk fun g hg hm => d g hg hm
  · rw [e9, if_pos rfl, if_pos rfl, x2]; exact hs
  · rw [e4, if_pos rfl, x1]; exact w1
  · rw [e9, if_pos rfl, x2]; intro g hg; exact (ho g hg).imp id fun h => by omega
  · rw [e4, if_pos rfl, x1, e9, if_pos rfl, x2]
    intro g hg hm
    rcases ho g hm with h1 | h1
    · exact d g hg h1
    · have := a1.own_ge g hg; omega
theorem R16.st1 (r : R16 w7 tb s0 vl vg L V h l x w) (h9 : l 9 = true) (v : Value) : R16 w7 tb s0 vl vg L V h (setL l 11) (upd x none v) (w.setCell ⟨tb, 1, none⟩ (x 114)) := by
  have h4 := r.o1 h9
  have a1 := r.a1
  have a2 := r.a2
  have k : Kp [tb] w (w.setCell ⟨tb, 1, none⟩ (x 114)) := (Kp.refl [tb] w).store (by simp) 1 _
  have c0 := r.c0
  have c1 := r.c1
  have c2 := r.c2
  have c3 := r.c3
  have e4 : setL l 11 4 = l 4 := setL_ne (by decide)
  have e9 : setL l 11 9 = l 9 := setL_ne (by decide)
  have e13 : setL l 11 13 = l 13 := setL_ne (by decide)
  have e11 := setL_self l 11
  have hx : upd x none v = x := rfl
  rw [hx]
  refine ⟨r.kp.trans (k.mono (by simp)), fun j => by have := r.f j; simp [this, go_sem], by simp [c0, go_sem], ?_, ?_, by simp [c3, go_sem], ?_, ?_, ?_, ?_, ?_, ?_, ?_, ?_, ?_⟩
  · rw [e11, if_pos rfl]; simp [c1, go_sem]
  · rw [e13]; simp [c2, go_sem]
  · rw [e9, e4]; exact r.o1
  · rw [e9]; exact fun _ => h9
  · rw [e4]; exact fun h => setL_mono (r.o3 h)
  · rw [e9]; exact fun h => setL_mono (r.o4 h)
  · rw [e4]; exact a1.kp k fun g hg => by have := a1.own_ge g hg; simp; omega
  · rw [e9]; exact a2.kp k fun g hg => by have := a2.own_ge g hg; simp; omega
  · rw [e4]; exact r.w1
  · rw [e9]; exact r.w2
  · rw [e4, e9]; exact r.d
theorem R16.st2 (r : R16 w7 tb s0 vl vg L V h l x w) (h9 : l 9 = true) (v : Value) : R16 w7 tb s0 vl vg L V h (setL l 13) (upd x none v) (w.setCell ⟨tb, 2, none⟩ (x 119)) := by
  have a1 := r.a1
  have a2 := r.a2
  have k : Kp [tb] w (w.setCell ⟨tb, 2, none⟩ (x 119)) := (Kp.refl [tb] w).store (by simp) 2 _
  have c0 := r.c0
  have c1 := r.c1
  have c2 := r.c2
  have c3 := r.c3
  have e4 : setL l 13 4 = l 4 := setL_ne (by decide)
  have e9 : setL l 13 9 = l 9 := setL_ne (by decide)
  have e11 : setL l 13 11 = l 11 := setL_ne (by decide)
  have e13 := setL_self l 13
  have hx : upd x none v = x := rfl
  rw [hx]
  refine ⟨r.kp.trans (k.mono (by simp)), fun j => by have := r.f j; simp [this, go_sem], by simp [c0, go_sem], ?_, ?_, by simp [c3, go_sem], ?_, ?_, ?_, ?_, ?_, ?_, ?_, ?_, ?_⟩
  · rw [e11]; simp [c1, go_sem]
  · rw [e13, if_pos rfl]; simp [c2, go_sem]
  · rw [e9, e4]; exact r.o1
  · rw [e9]; exact fun _ => h9
  · rw [e4]; exact fun h => setL_mono (r.o3 h)
  · rw [e9]; exact fun h => setL_mono (r.o4 h)
  · rw [e4]; exact a1.kp k fun g hg => by have := a1.own_ge g hg; simp; omega
  · rw [e9]; exact a2.kp k fun g hg => by have := a2.own_ge g hg; simp; omega
  · rw [e4]; exact r.w1
  · rw [e9]; exact r.w2
  · rw [e4, e9]; exact r.d
theorem R16.open1 (r : R16 w7 tb s0 vl vg L V h l x w) (h1 : l 1 = false) : w.cell? ⟨tb, 1, none⟩ = some vl := by
  have c := r.c1
  cases h11 : l 11 with
  | false => rw [h11, if_neg (by simp)] at c; exact c
  | true => have := r.o3 (r.o1 (r.o2 (.inl h11))); rw [h1] at this; cases this
theorem R16.open2 (r : R16 w7 tb s0 vl vg L V h l x w) (h6 : l 6 = false) : w.cell? ⟨tb, 2, none⟩ = some vg := by
  have c := r.c2
  cases h13 : l 13 with
  | false => rw [h13, if_neg (by simp)] at c; exact c
  | true => have := r.o4 (r.o2 (.inr h13)); rw [h6] at this; cases this
theorem R16.start (h0 : w.cell? ⟨tb, 0, none⟩ = some s0) (h1 : w.cell? ⟨tb, 1, none⟩ = some vl) (h2 : w.cell? ⟨tb, 2, none⟩ = some vg) (h3 : w.cell? ⟨tb, 3, none⟩ = some (.bool true)) (hf : ∀ j, w.frozen? ⟨tb, j, none⟩ = false)
    (a1 : Sl kH w (tb + 1) vl L) (a2 : Sl kH w (tb + 1) vg V) (d : ∀ g ∈ own vl, g ∉ own vg) (h : Int × Int) (x : Nat → Value) : R16 w tb s0 vl vg L V h (fun _ => false) x w :=
  ⟨Kp.refl _ _, hf, h0, h1, h2, h3, (fun h => by cases h), (fun h => by rcases h with h | h <;> cases h), (fun h => by cases h), (fun h => by cases h), a1, a2, fun g hg => .inl hg, fun g hg => .inl hg, d⟩
end

/-- An append whose run is known. -/
theorem OpDoes.append {P : Program} {o : Oper} {ρ : Operand → Value} {w w' : World} {R : Value → World → Prop} (s x : Operand) (t ty : TypeId)
    (ho : o.op = .call { callee := .builtin .append, args := #[s, x], argTypes := #[t, t] }) (hty : o.type = ty) {v u r : Value} (hs : ρ s = v) (hx : ρ x = u)
    (hr : (Builtin.append_ #[t, t] ty #[v, u]).run P w = .ok r w') (h : R r w') : OpDoes P o ρ w R := by
  unfold OpDoes execOp
  simp only [ho, resolve, invoke, builtin, Sem.run_bind, Sem.run_pure, Result.andThen_ok, List.map_toArray, List.map_cons, List.map_nil, hs, hx, hty, hr]
  exact h
theorem StepsAt.cons {S : Nat → Oper → Prop} {j : Nat} {o : Oper} {r : List Oper} (h : S j o) (k : StepsAt S (j + 1) r) : StepsAt S j (o :: r) := ⟨h, k⟩
theorem OneH.rd {h : Int × Int} {b : Nat} {w : World} (h2 : b < w.heap.size) (h3 : w.cell? ⟨b, 0, none⟩ = some (.int .i64 h.1)) (h4 : w.cell? ⟨b, 1, none⟩ = some (.int .i64 h.2)) : Rd kH w (some ⟨b, 0, none⟩) [h] := by
  refine .inr ⟨_, rfl, h2, fun j u hu => ?_⟩
  rw [Kind.flat_one] at hu
  rw [add_zero_off, Nat.zero_add]
  match j with
  | 0 => simp [kH, encP] at hu; subst hu; exact h3
  | 1 => simp [kH, encP] at hu; subst hu; exact h4
  | j + 2 => simp [kH, encP] at hu

end Go.Proofs.YtmoaefcpbphgmaaGreat

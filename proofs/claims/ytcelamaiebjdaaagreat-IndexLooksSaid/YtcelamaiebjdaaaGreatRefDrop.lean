/- The reference's sweeps: Drop (a statement whose order Go leaves open appends twice, and stores). -/
import Derived.Test.YtcelamaiebjdaaaGreatRefPut
import Derived.Test.YtcelamaiebjdaaaGreatRegFree
namespace Go.Proofs.YtcelamaiebjdaaaGreat
open Go.RowKit Go.Maps Go.Sort Go.Shelf
attribute [local go_sem ↓] Go.wp_at_zero Go.wp_at_succ

theorem OpDoes.app {P : Program} {o : Oper} {ρ : Operand → Value} {w w' : World} {R : Value → World → Prop} (s x : Operand) (t ty : TypeId)
    (ho : o.op = .call { callee := .builtin .append, args := #[s, x], argTypes := #[t, t] }) (hty : o.type = ty) {v u r : Value} (hs : ρ s = v) (hx : ρ x = u)
    (hr : (Builtin.append_ #[t, t] ty #[v, u]).run P w = .ok r w') (h : R r w') : OpDoes P o ρ w R := by
  unfold OpDoes execOp
  simp only [ho, resolve, invoke, builtin, Sem.run_bind, Sem.run_pure, Result.andThen_ok, List.map_toArray, List.map_cons, List.map_nil, hs, hx, hty, hr]
  exact h
theorem gL_ne {l : Nat → Bool} {j k : Nat} (h : k ≠ j) : setL l j k = l k := by unfold setL; rw [if_neg h]
theorem gL_mono {l : Nat → Bool} {j k : Nat} (h : l k = true) : setL l j k = true := by
  unfold setL
  split
  · rfl
  · exact h
theorem gL_self (l : Nat → Bool) (j : Nat) : setL l j j = true := by unfold setL; rw [if_pos rfl]
theorem gu_ne {x : Nat → Value} {d : Option Nat} {v : Value} {k : Nat} (h : d ≠ some k) : upd x d v k = x k := by unfold upd; rw [if_neg h]
theorem gu_self (x : Nat → Value) (k : Nat) (v : Value) : upd x (some k) v k = v := by unfold upd; rw [if_pos rfl]

/-- What holds within Drop's statement when the operations of l have come up. -/
structure DropR (w w1 : World) (rb : Nat) (v : Value) (L' T : Sw) (l : Nat → Bool) (x : Nat → Value) (W : World) : Prop where
  g : l 19 = false → Grew w1 W
  e20 : l 1 = true → l 8 = false → ∃ b, x 20 = .slice (some ⟨b, 0, none⟩) 0 0 ∧ Sl kE W w1.heap.size (x 20) []
  e27 : l 8 = true → l 16 = false → Sl kE W w1.heap.size (x 27) T
  e35 : l 16 = true → l 19 = false → Sl kE W w1.heap.size (x 35) L'
  fin : l 19 = true → SwPost w rb v [rb] 0 L' (.returned (.int .i64 0)) W
  o2 : l 16 = true → l 8 = true
  o3 : l 19 = true → (∀ q, q ≤ 16 → l q = true) ∧ l 17 = true ∧ l 18 = true
  o4 : l 18 = true → l 17 = true

section
variable {w w1 : World} {rb : Nat} {v : Value} {L' T : Sw} {l : Nat → Bool} {x : Nat → Value} {W : World}
theorem DropR.start (x : Nat → Value) : DropR w w1 rb v L' T (fun _ => false) x w1.drew :=
  ⟨fun _ => (Grew.refl _).drew, (by intro h; cases h), (by intro h; cases h), (by intro h; cases h), (by intro h; cases h), (by intro h; cases h), (by intro h; cases h), (by intro h; cases h)⟩
theorem DropR.notk (r : DropR w w1 rb v L' T l x W) (k : Nat) (hk : k ≤ 16) (hl : l k = false) : l 19 = false := by
  cases h : l 19 with
  | false => rfl
  | true => have := (r.o3 h).1 k hk; rw [hl] at this; cases this
theorem DropR.not17 (r : DropR w w1 rb v L' T l x W) (hl : l 17 = false) : l 19 = false := by
  cases h : l 19 with
  | false => rfl
  | true => have := (r.o3 h).2.1; rw [hl] at this; cases this
theorem DropR.not18 (r : DropR w w1 rb v L' T l x W) (hl : l 18 = false) : l 19 = false := by
  cases h : l 19 with
  | false => rfl
  | true => have := (r.o3 h).2.2; rw [hl] at this; cases this
theorem DropR.same (r : DropR w w1 rb v L' T l x W) (k : Nat) (d : Option Nat) (u : Value) (hk : k ≠ 1 ∧ k ≠ 8 ∧ k ≠ 16 ∧ k ≤ 16) (hd : d ≠ some 20 ∧ d ≠ some 27 ∧ d ≠ some 35) (hl : l k = false) : DropR w w1 rb v L' T (setL l k) (upd x d u) W := by
  have e := r.notk k hk.2.2.2 hl
  have e1 : setL l k 1 = l 1 := gL_ne (by omega)
  have e8 : setL l k 8 = l 8 := gL_ne (by omega)
  have e16 : setL l k 16 = l 16 := gL_ne (by omega)
  have e17 : setL l k 17 = l 17 := gL_ne (by omega)
  have e18 : setL l k 18 = l 18 := gL_ne (by omega)
  have e19 : setL l k 19 = false := by rw [gL_ne (by omega)]; exact e
  refine ⟨fun _ => r.g e, ?_, ?_, ?_, ?_, ?_, ?_, ?_⟩
  · rw [e1, e8, gu_ne hd.1]; exact r.e20
  · rw [e8, e16, gu_ne hd.2.1]; exact r.e27
  · rw [e16, gu_ne hd.2.2]; exact fun h _ => r.e35 h e
  · rw [e19]; intro h; cases h
  · rw [e16, e8]; exact r.o2
  · rw [e19]; intro h; cases h
  · rw [e18, e17]; exact r.o4
theorem DropR.made (r : DropR w w1 rb v L' T l x W) (hl : l 1 = false) : DropR w w1 rb v L' T (setL l 1) (upd x (some 20) (.slice (some ⟨W.heap.size, 0, none⟩) 0 0)) (W.alloc (.cells #[] 115)) := by
  have e := r.notk 1 (by decide) hl
  have g0 := r.g e
  have ga : Grew W (W.alloc (.cells #[] 115)) := (Grew.refl W).alloc _
  have e8 : setL l 1 8 = l 8 := gL_ne (by decide)
  have e16 : setL l 1 16 = l 16 := gL_ne (by decide)
  have e17 : setL l 1 17 = l 17 := gL_ne (by decide)
  have e18 : setL l 1 18 = l 18 := gL_ne (by decide)
  have e19 : setL l 1 19 = false := by rw [gL_ne (by decide)]; exact e
  refine ⟨fun _ => g0.trans ga, ?_, ?_, ?_, ?_, ?_, ?_, ?_⟩
  · intro _ _
    rw [gu_self]
    exact ⟨_, rfl, ⟨by simp [Kind.flat], .inr ⟨W.heap.size, 0, #[], rfl, g0.size, heap_alloc_new W _, Nat.le_refl _, Nat.zero_le _, by simp, by simp [Kind.flat]⟩⟩⟩
  · rw [e8, e16, gu_ne (by decide)]; exact fun h1 h2 => (r.e27 h1 h2).grew ga
  · rw [e16, gu_ne (by decide)]; exact fun h _ => (r.e35 h e).grew ga
  · rw [e19]; intro h; cases h
  · rw [e16, e8]; exact r.o2
  · rw [e19]; intro h; cases h
  · rw [e18, e17]; exact r.o4
theorem DropR.app1 (r : DropR w w1 rb v L' T l x W) (hl : l 8 = false) {v5 : Value} {w5 : World} (s5 : Sl kE w5 w1.heap.size v5 T) (g5 : Grew w1 w5) : DropR w w1 rb v L' T (setL l 8) (upd x (some 27) v5) w5 := by
  have e := r.notk 8 (by decide) hl
  have h16 : l 16 = false := by
    cases h : l 16 with
    | false => rfl
    | true => have := r.o2 h; rw [hl] at this; cases this
  have e16 : setL l 8 16 = false := by rw [gL_ne (by decide)]; exact h16
  have e17 : setL l 8 17 = l 17 := gL_ne (by decide)
  have e18 : setL l 8 18 = l 18 := gL_ne (by decide)
  have e19 : setL l 8 19 = false := by rw [gL_ne (by decide)]; exact e
  refine ⟨fun _ => g5, ?_, ?_, ?_, ?_, ?_, ?_, ?_⟩
  · rw [gL_self]; intro _ h; cases h
  · intro _ _; rw [gu_self]; exact s5
  · rw [e16]; intro h; cases h
  · rw [e19]; intro h; cases h
  · rw [e16]; intro h; cases h
  · rw [e19]; intro h; cases h
  · rw [e18, e17]; exact r.o4
theorem DropR.app2 (r : DropR w w1 rb v L' T l x W) (h8 : l 8 = true) (hl : l 16 = false) {v7 : Value} {w7 : World} (s7 : Sl kE w7 w1.heap.size v7 L') (g7 : Grew w1 w7) : DropR w w1 rb v L' T (setL l 16) (upd x (some 35) v7) w7 := by
  have e := r.notk 16 (by decide) hl
  have e8 : setL l 16 8 = true := gL_mono h8
  have e16 := gL_self l 16
  have e17 : setL l 16 17 = l 17 := gL_ne (by decide)
  have e18 : setL l 16 18 = l 18 := gL_ne (by decide)
  have e19 : setL l 16 19 = false := by rw [gL_ne (by decide)]; exact e
  refine ⟨fun _ => g7, ?_, ?_, ?_, ?_, ?_, ?_, ?_⟩
  · rw [e8]; intro _ h; cases h
  · rw [e16]; intro _ h; cases h
  · intro _ _; rw [gu_self]; exact s7
  · rw [e19]; intro h; cases h
  · exact fun _ => e8
  · rw [e19]; intro h; cases h
  · rw [e18, e17]; exact r.o4
theorem DropR.s17 (r : DropR w w1 rb v L' T l x W) (hl : l 17 = false) (u : Value) : DropR w w1 rb v L' T (setL l 17) (upd x (some 36) u) W := by
  have e := r.not17 hl
  have e1 : setL l 17 1 = l 1 := gL_ne (by decide)
  have e8 : setL l 17 8 = l 8 := gL_ne (by decide)
  have e16 : setL l 17 16 = l 16 := gL_ne (by decide)
  have e19 : setL l 17 19 = false := by rw [gL_ne (by decide)]; exact e
  refine ⟨fun _ => r.g e, ?_, ?_, ?_, ?_, ?_, ?_, fun _ => gL_self l 17⟩
  · rw [e1, e8, gu_ne (by decide)]; exact r.e20
  · rw [e8, e16, gu_ne (by decide)]; exact r.e27
  · rw [e16, gu_ne (by decide)]; exact fun h _ => r.e35 h e
  · rw [e19]; intro h; cases h
  · rw [e16, e8]; exact r.o2
  · rw [e19]; intro h; cases h
theorem DropR.s18 (r : DropR w w1 rb v L' T l x W) (h17 : l 17 = true) (hl : l 18 = false) (u : Value) : DropR w w1 rb v L' T (setL l 18) (upd x (some 37) u) W := by
  have e := r.not18 hl
  have e1 : setL l 18 1 = l 1 := gL_ne (by decide)
  have e8 : setL l 18 8 = l 8 := gL_ne (by decide)
  have e16 : setL l 18 16 = l 16 := gL_ne (by decide)
  have e19 : setL l 18 19 = false := by rw [gL_ne (by decide)]; exact e
  refine ⟨fun _ => r.g e, ?_, ?_, ?_, ?_, ?_, ?_, fun _ => gL_mono h17⟩
  · rw [e1, e8, gu_ne (by decide)]; exact r.e20
  · rw [e8, e16, gu_ne (by decide)]; exact r.e27
  · rw [e16, gu_ne (by decide)]; exact fun h _ => r.e35 h e
  · rw [e19]; intro h; cases h
  · rw [e16, e8]; exact r.o2
  · rw [e19]; intro h; cases h
theorem DropR.store (r : DropR w w1 rb v L' T l x W) (hall : ∀ q, q ≤ 16 → l q = true) (h18 : l 18 = true) {u : Value} {W' : World} (hp : SwPost w rb v [rb] 0 L' (.returned (.int .i64 0)) W') : DropR w w1 rb v L' T (setL l 19) (upd x none u) W' := by
  have e19 := gL_self l 19
  refine ⟨?_, ?_, ?_, ?_, fun _ => hp, fun _ => gL_mono (hall 8 (by decide)), fun _ => ⟨fun q hq => gL_mono (hall q hq), gL_mono (r.o4 h18), gL_mono h18⟩, fun _ => gL_mono (r.o4 h18)⟩
  · rw [e19]; intro h; cases h
  · rw [show setL l 19 8 = true from gL_mono (hall 8 (by decide))]; intro _ h; cases h
  · rw [show setL l 19 16 = true from gL_mono (hall 16 (by decide))]; intro _ h; cases h
  · rw [e19]; intro _ h; cases h
end

theorem askE_bx0 (k : Int) : askE k bx0 = idE k := by
  unfold askE
  split
  · rfl
  · rename_i h
    have : idE k = 0 := by simpa using h
    rw [this]
    rfl
theorem SwOk.dropped {l : Sw} (h : SwOk l) {i : Nat} {k : Int} (hi : i < l.length) (hk : (eG l i).1 = k) : SwOk (l.take i ++ l.drop (i + 1)) ∧ l.take i ++ l.drop (i + 1) = delL l k := by
  have e := delL_at h.asc hi hk
  rw [← e]
  exact ⟨h.del k, rfl⟩

set_option maxHeartbeats 4000000 in
set_option maxRecDepth 100000 in
theorem refDrop_any (rb : Nat) (v : Value) (l0 : Sw) (k : Int) (w : World) (h : RefSw w rb v l0) :
    Calls Tryz.prog 53 #[.pointer (some ⟨rb, 0, none⟩), .int .i64 k] w (SwPost w rb v [rb] (dropE l0 k) (dropS l0 k)) := by
  have c0 := h.c0
  have hsm := h.ok.small
  have H := Lib.hid h
  obtain ⟨r, hr⟩ : ∃ r, idE k = r := ⟨_, rfl⟩
  have HAs := fun W c => asked_any rb k bx0 W c
  rw [askE_bx0, hr] at HAs
  have Hr := Lib.hid hr
  have HAs := Lib.hid (show ∀ W, W.cell? ⟨rb, 0, none⟩ = some (.bool true) → Calls Tryz.prog 103 #[.pointer (some ⟨rb, 0, none⟩), .int .i64 k, .agg #[.int .i64 0, .int .i64 0, .int .i64 0, .int .i64 0]] W fun e w' => e = .returned (.int .i64 r) ∧ Grew W w' from HAs)
  have HPl := Lib.hid (fun W (g : Grew w W) => place_any rb v l0 k W (H.out.grew g))
  clear h hr
  go_enter Tryz.func53, Tryz.ntmps53
  go_wp2_with fail
  refine (HAs.out _ c0).mono ?_
  rintro e w1 ⟨rfl, hw1⟩
  have HW1 := Lib.hid hw1
  clear hw1
  by_cases hr0 : r = 0
  case neg =>
    have hr1 : (r != 0) = true := by simpa using hr0
    have hx : dropE l0 k = r ∧ dropS l0 k = l0 := by
      have e : dropE l0 k = r := by unfold dropE; rw [Hr.out, if_pos hr0]
      exact ⟨e, by unfold dropS; rw [e, if_neg hr0]⟩
    have HX := Lib.hid hx
    clear hx hr0
    go_wp2_with fail
    go_ret
    rw [HX.out.1, HX.out.2]
    exact SwPost.same H.out HW1.out
  case pos =>
    subst hr0
    go_wp2_with fail
    refine (HPl.out _ HW1.out).mono ?_
    rintro e w2 ⟨hpl, rfl⟩
    rcases hpl with ⟨hh, rfl⟩ | ⟨i, hi, hk, rfl⟩
    · have hx : dropE l0 k = 9 ∧ dropS l0 k = l0 := by
        have e : dropE l0 k = 9 := by unfold dropE; rw [Hr.out, hh]; rfl
        exact ⟨e, by unfold dropS; rw [e]; rfl⟩
      have HX := Lib.hid hx
      clear hx hh
      go_wp2_with fail
      go_ret
      rw [HX.out.1, HX.out.2]
      exact SwPost.same H.out HW1.out
    · have hok := H.out.ok.dropped hi hk
      have hx : dropE l0 k = 0 ∧ dropS l0 k = l0.take i ++ l0.drop (i + 1) := by
        have e : dropE l0 k = 0 := by unfold dropE; rw [Hr.out, hasL_at hi hk]; rfl
        exact ⟨e, by unfold dropS; rw [e, if_pos rfl, hok.2]⟩
      have HX := Lib.hid hx
      have HOk := Lib.hid hok.1
      obtain ⟨n, hn⟩ : ∃ n, l0.length = n := ⟨_, rfl⟩
      have HN := Lib.hid hn
      have H1 := Lib.hid (H.out.grew HW1.out)
      have hform := H1.out.row.form
      rw [hn] at hform hi hsm
      obtain ⟨g, c, rfl, -, hgl, hnc, hcm⟩ := hform.resolve_left (by rintro ⟨-, h⟩; rw [h] at hn; simp at hn; omega)
      have C1 : Aside (w1.cell? ⟨rb, 1, none⟩ = some (.slice (some ⟨g, 0, none⟩) n c) ∧ w1.frozen? ⟨rb, 1, none⟩ = false ∧ rb < w1.heap.size) := ⟨H1.out.c1, H1.out.f1, H1.out.lt.1⟩
      have HT : Aside (Rd kE w1 (some ⟨g, 0, none⟩) (l0.take i)) := by
        have := H1.out.row.rdMid 0 i
        show Rd kE w1 _ _
        simpa using this
      have HTl := Lib.hid (show (l0.take i).length = i by rw [List.length_take, hn]; omega)
      obtain ⟨o2, c2, n2, hr2, hn2, hq2⟩ : ∃ o2 c2 n2 : Nat, Rd kE w1 (some ⟨g, o2, none⟩) (l0.drop (i + 1)) ∧ (l0.drop (i + 1)).length = n2 ∧ ((n = i + 1 ∧ c = i + 1 ∧ o2 = 0 ∧ c2 = 0 ∧ n2 = 0) ∨ (n = i + 1 ∧ i + 1 < c ∧ o2 = (i + 1) * 5 ∧ c2 = c - (i + 1) ∧ n2 = 0) ∨ (i + 1 < n ∧ i + 1 < c ∧ o2 = (i + 1) * 5 ∧ c2 = c - (i + 1) ∧ n2 = n - (i + 1))) := by
        have hdl : (l0.drop (i + 1)).length = n - (i + 1) := by rw [List.length_drop, hn]
        by_cases hjc : c = i + 1
        · exact ⟨0, 0, 0, .inl (List.drop_eq_nil_of_le (by rw [hn]; omega)), by rw [hdl]; omega, .inl ⟨by omega, hjc, rfl, rfl, rfl⟩⟩
        · have := H1.out.row.rdMid (i + 1) (n - (i + 1))
          rw [List.take_of_length_le (by rw [hdl]; exact Nat.le_refl _)] at this
          by_cases hjn : n = i + 1
          · exact ⟨(i + 1) * 5, c - (i + 1), 0, this, by rw [hdl]; omega, .inr (.inl ⟨hjn, by omega, rfl, rfl, rfl⟩)⟩
          · exact ⟨(i + 1) * 5, c - (i + 1), n - (i + 1), this, hdl, .inr (.inr ⟨by omega, by omega, rfl, rfl, rfl⟩)⟩
      have hn2b : n2 ≤ 256 := by omega
      have hic : i ≤ c ∧ i + 1 ≤ n ∧ n ≤ c := by omega
      have HD := Lib.hid hr2
      have HDl := Lib.hid hn2
      have HQ2 := Lib.hid hq2
      obtain ⟨L', hL'⟩ : ∃ L', l0.take i ++ l0.drop (i + 1) = L' := ⟨_, rfl⟩
      have HL' := Lib.hid hL'
      have c1 := C1.out.1
      have hb1 := C1.out.2.2
      have hz1 : (0 : Int) ≤ (i : Int) ∧ (i : Int) ≤ (n : Int) ∧ (n : Int) ≤ (c : Int) := by omega
      have hzw : IntKind.i64.wrap ((i : Int) + 1) = (i : Int) + 1 := IntWalk.i64_in _ (by omega)
      rw [hL'] at HOk HX
      have hi0 : ¬ (i : Int) < 0 := by omega
      clear hok hx hk hn hform hr2 hn2 hq2 HPl hL'
      go_wp2_with fail
      refine wp_region_free (by kernel_rfl) [19, 20, 21, 22, 23, 24, 25, 26, 27, 28, 29, 30, 31, 32, 33, 34, 35, 36, 37] (by kernel_rfl) (fun j v => (([fun v => v = (.pointer (some ⟨rb, 0, none⟩)), fun _ => True, fun v => v = (.pointer (some ⟨rb, 0, none⟩)), fun v => v = (.pointer (some ⟨rb, 0, none⟩)), fun v => v = (.pointer (some ⟨rb, 1, none⟩)), fun v => v = (.slice (some ⟨g, 0, none⟩) n c), fun v => v = (.int .i64 (i : Int)), fun v => v = (.slice (some ⟨g, 0, none⟩) i c), fun _ => True, fun v => v = (.pointer (some ⟨rb, 0, none⟩)), fun v => v = (.pointer (some ⟨rb, 0, none⟩)), fun v => v = (.pointer (some ⟨rb, 1, none⟩)), fun v => v = (.slice (some ⟨g, 0, none⟩) n c), fun v => v = (.int .i64 (i : Int)), fun v => v = (.int .i64 ((i : Int) + 1)), fun v => v = (.slice (some ⟨g, o2, none⟩) n2 c2), fun _ => True, fun v => v = (.pointer (some ⟨rb, 0, none⟩)), fun v => v = (.pointer (some ⟨rb, 1, none⟩)), fun _ => True] : List (Value → Prop)).getD j (fun _ => True)) v) (DropR w w1 rb (.slice (some ⟨g, 0, none⟩) n c) L' (l0.take i)) (fun x => DropR.start x) ?_ ?_
      · refine StepsAt.next ?_ ?_
        · intro ρ l x W hρ hc hR hl hd
          have t0 : ρ (.tmp 0) = (.pointer (some ⟨rb, 0, none⟩)) := by rw [hρ]; rfl
          have g0 := hR.g (hR.notk 0 (by decide) hl)
          clear hρ
          refine .inl ⟨rfl, fun R' hR' => ?_⟩
          unfold OpDoes
          go_simp
          exact hR' _ _ (fun _ _ => (by first | rfl | (simp; done) | (simp; omega))) (hR.same 0 (some 19) _ (by decide) (by decide) hl)
        refine StepsAt.next ?_ ?_
        · intro ρ l x W hρ hc hR hl hd
          have g0 := hR.g (hR.notk 1 (by decide) hl)
          clear hρ
          refine .inl ⟨rfl, fun R' hR' => ?_⟩
          unfold OpDoes
          go_simp
          exact hR' _ _ (fun _ _ => trivial) (hR.made hl)
        refine StepsAt.next ?_ ?_
        · intro ρ l x W hρ hc hR hl hd
          have t0 : ρ (.tmp 0) = (.pointer (some ⟨rb, 0, none⟩)) := by rw [hρ]; rfl
          have g0 := hR.g (hR.notk 2 (by decide) hl)
          clear hρ
          refine .inl ⟨rfl, fun R' hR' => ?_⟩
          unfold OpDoes
          go_simp
          exact hR' _ _ (fun _ _ => (by first | rfl | (simp; done) | (simp; omega))) (hR.same 2 (some 21) _ (by decide) (by decide) hl)
        refine StepsAt.next ?_ ?_
        · intro ρ l x W hρ hc hR hl hd
          have t21 : ρ (.tmp 21) = (.pointer (some ⟨rb, 0, none⟩)) := (show ρ (.tmp 21) = x 21 by rw [hρ]; rfl).trans ((hd.1 rfl).2 21 rfl)
          have g0 := hR.g (hR.notk 3 (by decide) hl)
          clear hρ
          refine .inl ⟨rfl, fun R' hR' => ?_⟩
          unfold OpDoes
          go_simp
          exact hR' _ _ (fun _ _ => (by first | rfl | (simp; done) | (simp; omega))) (hR.same 3 (some 22) _ (by decide) (by decide) hl)
        refine StepsAt.next ?_ ?_
        · intro ρ l x W hρ hc hR hl hd
          have t22 : ρ (.tmp 22) = (.pointer (some ⟨rb, 0, none⟩)) := (show ρ (.tmp 22) = x 22 by rw [hρ]; rfl).trans ((hd.1 rfl).2 22 rfl)
          have g0 := hR.g (hR.notk 4 (by decide) hl)
          clear hρ
          refine .inl ⟨rfl, fun R' hR' => ?_⟩
          unfold OpDoes
          go_simp
          exact hR' _ _ (fun _ _ => (by first | rfl | (simp; done) | (simp; omega))) (hR.same 4 (some 23) _ (by decide) (by decide) hl)
        refine StepsAt.next ?_ ?_
        · intro ρ l x W hρ hc hR hl hd
          have t23 : ρ (.tmp 23) = (.pointer (some ⟨rb, 1, none⟩)) := (show ρ (.tmp 23) = x 23 by rw [hρ]; rfl).trans ((hd.1 rfl).2 23 rfl)
          have g0 := hR.g (hR.notk 5 (by decide) hl)
          have c1 := g0.cell' C1.out.1
          clear hρ
          refine .inl ⟨rfl, fun R' hR' => ?_⟩
          unfold OpDoes
          go_simp
          exact hR' _ _ (fun _ _ => (by first | rfl | (simp; done) | (simp; omega))) (hR.same 5 (some 24) _ (by decide) (by decide) hl)
        refine StepsAt.next ?_ ?_
        · intro ρ l x W hρ hc hR hl hd
          have t6 : ρ (.tmp 6) = (.int .i64 (i : Int)) := by rw [hρ]; rfl
          have g0 := hR.g (hR.notk 6 (by decide) hl)
          clear hρ
          refine .inl ⟨rfl, fun R' hR' => ?_⟩
          unfold OpDoes
          go_simp
          exact hR' _ _ (fun _ _ => (by first | rfl | (simp; done) | (simp; omega))) (hR.same 6 (some 25) _ (by decide) (by decide) hl)
        refine StepsAt.next ?_ ?_
        · intro ρ l x W hρ hc hR hl hd
          have t24 : ρ (.tmp 24) = (.slice (some ⟨g, 0, none⟩) n c) := (show ρ (.tmp 24) = x 24 by rw [hρ]; rfl).trans ((hd.1 rfl).2 24 rfl)
          have t25 : ρ (.tmp 25) = (.int .i64 (i : Int)) := (show ρ (.tmp 25) = x 25 by rw [hρ]; rfl).trans ((hd.2.1 rfl).2 25 rfl)
          have g0 := hR.g (hR.notk 7 (by decide) hl)
          clear hρ
          refine .inl ⟨rfl, fun R' hR' => ?_⟩
          unfold OpDoes
          go_simp
          exact hR' _ _ (fun _ _ => (by first | rfl | (simp; done) | (simp; omega))) (hR.same 7 (some 26) _ (by decide) (by decide) hl)
        refine StepsAt.next ?_ ?_
        · intro ρ l x W hρ hc hR hl hd
          have t20 : ρ (.tmp 20) = x 20 := by rw [hρ]; rfl
          have t26 : ρ (.tmp 26) = (.slice (some ⟨g, 0, none⟩) i c) := (show ρ (.tmp 26) = x 26 by rw [hρ]; rfl).trans ((hd.2.1 rfl).2 26 rfl)
          have g0 := hR.g (hR.notk 8 (by decide) hl)
          obtain ⟨b, hb, he⟩ := hR.e20 (hd.1 rfl).1 hl
          rw [hb] at t20 he
          obtain ⟨v5, w5, r5, s5, k5, -⟩ := append_any kE he g0.size (some ⟨g, 0, none⟩) c (l0.take i) (HT.out.grew g0) (by simp) (by rw [HTl.out]; simp; omega)
          rw [HTl.out] at r5
          rw [List.nil_append] at s5
          clear hρ
          refine .inl ⟨rfl, fun R' hR' => ?_⟩
          refine OpDoes.app _ _ _ _ rfl rfl t20 t26 r5 ?_
          exact hR' _ _ (fun _ _ => trivial) (hR.app1 hl s5 (Kp.grewOf g0 k5 fun y hy => (he.own_ge y hy).1))
        refine StepsAt.next ?_ ?_
        · intro ρ l x W hρ hc hR hl hd
          have t0 : ρ (.tmp 0) = (.pointer (some ⟨rb, 0, none⟩)) := by rw [hρ]; rfl
          have g0 := hR.g (hR.notk 9 (by decide) hl)
          clear hρ
          refine .inl ⟨rfl, fun R' hR' => ?_⟩
          unfold OpDoes
          go_simp
          exact hR' _ _ (fun _ _ => (by first | rfl | (simp; done) | (simp; omega))) (hR.same 9 (some 28) _ (by decide) (by decide) hl)
        refine StepsAt.next ?_ ?_
        · intro ρ l x W hρ hc hR hl hd
          have t28 : ρ (.tmp 28) = (.pointer (some ⟨rb, 0, none⟩)) := (show ρ (.tmp 28) = x 28 by rw [hρ]; rfl).trans ((hd.1 rfl).2 28 rfl)
          have g0 := hR.g (hR.notk 10 (by decide) hl)
          clear hρ
          refine .inl ⟨rfl, fun R' hR' => ?_⟩
          unfold OpDoes
          go_simp
          exact hR' _ _ (fun _ _ => (by first | rfl | (simp; done) | (simp; omega))) (hR.same 10 (some 29) _ (by decide) (by decide) hl)
        refine StepsAt.next ?_ ?_
        · intro ρ l x W hρ hc hR hl hd
          have t29 : ρ (.tmp 29) = (.pointer (some ⟨rb, 0, none⟩)) := (show ρ (.tmp 29) = x 29 by rw [hρ]; rfl).trans ((hd.1 rfl).2 29 rfl)
          have g0 := hR.g (hR.notk 11 (by decide) hl)
          clear hρ
          refine .inl ⟨rfl, fun R' hR' => ?_⟩
          unfold OpDoes
          go_simp
          exact hR' _ _ (fun _ _ => (by first | rfl | (simp; done) | (simp; omega))) (hR.same 11 (some 30) _ (by decide) (by decide) hl)
        refine StepsAt.next ?_ ?_
        · intro ρ l x W hρ hc hR hl hd
          have t30 : ρ (.tmp 30) = (.pointer (some ⟨rb, 1, none⟩)) := (show ρ (.tmp 30) = x 30 by rw [hρ]; rfl).trans ((hd.1 rfl).2 30 rfl)
          have g0 := hR.g (hR.notk 12 (by decide) hl)
          have c1 := g0.cell' C1.out.1
          clear hρ
          refine .inl ⟨rfl, fun R' hR' => ?_⟩
          unfold OpDoes
          go_simp
          exact hR' _ _ (fun _ _ => (by first | rfl | (simp; done) | (simp; omega))) (hR.same 12 (some 31) _ (by decide) (by decide) hl)
        refine StepsAt.next ?_ ?_
        · intro ρ l x W hρ hc hR hl hd
          have t6 : ρ (.tmp 6) = (.int .i64 (i : Int)) := by rw [hρ]; rfl
          have g0 := hR.g (hR.notk 13 (by decide) hl)
          clear hρ
          refine .inl ⟨rfl, fun R' hR' => ?_⟩
          unfold OpDoes
          go_simp
          exact hR' _ _ (fun _ _ => (by first | rfl | (simp; done) | (simp; omega))) (hR.same 13 (some 32) _ (by decide) (by decide) hl)
        refine StepsAt.next ?_ ?_
        · intro ρ l x W hρ hc hR hl hd
          have t32 : ρ (.tmp 32) = (.int .i64 (i : Int)) := (show ρ (.tmp 32) = x 32 by rw [hρ]; rfl).trans ((hd.1 rfl).2 32 rfl)
          have g0 := hR.g (hR.notk 14 (by decide) hl)
          clear hρ
          refine .inl ⟨rfl, fun R' hR' => ?_⟩
          unfold OpDoes
          go_simp
          exact hR' _ _ (fun _ _ => (by first | rfl | (simp; done) | (simp; omega))) (hR.same 14 (some 33) _ (by decide) (by decide) hl)
        refine StepsAt.next ?_ ?_
        · intro ρ l x W hρ hc hR hl hd
          have t31 : ρ (.tmp 31) = (.slice (some ⟨g, 0, none⟩) n c) := (show ρ (.tmp 31) = x 31 by rw [hρ]; rfl).trans ((hd.1 rfl).2 31 rfl)
          have t33 : ρ (.tmp 33) = (.int .i64 ((i : Int) + 1)) := (show ρ (.tmp 33) = x 33 by rw [hρ]; rfl).trans ((hd.2.1 rfl).2 33 rfl)
          have g0 := hR.g (hR.notk 15 (by decide) hl)
          clear hρ
          rcases HQ2.out with ⟨hjn, hjc, rfl, rfl, rfl⟩ | ⟨hjn, hjc, rfl, rfl, rfl⟩ | ⟨hjn, hjc, rfl, rfl, rfl⟩
          all_goals
            have hza : (0 : Int) ≤ (i : Int) + 1 ∧ (i : Int) + 1 ≤ (n : Int) ∧ (n : Int) ≤ (c : Int) := by omega
            have hzb : IntKind.i64.wrap ((i : Int) + 1) = (i : Int) + 1 := IntWalk.i64_in _ (by omega)
            have hzd : ((i : Int) + 1).toNat = i + 1 := by omega
            refine .inl ⟨rfl, fun R' hR' => ?_⟩
            unfold OpDoes
            go_simp
            exact hR' _ _ (fun _ _ => (by first | rfl | (simp; done) | (simp; omega))) (hR.same 15 (some 34) _ (by decide) (by decide) hl)
        refine StepsAt.next ?_ ?_
        · intro ρ l x W hρ hc hR hl hd
          have t27 : ρ (.tmp 27) = x 27 := by rw [hρ]; rfl
          have t34 : ρ (.tmp 34) = (.slice (some ⟨g, o2, none⟩) n2 c2) := (show ρ (.tmp 34) = x 34 by rw [hρ]; rfl).trans ((hd.2.1 rfl).2 34 rfl)
          have g0 := hR.g (hR.notk 16 (by decide) hl)
          have h5 := hR.e27 (hd.1 rfl).1 hl
          obtain ⟨v7, w7, r7, s7, k7, -⟩ := append_any kE h5 g0.size (some ⟨g, o2, none⟩) c2 (l0.drop (i + 1)) (HD.out.grew g0) (by simp) (by rw [List.length_take, HDl.out]; omega)
          rw [HDl.out] at r7
          clear hρ
          refine .inl ⟨rfl, fun R' hR' => ?_⟩
          refine OpDoes.app _ _ _ _ rfl rfl t27 t34 r7 ?_
          exact hR' _ _ (fun _ _ => trivial) (hR.app2 (hd.1 rfl).1 hl (by rw [← HL'.out]; exact s7) (Kp.grewOf g0 k7 fun y hy => (h5.own_ge y hy).1))
        refine StepsAt.next ?_ ?_
        · intro ρ l x W hρ hc hR hl hd
          have t19 : ρ (.tmp 19) = (.pointer (some ⟨rb, 0, none⟩)) := (show ρ (.tmp 19) = x 19 by rw [hρ]; rfl).trans ((hd.1 rfl).2 19 rfl)
          have h0 : l 0 = true := (hd.1 rfl).1
          have g0 := hR.g (hR.not17 hl)
          clear hρ
          refine .inl ⟨rfl, fun R' hR' => ?_⟩
          unfold OpDoes
          go_simp
          exact hR' _ _ (fun _ _ => rfl) (hR.s17 hl _)
        refine StepsAt.next ?_ ?_
        · intro ρ l x W hρ hc hR hl hd
          have t36 : ρ (.tmp 36) = (.pointer (some ⟨rb, 0, none⟩)) := (show ρ (.tmp 36) = x 36 by rw [hρ]; rfl).trans ((hd.1 rfl).2 36 rfl)
          have h0 : l 0 = true := (hd.2.1 rfl).1
          have g0 := hR.g (hR.not18 hl)
          clear hρ
          refine .inl ⟨rfl, fun R' hR' => ?_⟩
          unfold OpDoes
          go_simp
          exact hR' _ _ (fun _ _ => rfl) (hR.s18 (hd.1 rfl).1 hl _)
        refine StepsAt.next ?_ ?_
        · intro ρ l x W hρ hc hR hl hd
          have t37 : ρ (.tmp 37) = (.pointer (some ⟨rb, 1, none⟩)) := (show ρ (.tmp 37) = x 37 by rw [hρ]; rfl).trans ((hd.1 rfl).2 37 rfl)
          have t35 : ρ (.tmp 35) = x 35 := by rw [hρ]; rfl
          have hall : ∀ q, q ≤ 16 → l q = true := by
            intro q hq
            have hq2 : q = 0 ∨ q = 1 ∨ q = 2 ∨ q = 3 ∨ q = 4 ∨ q = 5 ∨ q = 6 ∨ q = 7 ∨ q = 8 ∨ q = 9 ∨ q = 10 ∨ q = 11 ∨ q = 12 ∨ q = 13 ∨ q = 14 ∨ q = 15 ∨ q = 16 := by omega
            rcases hq2 with rfl | rfl | rfl | rfl | rfl | rfl | rfl | rfl | rfl | rfl | rfl | rfl | rfl | rfl | rfl | rfl | rfl
            · exact (hd.2.2.2.1 rfl).1
            · exact (hd.2.2.2.2.1 rfl).1
            · exact (hd.2.2.2.2.2.1 rfl).1
            · exact (hd.2.2.2.2.2.2.1 rfl).1
            · exact (hd.2.2.2.2.2.2.2.1 rfl).1
            · exact (hd.2.2.2.2.2.2.2.2.1 rfl).1
            · exact (hd.2.2.2.2.2.2.2.2.2.1 rfl).1
            · exact (hd.2.2.2.2.2.2.2.2.2.2.1 rfl).1
            · exact (hd.2.2.2.2.2.2.2.2.2.2.2.1 rfl).1
            · exact (hd.2.2.2.2.2.2.2.2.2.2.2.2.1 rfl).1
            · exact (hd.2.2.2.2.2.2.2.2.2.2.2.2.2.1 rfl).1
            · exact (hd.2.2.2.2.2.2.2.2.2.2.2.2.2.2.1 rfl).1
            · exact (hd.2.2.2.2.2.2.2.2.2.2.2.2.2.2.2.1 rfl).1
            · exact (hd.2.2.2.2.2.2.2.2.2.2.2.2.2.2.2.2.1 rfl).1
            · exact (hd.2.2.2.2.2.2.2.2.2.2.2.2.2.2.2.2.2.1 rfl).1
            · exact (hd.2.2.2.2.2.2.2.2.2.2.2.2.2.2.2.2.2.2.1 rfl).1
            · exact (hd.2.1 rfl).1
          have h18 := (hd.1 rfl).1
          have g0 := hR.g hl
          have h35 := hR.e35 (hall 16 (by decide)) hl
          obtain ⟨p7, q7, hx35, -⟩ := h35.shape
          rw [hx35] at t35 h35
          have c1 := g0.cell' C1.out.1
          have f1 := (g0.frozen (p := ⟨rb, 1, none⟩) C1.out.2.2).trans C1.out.2.1
          clear hρ
          refine .inl ⟨rfl, fun R' hR' => ?_⟩
          unfold OpDoes
          go_simp
          exact hR' _ _ (fun _ h => by cases h) (hR.store hall h18 (H.out.stored HW1.out (HW1.out.trans g0) h35 HOk.out))
        exact trivial
      · intro l x W hR hall hV
        have hp := hR.fin (hall 19 (Nat.le_of_ble_eq_true rfl))
        clear hR hall hV
        simp only [Fr, mapFrom, List.mem_cons, List.not_mem_nil, or_false, Nat.reduceAdd]
        simp only [Nat.reduceEqDiff, reduceIte, or_false, or_self, or_true]
        go_wp2_with fail
        go_ret
        rw [HX.out.1, HX.out.2]
        exact hp

end Go.Proofs.YtcelamaiebjdaaaGreat

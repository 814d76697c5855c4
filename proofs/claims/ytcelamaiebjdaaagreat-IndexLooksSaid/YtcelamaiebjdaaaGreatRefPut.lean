/- The reference's sweeps: Put, Move, Copy. -/
import Derived.Test.YtcelamaiebjdaaaGreatRef3
import Derived.RegionTactic
import Derived.BigRegion
namespace Go.Proofs.YtcelamaiebjdaaaGreat
open Go.RowKit Go.Maps Go.Sort Go.Shelf
attribute [local go_sem ↓] Go.wp_at_zero Go.wp_at_succ

/-- Behind a change: what was returned, the list that lies there now. -/
def SwPost (w : World) (rb : Nat) (v : Value) (bs : List Nat) (E : Int) (l' : Sw) (e : Ending) (w' : World) : Prop :=
  ∃ v', e = .returned (.int .i64 E) ∧ RefSw w' rb v' l' ∧ Kp bs w w' ∧ ∀ g ∈ own v', g ∈ own v ∨ w.heap.size ≤ g
theorem SwPost.same {w w' : World} {rb : Nat} {v : Value} {bs : List Nat} {E : Int} {l : Sw} (h : RefSw w rb v l) (g : Grew w w') : SwPost w rb v bs E l (.returned (.int .i64 E)) w' := ⟨v, rfl, h.grew g, g.kp _, fun _ hx => .inl hx⟩

/-- A new list, built of a part, an entry and a part. -/
theorem ins_run {w : World} (q1 : Option Addr) (c1 n1 : Nat) (q2 : Option Addr) (c2 n2 : Nat) (xs ys : Sw) (x : Int × Bx) (h1 : Rd kE w q1 xs) (h2 : Rd kE w q2 ys) (z1 : q1 = none → c1 = 0) (z2 : q2 = none → c2 = 0) (e1 : xs.length = n1) (e2 : ys.length = n2) (l1 : n1 ≤ 1000) (l2 : n2 ≤ 1000) :
    ∃ v5 w5 v6 w6 v7 w7, (Builtin.append_ #[kE.sl, kE.sl] kE.sl #[.slice (some ⟨w.heap.size, 0, none⟩) 0 0, .slice q1 n1 c1]).run Tryz.prog (w.alloc (.cells #[] kE.ty)) = .ok v5 w5 ∧
      (Builtin.append_ #[kE.sl, kE.sl] kE.sl #[v5, .slice (some ⟨w5.heap.size, 0, none⟩) 1 1]).run Tryz.prog (w5.alloc (.cells #[.int .i64 x.1, .int .i64 x.2.1, .int .i64 x.2.2.1, .int .i64 x.2.2.2.1, .int .i64 x.2.2.2.2] kE.ty)) = .ok v6 w6 ∧
      (Builtin.append_ #[kE.sl, kE.sl] kE.sl #[v6, .slice q2 n2 c2]).run Tryz.prog w6 = .ok v7 w7 ∧ Sl kE w7 w.heap.size v7 (xs ++ [x] ++ ys) ∧ Grew w w5 ∧ Grew w w6 ∧ Grew w w7 := by
  subst e1 e2
  obtain ⟨v5, w5, r5, s5, g5⟩ := own_run kE q1 c1 _ xs rfl h1 z1 (by omega)
  obtain ⟨v6, w6, r6, s6, k6, -⟩ := appendOne kE s5 g5.size (by omega) x _ (by rfl : (#[Value.int .i64 x.1, .int .i64 x.2.1, .int .i64 x.2.2.1, .int .i64 x.2.2.2.1, .int .i64 x.2.2.2.2]).toList = kE.enc x)
  have g6 : Grew w w6 := Kp.grewOf g5 k6 fun y hy => (s5.own_ge y hy).1
  obtain ⟨v7, w7, r7, s7, k7, -, -⟩ := append_any kE s6 g6.size q2 c2 ys (h2.grew g6) z2 (by rw [List.length_append, List.length_singleton]; omega)
  exact ⟨v5, w5, v6, w6, v7, w7, r5, r6, r7, s7, g5, g6, Kp.grewOf g6 k7 fun y hy => (s6.own_ge y hy).1⟩

theorem RefSw.stored {w w1 w7 : World} {rb : Nat} {v v7 : Value} {l l' : Sw} {E : Int} (h : RefSw w rb v l) (g1 : Grew w w1) (g : Grew w w7) (hs : Sl kE w7 w1.heap.size v7 l') (hok : SwOk l') :
    SwPost w rb v [rb] E l' (.returned (.int .i64 E)) (w7.setCell ⟨rb, 1, none⟩ v7) := by
  have k : Kp [rb] w7 (w7.setCell ⟨rb, 1, none⟩ v7) := (Kp.refl [rb] w7).store (by simp) 1 _
  have hlt := lt_of_cell h.c0
  have hsz := g1.size
  have c0 := g.cell' h.c0
  have c1 := g.cell' h.c1
  have f1 := (g.frozen (p := ⟨rb, 1, none⟩) hlt).trans h.f1
  have hn : ∀ x ∈ own v7, w.heap.size ≤ x := fun x hx => by have := (hs.own_ge x hx).1; omega
  have hne : rb ∉ own v7 := fun hm => by have := hn rb hm; omega
  exact ⟨v7, rfl, ⟨by simp [c0, go_sem], by simp [c1, go_sem], (hs.base (Nat.zero_le _)).kp k (fun x hx hm => by simp at hm; subst hm; exact hne hx), hne, hok, by simp [f1, go_sem]⟩, (g.kp _).trans k, fun x hx => .inr (hn x hx)⟩

theorem askE_put {l : Sw} {k : Int} {b : Bx} (h : askE k b ≠ 0) : putE l k b = askE k b ∧ putS l k b = l ∧ moveE l k b = askE k b ∧ moveS l k b = l := by
  have e1 : putE l k b = askE k b := by
    unfold putE askE at *
    split at h
    · rename_i h1; rw [if_pos h1, if_pos h1]
    · rename_i h1; rw [if_neg h1, if_neg h1, if_pos h]
  have e2 : moveE l k b = askE k b := by
    unfold moveE askE at *
    split at h
    · rename_i h1; rw [if_pos h1, if_pos h1]
    · rename_i h1; rw [if_neg h1, if_neg h1, if_pos h]
  refine ⟨e1, ?_, e2, ?_⟩
  · unfold putS; rw [e1, if_neg h]
  · unfold moveS; rw [e2, if_neg h]
theorem askE_zero {k : Int} {b : Bx} (h : askE k b = 0) : (0 ≤ k ∧ k ≤ 2147483647) ∧ chk b.1 b.2.1 b.2.2.1 b.2.2.2 = 0 ∧ idE k = 0 := by
  by_cases h1 : 0 ≤ k ∧ k ≤ 2147483647
  · have e := idE_zero h1
    unfold askE at h
    rw [e, if_neg (by simp)] at h
    exact ⟨h1, h, e⟩
  · have e := idE_three h1
    unfold askE at h
    rw [e, if_pos (by simp)] at h
    cases h
theorem putE_has {l : Sw} {k : Int} {b : Bx} (h : askE k b = 0) (hh : hasL l k = true) : putE l k b = 11 ∧ putS l k b = l := by
  obtain ⟨-, h2, h3⟩ := askE_zero h
  have e : putE l k b = 11 := by simp [putE, h2, h3, hh]
  exact ⟨e, by simp [putS, e]⟩
theorem putE_full {l : Sw} {k : Int} {b : Bx} (h : askE k b = 0) (hh : hasL l k = false) (hl : l.length = 256) : putE l k b = 10 ∧ putS l k b = l := by
  obtain ⟨-, h2, h3⟩ := askE_zero h
  have e : putE l k b = 10 := by simp [putE, h2, h3, hh, hl]
  exact ⟨e, by simp [putS, e]⟩
theorem putE_ok {l : Sw} {k : Int} {b : Bx} (ho : SwOk l) (h : askE k b = 0) (hh : hasL l k = false) (hl : l.length ≠ 256) : putE l k b = 0 ∧ putS l k b = putL l k b ∧ SwOk (putL l k b) := by
  obtain ⟨h1, h2, h3⟩ := askE_zero h
  have hs := ho.small
  have e : putE l k b = 0 := by
    have : ¬ 256 ≤ l.length := by omega
    simp [putE, h2, h3, hh, this]
  exact ⟨e, by simp [putS, e], ho.put h1 h2 (by rw [length_put ho.asc, hh]; simp; omega)⟩
theorem moveE_has {l : Sw} {k : Int} {b : Bx} (ho : SwOk l) (h : askE k b = 0) (hh : hasL l k = true) : moveE l k b = 0 ∧ moveS l k b = putL l k b ∧ SwOk (putL l k b) := by
  obtain ⟨h1, h2, h3⟩ := askE_zero h
  have e : moveE l k b = 0 := by simp [moveE, h2, h3, hh]
  exact ⟨e, by simp [moveS, e], ho.put h1 h2 (by rw [length_put ho.asc, hh]; simp; exact ho.small)⟩
theorem moveE_none {l : Sw} {k : Int} {b : Bx} (h : askE k b = 0) (hh : hasL l k = false) : moveE l k b = 9 ∧ moveS l k b = l := by
  obtain ⟨-, h2, h3⟩ := askE_zero h
  have e : moveE l k b = 9 := by simp [moveE, h2, h3, hh]
  exact ⟨e, by simp [moveS, e]⟩

set_option maxHeartbeats 4000000 in
set_option maxRecDepth 100000 in
theorem refPut_any (rb : Nat) (v : Value) (l : Sw) (k : Int) (b : Bx) (w : World) (h : RefSw w rb v l) :
    Calls Tryz.prog 49 #[.pointer (some ⟨rb, 0, none⟩), .int .i64 k, .agg #[.int .i64 b.1, .int .i64 b.2.1, .int .i64 b.2.2.1, .int .i64 b.2.2.2]] w (SwPost w rb v [rb] (putE l k b) (putS l k b)) := by
  have c0 := h.c0
  have hB := lt_of_cell c0
  have hsm := h.ok.small
  have H := Lib.hid h
  obtain ⟨Bb, hBb⟩ : ∃ Bb, w.heap.size = Bb := ⟨_, rfl⟩
  have HBb := Lib.hid hBb
  obtain ⟨r, hr⟩ : ∃ r, askE k b = r := ⟨_, rfl⟩
  have HAs := fun W c => asked_any rb k b W c
  rw [hr] at HAs
  have Hr := Lib.hid hr
  rw [hBb] at hB
  clear h hr
  obtain ⟨b0, b1, b2, b3⟩ := b
  simp only at HAs
  have HAs := Lib.hid HAs
  have HPl := Lib.hid (fun W (g : Grew w W) => place_any rb v l k W (H.out.grew g))
  go_enter Tryz.func49, Tryz.ntmps49
  go_wp2_with fail
  refine (HAs.out _ (by rw [← hBb] at hB; simp [go_sem, c0, hB])).mono ?_
  rintro e w1 ⟨rfl, hg1⟩
  have k0 := hg1.cell' (b := Bb) (o := 0) (v := .int .i64 b0) (by rw [← hBb]; simp [go_sem])
  have k1 := hg1.cell' (b := Bb) (o := 1) (v := .int .i64 b1) (by rw [← hBb]; simp [go_sem])
  have k2 := hg1.cell' (b := Bb) (o := 2) (v := .int .i64 b2) (by rw [← hBb]; simp [go_sem])
  have k3 := hg1.cell' (b := Bb) (o := 3) (v := .int .i64 b3) (by rw [← hBb]; simp [go_sem])
  have hw1 : Grew w w1 := Grew.trans (by (repeat' (first | (with_reducible assumption) | (with_reducible exact Grew.refl _) | (with_reducible refine Grew.alloc ?_ _) | (with_reducible refine Grew.drew ?_) | (with_reducible refine Grew.drewN ?_ _) | (with_reducible refine Grew.setCell ?_ ?_ _) | (simp; done) | (simp; omega)))) hg1
  clear hg1 hBb
  by_cases hr0 : r = 0
  case neg =>
    have hr1 : (r != 0) = true := by simpa using hr0
    have hx := askE_put (l := l) (b := (b0, b1, b2, b3)) (k := k) (by rw [Hr.out]; exact hr0)
    rw [Hr.out] at hx
    have HX := Lib.hid hx
    clear hx hr0
    go_wp2_with fail
    go_ret
    rw [HX.out.1, HX.out.2.1]
    exact SwPost.same H.out hw1
  case pos =>
    subst hr0
    have HW1 := Lib.hid hw1
    go_wp2_with fail
    refine (HPl.out _ hw1).mono ?_
    rintro e w2 ⟨hpl, rfl⟩
    rcases hpl with ⟨hh, rfl⟩ | ⟨i, hi, hk, rfl⟩
    case inr =>
      have hx := putE_has (b := (b0, b1, b2, b3)) Hr.out (hasL_at hi hk)
      have HX := Lib.hid hx
      have hi0 : (0 : Int) ≤ (i : Int) := by omega
      clear hx hi hk
      go_wp2_with fail
      go_ret
      rw [HX.out.1, HX.out.2]
      exact SwPost.same H.out hw1
    case inl =>
      have c1 := hw1.cell' H.out.c1
      have HH := Lib.hid hh
      obtain ⟨n, hn⟩ : ∃ n, l.length = n := ⟨_, rfl⟩
      have HN := Lib.hid hn
      rw [hn] at hsm
      have hform := (H.out.grew hw1).row.form
      rw [hn] at hform
      clear hh hn
      by_cases hf : n = 256
      · have hx := putE_full (b := (b0, b1, b2, b3)) Hr.out HH.out (HN.out.trans hf)
        have HX := Lib.hid hx
        obtain ⟨p, c, rfl, -⟩ := (H.out.grew hw1).row.shape
        rw [HN.out, hf] at c1
        clear hx hform HPl
        go_wp2_with fail
        go_ret
        rw [HX.out.1, HX.out.2]
        exact SwPost.same H.out hw1
      · have hx := putE_ok (b := (b0, b1, b2, b3)) H.out.ok Hr.out HH.out (by rw [HN.out]; exact hf)
        have HX := Lib.hid hx
        have HOk := Lib.hid hx.2.2
        have hfz : ((n : Int) == 256) = false := beq_eq_false_iff_ne.2 (by omega)
        clear hx hf
        rcases hform with ⟨rfl, hl⟩ | ⟨g, c, rfl, -, hgl, hnc, hcm⟩
        · subst hl
          have hn0 : n = 0 := HN.out.symm
          subst hn0
          obtain ⟨v5, w5, v6, w6, v7, w7, r5, r6, r7, s7, g5, g6, g7⟩ := ins_run (w := w1) none 0 0 none 0 0 [] [] (k, b0, b1, b2, b3) (.inl rfl) (.inl rfl) (fun _ => rfl) (fun _ => rfl) rfl rfl (by decide) (by decide)
          obtain ⟨p7, q7, rfl, -⟩ := s7.shape
          have R5 := Lib.hid r5
          have R6 := Lib.hid r6
          have R7 := Lib.hid r7
          have S7 := Lib.hid s7
          have G7 := Lib.hid g7
          have k0 := g5.cell' k0
          have k1 := g5.cell' k1
          have k2 := g5.cell' k2
          have k3 := g5.cell' k3
          have hB1 := lt_of_cell c1
          have hB5 := lt_of_cell k0
          have c6 := g6.cell' c1
          have c7 := g7.cell' c1
          have f7 := (H.out.grew (hw1.trans g7)).f1
          clear r5 r6 r7 s7 g5 g6 g7 hfz
          go_wp2_with fail
          go_loopg [8] 1 (fun gg s8 wr => s8 = .int .i64 0 ∧ w1 = wr)
          case atStart => exact ⟨rfl, rfl⟩
          case round =>
            obtain ⟨rfl, rfl⟩ := hrel
            go_wp2_with (at_builtin; first | (refine wpList_append_run rfl _ _ _ _ rfl rfl _ _ _ rfl rfl R5.out ?_; clear R5) | (refine wpList_append_run rfl _ _ _ _ rfl rfl _ _ _ rfl rfl R6.out ?_; clear R6) | (refine wpList_append_run rfl _ _ _ _ rfl rfl _ _ _ rfl rfl R7.out ?_; clear R7))
            go_ret
            rw [HX.out.1, HX.out.2.1]
            exact H.out.stored HW1.out (HW1.out.trans G7.out) S7.out HOk.out
        · have H1 := Lib.hid (H.out.grew hw1)
          have hB1 := lt_of_cell c1
          clear HPl
          go_wp2_with fail
          go_loopg [8] n (fun gg s8 wr => ∃ j : Nat, j ≤ n ∧ n - j ≤ gg ∧ s8 = .int .i64 j ∧ w1 = wr ∧ Aside (∀ i, i < j → (eG l i).1 < k))
          case atStart => exact ⟨0, Nat.zero_le _, by omega, rfl, rfl, fun i hi => absurd hi (Nat.not_lt_zero _)⟩
          case round =>
            obtain ⟨j, hj, hgg, rfl, rfl, A⟩ := hrel
            have hcase : (∃ x, (j : Int) < (n : Int) ∧ w1.cell? ⟨g, j * 5, none⟩ = some (.int .i64 x) ∧ x < k ∧ Aside ((eG l j).1 = x)) ∨ (¬ (j : Int) < (n : Int) ∧ Aside (j < l.length → k < (eG l j).1)) ∨ (∃ x, (j : Int) < (n : Int) ∧ w1.cell? ⟨g, j * 5, none⟩ = some (.int .i64 x) ∧ ¬ x < k ∧ Aside (j < l.length → k < (eG l j).1)) := by
              by_cases h1 : j < n
              · have hjl : j < l.length := by rw [HN.out]; exact h1
                have d0 := (H1.out.cells j hjl).1
                by_cases h2 : (eG l j).1 < k
                · exact .inl ⟨_, by omega, d0, h2, rfl⟩
                · refine .inr (.inr ⟨_, by omega, d0, h2, fun _ => ?_⟩)
                  have h3 : (eG l j).1 ≠ k := fun e => by
                    have := hasL_at hjl e
                    rw [HH.out] at this; cases this
                  omega
              · exact .inr (.inl ⟨by omega, fun h => absurd h (by rw [HN.out]; exact h1)⟩)
            rcases hcase with ⟨x, h1z, d0, hxk, X⟩ | hrest
            · go_wp2_with fail
              go_roundg (n - (j + 1))
              case measure => omega
              case rel =>
                refine ⟨j + 1, by omega, by omega, by go_num, rfl, (show Aside _ from fun i hi => ?_)⟩
                by_cases e : i = j
                · subst e; rw [X.out]; exact hxk
                · exact A.out i (by omega)
            have hr1 : Rd kE w1 (some ⟨g, 0, none⟩) (l.take j) := by
              have := H1.out.row.rdMid 0 j
              simpa using this
            obtain ⟨o2, c2, n2, hr2, hn2, hq2⟩ : ∃ o2 c2 n2 : Nat, Rd kE w1 (some ⟨g, o2, none⟩) (l.drop j) ∧ (l.drop j).length = n2 ∧ n2 ≤ 256 ∧ ((j = n ∧ j = c ∧ o2 = 0 ∧ c2 = 0 ∧ n2 = 0) ∨ (j = n ∧ j ≠ c ∧ o2 = j * 5 ∧ c2 = c - j ∧ n2 = 0) ∨ (j < n ∧ j ≠ c ∧ o2 = j * 5 ∧ c2 = c - j ∧ n2 = n - j)) := by
              have hdl : (l.drop j).length = n - j := by rw [List.length_drop, HN.out]
              by_cases hjc : j = c
              · exact ⟨0, 0, 0, .inl (List.drop_eq_nil_of_le (by rw [HN.out]; omega)), by rw [hdl]; omega, by omega, .inl ⟨by omega, hjc, rfl, rfl, rfl⟩⟩
              · have := H1.out.row.rdMid j (n - j)
                rw [List.take_of_length_le (by rw [hdl]; exact Nat.le_refl _)] at this
                by_cases hjn : j = n
                · exact ⟨j * 5, c - j, 0, this, by rw [hdl]; omega, by omega, .inr (.inl ⟨hjn, hjc, rfl, rfl, rfl⟩)⟩
                · exact ⟨j * 5, c - j, n - j, this, hdl, by omega, .inr (.inr ⟨by omega, hjc, rfl, rfl, rfl⟩)⟩
            obtain ⟨hn256, hq2⟩ := hq2
            obtain ⟨v5, w5, v6, w6, v7, w7, r5, r6, r7, s7, g5, g6, g7⟩ := ins_run (w := w1) (some ⟨g, 0, none⟩) c j (some ⟨g, o2, none⟩) c2 n2 (l.take j) (l.drop j) (k, b0, b1, b2, b3) hr1 hr2 (by simp) (by simp) (by rw [List.length_take, HN.out]; omega) hn2 (by omega) (by omega)
            have hins : Aside (k < k + 1 → l.take j ++ [(k, b0, b1, b2, b3)] ++ l.drop j = putL l k (b0, b1, b2, b3)) := by
              intro _
              rw [putL_at A.out (by rcases hrest with ⟨-, h⟩ | ⟨_, -, -, -, h⟩ <;> exact h.out) (by rw [HN.out]; exact hj)]
              simp
            obtain ⟨p7, q7, rfl, -⟩ := s7.shape
            obtain ⟨m7, hm7⟩ : ∃ m, (l.take j ++ [(k, b0, b1, b2, b3)] ++ l.drop j).length = m := ⟨_, rfl⟩
            rw [hm7] at r7 s7
            clear hm7
            have R5 := Lib.hid r5
            have R6 := Lib.hid r6
            have R7 := Lib.hid r7
            have S7 := Lib.hid s7
            have G7 := Lib.hid g7
            have k0 := g5.cell' k0
            have k1 := g5.cell' k1
            have k2 := g5.cell' k2
            have k3 := g5.cell' k3
            have hB5 := lt_of_cell k0
            have c6 := g6.cell' c1
            have c7 := g7.cell' c1
            have f7 := (H.out.grew (hw1.trans g7)).f1
            have hjc : (j : Int) ≤ (c : Int) ∧ (n : Int) ≤ (c : Int) ∧ (j : Int) ≤ (n : Int) ∧ (0 : Int) ≤ (j : Int) := by omega
            clear r5 r6 r7 s7 g5 g6 g7 hr1 hr2
            clear hn2 hn256
            rcases hq2 with ⟨hjn, hjc2, rfl, rfl, rfl⟩ | ⟨hjn, hne, rfl, rfl, rfl⟩ | ⟨hjn, hne, rfl, rfl, rfl⟩
            · have h1z : ¬ (j : Int) < (n : Int) := by omega
              clear hrest
              subst hjn
              subst hjc2
              go_wp2_with (at_builtin; first | (refine wpList_append_run rfl _ _ _ _ rfl rfl _ _ _ rfl rfl R5.out ?_; clear R5) | (refine wpList_append_run rfl _ _ _ _ rfl rfl _ _ _ rfl rfl R6.out ?_; clear R6) | (refine wpList_append_run rfl _ _ _ _ rfl rfl _ _ _ rfl rfl R7.out ?_; clear R7))
              go_ret
              rw [HX.out.1, HX.out.2.1]
              exact H.out.stored HW1.out (HW1.out.trans G7.out) (by rw [hins.out (by omega)] at S7; exact S7.out) HOk.out
            · have h1z : ¬ (j : Int) < (n : Int) := by omega
              clear hrest
              subst hjn
              go_wp2_with (at_builtin; first | (refine wpList_append_run rfl _ _ _ _ rfl rfl _ _ _ rfl rfl R5.out ?_; clear R5) | (refine wpList_append_run rfl _ _ _ _ rfl rfl _ _ _ rfl rfl R6.out ?_; clear R6) | (refine wpList_append_run rfl _ _ _ _ rfl rfl _ _ _ rfl rfl R7.out ?_; clear R7))
              go_ret
              rw [HX.out.1, HX.out.2.1]
              exact H.out.stored HW1.out (HW1.out.trans G7.out) (by rw [hins.out (by omega)] at S7; exact S7.out) HOk.out
            · obtain ⟨x, h1z, d0, hxk⟩ : ∃ x, (j : Int) < (n : Int) ∧ w1.cell? ⟨g, j * 5, none⟩ = some (.int .i64 x) ∧ ¬ x < k := by
                rcases hrest with ⟨h, -⟩ | ⟨x, h1, h2, h3, -⟩
                · omega
                · exact ⟨x, h1, h2, h3⟩
              clear hrest
              go_wp2_with (at_builtin; first | (refine wpList_append_run rfl _ _ _ _ rfl rfl _ _ _ rfl rfl R5.out ?_; clear R5) | (refine wpList_append_run rfl _ _ _ _ rfl rfl _ _ _ rfl rfl R6.out ?_; clear R6) | (refine wpList_append_run rfl _ _ _ _ rfl rfl _ _ _ rfl rfl R7.out ?_; clear R7))
              go_ret
              rw [HX.out.1, HX.out.2.1]
              exact H.out.stored HW1.out (HW1.out.trans G7.out) (by rw [hins.out (by omega)] at S7; exact S7.out) HOk.out

end Go.Proofs.YtcelamaiebjdaaaGreat

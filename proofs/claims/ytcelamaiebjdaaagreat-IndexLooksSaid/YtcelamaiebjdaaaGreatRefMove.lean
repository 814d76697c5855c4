/- The reference's sweeps: Move, Copy; the sweep's Copy. -/
import Derived.Test.YtcelamaiebjdaaaGreatRefPut
import Derived.Shelf.SlMaps.Clone
namespace Go.Proofs.YtcelamaiebjdaaaGreat
open Go.RowKit Go.Maps Go.Sort Go.Shelf
attribute [local go_sem ↓] Go.wp_at_zero Go.wp_at_succ

theorem flatE_set (b : Bx) : ∀ (l : Sw) (i : Nat) (_ : i < l.length), kE.flat (l.set i ((eG l i).1, b)) = ((((kE.flat l).set (i * 5 + 1) (.int .i64 b.1)).set (i * 5 + 2) (.int .i64 b.2.1)).set (i * 5 + 3) (.int .i64 b.2.2.1)).set (i * 5 + 4) (.int .i64 b.2.2.2)
  | [], i, h => by simp at h
  | q :: r, 0, _ => by
    rw [List.set_cons_zero, Kind.flat_cons, Kind.flat_cons]
    simp [kE, eG]
  | q :: r, i + 1, h => by
    have ih := flatE_set b r i (by simpa using h)
    have hl : (kE.enc q).length = 5 := rfl
    rw [List.set_cons_succ, Kind.flat_cons, Kind.flat_cons, show eG (q :: r) (i + 1) = eG r i from rfl, ih]
    rw [List.set_append_right _ _ (by rw [hl]; omega), List.set_append_right _ _ (by rw [hl]; omega), List.set_append_right _ _ (by rw [hl]; omega), List.set_append_right _ _ (by rw [hl]; omega), hl]
    rw [show (i + 1) * 5 + 1 - 5 = i * 5 + 1 by omega, show (i + 1) * 5 + 2 - 5 = i * 5 + 2 by omega, show (i + 1) * 5 + 3 - 5 = i * 5 + 3 by omega, show (i + 1) * 5 + 4 - 5 = i * 5 + 4 by omega]
theorem slE_stored {w : World} {B g n cap : Nat} {l : Sw} (h : Sl kE w B (.slice (some ⟨g, 0, none⟩) n cap) l) (i : Nat) (hi : i < l.length) (b : Bx) :
    Sl kE ((((w.setCell ⟨g, i * 5 + 1, none⟩ (.int .i64 b.1)).setCell ⟨g, i * 5 + 2, none⟩ (.int .i64 b.2.1)).setCell ⟨g, i * 5 + 3, none⟩ (.int .i64 b.2.2.1)).setCell ⟨g, i * 5 + 4, none⟩ (.int .i64 b.2.2.2)) B (.slice (some ⟨g, 0, none⟩) n cap) (l.set i ((eG l i).1, b)) := by
  obtain ⟨rfl, _, hg, _⟩ := h.len
  have e1 := (World.ownsRow.stored (g := g) (cap := cap) h (i * 5 + 1) (.int .i64 b.1)).1
  have e2 := (World.ownsRow.stored (g := g) (cap := cap) e1 (i * 5 + 2) (.int .i64 b.2.1)).1
  have e3 := (World.ownsRow.stored (g := g) (cap := cap) e2 (i * 5 + 3) (.int .i64 b.2.2.1)).1
  have e4 := (World.ownsRow.stored (g := g) (cap := cap) e3 (i * 5 + 4) (.int .i64 b.2.2.2)).1
  unfold Sl
  rw [List.length_set, flatE_set b l i hi]
  exact e4

set_option maxHeartbeats 4000000 in
set_option maxRecDepth 100000 in
theorem refMove_any (rb : Nat) (v : Value) (l : Sw) (k : Int) (b : Bx) (w : World) (h : RefSw w rb v l) :
    Calls Tryz.prog 51 #[.pointer (some ⟨rb, 0, none⟩), .int .i64 k, .agg #[.int .i64 b.1, .int .i64 b.2.1, .int .i64 b.2.2.1, .int .i64 b.2.2.2]] w (SwPost w rb v (own v) (moveE l k b) (moveS l k b)) := by
  have c0 := h.c0
  have hB := lt_of_cell c0
  have hsm := h.ok.small
  have H := Lib.hid h
  obtain ⟨Bb, hBb⟩ : ∃ Bb, w.heap.size = Bb := ⟨_, rfl⟩
  have HBb := Lib.hid hBb
  obtain ⟨r, hr⟩ : ∃ r, askE k b = r := ⟨_, rfl⟩
  have HAs := fun W c => asked_any rb k b W c
  rw [hr] at HAs
  have Hr := Lib.hid hr
  rw [hBb] at hB
  clear h hr
  obtain ⟨b0, b1, b2, b3⟩ := b
  simp only at HAs
  have HAs := Lib.hid HAs
  have HPl := Lib.hid (fun W (g : Grew w W) => place_any rb v l k W (H.out.grew g))
  go_enter Tryz.func51, Tryz.ntmps51
  go_wp2_with fail
  refine (HAs.out _ (by rw [← hBb] at hB; simp [go_sem, c0, hB])).mono ?_
  rintro e w1 ⟨rfl, hg1⟩
  have k0 := hg1.cell' (b := Bb) (o := 0) (v := .int .i64 b0) (by rw [← hBb]; simp [go_sem])
  have k1 := hg1.cell' (b := Bb) (o := 1) (v := .int .i64 b1) (by rw [← hBb]; simp [go_sem])
  have k2 := hg1.cell' (b := Bb) (o := 2) (v := .int .i64 b2) (by rw [← hBb]; simp [go_sem])
  have k3 := hg1.cell' (b := Bb) (o := 3) (v := .int .i64 b3) (by rw [← hBb]; simp [go_sem])
  have hw1 : Grew w w1 := Grew.trans (by (repeat' (first | (with_reducible assumption) | (with_reducible exact Grew.refl _) | (with_reducible refine Grew.alloc ?_ _) | (with_reducible refine Grew.drew ?_) | (with_reducible refine Grew.drewN ?_ _) | (with_reducible refine Grew.setCell ?_ ?_ _) | (simp; done) | (simp; omega)))) hg1
  clear hg1 hBb
  by_cases hr0 : r = 0
  case neg =>
    have hr1 : (r != 0) = true := by simpa using hr0
    have hx := askE_put (l := l) (b := (b0, b1, b2, b3)) (k := k) (by rw [Hr.out]; exact hr0)
    rw [Hr.out] at hx
    have HX := Lib.hid hx
    clear hx hr0
    go_wp2_with fail
    go_ret
    rw [HX.out.2.2.1, HX.out.2.2.2]
    exact SwPost.same H.out hw1
  case pos =>
    subst hr0
    have HW1 := Lib.hid hw1
    go_wp2_with fail
    refine (HPl.out _ hw1).mono ?_
    rintro e w2 ⟨hpl, rfl⟩
    rcases hpl with ⟨hh, rfl⟩ | ⟨i, hi, hk, rfl⟩
    · have hx := moveE_none (b := (b0, b1, b2, b3)) Hr.out hh
      have HX := Lib.hid hx
      clear hx hh
      go_wp2_with fail
      go_ret
      rw [HX.out.1, HX.out.2]
      exact SwPost.same H.out hw1
    · have hx := moveE_has (b := (b0, b1, b2, b3)) H.out.ok Hr.out (hasL_at hi hk)
      rw [putL_set (b := (b0, b1, b2, b3)) H.out.ok.asc hi hk] at hx
      have HX := Lib.hid hx
      have hrow := (H.out.grew hw1).row
      obtain ⟨p, c, rfl, hp⟩ := hrow.shape
      obtain ⟨g, rfl⟩ := hp (by omega)
      have hc1 := (H.out.grew hw1).c1
      obtain ⟨m0, m1, m2, m3, m4⟩ := (H.out.grew hw1).cells i hi
      have f1 := hrow.free (i * 5 + 1)
      have f2 := hrow.free (i * 5 + 2)
      have f3 := hrow.free (i * 5 + 3)
      have f4 := hrow.free (i * 5 + 4)
      have hne := H.out.ne
      have hc0 := (H.out.grew hw1).c0
      have hf1 := (H.out.grew hw1).f1
      have hbn := hrow.len.2.2.1
      have hbg : Bb ≠ g := by
        have := (H.out.row.own_ge g (by simp [own, Value.ownBlock])).2
        rw [HBb.out] at this
        omega
      have hst := (slE_stored hrow i hi (b0, b1, b2, b3)).grew ((Grew.refl _).drew)
      rw [hk] at hst
      have HST := Lib.hid hst
      have HK := Lib.hid hk
      have hiz : (i : Int) < (l.length : Int) ∧ (0 : Int) ≤ (i : Int) := by omega
      have hi0 : ¬ (i : Int) < 0 := by omega
      generalize l.length = n at *
      generalize (eG l i).2 = eb at m1 m2 m3 m4
      obtain ⟨W', hW'⟩ : ∃ W', ((((w1.setCell ⟨g, i * 5 + 1, none⟩ (.int .i64 b0)).setCell ⟨g, i * 5 + 1 + 1, none⟩ (.int .i64 b1)).setCell ⟨g, i * 5 + 1 + 2, none⟩ (.int .i64 b2)).setCell ⟨g, i * 5 + 1 + 3, none⟩ (.int .i64 b3)).drew = W' := ⟨_, rfl⟩
      have hkp : Kp [g] w W' := by
        rw [← hW']
        exact (((((hw1.kp [g]).store (by simp) _ _).store (by simp) _ _).store (by simp) _ _).store (by simp) _ _).drew
      have hpost : SwPost w rb (.slice (some ⟨g, 0, none⟩) n c) (own (.slice (some ⟨g, 0, none⟩) n c)) 0 (l.set i (k, (b0, b1, b2, b3))) (.returned (.int .i64 0)) W' := by
        have hnr : rb ∉ [g] := fun hm => hne (by simpa [own, Value.ownBlock] using hm)
        refine ⟨_, rfl, ⟨hkp.cell H.out.c0 hnr, hkp.cell H.out.c1 hnr, ?_, hne, HX.out.2.2, ?_⟩, by simpa [own, Value.ownBlock] using hkp, fun x hx => .inl hx⟩
        · rw [← hW']; exact HST.out
        · exact (World.frozen?_of_block (w := w) (a := ⟨rb, 1, none⟩) (hkp.block rb (lt_of_cell c0) hnr)).trans H.out.f1
      have HPost := Lib.hid hpost
      clear hx hi hk hp hrow m0 hst hne hc0 hf1 hkp hpost HPl
      go_wp2_with fail
      go_region
      go_wp2_with fail
      go_ret
      rw [HX.out.1, HX.out.2.1]
      exact HPost.out

set_option maxHeartbeats 1000000 in
set_option maxRecDepth 100000 in
theorem refSwCopy_any (rb : Nat) (v : Value) (l : Sw) (w : World) (h : RefSw w rb v l) :
    Calls Tryz.prog 19 #[.pointer (some ⟨rb, 0, none⟩)] w fun e w' => ∃ rb' v', e = .returned (.pointer (some ⟨rb', 0, none⟩)) ∧ RefSw w' rb' v' l ∧ Grew w w' ∧ w.heap.size ≤ rb' ∧ ∀ g ∈ own v', w.heap.size ≤ g := by
  have c0 := h.c0
  have c1 := h.c1
  have hB := lt_of_cell c0
  have hsm := h.ok.small
  have H := Lib.hid h
  obtain ⟨p, c, rfl, -⟩ := h.row.shape
  have hzc : p = none → c = 0 := by
    rintro rfl
    rcases h.row.form with ⟨e, -⟩ | ⟨g, cap, e, -⟩
    · simp at e; exact e.2
    · simp at e
  obtain ⟨v5, w5, r5, s5, g5⟩ := own_run kE p c l.length l rfl h.row.rd hzc (by omega)
  obtain ⟨p5, c5, rfl, -⟩ := s5.shape
  have R5 := Lib.hid r5
  have S5 := Lib.hid s5
  have G5 := Lib.hid g5
  generalize l.length = n at *
  clear h r5 s5 g5 hzc
  go_enter Tryz.func19, Tryz.ntmps19
  go_wp2_with fail
  refine (swValid_any rb _ c0).mono ?_
  rintro e w1 ⟨rfl, rfl⟩
  go_wp2_with (at_builtin; refine wpList_append_run rfl _ _ _ _ rfl rfl _ _ _ rfl rfl R5.out ?_)
  go_ret
  have hge : ∀ x ∈ own (.slice p5 n c5), w.heap.size ≤ x ∧ x < w5.heap.size := fun x hx => S5.out.own_ge x hx
  exact ⟨w5.heap.size, _, rfl, ⟨by simp, by simp, (S5.out.base (Nat.zero_le _)).grew ((Grew.refl _).alloc _), fun hm => by have := (hge _ hm).2; omega, H.out.ok, by simp [go_sem]⟩, G5.out.alloc _, G5.out.size, fun x hx => (hge x hx).1⟩

theorem cloneMap_any (mb : Nat) (l : Sw) (w : World) (h : MapAt w mb l) :
    Calls Tryz.prog 47 #[.map (some mb)] w fun e w' => e = .returned (.map (some w.heap.size)) ∧ MapAt w' w.heap.size l ∧ Grew w w' := by
  obtain ⟨n, ho⟩ := h
  refine (AnyW.maps_Clone_owns Tryz.cloneM 3 heldR mb n (dOf l) w ho).mono fun e w' hq => ?_
  obtain ⟨he, h1, h2, h3⟩ := hq
  exact ⟨he, ⟨n, h1⟩, Grew.of_below h3⟩

set_option maxHeartbeats 1000000 in
set_option maxRecDepth 100000 in
theorem swCopy_any (sb mb : Nat) (l : Sw) (w : World) (h : SweepAt w sb mb l) :
    Calls Tryz.prog 18 #[.pointer (some ⟨sb, 0, none⟩)] w fun e w' => ∃ sb' mb', e = .returned (.pointer (some ⟨sb', 0, none⟩)) ∧ SweepAt w' sb' mb' l ∧ Grew w w' ∧ (w.heap.size ≤ sb' ∧ w.heap.size ≤ mb') ∧ Lone w' sb' := by
  have c0 := h.cell
  have HM := Lib.hid h.map
  have HO := Lib.hid h.ok
  clear h
  go_enter Tryz.func18, Tryz.ntmps18
  go_wp2_with fail
  refine (none_any sb mb _ c0).mono ?_
  rintro e w1 ⟨rfl, rfl⟩
  go_wp2_with fail
  refine (cloneMap_any mb l _ HM.out).mono ?_
  rintro e w2 ⟨rfl, hm2, hg2⟩
  have HM2 := Lib.hid hm2
  clear hm2
  go_wp2_with fail
  go_ret
  exact ⟨w2.heap.size, w.heap.size, by simp, ⟨by simp, HM2.out.of_block (Below.heap_alloc _ _ _ HM2.out.lt), HO.out⟩, hg2.alloc _, ⟨hg2.size, Nat.le_refl _⟩, ⟨_, _, heap_alloc_new _ _, by simp⟩⟩

end Go.Proofs.YtcelamaiebjdaaaGreat

/- A table is as the reference's. -/
import Derived.Test.YtcelamaiebjdaaaGreatRefAll
namespace Go.Proofs.YtcelamaiebjdaaaGreat
open Go.RowKit Go.Maps Go.Sort Go.Shelf
attribute [local go_sem ↓] Go.wp_at_zero Go.wp_at_succ

theorem genAt_bd {G : List Int} (h : ∀ g ∈ G, 0 ≤ g ∧ g ≤ 2147483647) (k : Int) : 0 ≤ genAt G k ∧ genAt G k ≤ 2147483647 := by
  unfold genAt
  split
  · rename_i hk
    rw [List.getD_eq_getElem?_getD, List.getElem?_eq_getElem (by omega)]
    exact h _ (List.getElem_mem _)
  · omega

set_option maxHeartbeats 4000000 in
set_option maxRecDepth 100000 in
theorem alike_any (sb gb rb rg rt : Nat) (G : List Int) (T : List Bool) (w : World) (h : SlotsAt w sb gb G T) (hr : RefAt w rb rg rt G T) :
    Calls Tryz.prog 24 #[.pointer (some ⟨sb, 0, none⟩), .pointer (some ⟨rb, 0, none⟩)] w fun e w' => e = .returned (.bool true) ∧ Grew w w' := by
  have hlS := h.lt
  have hlR := hr.lt
  have hm : 1 ≤ G.length ∧ G.length ≤ 64 := by obtain ⟨_, _, h⟩ := h; exact h.most
  have hgen : ∀ g ∈ G, 0 ≤ g ∧ g ≤ 2147483647 := by obtain ⟨_, _, h⟩ := h; exact h.gen
  have hlen : T.length = G.length := by obtain ⟨_, _, h⟩ := h; exact h.len
  have HGen := Lib.hid hgen
  obtain ⟨n, hn⟩ : ∃ n, G.length = n := ⟨_, rfl⟩
  have hal : (takenH G T).length ≤ 64 := by
    rw [takenH_len]
    refine Nat.le_trans (List.length_filter_le _ _) ?_
    rw [List.length_range]; exact hm.2
  obtain ⟨ll, hll⟩ : ∃ ll, (takenH G T).length = ll := ⟨_, rfl⟩
  have HMs := Lib.hid (fun W (g : Grew w W) => most_any sb gb G T W (h.grew g))
  have HMr := Lib.hid (fun W (g : Grew w W) => refMost_any rb rg rt G T W (hr.grew g))
  have HLs := Lib.hid (fun W (g : Grew w W) => slLen_any sb gb G T W (h.grew g))
  have HLr := Lib.hid (fun W (g : Grew w W) => refLen_any rb rg rt G T W (hr.grew g))
  have HAs := Lib.hid (fun W (g : Grew w W) => all_any sb gb G T W (h.grew g))
  have HAr := Lib.hid (fun W (g : Grew w W) => refAll_any rb rg rt G T W (hr.grew g))
  have HTs := Lib.hid (fun k W (g : Grew w W) => at_any sb gb G T k W (h.grew g))
  have HTr := Lib.hid (fun k W (g : Grew w W) => refAt_any rb rg rt G T k W (hr.grew g))
  have HGs := Lib.hid (fun k W (g : Grew w W) => gen_any sb gb G T k W (h.grew g))
  have HGr := Lib.hid (fun k W (g : Grew w W) => refGen_any rb rg rt G T k W (hr.grew g))
  have HHs := Lib.hid (fun k g0 W (g : Grew w W) => has_any sb gb G T k g0 W (h.grew g))
  have HHr := Lib.hid (fun k g0 W (g : Grew w W) => refHas_any rb rg rt G T k g0 W (hr.grew g))
  have hmn : ((lenT T : Int) != (lenT T : Int)) = false := by simp
  obtain ⟨lt, hlt⟩ : ∃ lt, lenT T = lt := ⟨_, rfl⟩
  have HLt := Lib.hid hlt
  have HN := Lib.hid hn
  have HLL := Lib.hid hll
  rw [hn] at hm
  rw [hll] at hal
  rw [hlt] at hmn
  clear h hr hgen hn hll hlt hlen
  go_enter Tryz.func24, Tryz.ntmps24
  go_wp2_with fail
  refine (HAs.out _ (by (repeat' (first | exact Grew.refl _ | assumption | refine Grew.alloc ?_ _ | refine Grew.drew ?_ | refine Grew.drewN ?_ _ | refine Grew.setCell ?_ ?_ _ | (simp; done) | (simp; omega))))).mono ?_
  rintro e w1 ⟨v, rfl, hs, hg1⟩
  obtain ⟨p, c, rfl, -⟩ := hs.shape
  have H1 := Lib.hid hs
  clear hs
  go_wp2_with fail
  refine (HAr.out _ (by (repeat' (first | exact Grew.refl _ | assumption | refine Grew.alloc ?_ _ | refine Grew.drew ?_ | refine Grew.drewN ?_ _ | refine Grew.setCell ?_ ?_ _ | (simp; done) | (simp; omega))))).mono ?_
  rintro e w2 ⟨v, rfl, hs, hg2⟩
  obtain ⟨q, d, rfl, -⟩ := hs.shape
  have hS := sameHandles_any p q c d (takenH G T) (takenH G T) w2 (H1.out.grew hg2).rdP hs.rdP (by rw [HLL.out]; unfold maxLen; omega)
  rw [HLL.out, decide_eq_true rfl] at hS
  have H2 := Lib.hid hS
  rw [HLL.out]
  have hw2 := hg1.trans hg2
  clear hs hS hg1 hg2
  go_wp2_with fail
  refine H2.out.mono ?_
  rintro e w3 ⟨rfl, hg3⟩
  have hw3 := hw2.trans hg3
  clear hg3
  go_wp2_with fail
  refine (HLs.out _ hw3).mono ?_
  rintro e w4 ⟨rfl, rfl⟩
  rw [HLt.out]
  go_wp2_with fail
  refine (HLr.out _ hw3).mono ?_
  rintro e w4 ⟨rfl, hg4⟩
  rw [HLt.out]
  have hw4 := hw3.trans hg4
  clear hg4
  go_wp2_with fail
  refine (HMs.out _ hw4).mono ?_
  rintro e w5 ⟨rfl, rfl⟩
  rw [HN.out]
  go_wp2_with fail
  refine (HMr.out _ hw4).mono ?_
  rintro e w5 ⟨rfl, rfl⟩
  rw [HN.out]
  have hnn : ((n : Int) != (n : Int)) = false := by simp
  go_wp2_with fail
  go_loopg [5] (n + 2) (fun gg s5 wr => ∃ j : Nat, j ≤ n + 2 ∧ n + 2 - j ≤ gg ∧ s5 = .int .i64 ((j : Int) - 1) ∧ Grew w wr)
  case atStart => exact ⟨0, Nat.zero_le _, by omega, rfl, hw4⟩
  case round =>
    obtain ⟨j, hj, hgg, rfl, hgw⟩ := hrel
    by_cases h1 : j < n + 2
    · have h1z : (j : Int) - 1 ≤ (n : Int) := by omega
      have hg0 := genAt_bd HGen.out ((j : Int) - 1)
      have hTs := fun W (g : Grew w W) => HTs.out ((j : Int) - 1) W g
      have hTr := fun W (g : Grew w W) => HTr.out ((j : Int) - 1) W g
      have hGs := fun W (g : Grew w W) => HGs.out ((j : Int) - 1) W g
      have hGr := fun W (g : Grew w W) => HGr.out ((j : Int) - 1) W g
      have hHs := fun g0 W (g : Grew w W) => HHs.out ((j : Int) - 1) g0 W g
      have hHr := fun g0 W (g : Grew w W) => HHr.out ((j : Int) - 1) g0 W g
      generalize genAt G ((j : Int) - 1) = g0 at hg0 hGs hGr
      generalize atG G T ((j : Int) - 1) = ag at hTs hTr
      generalize atB G T ((j : Int) - 1) = ab at hTs hTr
      obtain ⟨a1, a2⟩ := ag
      simp only at hTs hTr
      have hb1 : IntKind.i64.wrap (g0 - 1) = g0 - 1 := IntWalk.i64_in _ (by omega)
      have hb2 : IntKind.i64.wrap ((j : Int) - 1 + 1) = (j : Int) - 1 + 1 := IntWalk.i64_in _ (by omega)
      obtain ⟨x1, hx1⟩ : ∃ x, hasB G T ((j : Int) - 1) g0 = x := ⟨_, rfl⟩
      obtain ⟨x2, hx2⟩ : ∃ x, hasB G T ((j : Int) - 1) (g0 - 1) = x := ⟨_, rfl⟩
      have hH1 := hHs g0
      have hH2 := hHr g0
      have hH3 := hHs (g0 - 1)
      have hH4 := hHr (g0 - 1)
      rw [hx1] at hH1 hH2
      rw [hx2] at hH3 hH4
      have KTs := Lib.hid hTs
      have KTr := Lib.hid hTr
      have KGs := Lib.hid hGs
      have KGr := Lib.hid hGr
      have K1 := Lib.hid hH1
      have K2 := Lib.hid hH2
      have K3 := Lib.hid hH3
      have K4 := Lib.hid hH4
      have NE := fun w => neHandle a1 a2 a1 a2 w
      have hq1 : (a1 == a1 && a2 == a2) = true := by simp
      have hq2 : (ab != ab) = false := by simp
      have hq3 : (x1 != x1) = false := by simp
      have hq4 : (x2 != x2) = false := by simp
      have hq5 : (g0 != g0) = false := by simp
      obtain ⟨i, hi⟩ : ∃ i, (j : Int) - 1 = i := ⟨_, rfl⟩
      rw [hi] at KTs KTr KGs KGr K1 K2 K3 K4 hb2 h1z
      have HI := Lib.hid hi
      rw [hi]
      clear hTs hTr hGs hGr hHs hHr hH1 hH2 hH3 hH4 hx1 hx2 hi
      go_wp2_with fail
      refine (HMr.out _ hgw).mono ?_
      rintro e w6 ⟨rfl, rfl⟩
      rw [HN.out]
      go_wp2_with fail
      refine (KTs.out _ (by (repeat' (first | exact Grew.refl _ | assumption | refine Grew.alloc ?_ _ | refine Grew.drew ?_ | refine Grew.drewN ?_ _ | refine Grew.setCell ?_ ?_ _ | (simp; done) | (simp; omega))))).mono ?_
      rintro e w6 ⟨rfl, hg6⟩
      have hw6 := hgw.trans hg6
      obtain ⟨w7, hw7e⟩ : ∃ w7, w6.alloc (.cells #[.int .i64 a1, .int .i64 a2] 74) = w7 := ⟨_, rfl⟩
      have hg7 : Grew w6 w7 := by rw [← hw7e]; exact (Grew.refl w6).alloc _
      obtain ⟨A, hA⟩ : ∃ A, w6.heap.size = A := ⟨_, rfl⟩
      have p0 : w7.cell? ⟨A, 0, none⟩ = some (.int .i64 a1) := by rw [← hw7e, ← hA]; simp
      have p1 : w7.cell? ⟨A, 1, none⟩ = some (.int .i64 a2) := by rw [← hw7e, ← hA]; simp
      have hw7 := hw6.trans hg7
      clear hg6 hg7
      go_wp2_with fail
      clear hw7e hA
      refine (KTr.out _ (by (repeat' (first | exact Grew.refl _ | assumption | refine Grew.alloc ?_ _ | refine Grew.drew ?_ | refine Grew.drewN ?_ _ | refine Grew.setCell ?_ ?_ _ | (simp; done) | (simp; omega))))).mono ?_
      rintro e w8 ⟨rfl, hg8⟩
      have hw8 := hw7.trans hg8
      have p0 := hg8.cell' p0
      have p1 := hg8.cell' p1
      obtain ⟨w9, hw9e⟩ : ∃ w9, w8.alloc (.cells #[.int .i64 a1, .int .i64 a2] 74) = w9 := ⟨_, rfl⟩
      have hg9 : Grew w8 w9 := by rw [← hw9e]; exact (Grew.refl w8).alloc _
      obtain ⟨B, hB⟩ : ∃ B, w8.heap.size = B := ⟨_, rfl⟩
      have q0 : w9.cell? ⟨B, 0, none⟩ = some (.int .i64 a1) := by rw [← hw9e, ← hB]; simp
      have q1 : w9.cell? ⟨B, 1, none⟩ = some (.int .i64 a2) := by rw [← hw9e, ← hB]; simp
      have p0 := hg9.cell' p0
      have p1 := hg9.cell' p1
      have hw9 := hw8.trans hg9
      clear hg8 hg9
      go_wp2_with fail
      clear hw9e hB
      refine (KGr.out _ (by (repeat' (first | exact Grew.refl _ | assumption | refine Grew.alloc ?_ _ | refine Grew.drew ?_ | refine Grew.drewN ?_ _ | refine Grew.setCell ?_ ?_ _ | (simp; done) | (simp; omega))))).mono ?_
      rintro e w10 ⟨rfl, rfl⟩
      obtain ⟨w11, hw11e⟩ : ∃ w11, w9.alloc (.cells #[.int .i64 i, .int .i64 g0] 74) = w11 := ⟨_, rfl⟩
      have hg11 : Grew w9 w11 := by rw [← hw11e]; exact (Grew.refl w9).alloc _
      obtain ⟨C, hC⟩ : ∃ C, w9.heap.size = C := ⟨_, rfl⟩
      have r0 : w11.cell? ⟨C, 0, none⟩ = some (.int .i64 i) := by rw [← hw11e, ← hC]; simp
      have r1 : w11.cell? ⟨C, 1, none⟩ = some (.int .i64 g0) := by rw [← hw11e, ← hC]; simp
      have rf : w11.frozen? ⟨C, 1, none⟩ = false := by rw [← hw11e, ← hC]; simp
      have hwC : w.heap.size ≤ C := by rw [← hC]; exact hw9.size
      have p0 := hg11.cell' p0
      have p1 := hg11.cell' p1
      have q0 := hg11.cell' q0
      have q1 := hg11.cell' q1
      have hw11 := hw9.trans hg11
      have HF : Aside (∀ W, Grew w11 W → (W.cell? ⟨A, 0, none⟩ = some (.int .i64 a1) ∧ W.cell? ⟨A, 1, none⟩ = some (.int .i64 a2) ∧ W.cell? ⟨B, 0, none⟩ = some (.int .i64 a1) ∧ W.cell? ⟨B, 1, none⟩ = some (.int .i64 a2) ∧ W.cell? ⟨C, 0, none⟩ = some (.int .i64 i) ∧ W.cell? ⟨C, 1, none⟩ = some (.int .i64 g0))) := fun W g =>
        ⟨g.cell' p0, g.cell' p1, g.cell' q0, g.cell' q1, g.cell' r0, g.cell' r1⟩
      have Y1 : Aside (∀ W, Grew w11 W → Calls Tryz.prog 43 #[.pointer (some ⟨sb, 0, none⟩), .agg #[.int .i64 i, .int .i64 g0]] W fun e w' => e = .returned (.bool x1) ∧ Grew w11 w') := fun W g => (K1.out W (hw11.trans g)).mono fun e w' h => ⟨h.1, g.trans h.2⟩
      have Y2 : Aside (∀ W, Grew w11 W → Calls Tryz.prog 71 #[.pointer (some ⟨rb, 0, none⟩), .agg #[.int .i64 i, .int .i64 g0]] W fun e w' => e = .returned (.bool x1) ∧ Grew w11 w') := fun W g => (K2.out W (hw11.trans g)).mono fun e w' h => ⟨h.1, g.trans h.2⟩
      have Y3 : Aside (∀ W, Grew w11 W → Calls Tryz.prog 70 #[.pointer (some ⟨sb, 0, none⟩), .int .i64 i] W fun e w' => e = .returned (.int .i64 g0) ∧ W = w') := fun W g => KGs.out W (hw11.trans g)
      have Y4 : Aside (∀ W, Grew w11 W → Calls Tryz.prog 69 #[.pointer (some ⟨rb, 0, none⟩), .int .i64 i] W fun e w' => e = .returned (.int .i64 g0) ∧ W = w') := fun W g => KGr.out W (hw11.trans g)
      clear hg11
      go_wp2_with fail
      clear hw11e hC
      go_region_held3 (fun W => W.cell? ⟨A, 0, none⟩ = some (.int .i64 a1) ∧ W.cell? ⟨A, 1, none⟩ = some (.int .i64 a2) ∧ W.cell? ⟨B, 0, none⟩ = some (.int .i64 a1) ∧ W.cell? ⟨B, 1, none⟩ = some (.int .i64 a2) ∧ W.cell? ⟨C, 0, none⟩ = some (.int .i64 i) ∧ W.cell? ⟨C, 1, none⟩ = some (.int .i64 g0))
        ((refine HF.out _ ?_; (repeat' (first | exact Grew.refl _ | assumption | refine Grew.alloc ?_ _ | refine Grew.drew ?_ | refine Grew.drewN ?_ _ | refine Grew.setCell ?_ ?_ _ | (simp; done) | (simp; omega))); done))
        (first | (go_at_call 70; refine (Y3.out _ ?_).mono ?_; (· (repeat' (first | exact Grew.refl _ | assumption | refine Grew.alloc ?_ _ | refine Grew.drew ?_ | refine Grew.drewN ?_ _ | refine Grew.setCell ?_ ?_ _ | (simp; done) | (simp; omega)))); rintro e wg ⟨rfl, rfl⟩)
               | (go_at_call 69; refine (Y4.out _ ?_).mono ?_; (· (repeat' (first | exact Grew.refl _ | assumption | refine Grew.alloc ?_ _ | refine Grew.drew ?_ | refine Grew.drewN ?_ _ | refine Grew.setCell ?_ ?_ _ | (simp; done) | (simp; omega)))); rintro e wg ⟨rfl, rfl⟩)
               | (go_at_call 43; refine (Y1.out _ ?_).mono ?_; (· (repeat' (first | exact Grew.refl _ | assumption | refine Grew.alloc ?_ _ | refine Grew.drew ?_ | refine Grew.drewN ?_ _ | refine Grew.setCell ?_ ?_ _ | (simp; done) | (simp; omega)))); rintro e w12 ⟨rfl, hw12⟩)
               | (go_at_call 71; refine (Y2.out _ ?_).mono ?_; (· (repeat' (first | exact Grew.refl _ | assumption | refine Grew.alloc ?_ _ | refine Grew.drew ?_ | refine Grew.drewN ?_ _ | refine Grew.setCell ?_ ?_ _ | (simp; done) | (simp; omega)))); rintro e w13 ⟨rfl, hw13⟩))
      all_goals
        obtain ⟨-, -, -, -, r0, r1⟩ := HF.out w13 hw13
        have rf := (hw13.frozen (p := ⟨C, 1, none⟩) (lt_of_cell (HF.out w11 (Grew.refl _)).2.2.2.2.1)).trans rf
        have hw13 := hw11.trans hw13
        obtain ⟨w14, hw14e⟩ : ∃ w14, w13.setCell ⟨C, 1, none⟩ (.int .i64 (g0 - 1)) = w14 := ⟨_, rfl⟩
        have s0 : w14.cell? ⟨C, 0, none⟩ = some (.int .i64 i) := by rw [← hw14e]; simp [r0, go_sem]
        have s1 : w14.cell? ⟨C, 1, none⟩ = some (.int .i64 (g0 - 1)) := by rw [← hw14e]; simp [r1, go_sem]
        have hw14 : Grew w w14 := by rw [← hw14e]; exact hw13.setCell hwC _
        have HF2 : Aside (∀ W, Grew w14 W → (W.cell? ⟨C, 0, none⟩ = some (.int .i64 i) ∧ W.cell? ⟨C, 1, none⟩ = some (.int .i64 (g0 - 1)))) := fun W g => ⟨g.cell' s0, g.cell' s1⟩
        have Z1 : Aside (∀ W, Grew w14 W → Calls Tryz.prog 43 #[.pointer (some ⟨sb, 0, none⟩), .agg #[.int .i64 i, .int .i64 (g0 - 1)]] W fun e w' => e = .returned (.bool x2) ∧ Grew w14 w') := fun W g => (K3.out W (hw14.trans g)).mono fun e w' h => ⟨h.1, g.trans h.2⟩
        have Z2 : Aside (∀ W, Grew w14 W → Calls Tryz.prog 71 #[.pointer (some ⟨rb, 0, none⟩), .agg #[.int .i64 i, .int .i64 (g0 - 1)]] W fun e w' => e = .returned (.bool x2) ∧ Grew w14 w') := fun W g => (K4.out W (hw14.trans g)).mono fun e w' h => ⟨h.1, g.trans h.2⟩
        go_wp2_with fail
        clear hw14e
        go_region_held3 (fun W => W.cell? ⟨C, 0, none⟩ = some (.int .i64 i) ∧ W.cell? ⟨C, 1, none⟩ = some (.int .i64 (g0 - 1)))
          ((refine HF2.out _ ?_; (repeat' (first | exact Grew.refl _ | assumption | refine Grew.alloc ?_ _ | refine Grew.drew ?_ | refine Grew.drewN ?_ _ | refine Grew.setCell ?_ ?_ _ | (simp; done) | (simp; omega))); done))
          (first | (go_at_call 43; refine (Z1.out _ ?_).mono ?_; (· (repeat' (first | exact Grew.refl _ | assumption | refine Grew.alloc ?_ _ | refine Grew.drew ?_ | refine Grew.drewN ?_ _ | refine Grew.setCell ?_ ?_ _ | (simp; done) | (simp; omega)))); rintro e w15 ⟨rfl, hw15⟩)
                 | (go_at_call 71; refine (Z2.out _ ?_).mono ?_; (· (repeat' (first | exact Grew.refl _ | assumption | refine Grew.alloc ?_ _ | refine Grew.drew ?_ | refine Grew.drewN ?_ _ | refine Grew.setCell ?_ ?_ _ | (simp; done) | (simp; omega)))); rintro e w16 ⟨rfl, hw16⟩))
        all_goals
          have hwe := hw14.trans hw16
          go_wp2_with fail
          go_roundg (n + 2 - (j + 1))
          case measure => omega
          case rel => exact ⟨j + 1, by omega, by omega, by have := HI.out; go_num, by (repeat' (first | exact Grew.refl _ | assumption | refine Grew.alloc ?_ _ | refine Grew.drew ?_ | refine Grew.drewN ?_ _ | refine Grew.setCell ?_ ?_ _ | (simp; done) | (simp; omega)))⟩
    · have h1z : ¬ (j : Int) - 1 ≤ (n : Int) := by omega
      go_wp2_with fail
      refine (HMr.out _ hgw).mono ?_
      rintro e w6 ⟨rfl, rfl⟩
      rw [HN.out]
      go_wp2_with fail
      go_ret
      exact ⟨rfl, hgw⟩

end Go.Proofs.YtcelamaiebjdaaaGreat

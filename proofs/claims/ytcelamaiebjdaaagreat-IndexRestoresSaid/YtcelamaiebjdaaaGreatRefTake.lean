/- The reference's tables: Free, Take, All, Len. -/
import Derived.Test.YtcelamaiebjdaaaGreatRefHas
import Derived.Deep.LoopGhost
namespace Go.Proofs.YtcelamaiebjdaaaGreat
open Go.RowKit Go.Maps Go.Sort Go.Shelf
attribute [local go_sem ↓] Go.wp_at_zero Go.wp_at_succ

theorem kp_two {a b R : Nat} {w w1 w2 : World} (g : Grew w w1) (k : Kp [a, b, R] w1 w2) (hR : w.heap.size ≤ R) : Kp [a, b] w w2 :=
  (g.kp [a, b]).then k fun x hx => by
    simp only [List.mem_cons, List.not_mem_nil, or_false] at hx
    rcases hx with h | h | h
    · exact .inl (by rw [h]; simp)
    · exact .inl (by rw [h]; simp)
    · exact .inr (by rw [h]; exact hR)
theorem RefR.untake {w : World} {rb rg rt gc tc : Nat} {gens : List Int} {tk : List Bool} (h : RefR w rb rg rt gc tc gens tk) (j : Nat) (u : Bool) :
    RefR (w.setCell ⟨rt, j, none⟩ (.bool u)) rb rg rt gc tc gens (tk.set j u) := by
  have k : Kp [rt] w (w.setCell ⟨rt, j, none⟩ (.bool u)) := (Kp.refl [rt] w).store (by simp) j _
  have hn : rb ∉ [rt] := by simp [h.ne]
  refine ⟨k.cell h.c0 hn, k.cell h.c1 hn, h.g.kp k (fun g hg => by injection hg with e; subst e; simp [h.ne]), slB_stored h.t j u, h.ne, h.most, ?_, h.gen⟩
  rw [List.length_set]; exact h.len
theorem RefR.bump {w : World} {rb rg rt gc tc : Nat} {gens : List Int} {tk : List Bool} (h : RefR w rb rg rt gc tc gens tk) (j : Nat) (u : Int) (hu : 0 ≤ u ∧ u ≤ 2147483647) :
    RefR (w.setCell ⟨rg, j, none⟩ (.int .i64 u)) rb rg rt gc tc (gens.set j u) tk := by
  have k : Kp [rg] w (w.setCell ⟨rg, j, none⟩ (.int .i64 u)) := (Kp.refl [rg] w).store (by simp) j _
  have hn : rb ∉ [rg] := by simp [h.ne]
  have hl : (gens.set j u).length = gens.length := List.length_set
  refine ⟨by rw [hl]; exact k.cell h.c0 hn, by rw [hl]; exact k.cell h.c1 hn, by rw [hl]; exact (h.g.stored j u).1, ?_, h.ne, by rw [hl]; exact h.most, by rw [hl]; exact h.len, ?_⟩
  · rw [hl]; exact h.t.kp k (fun g hg => by simp [own, Value.ownBlock] at hg; subst hg; simp [Ne.symm h.ne.2.2])
  · intro g hg
    rcases List.mem_or_eq_of_mem_set hg with h1 | h1
    · exact h.gen g h1
    · rw [h1]; exact hu

set_option maxHeartbeats 1000000 in
set_option maxRecDepth 100000 in
theorem refFree_any (rb rg rt : Nat) (gens : List Int) (tk : List Bool) (slot gen : Int) (w : World) (h : RefAt w rb rg rt gens tk) :
    Calls Tryz.prog 75 #[.pointer (some ⟨rb, 0, none⟩), .agg #[.int .i64 slot, .int .i64 gen]] w fun e w' =>
      e = .returned (.int .i64 (freeE gens tk slot gen)) ∧ RefAt w' rb rg rt gens (freeS gens tk slot gen) ∧ Kp [rt] w w' := by
  have hS := Lib.hid h
  obtain ⟨gc, tc, h⟩ := h
  have c0 := h.c0
  have c1 := h.c1
  have hm := h.most
  have hB := h.lt
  have HR := Lib.hid h
  clear h
  unfold freeE freeS
  generalize hb : hasB gens tk slot gen = b
  have HB := Lib.hid hb
  cases b
  case false =>
    clear hb
    go_enter Tryz.func75, Tryz.ntmps75
    go_wp2_with fail
    refine (valid_any rb gens.length gc (some ⟨rg, 0, none⟩) _ hm.1 (by first | (simp [go_sem]; done) | (simp [*, go_sem]; done) | (go_cell; done))).mono ?_
    rintro e w1 ⟨rfl, rfl⟩
    go_wp2_with fail
    refine (refHas_any rb rg rt gens tk slot gen _ (hS.out.grew (by (repeat' (first | exact Grew.refl _ | assumption | refine Grew.alloc ?_ _ | refine Grew.drew ?_ | refine Grew.drewN ?_ _ | refine Grew.setCell ?_ ?_ _ | (simp; done) | (simp; omega)))))).mono ?_
    rintro e w1 ⟨rfl, hg⟩
    rw [HB.out]
    have hw : Grew w w1 := Grew.trans (by (repeat' (first | exact Grew.refl _ | assumption | refine Grew.alloc ?_ _ | refine Grew.drew ?_ | refine Grew.drewN ?_ _ | refine Grew.setCell ?_ ?_ _ | (simp; done) | (simp; omega)))) hg
    clear hg
    go_wp2_with fail
    go_ret
    exact ⟨rfl, hS.out.grew hw, hw.kp _⟩
  case true =>
    have hat : atB gens tk slot = true := by unfold hasB at hb; simp only [Bool.and_eq_true] at hb; exact hb.1
    have hr : 0 ≤ slot ∧ slot < gens.length := by unfold atB at hat; simp only [Bool.and_eq_true, decide_eq_true_eq] at hat; exact hat.1
    obtain ⟨i, rfl⟩ := Int.eq_ofNat_of_zero_le hr.1
    have hin : i < gens.length := by omega
    have hiz : (i : Int) < (gens.length : Int) ∧ (0 : Int) ≤ (i : Int) := by omega
    obtain ⟨hiz1, hiz2⟩ := hiz
    have hit : i < tk.length := by rw [HR.out.len]; exact hin
    clear hb hat hr
    go_enter Tryz.func75, Tryz.ntmps75
    go_wp2_with fail
    refine (valid_any rb gens.length gc (some ⟨rg, 0, none⟩) _ hm.1 (by first | (simp [go_sem]; done) | (simp [*, go_sem]; done) | (go_cell; done))).mono ?_
    rintro e w1 ⟨rfl, rfl⟩
    go_wp2_with fail
    refine (refHas_any rb rg rt gens tk (i : Int) gen _ (hS.out.grew (by (repeat' (first | exact Grew.refl _ | assumption | refine Grew.alloc ?_ _ | refine Grew.drew ?_ | refine Grew.drewN ?_ _ | refine Grew.setCell ?_ ?_ _ | (simp; done) | (simp; omega)))))).mono ?_
    rintro e w1 ⟨rfl, hg⟩
    rw [HB.out]
    have k0 : w1.cell? ⟨w.heap.size, 0, none⟩ = some (.int .i64 i) := hg.cell' (by first | (simp [go_sem]; done) | (simp [*, go_sem]; done) | (go_cell; done))
    have hw : Grew w w1 := Grew.trans (by (repeat' (first | exact Grew.refl _ | assumption | refine Grew.alloc ?_ _ | refine Grew.drew ?_ | refine Grew.drewN ?_ _ | refine Grew.setCell ?_ ?_ _ | (simp; done) | (simp; omega)))) hg
    have m1 := hw.cell' c1
    have HR1 := Lib.hid (HR.out.kp (hw.kp []) (by simp) (by simp) (by simp))
    have mt : w1.frozen? ⟨rt, i, none⟩ = false := HR1.out.t.free i
    have mc : w1.cell? ⟨rt, i, none⟩ = some (.bool tk[i]) := slB_cell HR1.out.t i hit
    have hne : rt ≠ w.heap.size ∧ rb ≠ rt ∧ rt ≠ rb := ⟨by omega, HR.out.ne.2.1, Ne.symm HR.out.ne.2.1⟩
    obtain ⟨hne1, hne2, hne3⟩ := hne
    have HW := Lib.hid hw
    clear hg hw
    go_wp2_with fail
    go_region_held3 (fun W' => W'.cell? ⟨w.heap.size, 0, none⟩ = some (.int .i64 i) ∧ W'.cell? ⟨rb, 1, none⟩ = some (.slice (some ⟨rt, 0, none⟩) gens.length tc))
      (first | (simp [*, go_sem]; done) | (go_cell; done)) (fail)
    all_goals
      go_wp2_with fail
      go_ret
      have h2 := HR1.out.untake i false
      exact ⟨rfl, ⟨gc, tc, h2.kp (Grew.kp (by (repeat' (first | exact Grew.refl _ | assumption | refine Grew.alloc ?_ _ | refine Grew.drew ?_ | refine Grew.drewN ?_ _ | refine Grew.setCell ?_ ?_ _ | (simp; done) | (simp; omega)))) []) (by simp) (by simp) (by simp)⟩, ((HW.out.kp _).store (by simp) _ _).drew⟩

set_option maxHeartbeats 1000000 in
set_option maxRecDepth 100000 in
theorem refTake_any (rb rg rt : Nat) (gens : List Int) (tk : List Bool) (w : World) (h : RefAt w rb rg rt gens tk) :
    Calls Tryz.prog 74 #[.pointer (some ⟨rb, 0, none⟩)] w fun e w' =>
      e = .returned (.tuple #[.agg #[.int .i64 (takeH gens tk).1, .int .i64 (takeH gens tk).2.1], .int .i64 (takeH gens tk).2.2]) ∧ RefAt w' rb rg rt (takeG gens tk) (takeS gens tk) ∧ Kp [rg, rt] w w' := by
  have hS := Lib.hid h
  have hB := h.lt
  obtain ⟨gc, tc, h⟩ := h
  have c0 := h.c0
  have c1 := h.c1
  have hm := h.most
  have hne := h.ne
  have HR := Lib.hid h
  obtain ⟨n, hn⟩ : ∃ n, gens.length = n := ⟨_, rfl⟩
  rw [hn] at hm c0 c1
  have HN := Lib.hid hn
  clear h hn
  have hL := leastN_le gens tk
  rw [HN.out] at hL
  obtain ⟨L, hLe⟩ : ∃ L, leastN gens tk = L := ⟨_, rfl⟩
  have hNo : ∀ i, i < L → freeAt gens tk i = false := by rw [← hLe]; exact fun i => leastN_no
  have hYes : L < n → freeAt gens tk L = true := by rw [← hLe, ← HN.out]; exact fun h => leastN_yes h
  have HNo := Lib.hid hNo
  have HYes := Lib.hid hYes
  have HL := Lib.hid (show L ≤ n by rw [← hLe]; exact hL)
  have HLe := Lib.hid hLe
  clear hL hLe hNo hYes
  go_enter Tryz.func74, Tryz.ntmps74
  go_wp2_with fail
  refine (valid_any rb n gc (some ⟨rg, 0, none⟩) _ hm.1 (by first | (simp [go_sem]; done) | (simp [*, go_sem]; done) | (go_cell; done))).mono ?_
  rintro e w1 ⟨rfl, rfl⟩
  go_wp2_with fail
  obtain ⟨w1, hw1⟩ : ∃ w1, w.alloc (.cells #[.int .i64 0, .int .i64 0] 74) = w1 := ⟨_, rfl⟩
  have hg1 : Grew w w1 := by rw [← hw1]; exact (Grew.refl _).alloc _
  have r0 : w1.cell? ⟨w.heap.size, 0, none⟩ = some (.int .i64 0) := by rw [← hw1]; simp
  have r1 : w1.cell? ⟨w.heap.size, 1, none⟩ = some (.int .i64 0) := by rw [← hw1]; simp
  have rf : ∀ j, w1.frozen? ⟨w.heap.size, j, none⟩ = false := fun j => by rw [← hw1]; simp
  have HR1 := Lib.hid (HR.out.kp (hg1.kp []) (by simp) (by simp) (by simp))
  have HW := Lib.hid hw1
  obtain ⟨R, hR⟩ : ∃ R, w.heap.size = R := ⟨_, rfl⟩
  have hRn : rb ≠ R ∧ rg ≠ R ∧ rt ≠ R := by omega
  have c0 := hg1.cell' c0
  have c1 := hg1.cell' c1
  rw [hw1]
  rw [hR] at r0 r1 rf ⊢
  clear hw1 hB
  have H0 := Lib.hid hR
  clear hR
  go_loopg [4] n (fun gg s4 wr => ∃ j : Nat, n - j ≤ gg ∧ s4 = .int .i64 j ∧ w1 = wr ∧ Aside (j ≤ L))
  case atStart => exact ⟨0, by omega, rfl, rfl, Nat.zero_le _⟩
  case round =>
    obtain ⟨j, hgg, rfl, rfl, A⟩ := hrel
    by_cases hjn : j < n
    · have hjz : (j : Int) < (n : Int) := by omega
      have hj0 : (0 : Int) ≤ (j : Int) := by omega
      have hjx : j < gens.length := by rw [HN.out]; exact hjn
      have hjt : j < tk.length := by rw [HR.out.len]; exact hjx
      have cg : w1.cell? ⟨rg, j, none⟩ = some (.int .i64 (gens.getD j 0)) := by
        rw [List.getD_eq_getElem?_getD, List.getElem?_eq_getElem hjx]
        exact HR1.out.g.cell j hjx
      have ct : w1.cell? ⟨rt, j, none⟩ = some (.bool (tk.getD j false)) := by
        rw [List.getD_eq_getElem?_getD, List.getElem?_eq_getElem hjt]
        exact slB_cell HR1.out.t j hjt
      have hge : 0 ≤ gens.getD j 0 ∧ gens.getD j 0 ≤ 2147483647 := by
        rw [List.getD_eq_getElem?_getD, List.getElem?_eq_getElem hjx]
        exact HR.out.gen _ (List.getElem_mem _)
      have fg : w1.frozen? ⟨rg, j, none⟩ = false := HR1.out.g.free j
      have ft : w1.frozen? ⟨rt, j, none⟩ = false := HR1.out.t.free j
      obtain ⟨g, hg⟩ : ∃ g, gens.getD j 0 = g := ⟨_, rfl⟩
      rw [hg] at cg hge
      have HG := Lib.hid hg
      clear hg hjx hjt
      cases hb : tk.getD j false
      · rw [hb] at ct
        have HB := Lib.hid hb
        clear hb
        by_cases hmax : g < 2147483647
        · have hjL : Hid (j = L) := by
            show j = L
            have A1 : j ≤ L := A.out
            rcases Nat.lt_or_ge j L with h1 | h1
            · have := HNo.out j h1
              unfold freeAt at this
              rw [HB.out, HG.out] at this
              simp at this
              omega
            · omega
          have u1 : IntKind.i64.wrap (g + 1) = g + 1 := IntWalk.i64_in _ (by omega)
          obtain ⟨n1, n2, n3⟩ := hne
          obtain ⟨n4, n5, n6⟩ := hRn
          go_wp2_with fail
          refine bodyPost_ret (by simp [results, Tryz.results74, r0, r1, go_sem]; try rfl) rfl ?_
          have hL0 : leastN gens tk = j := by rw [HLe.out]; exact hjL.out.symm
          have hlen : j < gens.length := by rw [HN.out]; exact hjn
          have eH : takeH gens tk = ((j : Int), g + 1, 0) := by unfold takeH; rw [hL0, if_pos hlen, HG.out]
          have eG : takeG gens tk = gens.set j (g + 1) := by unfold takeG; rw [hL0, if_pos hlen, HG.out]
          have eS : takeS gens tk = tk.set j true := by unfold takeS; rw [hL0, if_pos hlen]
          rw [eH, eG, eS]
          have h3 := (HR1.out.bump j (g + 1) (by omega)).untake j true
          exact ⟨rfl, ⟨gc, tc, h3.kp (bs := [R]) (((Kp.refl _ _).store (by simp) _ _).store (by simp) _ _) (by simp [n4]) (by simp [n5]) (by simp [n6])⟩, kp_two hg1 ((((((Kp.refl [rg, rt, R] w1).store (b := rg) (by simp) _ _).store (b := rt) (by simp) _ _).store (b := R) (by simp) _ _).store (b := R) (by simp) _ _)) (by rw [H0.out]; exact Nat.le_refl _)⟩
        · go_wp2_with fail
          go_roundg (n - (j + 1))
          case measure => omega
          case rel =>
            refine ⟨j + 1, Nat.le_refl _, by go_num, rfl, (show Aside _ from ?_)⟩
            have h1 : j ≠ L := by
              rintro rfl
              have := HYes.out hjn
              unfold freeAt at this
              rw [HB.out, HG.out] at this
              simp at this
              omega
            have A1 : j ≤ L := A.out
            show j + 1 ≤ L
            omega
      · rw [hb] at ct
        have HB := Lib.hid hb
        clear hb
        go_wp2_with fail
        go_roundg (n - (j + 1))
        case measure => omega
        case rel =>
          refine ⟨j + 1, Nat.le_refl _, by go_num, rfl, (show Aside _ from ?_)⟩
          have h1 : j ≠ L := by
            rintro rfl
            have := HYes.out hjn
            unfold freeAt at this
            rw [HB.out] at this
            simp at this
          have A1 : j ≤ L := A.out
          show j + 1 ≤ L
          omega
    · have hjz : ¬ (j : Int) < (n : Int) := by omega
      have hj : L = n := by
        have A1 : j ≤ L := A.out
        have A2 : L ≤ n := HL.out
        omega
      obtain ⟨n4, n5, n6⟩ := hRn
      go_wp2_with fail
      refine bodyPost_ret (by simp [results, Tryz.results74, r0, r1, go_sem]; try rfl) rfl ?_
      unfold takeH takeG takeS
      rw [HLe.out, HN.out, if_neg (by omega)]
      simp only
      exact ⟨trivial, by rw [if_neg (by omega), if_neg (by omega)]; exact ⟨gc, tc, HR1.out.kp (bs := [R]) (((Kp.refl _ _).store (by simp) _ _).store (by simp) _ _) (by simp [n4]) (by simp [n5]) (by simp [n6])⟩, Grew.kp ((hg1.setCell (by rw [H0.out]; exact Nat.le_refl _) _).setCell (by rw [H0.out]; exact Nat.le_refl _) _) _⟩

end Go.Proofs.YtcelamaiebjdaaaGreat

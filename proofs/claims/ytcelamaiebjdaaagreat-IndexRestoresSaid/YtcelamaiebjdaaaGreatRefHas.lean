/- The reference's tables: Has, Free. -/
import Derived.Test.YtcelamaiebjdaaaGreatRef
import Derived.Deep.RegionHeld3
import Derived.Deep.DrawnRows
namespace Go.Proofs.YtcelamaiebjdaaaGreat
open Go.RowKit Go.Maps Go.Sort Go.Shelf
attribute [local go_sem ↓] Go.wp_at_zero Go.wp_at_succ

set_option maxHeartbeats 2000000 in
set_option maxRecDepth 100000 in
theorem refHas_any (rb rg rt : Nat) (gens : List Int) (tk : List Bool) (slot gen : Int) (w : World) (h : RefAt w rb rg rt gens tk) :
    Calls Tryz.prog 71 #[.pointer (some ⟨rb, 0, none⟩), .agg #[.int .i64 slot, .int .i64 gen]] w fun e w' =>
      e = .returned (.bool (hasB gens tk slot gen)) ∧ Grew w w' := by
  obtain ⟨gc, tc, h⟩ := h
  have hg1 : Grew w (w.alloc (.cells #[.int .i64 slot, .int .i64 gen] 74)) := (Grew.refl _).alloc _
  obtain ⟨hb, hhb⟩ : ∃ hb, w.heap.size = hb := ⟨_, rfl⟩
  have d0 : (w.alloc (.cells #[.int .i64 slot, .int .i64 gen] 74)).cell? ⟨hb, 0, none⟩ = some (.int .i64 slot) := by rw [← hhb]; simp
  have d1 : (w.alloc (.cells #[.int .i64 slot, .int .i64 gen] 74)).cell? ⟨hb, 1, none⟩ = some (.int .i64 gen) := by rw [← hhb]; simp
  have HhB := Lib.hid hhb
  obtain ⟨W1, hW1⟩ : ∃ W1, w.alloc (.cells #[.int .i64 slot, .int .i64 gen] 74) = W1 := ⟨_, rfl⟩
  have HW1 := Lib.hid hW1
  rw [hW1] at hg1 d0 d1
  have h' : RefR W1 rb rg rt gc tc gens tk := h.kp (hg1.kp []) (by simp) (by simp) (by simp)
  have c0 := h'.c0
  have c1 := h'.c1
  have hm := h.most
  obtain ⟨n, hn⟩ : ∃ n, gens.length = n := ⟨_, rfl⟩
  rw [hn] at c0 c1 hm
  have V := fun W (c : W.cell? ⟨rb, 0, none⟩ = some (.slice (some ⟨rg, 0, none⟩) n gc)) => (valid_any rb n gc (some ⟨rg, 0, none⟩) W hm.1 c).mono fun e w' h => (show e = .returned (.bool true) ∧ w' = W from ⟨h.1, h.2.symm⟩)
  have HV := Lib.hid V
  clear V hW1 hhb
  by_cases h1 : 0 ≤ slot
  · by_cases h2 : slot < (n : Int)
    · obtain ⟨i, rfl⟩ := Int.eq_ofNat_of_zero_le h1
      have hin : i < gens.length := by omega
      have hit : i < tk.length := by rw [h.len]; exact hin
      have eD : decide (0 ≤ (i : Int) ∧ (i : Int) < (gens.length : Int)) = true := decide_eq_true (by omega)
      have ci := h'.g.cell i hin
      have cb := slB_cell h'.t i hit
      have hge : gens.getD i 0 = gens[i] := by rw [List.getD_eq_getElem?_getD, List.getElem?_eq_getElem hin]; rfl
      have htb : tk.getD i false = tk[i] := by rw [List.getD_eq_getElem?_getD, List.getElem?_eq_getElem hit]; rfl
      have h3 : i < n := by omega
      cases hb2 : tk[i]
      · have e1 : hasB gens tk (i : Int) gen = false := by unfold hasB atB; rw [eD, Int.toNat_natCast, htb, hb2]; rfl
        rw [e1]
        rw [hb2] at cb
        clear e1 hn h h' hb2 eD hge htb
        go_enter Tryz.func71, Tryz.ntmps71
        go_wp2_with fail
        rw [HhB.out, HW1.out]
        go_quiet (first | (go_at_call 108; refine Calls.quiet_of_same (HV.out _ ?_); exact (by first | (simp [go_sem]; done) | (simp [*, go_sem]; done) | (go_cell; done))))
        go_wp2_with fail
        go_ret
        exact ⟨rfl, by (repeat' (first | exact Grew.refl _ | assumption | refine Grew.alloc ?_ _ | refine Grew.drew ?_ | refine Grew.drewN ?_ _ | refine Grew.setCell ?_ ?_ _ | (simp; done) | (simp; omega)))⟩
      · have e1 : hasB gens tk (i : Int) gen = (gens[i] == gen) := by
          have e2 : atB gens tk (i : Int) = true := by unfold atB; rw [eD, Int.toNat_natCast, htb, hb2]; rfl
          unfold hasB atG
          rw [e2, if_pos rfl, Int.toNat_natCast, hge]
          simp
        rw [e1]
        rw [hb2] at cb
        generalize gens[i] = gv at ci
        clear e1 hn h h' hb2 eD hge htb
        go_enter Tryz.func71, Tryz.ntmps71
        go_wp2_with fail
        rw [HhB.out, HW1.out]
        go_quiet (first | (go_at_call 108; refine Calls.quiet_of_same (HV.out _ ?_); exact (by first | (simp [go_sem]; done) | (simp [*, go_sem]; done) | (go_cell; done))))
        go_wp2_with fail
        go_ret
        exact ⟨rfl, by (repeat' (first | exact Grew.refl _ | assumption | refine Grew.alloc ?_ _ | refine Grew.drew ?_ | refine Grew.drewN ?_ _ | refine Grew.setCell ?_ ?_ _ | (simp; done) | (simp; omega)))⟩
    · have e1 : hasB gens tk slot gen = false := by unfold hasB atB; rw [show decide (0 ≤ slot ∧ slot < (gens.length : Int)) = false from decide_eq_false (by omega)]; rfl
      have h2' : decide (slot < (n : Int)) = false := decide_eq_false h2
      rw [e1]
      clear e1 hn h h'
      go_enter Tryz.func71, Tryz.ntmps71
      go_wp2_with fail
      rw [HhB.out, HW1.out]
      go_quiet (first | (go_at_call 108; refine Calls.quiet_of_same (HV.out _ ?_); exact (by first | (simp [go_sem]; done) | (simp [*, go_sem]; done) | (go_cell; done))))
      go_wp2_with fail
      go_ret
      exact ⟨rfl, by (repeat' (first | exact Grew.refl _ | assumption | refine Grew.alloc ?_ _ | refine Grew.drew ?_ | refine Grew.drewN ?_ _ | refine Grew.setCell ?_ ?_ _ | (simp; done) | (simp; omega)))⟩
  · have e1 : hasB gens tk slot gen = false := by unfold hasB atB; rw [show decide (0 ≤ slot ∧ slot < (gens.length : Int)) = false from decide_eq_false (by omega)]; rfl
    have h1' : decide (0 ≤ slot) = false := decide_eq_false h1
    rw [e1]
    clear e1 hn h h'
    go_enter Tryz.func71, Tryz.ntmps71
    go_wp2_with fail
    rw [HhB.out, HW1.out]
    go_quiet (first | (go_at_call 108; refine Calls.quiet_of_same (HV.out _ ?_); exact (by first | (simp [go_sem]; done) | (simp [*, go_sem]; done) | (go_cell; done))))
    go_wp2_with fail
    go_ret
    exact ⟨rfl, by (repeat' (first | exact Grew.refl _ | assumption | refine Grew.alloc ?_ _ | refine Grew.drew ?_ | refine Grew.drewN ?_ _ | refine Grew.setCell ?_ ?_ _ | (simp; done) | (simp; omega)))⟩

end Go.Proofs.YtcelamaiebjdaaaGreat

/- Contracts of Move and Box of a sweep. -/
import Derived.Test.YtcelamaiebjdaaaGreatPairsPlain
namespace Go.Proofs.YtcelamaiebjdaaaGreat
open Go.RowKit Go.Maps

theorem hasL_iff {l : Sw} {k : Int} : hasL l k = true ↔ k ∈ l.map (·.1) := by
  unfold hasL
  rw [List.any_eq_true, List.mem_map]
  constructor
  · rintro ⟨p, hp, h⟩; exact ⟨p, hp, by simpa using h⟩
  · rintro ⟨p, hp, h⟩; exact ⟨p, hp, by simpa using h⟩
theorem putL_keys {k : Int} {b : Bx} : ∀ {l : Sw}, Asc l → hasL l k = true → (putL l k b).map (·.1) = l.map (·.1)
  | [], _, h => by simp [hasL] at h
  | q :: r, ha, h => by
    obtain ⟨h1, h2⟩ := List.pairwise_cons.1 ha
    unfold putL
    rw [hasL_iff] at h
    split
    · rename_i c
      rcases List.mem_cons.1 (show k ∈ q.1 :: r.map (·.1) from h) with e | e
      · omega
      · obtain ⟨p, hp, e⟩ := List.mem_map.1 e
        have := h1 p hp
        omega
    · split
      · rename_i c1 c2
        subst c2
        rfl
      · rename_i c1 c2
        rw [List.map_cons, List.map_cons, putL_keys h2]
        rw [hasL_iff]
        rcases List.mem_cons.1 (show k ∈ q.1 :: r.map (·.1) from h) with e | e
        · exact absurd e c2
        · exact e
theorem getL_put {k : Int} {b : Bx} : ∀ {l : Sw}, Asc l → getL (putL l k b) k = b
  | [], _ => by simp [putL, getL]
  | q :: r, ha => by
    obtain ⟨h1, h2⟩ := List.pairwise_cons.1 ha
    unfold putL
    split
    · unfold getL; simp
    · split
      · unfold getL; simp
      · rename_i c1 c2
        have ih := getL_put (k := k) (b := b) h2
        unfold getL at ih ⊢
        rw [List.find?_cons_of_neg (by simp; omega)]
        exact ih
theorem delL_gt {k : Int} {l : Sw} (h : ∀ p ∈ l, k < p.1) : delL l k = l := by
  unfold delL
  exact List.filter_eq_self.2 fun p hp => by have := h p hp; simp; omega
theorem putL_del {k : Int} {b : Bx} : ∀ {l : Sw}, Asc l → putL (delL l k) k b = putL l k b
  | [], _ => rfl
  | q :: r, ha => by
    obtain ⟨h1, h2⟩ := List.pairwise_cons.1 ha
    by_cases c1 : k < q.1
    · rw [delL_gt fun p hp => by
        rcases List.mem_cons.1 hp with rfl | hp
        · exact c1
        · have := h1 p hp; omega]
    · by_cases c2 : k = q.1
      · have hr : ∀ p ∈ r, k < p.1 := fun p hp => by rw [c2]; exact h1 p hp
        have e : delL (q :: r) k = r := by
          have := delL_gt hr
          unfold delL at this ⊢
          rw [List.filter_cons_of_neg (by simp; omega), this]
        rw [e, putL_below hr]
        show _ = if k < q.1 then _ else if k = q.1 then (k, b) :: r else _
        rw [if_neg c1, if_pos c2]
      · have e : delL (q :: r) k = q :: delL r k := by unfold delL; rw [List.filter_cons_of_pos (by simp; omega)]
        rw [e]
        show (if k < q.1 then _ else if k = q.1 then _ else q :: putL (delL r k) k b) = if k < q.1 then _ else if k = q.1 then _ else q :: putL r k b
        rw [if_neg c1, if_neg c2, if_neg c1, if_neg c2, putL_del h2]
theorem hasL_del (l : Sw) (k : Int) : hasL (delL l k) k = false := by
  unfold hasL delL
  rw [List.any_eq_false]
  intro p hp
  simpa using (List.mem_filter.1 hp).2

/-- What Move returns, and what it leaves. -/
def moveE (l : Sw) (k : Int) (b : Bx) : Int :=
  if idE k ≠ 0 then idE k else if chk b.1 b.2.1 b.2.2.1 b.2.2.2 ≠ 0 then chk b.1 b.2.1 b.2.2.1 b.2.2.2 else if hasL l k = true then 0 else 9
def moveS (l : Sw) (k : Int) (b : Bx) : Sw := if moveE l k b = 0 then putL l k b else l

set_option maxHeartbeats 1000000 in
set_option maxRecDepth 100000 in
theorem move_any (sb mb : Nat) (l : Sw) (k : Int) (b : Bx) (w : World) (h : SweepAt w sb mb l) (hk : I64 k) (b0 : I64 b.1) (b1 : I64 b.2.1) (b2 : I64 b.2.2.1) (b3 : I64 b.2.2.2) :
    Calls Tryz.prog 50 #[.pointer (some ⟨sb, 0, none⟩), .int .i64 k, .agg #[.int .i64 b.1, .int .i64 b.2.1, .int .i64 b.2.2.1, .int .i64 b.2.2.2]] w fun e w' => e = .returned (.int .i64 (moveE l k b)) ∧ SweepAt w' sb mb (moveS l k b) ∧ Kp [mb] w w' := by
  have c0 := h.cell
  have hB := lt_of_cell c0
  by_cases h1 : 0 ≤ k ∧ k ≤ 2147483647
  case neg =>
    have e1 := idE_three h1
    have eE : moveE l k b = 3 := by simp [moveE, e1]
    have eS : moveS l k b = l := by simp [moveS, eE]
    rw [eE, eS]
    clear eE eS
    go_enter Tryz.func50, Tryz.ntmps50
    go_wp2_with fail
    refine (checkId_any sb mb k _ (by first | (simp [go_sem]; done) | (simp [*, go_sem]; done) | (go_cell; done))).mono ?_
    rintro e w1 ⟨rfl, rfl⟩
    rw [e1]
    go_wp2_with fail
    go_ret
    refine ⟨rfl, h.grew (by (repeat' (first | exact Grew.refl _ | assumption | refine Grew.alloc ?_ _ | refine Grew.drew ?_ | refine Grew.drewN ?_ _ | refine Grew.setCell ?_ ?_ _ | (simp; done) | (simp; omega)))), Grew.kp (by (repeat' (first | exact Grew.refl _ | assumption | refine Grew.alloc ?_ _ | refine Grew.drew ?_ | refine Grew.drewN ?_ _ | refine Grew.setCell ?_ ?_ _ | (simp; done) | (simp; omega)))) _⟩
  case pos =>
    have e1 := idE_zero h1
    by_cases h2 : chk b.1 b.2.1 b.2.2.1 b.2.2.2 = 0
    case neg =>
      obtain ⟨r, hr⟩ : ∃ r, chk b.1 b.2.1 b.2.2.1 b.2.2.2 = r := ⟨_, rfl⟩
      have n2 : (r != 0) = true := by rw [← hr]; simpa using h2
      have n3 : r ≠ 0 := by rw [← hr]; exact h2
      have eE : moveE l k b = r := by unfold moveE; rw [hr]; simp [e1, n3]
      have eS : moveS l k b = l := by simp [moveS, eE, n3]
      have Hr := Lib.hid hr
      rw [eE, eS]
      clear eE eS h2 hr n3
      go_enter Tryz.func50, Tryz.ntmps50
      go_wp2_with fail
      refine (checkId_any sb mb k _ (by first | (simp [go_sem]; done) | (simp [*, go_sem]; done) | (go_cell; done))).mono ?_
      rintro e w1 ⟨rfl, rfl⟩
      rw [e1]
      go_wp2_with fail
      refine (check_any _ _ _ _ _ b0 b1 b2 b3).mono ?_
      rintro e w1 ⟨rfl, hg⟩
      rw [Hr.out]
      go_wp2_with fail
      go_ret
      have hw : Grew w w1 := Grew.trans (by (repeat' (first | exact Grew.refl _ | assumption | refine Grew.alloc ?_ _ | refine Grew.drew ?_ | refine Grew.drewN ?_ _ | refine Grew.setCell ?_ ?_ _ | (simp; done) | (simp; omega)))) hg
      exact ⟨rfl, h.grew hw, hw.kp _⟩
    case pos =>
      have H2 := Lib.hid h2
      go_enter Tryz.func50, Tryz.ntmps50
      go_wp2_with fail
      refine (checkId_any sb mb k _ (by first | (simp [go_sem]; done) | (simp [*, go_sem]; done) | (go_cell; done))).mono ?_
      rintro e w1 ⟨rfl, rfl⟩
      rw [e1]
      go_wp2_with fail
      refine (check_any _ _ _ _ _ b0 b1 b2 b3).mono ?_
      rintro e w1 ⟨rfl, hg⟩
      rw [H2.out]
      have k0 := hg.cell' (b := w.heap.size) (o := 0) (v := .int .i64 b.1) (by first | (simp [go_sem]; done) | (simp [*, go_sem]; done) | (go_cell; done))
      have k1 := hg.cell' (b := w.heap.size) (o := 1) (v := .int .i64 b.2.1) (by first | (simp [go_sem]; done) | (simp [*, go_sem]; done) | (go_cell; done))
      have k2 := hg.cell' (b := w.heap.size) (o := 2) (v := .int .i64 b.2.2.1) (by first | (simp [go_sem]; done) | (simp [*, go_sem]; done) | (go_cell; done))
      have k3 := hg.cell' (b := w.heap.size) (o := 3) (v := .int .i64 b.2.2.2) (by first | (simp [go_sem]; done) | (simp [*, go_sem]; done) | (go_cell; done))
      have hw : Grew w w1 := Grew.trans (by (repeat' (first | exact Grew.refl _ | assumption | refine Grew.alloc ?_ _ | refine Grew.drew ?_ | refine Grew.drewN ?_ _ | refine Grew.setCell ?_ ?_ _ | (simp; done) | (simp; omega)))) hg
      clear hg
      have h' := h.grew hw
      have c1 := h'.cell
      have hB1 := lt_of_cell c1
      have hB2 := lt_of_cell k0
      have hlook := h'.map.look_ok hk
      by_cases h3 : hasL l k = true
      · have h3' : hasL l k = true := h3
        unfold bxV at hlook
        rw [h3'] at hlook
        generalize hv0 : getL l k = v0 at hlook
        have eE : moveE l k b = 0 := by simp [moveE, e1, H2.out, h3']
        have eS : moveS l k b = putL l k b := by simp [moveS, eE]
        have hle : (putL l k b).length ≤ 256 := by rw [length_put h.ok.asc, h3']; simp; exact h.ok.small
        have hok := h.ok.put h1 h2 hle
        have E1 := Lib.hid eE
        have E2 := Lib.hid eS
        have hw2 : Grew w1 (w1.alloc (.cells #[.int .i64 v0.1, .int .i64 v0.2.1, .int .i64 v0.2.2.1, .int .i64 v0.2.2.2] 32)) := by (repeat' (first | exact Grew.refl _ | assumption | refine Grew.alloc ?_ _ | refine Grew.drew ?_ | refine Grew.drewN ?_ _ | refine Grew.setCell ?_ ?_ _ | (simp; done) | (simp; omega)))
        clear eE eS h3 h3' hv0 h2 hle
        go_wp2_with fail
        generalize hW : w1.alloc (.cells #[.int .i64 v0.1, .int .i64 v0.2.1, .int .i64 v0.2.2.1, .int .i64 v0.2.2.2] 32) = W2 at *
        replace c1 := hw2.cell' c1
        replace k0 := hw2.cell' k0
        replace k1 := hw2.cell' k1
        replace k2 := hw2.cell' k2
        replace k3 := hw2.cell' k3
        have hm := (h'.grew (hw2.drew)).map
        obtain ⟨w3, hrun, hm3, ht3⟩ := hm.store h.ok.asc (by unfold maxLen; have := h.ok.small; omega) hk b
        unfold bxV at hrun
        have hk3 : Kp [mb] W2 w3 := Kp.turned ((Kp.refl _ _).drew) ht3 (by simp)
        have ne1 : sb ∉ [mb] := by simp [h.ne]
        have ne2 : w.heap.size ∉ [mb] := by have := h.lt; simp; omega
        have s0 := hk3.cell c1 ne1
        have s1 := hk3.cell k0 ne2
        have s2 := hk3.cell k1 ne2
        have s3 := hk3.cell k2 ne2
        have s4 := hk3.cell k3 ne2
        have hfin : Kp [mb] w w3 := Kp.trans ((hw.trans hw2).kp _) hk3
        have hsw : SweepAt w3 sb mb (putL l k b) := ⟨s0, hm3, hok⟩
        clear hlook hm ne1 ne2 hk3 hw2 hw h' ht3 hm3
        go_region_held3 (fun W => W.cell? ⟨sb, 0, none⟩ = some (.map (some mb)) ∧ W.cell? ⟨w.heap.size, 0, none⟩ = some (.int .i64 b.1) ∧ W.cell? ⟨w.heap.size, 1, none⟩ = some (.int .i64 b.2.1) ∧ W.cell? ⟨w.heap.size, 2, none⟩ = some (.int .i64 b.2.2.1) ∧ W.cell? ⟨w.heap.size, 3, none⟩ = some (.int .i64 b.2.2.2)) (go_keep) (fail)
        go_wp2_with fail
        go_ret
        refine ⟨ret_int E1.out.symm, ?_⟩
        rw [E2.out]
        exact ⟨hsw, hfin⟩
      · have h3' : hasL l k = false := by simpa using h3
        have eE : moveE l k b = 9 := by simp [moveE, e1, H2.out, h3']
        have eS : moveS l k b = l := by simp [moveS, eE]
        have E1 := Lib.hid eE
        have E2 := Lib.hid eS
        unfold bxV at hlook
        rw [h3'] at hlook
        generalize hv0 : getL l k = v0 at hlook
        clear eE eS h3 h3' hv0
        go_wp2_with fail
        go_ret
        refine ⟨ret_int E1.out.symm, ?_⟩
        rw [E2.out]
        have hw2 : Grew w (w1.alloc (.cells #[.int .i64 v0.1, .int .i64 v0.2.1, .int .i64 v0.2.2.1, .int .i64 v0.2.2.2] 32)) := by (repeat' (first | exact Grew.refl _ | assumption | refine Grew.alloc ?_ _ | refine Grew.drew ?_ | refine Grew.drewN ?_ _ | refine Grew.setCell ?_ ?_ _ | (simp; done) | (simp; omega)))
        exact ⟨h.grew hw2, hw2.kp _⟩

set_option maxHeartbeats 1000000 in
set_option maxRecDepth 100000 in
theorem boxAt_any (sb mb : Nat) (l : Sw) (k : Int) (w : World) (h : SweepAt w sb mb l) (hk : I64 k) :
    Calls Tryz.prog 58 #[.pointer (some ⟨sb, 0, none⟩), .int .i64 k] w fun e w' =>
      e = .returned (.tuple #[.agg #[.int .i64 (getL l k).1, .int .i64 (getL l k).2.1, .int .i64 (getL l k).2.2.1, .int .i64 (getL l k).2.2.2], .bool (hasL l k)]) ∧ Grew w w' := by
  have c0 := h.cell
  have hB := lt_of_cell c0
  have hlook : ∀ W, Grew w W → (Instr.lookup 84 (.map (some mb)) (.int .i64 k) true).run Tryz.prog W = .ok (.tuple #[bxV (getL l k), .bool (hasL l k)]) W := fun W g => (h.grew g).map.look_ok hk
  unfold bxV at hlook
  generalize getL l k = v0 at hlook
  generalize hasL l k = q0 at hlook
  have hl2 := hlook (w.alloc (.cells #[.int .i64 0, .int .i64 0, .int .i64 0, .int .i64 0] 32)) (by (repeat' (first | exact Grew.refl _ | assumption | refine Grew.alloc ?_ _ | refine Grew.drew ?_ | refine Grew.drewN ?_ _ | refine Grew.setCell ?_ ?_ _ | (simp; done) | (simp; omega))))
  clear h hlook
  go_enter Tryz.func58, Tryz.ntmps58
  go_wp2_with fail
  refine (none_any sb mb _ (by first | (simp [go_sem]; done) | (simp [*, go_sem]; done) | (go_cell; done))).mono ?_
  rintro e w1 ⟨rfl, rfl⟩
  go_wp2_with fail
  go_returns
  exact ⟨rfl, by (repeat' (first | exact Grew.refl _ | assumption | refine Grew.alloc ?_ _ | refine Grew.drew ?_ | refine Grew.drewN ?_ _ | refine Grew.setCell ?_ ?_ _ | (simp; done) | (simp; omega)))⟩

end Go.Proofs.YtcelamaiebjdaaaGreat

/- Contracts of the sweep's methods that do not sort. -/
import Derived.Test.YtcelamaiebjdaaaGreatMap
namespace Go.Proofs.YtcelamaiebjdaaaGreat
open Go.RowKit Go.Maps

/-- What a sweep's list of boxes always is. -/
structure SwOk (l : Sw) : Prop where
  asc : Asc l
  key : ∀ p ∈ l, 0 ≤ p.1 ∧ p.1 ≤ 2147483647
  box : ∀ p ∈ l, chk p.2.1 p.2.2.1 p.2.2.2.1 p.2.2.2.2 = 0
  small : l.length ≤ 256

/-- At block sb lies a sweep whose map is block mb and holds the list l. -/
structure SweepAt (w : World) (sb mb : Nat) (l : Sw) : Prop where
  cell : w.cell? ⟨sb, 0, none⟩ = some (.map (some mb))
  map : MapAt w mb l
  ok : SwOk l

theorem SweepAt.ne {w : World} {sb mb : Nat} {l : Sw} (h : SweepAt w sb mb l) : sb ≠ mb := h.map.ne h.cell
theorem SweepAt.lt {w : World} {sb mb : Nat} {l : Sw} (h : SweepAt w sb mb l) : sb < w.heap.size ∧ mb < w.heap.size := ⟨lt_of_cell h.cell, h.map.lt⟩
theorem SweepAt.kp {bs : List Nat} {w w' : World} {sb mb : Nat} {l : Sw} (h : SweepAt w sb mb l) (k : Kp bs w w') (h1 : sb ∉ bs) (h2 : mb ∉ bs) : SweepAt w' sb mb l :=
  ⟨k.cell h.cell h1, h.map.of_block (k.block mb h.map.lt h2), h.ok⟩
theorem SweepAt.grew {w w' : World} {sb mb : Nat} {l : Sw} (h : SweepAt w sb mb l) (k : Grew w w') : SweepAt w' sb mb l := h.kp (k.kp []) (by simp) (by simp)

def NewSw (w : World) (e : Ending) (w' : World) : Prop := ∃ sb mb, e = .returned (.pointer (some ⟨sb, 0, none⟩)) ∧ SweepAt w' sb mb [] ∧ Grew w w' ∧ w.heap.size ≤ sb ∧ w.heap.size ≤ mb

theorem swOk_nil : SwOk [] := ⟨List.Pairwise.nil, by simp, by simp, by simp⟩

set_option maxHeartbeats 400000 in
theorem newSweep_any (w : World) : Calls Tryz.prog 16 #[] w (NewSw w) := by
  have hmm := @run_makeMap Tryz.prog
  go_enter Tryz.func16, Tryz.ntmps16
  go_wp2_with fail
  go_ret
  refine ⟨w.heap.size + 1, w.heap.size, by simp, ⟨(by first | (simp [go_sem]; done) | (simp [*, go_sem]; done) | (go_cell; done)), ?_, swOk_nil⟩, by (repeat' (first | exact Grew.refl _ | assumption | refine Grew.alloc ?_ _ | refine Grew.drew ?_ | refine Grew.drewN ?_ _ | refine Grew.setCell ?_ ?_ _ | (simp; done) | (simp; omega))), by omega, by omega⟩
  exact (MapAt.made w).of_block (Below.heap_alloc _ _ _ (by simp))

set_option maxHeartbeats 400000 in
theorem none_any (sb mb : Nat) (w : World) (c0 : w.cell? ⟨sb, 0, none⟩ = some (.map (some mb))) :
    Calls Tryz.prog 46 #[.pointer (some ⟨sb, 0, none⟩)] w fun e w' => e = .returned (.bool false) ∧ w = w' := by
  have qT : ∀ (w : World) (r : Option Nat), (binOp .eql 84 (.map r) (.map none)).run Tryz.prog w = .ok (.bool r.isNone) w := fun w r => run_eql_map_nil w _ _ _ r Tryz.underlying84
  go_enter Tryz.func46, Tryz.ntmps46
  go_wp2_with fail
  go_ret
  exact ⟨rfl, rfl⟩

/-- The error of an id. -/
def idE (k : Int) : Int := if 0 ≤ k ∧ k ≤ 2147483647 then 0 else 3

set_option maxHeartbeats 400000 in
theorem checkId_any (sb mb : Nat) (k : Int) (w : World) (c0 : w.cell? ⟨sb, 0, none⟩ = some (.map (some mb))) :
    Calls Tryz.prog 83 #[.pointer (some ⟨sb, 0, none⟩), .int .i64 k] w fun e w' => e = .returned (.int .i64 (idE k)) ∧ w = w' := by
  have hk : idE k = if 0 ≤ k ∧ k ≤ 2147483647 then 0 else 3 := rfl
  have Hk := Lib.hid hk
  clear hk
  generalize idE k = r at Hk ⊢
  go_enter Tryz.func83, Tryz.ntmps83
  go_wp2_with (go_at_call 46; refine (none_any sb mb _ c0).mono ?_; rintro e w1 ⟨rfl, rfl⟩)
  all_goals
    go_ret
    refine ⟨ret_int ?_, rfl⟩
    rw [Hk.out]
    first | (rw [if_pos (by omega)]) | (rw [if_neg (by omega)])

set_option maxHeartbeats 400000 in
theorem len_any (sb mb : Nat) (l : Sw) (w : World) (h : SweepAt w sb mb l) :
    Calls Tryz.prog 56 #[.pointer (some ⟨sb, 0, none⟩)] w fun e w' => e = .returned (.int .i64 l.length) ∧ w = w' := by
  have c0 := h.cell
  have hl := h.map.len
  generalize l.length = n at hl ⊢
  clear h
  go_enter Tryz.func56, Tryz.ntmps56
  go_wp2_with (go_at_call 46; refine (none_any sb mb _ c0).mono ?_; rintro e w1 ⟨rfl, rfl⟩)
  go_ret
  exact ⟨rfl, rfl⟩

theorem SwOk.put {l : Sw} (h : SwOk l) {k : Int} {b : Bx} (hk : 0 ≤ k ∧ k ≤ 2147483647) (hb : chk b.1 b.2.1 b.2.2.1 b.2.2.2 = 0) (hn : (putL l k b).length ≤ 256) : SwOk (putL l k b) :=
  ⟨asc_put h.asc, fun p hp => by rcases mem_putL hp with rfl | hp; exact hk; exact h.key p hp, fun p hp => by rcases mem_putL hp with rfl | hp; exact hb; exact h.box p hp, hn⟩
theorem SwOk.del {l : Sw} (h : SwOk l) (k : Int) : SwOk (delL l k) :=
  ⟨asc_del h.asc, fun p hp => h.key p (mem_delL hp), fun p hp => h.box p (mem_delL hp), Nat.le_trans (List.length_filter_le _ _) h.small⟩

/-- What Put returns, and what it leaves. -/
def putE (l : Sw) (k : Int) (b : Bx) : Int :=
  if idE k ≠ 0 then idE k else if chk b.1 b.2.1 b.2.2.1 b.2.2.2 ≠ 0 then chk b.1 b.2.1 b.2.2.1 b.2.2.2 else if hasL l k = true then 11 else if 256 ≤ l.length then 10 else 0
def putS (l : Sw) (k : Int) (b : Bx) : Sw := if putE l k b = 0 then putL l k b else l

theorem idE_zero {k : Int} (h : 0 ≤ k ∧ k ≤ 2147483647) : idE k = 0 := if_pos h
theorem idE_three {k : Int} (h : ¬ (0 ≤ k ∧ k ≤ 2147483647)) : idE k = 3 := if_neg h

set_option maxHeartbeats 1000000 in
set_option maxRecDepth 100000 in
theorem put_any (sb mb : Nat) (l : Sw) (k : Int) (b : Bx) (w : World) (h : SweepAt w sb mb l) (hk : I64 k) (b0 : I64 b.1) (b1 : I64 b.2.1) (b2 : I64 b.2.2.1) (b3 : I64 b.2.2.2) :
    Calls Tryz.prog 36 #[.pointer (some ⟨sb, 0, none⟩), .int .i64 k, .agg #[.int .i64 b.1, .int .i64 b.2.1, .int .i64 b.2.2.1, .int .i64 b.2.2.2]] w fun e w' => e = .returned (.int .i64 (putE l k b)) ∧ SweepAt w' sb mb (putS l k b) ∧ Kp [mb] w w' := by
  have c0 := h.cell
  have hB := lt_of_cell c0
  by_cases h1 : 0 ≤ k ∧ k ≤ 2147483647
  case neg =>
    have e1 := idE_three h1
    have eE : putE l k b = 3 := by simp [putE, e1]
    have eS : putS l k b = l := by simp [putS, eE]
    rw [eE, eS]
    clear eE eS
    go_enter Tryz.func36, Tryz.ntmps36
    go_wp2_with fail
    refine (checkId_any sb mb k _ (by first | (simp [go_sem]; done) | (simp [*, go_sem]; done) | (go_cell; done))).mono ?_
    rintro e w1 ⟨rfl, rfl⟩
    rw [e1]
    go_wp2_with fail
    go_ret
    refine ⟨rfl, h.grew (by (repeat' (first | exact Grew.refl _ | assumption | refine Grew.alloc ?_ _ | refine Grew.drew ?_ | refine Grew.drewN ?_ _ | refine Grew.setCell ?_ ?_ _ | (simp; done) | (simp; omega)))), Grew.kp (by (repeat' (first | exact Grew.refl _ | assumption | refine Grew.alloc ?_ _ | refine Grew.drew ?_ | refine Grew.drewN ?_ _ | refine Grew.setCell ?_ ?_ _ | (simp; done) | (simp; omega)))) _⟩
  case pos =>
    have e1 := idE_zero h1
    by_cases h2 : chk b.1 b.2.1 b.2.2.1 b.2.2.2 = 0
    case neg =>
      obtain ⟨r, hr⟩ : ∃ r, chk b.1 b.2.1 b.2.2.1 b.2.2.2 = r := ⟨_, rfl⟩
      have n2 : (r != 0) = true := by rw [← hr]; simpa using h2
      have n3 : r ≠ 0 := by rw [← hr]; exact h2
      have eE : putE l k b = r := by unfold putE; rw [hr]; simp [e1, n3]
      have eS : putS l k b = l := by simp [putS, eE, n3]
      have Hr := Lib.hid hr
      rw [eE, eS]
      clear eE eS h2 hr n3
      go_enter Tryz.func36, Tryz.ntmps36
      go_wp2_with fail
      refine (checkId_any sb mb k _ (by first | (simp [go_sem]; done) | (simp [*, go_sem]; done) | (go_cell; done))).mono ?_
      rintro e w1 ⟨rfl, rfl⟩
      rw [e1]
      go_wp2_with fail
      refine (check_any _ _ _ _ _ b0 b1 b2 b3).mono ?_
      rintro e w1 ⟨rfl, hg⟩
      rw [Hr.out]
      go_wp2_with fail
      go_ret
      have hw : Grew w w1 := Grew.trans (by (repeat' (first | exact Grew.refl _ | assumption | refine Grew.alloc ?_ _ | refine Grew.drew ?_ | refine Grew.drewN ?_ _ | refine Grew.setCell ?_ ?_ _ | (simp; done) | (simp; omega)))) hg
      exact ⟨rfl, h.grew hw, hw.kp _⟩
    case pos =>
      have H2 := Lib.hid h2
      go_enter Tryz.func36, Tryz.ntmps36
      go_wp2_with fail
      refine (checkId_any sb mb k _ (by first | (simp [go_sem]; done) | (simp [*, go_sem]; done) | (go_cell; done))).mono ?_
      rintro e w1 ⟨rfl, rfl⟩
      rw [e1]
      go_wp2_with fail
      refine (check_any _ _ _ _ _ b0 b1 b2 b3).mono ?_
      rintro e w1 ⟨rfl, hg⟩
      rw [H2.out]
      have k0 := hg.cell' (b := w.heap.size) (o := 0) (v := .int .i64 b.1) (by first | (simp [go_sem]; done) | (simp [*, go_sem]; done) | (go_cell; done))
      have k1 := hg.cell' (b := w.heap.size) (o := 1) (v := .int .i64 b.2.1) (by first | (simp [go_sem]; done) | (simp [*, go_sem]; done) | (go_cell; done))
      have k2 := hg.cell' (b := w.heap.size) (o := 2) (v := .int .i64 b.2.2.1) (by first | (simp [go_sem]; done) | (simp [*, go_sem]; done) | (go_cell; done))
      have k3 := hg.cell' (b := w.heap.size) (o := 3) (v := .int .i64 b.2.2.2) (by first | (simp [go_sem]; done) | (simp [*, go_sem]; done) | (go_cell; done))
      have hw : Grew w w1 := Grew.trans (by (repeat' (first | exact Grew.refl _ | assumption | refine Grew.alloc ?_ _ | refine Grew.drew ?_ | refine Grew.drewN ?_ _ | refine Grew.setCell ?_ ?_ _ | (simp; done) | (simp; omega)))) hg
      clear hg
      have h' := h.grew hw
      have c1 := h'.cell
      have hB1 := lt_of_cell c1
      have hB2 := lt_of_cell k0
      have hlook := h'.map.look_ok hk
      by_cases h3 : hasL l k = true
      · have eE : putE l k b = 11 := by simp [putE, e1, H2.out, h3]
        have eS : putS l k b = l := by simp [putS, eE]
        have E1 := Lib.hid eE
        have E2 := Lib.hid eS
        clear eE eS
        unfold bxV at hlook
        go_wp2_with fail
        go_ret
        refine ⟨ret_int E1.out.symm, ?_⟩
        rw [E2.out]
        have hw2 : Grew w (w1.alloc (.cells #[.int .i64 (getL l k).1, .int .i64 (getL l k).2.1, .int .i64 (getL l k).2.2.1, .int .i64 (getL l k).2.2.2] 32)) := by (repeat' (first | exact Grew.refl _ | assumption | refine Grew.alloc ?_ _ | refine Grew.drew ?_ | refine Grew.drewN ?_ _ | refine Grew.setCell ?_ ?_ _ | (simp; done) | (simp; omega)))
        exact ⟨h.grew hw2, hw2.kp _⟩
      · have h3' : hasL l k = false := by simpa using h3
        unfold bxV at hlook
        rw [h3'] at hlook
        generalize hv0 : getL l k = v0 at hlook
        have hlen := fun W (hW : Grew w1 W) => (h'.grew hW).map.len
        by_cases h4 : 256 ≤ l.length
        · have eE : putE l k b = 10 := by simp [putE, e1, H2.out, h3', h4]
          have eS : putS l k b = l := by simp [putS, eE]
          have E1 := Lib.hid eE
          have E2 := Lib.hid eS
          have hw2 : Grew w1 (w1.alloc (.cells #[.int .i64 v0.1, .int .i64 v0.2.1, .int .i64 v0.2.2.1, .int .i64 v0.2.2.2] 32)) := by (repeat' (first | exact Grew.refl _ | assumption | refine Grew.alloc ?_ _ | refine Grew.drew ?_ | refine Grew.drewN ?_ _ | refine Grew.setCell ?_ ?_ _ | (simp; done) | (simp; omega)))
          have hl2 := hlen _ hw2
          clear eE eS h3 h3' hlen hv0 h2
          go_wp2_with fail
          go_ret
          refine ⟨ret_int E1.out.symm, ?_⟩
          rw [E2.out]
          have hw2 := hw.trans hw2
          exact ⟨h.grew hw2, hw2.kp _⟩
        · have eE : putE l k b = 0 := by simp [putE, e1, H2.out, h3', h4]
          have eS : putS l k b = putL l k b := by simp [putS, eE]
          have hle : (putL l k b).length ≤ 256 := by rw [length_put h.ok.asc, h3']; simp; omega
          have hok := h.ok.put h1 h2 hle
          have E1 := Lib.hid eE
          have E2 := Lib.hid eS
          have hw2 : Grew w1 (w1.alloc (.cells #[.int .i64 v0.1, .int .i64 v0.2.1, .int .i64 v0.2.2.1, .int .i64 v0.2.2.2] 32)) := by (repeat' (first | exact Grew.refl _ | assumption | refine Grew.alloc ?_ _ | refine Grew.drew ?_ | refine Grew.drewN ?_ _ | refine Grew.setCell ?_ ?_ _ | (simp; done) | (simp; omega)))
          have hl2 := hlen _ hw2
          have h4' : (l.length : Int) < 256 := by omega
          clear eE eS h3 h3' hlen hv0 h2 hle
          go_wp2_with fail
          generalize hW : w1.alloc (.cells #[.int .i64 v0.1, .int .i64 v0.2.1, .int .i64 v0.2.2.1, .int .i64 v0.2.2.2] 32) = W2 at *
          replace c1 := hw2.cell' c1
          replace k0 := hw2.cell' k0
          replace k1 := hw2.cell' k1
          replace k2 := hw2.cell' k2
          replace k3 := hw2.cell' k3
          have hm := (h'.grew (hw2.drew)).map
          obtain ⟨w3, hrun, hm3, ht3⟩ := hm.store h.ok.asc (by unfold maxLen; have := h.ok.small; omega) hk b
          unfold bxV at hrun
          have hk3 : Kp [mb] W2 w3 := Kp.turned ((Kp.refl _ _).drew) ht3 (by simp)
          have ne1 : sb ∉ [mb] := by simp [h.ne]
          have ne2 : w.heap.size ∉ [mb] := by have := h.lt; simp; omega
          have s0 := hk3.cell c1 ne1
          have s1 := hk3.cell k0 ne2
          have s2 := hk3.cell k1 ne2
          have s3 := hk3.cell k2 ne2
          have s4 := hk3.cell k3 ne2
          have hfin : Kp [mb] w w3 := Kp.trans ((hw.trans hw2).kp _) hk3
          have hsw : SweepAt w3 sb mb (putL l k b) := ⟨s0, hm3, hok⟩
          clear hlook hl2 hm ne1 ne2 hk3 hw2 hw h' ht3 hm3
          go_region_held3 (fun W => W.cell? ⟨sb, 0, none⟩ = some (.map (some mb)) ∧ W.cell? ⟨w.heap.size, 0, none⟩ = some (.int .i64 b.1) ∧ W.cell? ⟨w.heap.size, 1, none⟩ = some (.int .i64 b.2.1) ∧ W.cell? ⟨w.heap.size, 2, none⟩ = some (.int .i64 b.2.2.1) ∧ W.cell? ⟨w.heap.size, 3, none⟩ = some (.int .i64 b.2.2.2)) (go_keep) (fail)
          go_wp2_with fail
          go_ret
          refine ⟨ret_int E1.out.symm, ?_⟩
          rw [E2.out]
          exact ⟨hsw, hfin⟩

/-- What Drop returns, and what it leaves. -/
def dropE (l : Sw) (k : Int) : Int := if idE k ≠ 0 then idE k else if hasL l k = true then 0 else 9
def dropS (l : Sw) (k : Int) : Sw := if dropE l k = 0 then delL l k else l

set_option maxHeartbeats 1000000 in
set_option maxRecDepth 100000 in
theorem drop_any (sb mb : Nat) (l : Sw) (k : Int) (w : World) (h : SweepAt w sb mb l) (hk : I64 k) :
    Calls Tryz.prog 52 #[.pointer (some ⟨sb, 0, none⟩), .int .i64 k] w fun e w' => e = .returned (.int .i64 (dropE l k)) ∧ SweepAt w' sb mb (dropS l k) ∧ Kp [mb] w w' := by
  have c0 := h.cell
  have hB := lt_of_cell c0
  by_cases h1 : 0 ≤ k ∧ k ≤ 2147483647
  case neg =>
    have e1 := idE_three h1
    have eE : dropE l k = 3 := by simp [dropE, e1]
    have eS : dropS l k = l := by simp [dropS, eE]
    rw [eE, eS]
    clear eE eS
    go_enter Tryz.func52, Tryz.ntmps52
    go_wp2_with fail
    refine (checkId_any sb mb k _ (by first | (simp [go_sem]; done) | (simp [*, go_sem]; done) | (go_cell; done))).mono ?_
    rintro e w1 ⟨rfl, rfl⟩
    rw [e1]
    go_wp2_with fail
    go_ret
    exact ⟨rfl, h, Kp.refl _ _⟩
  case pos =>
    have e1 := idE_zero h1
    have hlook := h.map.look_ok hk
    unfold bxV at hlook
    obtain ⟨v0, hv0⟩ : ∃ v0, getL l k = v0 := ⟨_, rfl⟩
    rw [hv0] at hlook
    have hw2 : Grew w (w.alloc (.cells #[.int .i64 v0.1, .int .i64 v0.2.1, .int .i64 v0.2.2.1, .int .i64 v0.2.2.2] 32)) := by (repeat' (first | exact Grew.refl _ | assumption | refine Grew.alloc ?_ _ | refine Grew.drew ?_ | refine Grew.drewN ?_ _ | refine Grew.setCell ?_ ?_ _ | (simp; done) | (simp; omega)))
    by_cases h3 : hasL l k = true
    · have eE : dropE l k = 0 := by simp [dropE, e1, h3]
      have eS : dropS l k = delL l k := by simp [dropS, eE]
      rw [eE, eS]
      rw [h3] at hlook
      obtain ⟨w3, hrun, hm3, ht3⟩ := (h.grew hw2).map.drop hk 0
      have hrun' : ∀ ty, (Builtin.delete_ #[84, 3] ty #[.map (some mb), .int .i64 k]).run Tryz.prog (w.alloc (.cells #[.int .i64 v0.1, .int .i64 v0.2.1, .int .i64 v0.2.2.1, .int .i64 v0.2.2.2] 32)) = .ok (.tuple #[]) w3 := fun _ => hrun
      have hk3 : Kp [mb] w w3 := Kp.turned (hw2.kp _) ht3 (by simp)
      have hsw : SweepAt w3 sb mb (delL l k) := ⟨hk3.cell c0 (by simp [h.ne]), hm3, h.ok.del k⟩
      clear eE eS h3 hv0 hw2 ht3 hm3 hrun
      go_enter Tryz.func52, Tryz.ntmps52
      go_wp2_with fail
      refine (checkId_any sb mb k _ (by first | (simp [go_sem]; done) | (simp [*, go_sem]; done) | (go_cell; done))).mono ?_
      rintro e w1 ⟨rfl, rfl⟩
      rw [e1]
      go_wp2_with fail
      go_ret
      exact ⟨rfl, hsw, hk3⟩
    · have h3' : hasL l k = false := by simpa using h3
      have eE : dropE l k = 9 := by simp [dropE, e1, h3']
      have eS : dropS l k = l := by simp [dropS, eE]
      rw [eE, eS]
      rw [h3'] at hlook
      clear eE eS h3 hv0 h3'
      go_enter Tryz.func52, Tryz.ntmps52
      go_wp2_with fail
      refine (checkId_any sb mb k _ (by first | (simp [go_sem]; done) | (simp [*, go_sem]; done) | (go_cell; done))).mono ?_
      rintro e w1 ⟨rfl, rfl⟩
      rw [e1]
      go_wp2_with fail
      go_ret
      exact ⟨rfl, h.grew hw2, hw2.kp _⟩

end Go.Proofs.YtcelamaiebjdaaaGreat

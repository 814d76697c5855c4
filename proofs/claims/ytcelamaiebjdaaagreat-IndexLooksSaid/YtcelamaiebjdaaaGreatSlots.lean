/- Contracts of the methods of tables of slots. -/
import Derived.Test.YtcelamaiebjdaaaGreatMarks
import Derived.BigQuiet
import Derived.Deep.QuietTactic
namespace Go.Proofs.YtcelamaiebjdaaaGreat
open Go.RowKit

/-- At block sb lies a table of slots: its marks s, its generations in block gb; of slot i the generation is gens[i], and it is taken if tk[i]. -/
structure SlotsR (w : World) (sb gb s cap : Nat) (gens : List Int) (tk : List Bool) : Prop where
  c0 : w.cell? ⟨sb, 0, none⟩ = some (.int .u64 s)
  f0 : w.frozen? ⟨sb, 0, none⟩ = false
  c1 : w.cell? ⟨sb, 1, none⟩ = some (.slice (some ⟨gb, 0, none⟩) gens.length cap)
  mask : Mask s tk
  row : SlI w 0 (.slice (some ⟨gb, 0, none⟩) gens.length cap) gens
  ne : sb ≠ gb
  most : 1 ≤ gens.length ∧ gens.length ≤ 64
  len : tk.length = gens.length
  gen : ∀ g ∈ gens, 0 ≤ g ∧ g ≤ 2147483647
def SlotsAt (w : World) (sb gb : Nat) (gens : List Int) (tk : List Bool) : Prop := ∃ s cap, SlotsR w sb gb s cap gens tk

theorem SlotsR.lt {w : World} {sb gb s cap : Nat} {gens : List Int} {tk : List Bool} (h : SlotsR w sb gb s cap gens tk) : sb < w.heap.size ∧ gb < w.heap.size := ⟨lt_of_cell h.c0, h.row.len.2.2.1⟩
theorem SlotsR.kp {bs : List Nat} {w w' : World} {sb gb s cap : Nat} {gens : List Int} {tk : List Bool} (h : SlotsR w sb gb s cap gens tk) (k : Kp bs w w') (h1 : sb ∉ bs) (h2 : gb ∉ bs) : SlotsR w' sb gb s cap gens tk :=
  ⟨k.cell h.c0 h1, (World.frozen?_of_block (w := w) (a := ⟨sb, 0, none⟩) (k.block sb h.lt.1 h1)).trans h.f0, k.cell h.c1 h1, h.mask, h.row.kp k (fun g hg => by injection hg with e; subst e; exact h2), h.ne, h.most, h.len, h.gen⟩
theorem SlotsAt.lt {w : World} {sb gb : Nat} {gens : List Int} {tk : List Bool} (h : SlotsAt w sb gb gens tk) : sb < w.heap.size ∧ gb < w.heap.size := by obtain ⟨_, _, h⟩ := h; exact h.lt
theorem SlotsAt.kp {bs : List Nat} {w w' : World} {sb gb : Nat} {gens : List Int} {tk : List Bool} (h : SlotsAt w sb gb gens tk) (k : Kp bs w w') (h1 : sb ∉ bs) (h2 : gb ∉ bs) : SlotsAt w' sb gb gens tk := by
  obtain ⟨s, cap, h⟩ := h; exact ⟨s, cap, h.kp k h1 h2⟩
theorem SlotsAt.grew {w w' : World} {sb gb : Nat} {gens : List Int} {tk : List Bool} (h : SlotsAt w sb gb gens tk) (k : Grew w w') : SlotsAt w' sb gb gens tk := h.kp (k.kp []) (by simp) (by simp)

set_option maxHeartbeats 400000 in
theorem slNone_any (sb n cap : Nat) (p : Option Addr) (w : World) (hn : 1 ≤ n) (c1 : w.cell? ⟨sb, 1, none⟩ = some (.slice p n cap)) :
    Calls Tryz.prog 91 #[.pointer (some ⟨sb, 0, none⟩)] w fun e w' => e = .returned (.bool false) ∧ w = w' := by
  have h0 : ((n : Int) == 0) = false := beq_eq_false_iff_ne.2 (by omega)
  go_enter Tryz.func91, Tryz.ntmps91
  go_wp2_with fail
  go_ret
  exact ⟨rfl, rfl⟩

/-- What NewSlots returns. -/
def NewSl (most : Int) (w : World) (e : Ending) (w' : World) : Prop :=
  if 1 ≤ most ∧ most ≤ 64 then ∃ sb gb, e = .returned (.tuple #[.pointer (some ⟨sb, 0, none⟩), .int .i64 0]) ∧ SlotsAt w' sb gb (List.replicate most.toNat 0) (List.replicate most.toNat false) ∧ Grew w w' ∧ w.heap.size ≤ sb ∧ w.heap.size ≤ gb
  else e = .returned (.tuple #[.pointer none, .int .i64 3]) ∧ Grew w w'

theorem infoI' : (Tryz.prog.info? 3).map (fun i => (i.zero, i.size, i.bytes)) = some (some (.int .i64 0), 1, 8) := by kernel_rfl

set_option maxHeartbeats 400000 in
set_option maxRecDepth 100000 in
theorem newSlots_any (most : Int) (w : World) : Calls Tryz.prog 22 #[.int .i64 most] w (NewSl most w) := by
  by_cases h : 1 ≤ most ∧ most ≤ 64
  · obtain ⟨n, rfl⟩ := Int.eq_ofNat_of_zero_le (show 0 ≤ most by omega)
    obtain ⟨i, hi, hz, h1, h2⟩ := info_parts infoI'
    obtain ⟨w1, hr, ho, hg⟩ := run_make_full (P := Tryz.prog) w 0 22 3 i _ 1 Tryz.underlying22 hi hz h1 .i64 .i64 n (by rw [h2]; omega) (by unfold maxLen; omega) (by omega)
    have hn1 : (1 : Int) ≤ (n : Int) := h.1
    have hn2 : (n : Int) ≤ 64 := h.2
    have H := Lib.hid h
    have HO := Lib.hid ho
    have HG := Lib.hid hg
    clear h hg hi hz h1 h2 ho
    go_enter Tryz.func22, Tryz.ntmps22
    go_wp2_with fail
    go_ret2
    unfold NewSl
    rw [if_pos H.out]
    have hg : Grew w w1 := ⟨HG.out.os, HG.out.tape, HG.out.output, HG.out.size, fun k hk => HG.out.block k hk (by simp)⟩
    have hlt := (World.ownsRow.lt HO.out w.heap.size rfl).2
    have el : (madeCells (Value.int .i64 0).cells (n * 1)).toList = (List.replicate n (0 : Int)).map zV := by
      rw [Nat.mul_one, show (Value.int .i64 0).cells = #[.int .i64 0] from rfl, toList_madeCells_one, List.map_replicate]
    have hrow : SlI w1 0 (.slice (some ⟨w.heap.size, 0, none⟩) n n) (List.replicate n 0) := by
      unfold SlI
      rw [← el, List.length_replicate]
      exact HO.out
    refine ⟨w1.heap.size, w.heap.size, by simp, ⟨0, n, ?_⟩, hg.alloc _, hg.size, Nat.le_refl _⟩
    rw [Int.toNat_natCast]
    refine ⟨by simp, by simp, by simp, Mask.none n, ?_, by omega, by simp; omega, by simp, fun g hg => ?_⟩
    · rw [List.length_replicate]; exact hrow.grew ((Grew.refl w1).alloc _)
    · have := List.eq_of_mem_replicate hg; omega
  · have H := Lib.hid h
    have hh : most < 1 ∨ 64 < most := by omega
    clear h
    rcases hh with hh | hh
    all_goals
      go_enter Tryz.func22, Tryz.ntmps22
      go_wp2_with fail
      all_goals
        go_ret2
        unfold NewSl
        rw [if_neg H.out]
        exact ⟨rfl, Grew.refl _⟩

/-- There is a slot k, and it is taken; its handle. -/
def atB (gens : List Int) (tk : List Bool) (k : Int) : Bool := decide (0 ≤ k ∧ k < gens.length) && tk.getD k.toNat false
def atG (gens : List Int) (tk : List Bool) (k : Int) : Int × Int := if atB gens tk k = true then (k, gens.getD k.toNat 0) else (0, 0)

set_option maxHeartbeats 1000000 in
set_option maxRecDepth 100000 in
theorem at_any (sb gb : Nat) (gens : List Int) (tk : List Bool) (k : Int) (w : World) (h : SlotsAt w sb gb gens tk) :
    Calls Tryz.prog 67 #[.pointer (some ⟨sb, 0, none⟩), .int .i64 k] w fun e w' =>
      e = .returned (.tuple #[.agg #[.int .i64 (atG gens tk k).1, .int .i64 (atG gens tk k).2], .bool (atB gens tk k)]) ∧ Grew w w' := by
  obtain ⟨s, cap, h⟩ := h
  have c0 := h.c0
  have c1 := h.c1
  have hB := lt_of_cell c0
  have hm := h.most
  obtain ⟨n, hn⟩ : ∃ n, gens.length = n := ⟨_, rfl⟩
  rw [hn] at c1 hm
  by_cases h1 : k < 0
  · have e1 : atB gens tk k = false := by unfold atB; rw [show decide (0 ≤ k ∧ k < (gens.length : Int)) = false from decide_eq_false (by omega)]; rfl
    rw [show atG gens tk k = (0, 0) from by unfold atG; rw [e1]; rfl, e1]
    clear e1 hn h
    go_enter Tryz.func67, Tryz.ntmps67
    go_wp2_with fail
    refine (slNone_any sb n cap (some ⟨gb, 0, none⟩) _ hm.1 (by first | (simp [go_sem]; done) | (simp [*, go_sem]; done) | (go_cell; done))).mono ?_
    rintro e w1 ⟨rfl, rfl⟩
    go_wp2_with fail
    go_returns
    exact ⟨rfl, by (repeat' (first | exact Grew.refl _ | assumption | refine Grew.alloc ?_ _ | refine Grew.drew ?_ | refine Grew.drewN ?_ _ | refine Grew.setCell ?_ ?_ _ | (simp; done) | (simp; omega)))⟩
  by_cases h2 : (n : Int) ≤ k
  · have e1 : atB gens tk k = false := by unfold atB; rw [show decide (0 ≤ k ∧ k < (gens.length : Int)) = false from decide_eq_false (by omega)]; rfl
    rw [show atG gens tk k = (0, 0) from by unfold atG; rw [e1]; rfl, e1]
    clear e1 hn h
    go_enter Tryz.func67, Tryz.ntmps67
    go_wp2_with fail
    refine (slNone_any sb n cap (some ⟨gb, 0, none⟩) _ hm.1 (by first | (simp [go_sem]; done) | (simp [*, go_sem]; done) | (go_cell; done))).mono ?_
    rintro e w1 ⟨rfl, rfl⟩
    go_wp2_with fail
    go_returns
    exact ⟨rfl, by (repeat' (first | exact Grew.refl _ | assumption | refine Grew.alloc ?_ _ | refine Grew.drew ?_ | refine Grew.drewN ?_ _ | refine Grew.setCell ?_ ?_ _ | (simp; done) | (simp; omega)))⟩
  obtain ⟨i, rfl⟩ := Int.eq_ofNat_of_zero_le (show 0 ≤ k by omega)
  have hin : i < gens.length := by omega
  have hi64 : i < 64 := by omega
  have eD : decide (0 ≤ (i : Int) ∧ (i : Int) < (gens.length : Int)) = true := decide_eq_true (by omega)
  have hbit := h.mask.bit i hi64
  have hlt := h.mask.lt
  have ci := h.row.cell i hin
  cases hb : tk.getD i false
  · have e1 : atB gens tk (i : Int) = false := by unfold atB; rw [eD, Int.toNat_natCast, hb]; rfl
    rw [show atG gens tk (i : Int) = (0, 0) from by unfold atG; rw [e1]; rfl, e1]
    rw [hb] at hbit
    have HB := Lib.hid hbit
    have hk2 : (i : Int) < (n : Int) := by omega
    clear e1 h eD hb ci hbit h1 h2 hn
    go_enter Tryz.func67, Tryz.ntmps67
    go_wp2_with fail
    refine (slNone_any sb n cap (some ⟨gb, 0, none⟩) _ hm.1 (by first | (simp [go_sem]; done) | (simp [*, go_sem]; done) | (go_cell; done))).mono ?_
    rintro e w1 ⟨rfl, rfl⟩
    go_wp2_with fail
    refine (on_any sb s i _ hi64 hlt (by first | (simp [go_sem]; done) | (simp [*, go_sem]; done) | (go_cell; done))).mono ?_
    rintro e w1 ⟨rfl, rfl⟩
    rw [HB.out]
    go_wp2_with fail
    go_returns
    exact ⟨rfl, by (repeat' (first | exact Grew.refl _ | assumption | refine Grew.alloc ?_ _ | refine Grew.drew ?_ | refine Grew.drewN ?_ _ | refine Grew.setCell ?_ ?_ _ | (simp; done) | (simp; omega)))⟩
  · have e1 : atB gens tk (i : Int) = true := by unfold atB; rw [eD, Int.toNat_natCast, hb]; rfl
    rw [show atG gens tk (i : Int) = ((i : Int), gens[i]) from by unfold atG; rw [e1, Int.toNat_natCast, List.getD_eq_getElem?_getD, List.getElem?_eq_getElem hin]; rfl, e1]
    rw [hb] at hbit
    have HB := Lib.hid hbit
    have hk2 : (i : Int) < (n : Int) := by omega
    have hgb := h.lt.2
    generalize gens[i] = gv at ci
    clear e1 h eD hb hbit h1 h2 hn
    go_enter Tryz.func67, Tryz.ntmps67
    go_wp2_with fail
    refine (slNone_any sb n cap (some ⟨gb, 0, none⟩) _ hm.1 (by first | (simp [go_sem]; done) | (simp [*, go_sem]; done) | (go_cell; done))).mono ?_
    rintro e w1 ⟨rfl, rfl⟩
    go_wp2_with fail
    refine (on_any sb s i _ hi64 hlt (by first | (simp [go_sem]; done) | (simp [*, go_sem]; done) | (go_cell; done))).mono ?_
    rintro e w1 ⟨rfl, rfl⟩
    rw [HB.out]
    go_wp2_with fail
    go_returns
    exact ⟨rfl, by (repeat' (first | exact Grew.refl _ | assumption | refine Grew.alloc ?_ _ | refine Grew.drew ?_ | refine Grew.drewN ?_ _ | refine Grew.setCell ?_ ?_ _ | (simp; done) | (simp; omega)))⟩

end Go.Proofs.YtcelamaiebjdaaaGreat

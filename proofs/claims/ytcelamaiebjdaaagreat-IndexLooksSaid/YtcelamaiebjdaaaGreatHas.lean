/- Contracts of Has, Free and Gen of a table of slots. -/
import Derived.Test.YtcelamaiebjdaaaGreatSlots
import Derived.Test.YtcelamaiebjdaaaGreatEq
import Derived.Deep.RegionHeld3
import Derived.Deep.DrawnRows
namespace Go.Proofs.YtcelamaiebjdaaaGreat
open Go.RowKit
attribute [local go_sem ↓] Go.wp_at_zero Go.wp_at_succ

/-- The handle is valid. -/
def hasB (gens : List Int) (tk : List Bool) (slot gen : Int) : Bool := atB gens tk slot && ((atG gens tk slot).1 == slot && (atG gens tk slot).2 == gen)

set_option maxHeartbeats 1000000 in
set_option maxRecDepth 100000 in
theorem has_any (sb gb : Nat) (gens : List Int) (tk : List Bool) (slot gen : Int) (w : World) (h : SlotsAt w sb gb gens tk) :
    Calls Tryz.prog 43 #[.pointer (some ⟨sb, 0, none⟩), .agg #[.int .i64 slot, .int .i64 gen]] w fun e w' =>
      e = .returned (.bool (hasB gens tk slot gen)) ∧ Grew w w' := by
  have hS := Lib.hid h
  have hB := h.lt.1
  clear h
  unfold hasB
  generalize hb : atB gens tk slot = b
  generalize hp : (atG gens tk slot).1 = p
  generalize hq : (atG gens tk slot).2 = q
  have HB := Lib.hid (show atB gens tk slot = b ∧ (atG gens tk slot).1 = p ∧ (atG gens tk slot).2 = q from ⟨hb, hp, hq⟩)
  have E := fun w => eqHandle p q slot gen w
  clear hb hp hq
  cases b
  all_goals
    go_enter Tryz.func43, Tryz.ntmps43
    go_wp2_with fail
    refine (at_any sb gb gens tk slot _ (hS.out.grew (by (repeat' (first | exact Grew.refl _ | assumption | refine Grew.alloc ?_ _ | refine Grew.drew ?_ | refine Grew.drewN ?_ _ | refine Grew.setCell ?_ ?_ _ | (simp; done) | (simp; omega)))))).mono ?_
    rintro e w1 ⟨rfl, hg⟩
    rw [HB.out.1, HB.out.2.1, HB.out.2.2]
    have k0 : w1.cell? ⟨w.heap.size, 0, none⟩ = some (.int .i64 slot) := hg.cell' (by first | (simp [go_sem]; done) | (simp [*, go_sem]; done) | (go_cell; done))
    have k1 : w1.cell? ⟨w.heap.size, 1, none⟩ = some (.int .i64 gen) := hg.cell' (by first | (simp [go_sem]; done) | (simp [*, go_sem]; done) | (go_cell; done))
    have l1 := lt_of_cell k0
    have hw : Grew w w1 := Grew.trans (by (repeat' (first | exact Grew.refl _ | assumption | refine Grew.alloc ?_ _ | refine Grew.drew ?_ | refine Grew.drewN ?_ _ | refine Grew.setCell ?_ ?_ _ | (simp; done) | (simp; omega)))) hg
    clear hg
    go_wp2_with fail
    go_ret
    exact ⟨rfl, by (repeat' (first | exact Grew.refl _ | assumption | refine Grew.alloc ?_ _ | refine Grew.drew ?_ | refine Grew.drewN ?_ _ | refine Grew.setCell ?_ ?_ _ | (simp; done) | (simp; omega)))⟩

/-- What Free returns, and which slots are taken then. -/
def freeE (gens : List Int) (tk : List Bool) (slot gen : Int) : Int := if hasB gens tk slot gen = true then 0 else 9
def freeS (gens : List Int) (tk : List Bool) (slot gen : Int) : List Bool := if hasB gens tk slot gen = true then tk.set slot.toNat false else tk

theorem SlotsR.mask' {w w' : World} {sb gb s s' cap : Nat} {gens : List Int} {tk tk' : List Bool} (h : SlotsR w sb gb s cap gens tk) (k : Kp [sb] w w')
    (c : w'.cell? ⟨sb, 0, none⟩ = some (.int .u64 s')) (f : w'.frozen? ⟨sb, 0, none⟩ = false) (c1 : w'.cell? ⟨sb, 1, none⟩ = some (.slice (some ⟨gb, 0, none⟩) gens.length cap))
    (m : Mask s' tk') (l : tk'.length = tk.length) : SlotsR w' sb gb s' cap gens tk' :=
  ⟨c, f, c1, m, h.row.kp k (fun g hg => by injection hg with e; subst e; simp; exact fun e => h.ne e.symm), h.ne, h.most, l.trans h.len, h.gen⟩

theorem Kp.store {bs : List Nat} {a w : World} (h : Kp bs a w) {b : Nat} (hb : b ∈ bs) (o : Nat) (u : Value) : Kp bs a (w.setCell ⟨b, o, none⟩ u) :=
  h.trans ⟨rfl, rfl, rfl, by simp [World.setCell], fun k hk hn => Below.heap_setCell _ _ _ _ (by show k ≠ b; exact fun e => hn (by rw [e]; exact hb))⟩
theorem SlotsR.remask {w : World} {sb gb s cap : Nat} {gens : List Int} {tk : List Bool} (h : SlotsR w sb gb s cap gens tk) (s' : Nat) (tk' : List Bool) (m : Mask s' tk') (l : tk'.length = tk.length) :
    SlotsR (w.setCell ⟨sb, 0, none⟩ (.int .u64 s')) sb gb s' cap gens tk' := by
  have c0 := h.c0
  have c1 := h.c1
  have f0 := h.f0
  exact h.mask' ((Kp.refl [sb] w).store (by simp) 0 _) (by simp [c0, go_sem]) (by simp [f0, go_sem]) (by simp [c1, go_sem]) m l

set_option maxHeartbeats 1000000 in
set_option maxRecDepth 100000 in
theorem free_any (sb gb : Nat) (gens : List Int) (tk : List Bool) (slot gen : Int) (w : World) (h : SlotsAt w sb gb gens tk) :
    Calls Tryz.prog 42 #[.pointer (some ⟨sb, 0, none⟩), .agg #[.int .i64 slot, .int .i64 gen]] w fun e w' =>
      e = .returned (.int .i64 (freeE gens tk slot gen)) ∧ SlotsAt w' sb gb gens (freeS gens tk slot gen) ∧ Kp [sb] w w' := by
  have hS := Lib.hid h
  have hB := h.lt.1
  obtain ⟨s, cap, h⟩ := h
  have c0 := h.c0
  have f0 := h.f0
  have c1 := h.c1
  have hm := h.most
  have hlt := h.mask.lt
  have HR := Lib.hid h
  clear h
  unfold freeE freeS
  generalize hb : hasB gens tk slot gen = b
  have HB := Lib.hid hb
  cases b
  case false =>
    clear hb
    go_enter Tryz.func42, Tryz.ntmps42
    go_wp2_with fail
    refine (slNone_any sb gens.length cap (some ⟨gb, 0, none⟩) _ hm.1 (by first | (simp [go_sem]; done) | (simp [*, go_sem]; done) | (go_cell; done))).mono ?_
    rintro e w1 ⟨rfl, rfl⟩
    go_wp2_with fail
    refine (has_any sb gb gens tk slot gen _ (hS.out.grew (by (repeat' (first | exact Grew.refl _ | assumption | refine Grew.alloc ?_ _ | refine Grew.drew ?_ | refine Grew.drewN ?_ _ | refine Grew.setCell ?_ ?_ _ | (simp; done) | (simp; omega)))))).mono ?_
    rintro e w1 ⟨rfl, hg⟩
    rw [HB.out]
    have hw : Grew w w1 := Grew.trans (by (repeat' (first | exact Grew.refl _ | assumption | refine Grew.alloc ?_ _ | refine Grew.drew ?_ | refine Grew.drewN ?_ _ | refine Grew.setCell ?_ ?_ _ | (simp; done) | (simp; omega)))) hg
    clear hg
    go_wp2_with fail
    go_ret
    exact ⟨rfl, hS.out.grew hw, hw.kp _⟩
  case true =>
    have hat : atB gens tk slot = true := by unfold hasB at hb; simp only [Bool.and_eq_true] at hb; exact hb.1
    have hr : 0 ≤ slot ∧ slot < gens.length := by unfold atB at hat; simp only [Bool.and_eq_true, decide_eq_true_eq] at hat; exact hat.1
    obtain ⟨i, rfl⟩ := Int.eq_ofNat_of_zero_le hr.1
    have hi64 : i < 64 := by omega
    have hM := Lib.hid (HR.out.mask.clear (i := i) hi64)
    clear hb hat
    go_enter Tryz.func42, Tryz.ntmps42
    go_wp2_with fail
    refine (slNone_any sb gens.length cap (some ⟨gb, 0, none⟩) _ hm.1 (by first | (simp [go_sem]; done) | (simp [*, go_sem]; done) | (go_cell; done))).mono ?_
    rintro e w1 ⟨rfl, rfl⟩
    go_wp2_with fail
    refine (has_any sb gb gens tk (i : Int) gen _ (hS.out.grew (by (repeat' (first | exact Grew.refl _ | assumption | refine Grew.alloc ?_ _ | refine Grew.drew ?_ | refine Grew.drewN ?_ _ | refine Grew.setCell ?_ ?_ _ | (simp; done) | (simp; omega)))))).mono ?_
    rintro e w1 ⟨rfl, hg⟩
    rw [HB.out]
    have k0 : w1.cell? ⟨w.heap.size, 0, none⟩ = some (.int .i64 i) := hg.cell' (by first | (simp [go_sem]; done) | (simp [*, go_sem]; done) | (go_cell; done))
    have k1 : w1.cell? ⟨w.heap.size, 1, none⟩ = some (.int .i64 gen) := hg.cell' (by first | (simp [go_sem]; done) | (simp [*, go_sem]; done) | (go_cell; done))
    have hw : Grew w w1 := Grew.trans (by (repeat' (first | exact Grew.refl _ | assumption | refine Grew.alloc ?_ _ | refine Grew.drew ?_ | refine Grew.drewN ?_ _ | refine Grew.setCell ?_ ?_ _ | (simp; done) | (simp; omega)))) hg
    have m0 := hw.cell' c0
    have m1 := hw.cell' c1
    have mf : w1.frozen? ⟨sb, 0, none⟩ = false := (World.frozen?_of_block (w := w) (a := ⟨sb, 0, none⟩) (hw.block sb hB)).trans f0
    have hne : sb ≠ w.heap.size := by omega
    have HW := Lib.hid hw
    clear hg hw
    go_wp2_with fail
    go_region_held3 (fun W' => W'.cell? ⟨w.heap.size, 0, none⟩ = some (.int .i64 i))
      (first | (simp [*, go_sem]; done) | (go_cell; done))
      (first | (go_at_call 93; refine (clear_any sb s i _ hi64 hlt ?_ ?_).mono ?_; (· simp [*, go_sem]); (· simp [*, go_sem]); rintro e w5 ⟨rfl, rfl⟩))
    all_goals
      go_wp2_with fail
      go_ret
      have hM := hM.out
      exact ⟨rfl, ⟨_, _, ((HR.out.kp (HW.out.kp []) (by simp) (by simp)).remask _ _ hM (by simp)).kp (((Grew.refl _).drew).kp []) (by simp) (by simp)⟩, ((HW.out.kp _).store (by simp) _ _).drew⟩

end Go.Proofs.YtcelamaiebjdaaaGreat

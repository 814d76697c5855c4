/- The reference's tables of slots: what is asked of them. -/
import Derived.Test.YtcelamaiebjdaaaGreatTab
import Derived.BigQuiet
import Derived.Deep.QuietTactic
namespace Go.Proofs.YtcelamaiebjdaaaGreat
open Go.RowKit Go.Maps Go.Sort Go.Shelf
attribute [local go_sem ↓] Go.wp_at_zero Go.wp_at_succ

/-- Integers, truth values. -/
def kI : Kind Int where
  ty := 3
  sl := 22
  size := 1
  bytes := 8
  enc := fun x => [.int .i64 x]
  zero := .int .i64 0
  pos := by decide
  len := fun _ => rfl
  one := fun x u hu => by simp at hu; subst hu; rfl
  zsz := rfl
  under := Tryz.underlying22
  info := by kernel_rfl
  small := by decide
def kB : Kind Bool where
  ty := 4
  sl := 61
  size := 1
  bytes := 1
  enc := fun x => [.bool x]
  zero := .bool false
  pos := by decide
  len := fun _ => rfl
  one := fun x u hu => by simp at hu; subst hu; rfl
  zsz := rfl
  under := Tryz.underlying61
  info := by kernel_rfl
  small := by decide
theorem flatIn (xs : List Int) : kI.flat xs = xs.map zV := by
  induction xs with
  | nil => rfl
  | cons x r ih => rw [Kind.flat_cons, ih]; rfl
theorem flatBo (xs : List Bool) : kB.flat xs = xs.map Value.bool := by
  induction xs with
  | nil => rfl
  | cons x r ih => rw [Kind.flat_cons, ih]; rfl
theorem slI_iff {w : World} {B : Nat} {v : Value} {xs : List Int} : Sl kI w B v xs ↔ SlI w B v xs := by
  unfold Sl SlI; rw [flatIn]; exact Iff.rfl
theorem slB_cell {w : World} {B g n cap : Nat} {xs : List Bool} (h : Sl kB w B (.slice (some ⟨g, 0, none⟩) n cap) xs) (j : Nat) (hj : j < xs.length) : w.cell? ⟨g, j, none⟩ = some (.bool xs[j]) := by
  have := h.cell j 0 hj (by decide)
  simpa [kB] using this
theorem slB_stored {w : World} {B g n cap : Nat} {xs : List Bool} (h : Sl kB w B (.slice (some ⟨g, 0, none⟩) n cap) xs) (j : Nat) (u : Bool) : Sl kB (w.setCell ⟨g, j, none⟩ (.bool u)) B (.slice (some ⟨g, 0, none⟩) n cap) (xs.set j u) := by
  obtain ⟨rfl, _, hg, _⟩ := h.len
  have e := (World.ownsRow.stored (g := g) (cap := cap) h j (.bool u)).1
  unfold Sl
  rw [List.length_set, flatBo, List.map_set, ← flatBo]
  exact e

/-- At rb lies a table of the reference: the slots' generations, and which are taken. -/
structure RefR (w : World) (rb rg rt gc tc : Nat) (gens : List Int) (tk : List Bool) : Prop where
  c0 : w.cell? ⟨rb, 0, none⟩ = some (.slice (some ⟨rg, 0, none⟩) gens.length gc)
  c1 : w.cell? ⟨rb, 1, none⟩ = some (.slice (some ⟨rt, 0, none⟩) gens.length tc)
  g : SlI w 0 (.slice (some ⟨rg, 0, none⟩) gens.length gc) gens
  t : Sl kB w 0 (.slice (some ⟨rt, 0, none⟩) gens.length tc) tk
  ne : rb ≠ rg ∧ rb ≠ rt ∧ rg ≠ rt
  most : 1 ≤ gens.length ∧ gens.length ≤ 64
  len : tk.length = gens.length
  gen : ∀ g ∈ gens, 0 ≤ g ∧ g ≤ 2147483647
def RefAt (w : World) (rb rg rt : Nat) (gens : List Int) (tk : List Bool) : Prop := ∃ gc tc, RefR w rb rg rt gc tc gens tk
theorem RefR.lt {w : World} {rb rg rt gc tc : Nat} {gens : List Int} {tk : List Bool} (h : RefR w rb rg rt gc tc gens tk) : rb < w.heap.size ∧ rg < w.heap.size ∧ rt < w.heap.size := ⟨lt_of_cell h.c0, h.g.len.2.2.1, h.t.len.2.2.1⟩
theorem RefR.kp {bs : List Nat} {w w' : World} {rb rg rt gc tc : Nat} {gens : List Int} {tk : List Bool} (h : RefR w rb rg rt gc tc gens tk) (k : Kp bs w w') (h1 : rb ∉ bs) (h2 : rg ∉ bs) (h3 : rt ∉ bs) : RefR w' rb rg rt gc tc gens tk :=
  ⟨k.cell h.c0 h1, k.cell h.c1 h1, h.g.kp k (fun g hg => by injection hg with e; subst e; exact h2), h.t.kp k (fun g hg => by simp [own, Value.ownBlock] at hg; subst hg; exact h3), h.ne, h.most, h.len, h.gen⟩
theorem RefAt.lt {w : World} {rb rg rt : Nat} {gens : List Int} {tk : List Bool} (h : RefAt w rb rg rt gens tk) : rb < w.heap.size ∧ rg < w.heap.size ∧ rt < w.heap.size := by obtain ⟨_, _, h⟩ := h; exact h.lt
theorem RefAt.kp {bs : List Nat} {w w' : World} {rb rg rt : Nat} {gens : List Int} {tk : List Bool} (h : RefAt w rb rg rt gens tk) (k : Kp bs w w') (h1 : rb ∉ bs) (h2 : rg ∉ bs) (h3 : rt ∉ bs) : RefAt w' rb rg rt gens tk := by
  obtain ⟨gc, tc, h⟩ := h; exact ⟨gc, tc, h.kp k h1 h2 h3⟩
theorem RefAt.grew {w w' : World} {rb rg rt : Nat} {gens : List Int} {tk : List Bool} (h : RefAt w rb rg rt gens tk) (k : Grew w w') : RefAt w' rb rg rt gens tk := h.kp (k.kp []) (by simp) (by simp) (by simp)

set_option maxHeartbeats 400000 in
theorem valid_any (rb n gc : Nat) (p : Option Addr) (w : World) (hn : 1 ≤ n) (c0 : w.cell? ⟨rb, 0, none⟩ = some (.slice p n gc)) :
    Calls Tryz.prog 108 #[.pointer (some ⟨rb, 0, none⟩)] w fun e w' => e = .returned (.bool true) ∧ w = w' := by
  go_enter Tryz.func108, Tryz.ntmps108
  go_wp2_with fail
  go_ret
  exact ⟨ret_bool (decide_eq_true (by omega)), rfl⟩

set_option maxHeartbeats 400000 in
theorem refMost_any (rb rg rt : Nat) (gens : List Int) (tk : List Bool) (w : World) (h : RefAt w rb rg rt gens tk) :
    Calls Tryz.prog 66 #[.pointer (some ⟨rb, 0, none⟩)] w fun e w' => e = .returned (.int .i64 gens.length) ∧ w = w' := by
  obtain ⟨gc, tc, h⟩ := h
  have c0 := h.c0
  have hm := h.most.1
  obtain ⟨n, hn⟩ : ∃ n, gens.length = n := ⟨_, rfl⟩
  rw [hn] at c0 hm ⊢
  clear h hn
  go_enter Tryz.func66, Tryz.ntmps66
  go_wp2_with fail
  refine (valid_any rb n gc (some ⟨rg, 0, none⟩) _ hm (by first | (simp [go_sem]; done) | (simp [*, go_sem]; done) | (go_cell; done))).mono ?_
  rintro e w1 ⟨rfl, rfl⟩
  go_wp2_with fail
  go_ret
  exact ⟨rfl, rfl⟩

set_option maxHeartbeats 1000000 in
set_option maxRecDepth 100000 in
theorem refAt_any (rb rg rt : Nat) (gens : List Int) (tk : List Bool) (k : Int) (w : World) (h : RefAt w rb rg rt gens tk) :
    Calls Tryz.prog 68 #[.pointer (some ⟨rb, 0, none⟩), .int .i64 k] w fun e w' =>
      e = .returned (.tuple #[.agg #[.int .i64 (atG gens tk k).1, .int .i64 (atG gens tk k).2], .bool (atB gens tk k)]) ∧ Grew w w' := by
  obtain ⟨gc, tc, h⟩ := h
  have c0 := h.c0
  have c1 := h.c1
  have hm := h.most
  have hB := lt_of_cell c0
  obtain ⟨n, hn⟩ : ∃ n, gens.length = n := ⟨_, rfl⟩
  rw [hn] at c0 c1 hm
  by_cases h1 : k < 0
  · have e1 : atB gens tk k = false := by unfold atB; rw [show decide (0 ≤ k ∧ k < (gens.length : Int)) = false from decide_eq_false (by omega)]; rfl
    rw [show atG gens tk k = (0, 0) from by unfold atG; rw [e1]; rfl, e1]
    clear e1 hn h
    go_enter Tryz.func68, Tryz.ntmps68
    go_wp2_with fail
    refine (valid_any rb n gc (some ⟨rg, 0, none⟩) _ hm.1 (by first | (simp [go_sem]; done) | (simp [*, go_sem]; done) | (go_cell; done))).mono ?_
    rintro e w1 ⟨rfl, rfl⟩
    go_wp2_with fail
    go_returns
    exact ⟨rfl, by (repeat' (first | exact Grew.refl _ | assumption | refine Grew.alloc ?_ _ | refine Grew.drew ?_ | refine Grew.drewN ?_ _ | refine Grew.setCell ?_ ?_ _ | (simp; done) | (simp; omega)))⟩
  by_cases h2 : (n : Int) ≤ k
  · have e1 : atB gens tk k = false := by unfold atB; rw [show decide (0 ≤ k ∧ k < (gens.length : Int)) = false from decide_eq_false (by omega)]; rfl
    rw [show atG gens tk k = (0, 0) from by unfold atG; rw [e1]; rfl, e1]
    clear e1 hn h
    go_enter Tryz.func68, Tryz.ntmps68
    go_wp2_with fail
    refine (valid_any rb n gc (some ⟨rg, 0, none⟩) _ hm.1 (by first | (simp [go_sem]; done) | (simp [*, go_sem]; done) | (go_cell; done))).mono ?_
    rintro e w1 ⟨rfl, rfl⟩
    go_wp2_with fail
    go_returns
    exact ⟨rfl, by (repeat' (first | exact Grew.refl _ | assumption | refine Grew.alloc ?_ _ | refine Grew.drew ?_ | refine Grew.drewN ?_ _ | refine Grew.setCell ?_ ?_ _ | (simp; done) | (simp; omega)))⟩
  obtain ⟨i, rfl⟩ := Int.eq_ofNat_of_zero_le (show 0 ≤ k by omega)
  have hin : i < gens.length := by omega
  have hit : i < tk.length := by rw [h.len]; exact hin
  have eD : decide (0 ≤ (i : Int) ∧ (i : Int) < (gens.length : Int)) = true := decide_eq_true (by omega)
  have ci := h.g.cell i hin
  have cb := slB_cell h.t i hit
  have hge : gens.getD i 0 = gens[i] := by rw [List.getD_eq_getElem?_getD, List.getElem?_eq_getElem hin]; rfl
  have htb : tk.getD i false = tk[i] := by rw [List.getD_eq_getElem?_getD, List.getElem?_eq_getElem hit]; rfl
  have hiz : (i : Int) < (n : Int) ∧ (0 : Int) ≤ (i : Int) := by omega
  obtain ⟨hiz1, hiz2⟩ := hiz
  have hBg := h.lt
  cases hb : tk[i]
  · have e1 : atB gens tk (i : Int) = false := by unfold atB; rw [eD, Int.toNat_natCast, htb, hb]; rfl
    rw [show atG gens tk (i : Int) = (0, 0) from by unfold atG; rw [e1]; rfl, e1]
    rw [hb] at cb
    clear e1 hn h hb eD hge htb
    go_enter Tryz.func68, Tryz.ntmps68
    go_wp2_with fail
    refine (valid_any rb n gc (some ⟨rg, 0, none⟩) _ hm.1 (by first | (simp [go_sem]; done) | (simp [*, go_sem]; done) | (go_cell; done))).mono ?_
    rintro e w1 ⟨rfl, rfl⟩
    go_wp2_with fail
    go_returns
    exact ⟨rfl, by (repeat' (first | exact Grew.refl _ | assumption | refine Grew.alloc ?_ _ | refine Grew.drew ?_ | refine Grew.drewN ?_ _ | refine Grew.setCell ?_ ?_ _ | (simp; done) | (simp; omega)))⟩
  · have e1 : atB gens tk (i : Int) = true := by unfold atB; rw [eD, Int.toNat_natCast, htb, hb]; rfl
    rw [show atG gens tk (i : Int) = ((i : Int), gens[i]) from by unfold atG; rw [e1, if_pos rfl, Int.toNat_natCast, hge], e1]
    rw [hb] at cb
    generalize gens[i] = gv at ci
    clear e1 hn h hb eD hge htb
    go_enter Tryz.func68, Tryz.ntmps68
    go_wp2_with fail
    refine (valid_any rb n gc (some ⟨rg, 0, none⟩) _ hm.1 (by first | (simp [go_sem]; done) | (simp [*, go_sem]; done) | (go_cell; done))).mono ?_
    rintro e w1 ⟨rfl, rfl⟩
    go_wp2_with fail
    go_returns
    exact ⟨rfl, by (repeat' (first | exact Grew.refl _ | assumption | refine Grew.alloc ?_ _ | refine Grew.drew ?_ | refine Grew.drewN ?_ _ | refine Grew.setCell ?_ ?_ _ | (simp; done) | (simp; omega)))⟩

set_option maxHeartbeats 1000000 in
set_option maxRecDepth 100000 in
theorem refGen_any (rb rg rt : Nat) (gens : List Int) (tk : List Bool) (k : Int) (w : World) (h : RefAt w rb rg rt gens tk) :
    Calls Tryz.prog 69 #[.pointer (some ⟨rb, 0, none⟩), .int .i64 k] w fun e w' => e = .returned (.int .i64 (genAt gens k)) ∧ w = w' := by
  obtain ⟨gc, tc, h⟩ := h
  have c0 := h.c0
  have hm := h.most
  obtain ⟨n, hn⟩ : ∃ n, gens.length = n := ⟨_, rfl⟩
  rw [hn] at c0 hm
  by_cases h1 : 0 ≤ k ∧ k < (n : Int)
  · obtain ⟨i, rfl⟩ := Int.eq_ofNat_of_zero_le h1.1
    have hin : i < gens.length := by omega
    have ci := h.g.cell i hin
    have e1 : genAt gens (i : Int) = gens[i] := by unfold genAt; rw [if_pos (by omega), Int.toNat_natCast, List.getD_eq_getElem?_getD, List.getElem?_eq_getElem hin]; rfl
    rw [e1]
    generalize gens[i] = gv at ci
    obtain ⟨h1a, h1b⟩ := h1
    clear e1 hn h
    go_enter Tryz.func69, Tryz.ntmps69
    go_wp2_with fail
    refine (valid_any rb n gc (some ⟨rg, 0, none⟩) _ hm.1 (by first | (simp [go_sem]; done) | (simp [*, go_sem]; done) | (go_cell; done))).mono ?_
    rintro e w1 ⟨rfl, rfl⟩
    go_wp2_with fail
    go_ret
    exact ⟨rfl, rfl⟩
  · have e1 : genAt gens k = 0 := by unfold genAt; rw [if_neg (by rw [hn]; exact h1)]
    rw [e1]
    have h2 : k < 0 ∨ (¬ k < 0 ∧ (n : Int) ≤ k) := by omega
    clear e1 hn h h1
    rcases h2 with h2 | ⟨h2, h3⟩
    all_goals
      go_enter Tryz.func69, Tryz.ntmps69
      go_wp2_with fail
      refine (valid_any rb n gc (some ⟨rg, 0, none⟩) _ hm.1 (by first | (simp [go_sem]; done) | (simp [*, go_sem]; done) | (go_cell; done))).mono ?_
      rintro e w1 ⟨rfl, rfl⟩
      go_wp2_with fail
      go_ret
      exact ⟨rfl, rfl⟩

end Go.Proofs.YtcelamaiebjdaaaGreat

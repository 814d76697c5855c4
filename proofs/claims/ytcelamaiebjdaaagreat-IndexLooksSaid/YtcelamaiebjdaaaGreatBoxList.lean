/- Contracts of At and Boxes: the boxes that a list of integers says. -/
import Derived.Test.YtcelamaiebjdaaaGreatBoxes
import Derived.Deep.LoopGhost
import Derived.Deep.RegionHeld3
import Derived.Deep.DrawnRows
namespace Go.Proofs.YtcelamaiebjdaaaGreat
open Go.RowKit Go.Maps Go.Sort Go.Shelf
attribute [local go_sem ↓] Go.wp_at_zero Go.wp_at_succ

set_option maxHeartbeats 1000000 in
set_option maxRecDepth 100000 in
theorem at0_any (p : Option Addr) (cap : Nat) (xs : List Int) (w : World) (hx : RdI w p xs) (hn : xs.length ≤ maxLen) :
    Calls Tryz.prog 34 #[.slice p xs.length cap, .int .i64 0] w fun e w' => e = .returned (.int .i64 (xs.headD 0)) ∧ Grew w w' := by
  unfold maxLen at hn
  cases xs with
  | nil =>
    show Calls _ _ #[.slice p 0 cap, .int .i64 0] _ _
    go_enter Tryz.func34, Tryz.ntmps34
    go_wp2_with fail
    go_ret
    exact ⟨rfl, Grew.refl _⟩
  | cons x xs =>
    obtain ⟨a, rfl, hab, hca⟩ := hx.resolve_left (by simp)
    have c0 : w.cell? (a.add 0) = some (.int .i64 x) := hca 0 (by simp)
    have c0' : w.cell? a = some (.int .i64 x) := by simpa [Addr.add] using c0
    have e : List.headD (x :: xs) 0 = x := rfl
    rw [e]
    obtain ⟨n, hn'⟩ : ∃ n, (x :: xs).length = n := ⟨_, rfl⟩
    have h0 : 0 < n := by rw [← hn']; simp
    rw [hn'] at hn ⊢
    clear hca hn' e hx
    have hz : ((n : Int) == 0) = false := beq_eq_false_iff_ne.2 (by omega)
    have hm := fun w => mod_any 0 (n : Int) w (by omega)
    rw [Int.zero_emod] at hm
    go_enter Tryz.func34, Tryz.ntmps34
    go_wp2_with fail
    refine (hm _).mono ?_
    rintro e w2 ⟨rfl, rfl⟩
    go_wp2_with fail
    go_ret
    exact ⟨rfl, Grew.refl _⟩

/-- How far, and how large, the boxes are; box number j; the boxes. -/
def spanOf (xs : List Int) : Int := if xs.headD 0 % 5 = 4 then 2097152 else 40
def sizeOfB (xs : List Int) : Int := if xs.headD 0 % 5 = 4 then 2097152 else 20
def boxN (xs : List Int) (j : Nat) : Bx := boxOf (xs.getD (4 * j) 0) (xs.getD (4 * j + 1) 0) (xs.getD (4 * j + 2) 0) (xs.getD (4 * j + 3) 0) (spanOf xs) (sizeOfB xs)
def boxesN (xs : List Int) (k : Nat) : List Bx := (List.range k).map (boxN xs)
def boxesL (xs : List Int) (most : Nat) : List Bx := boxesN xs (min (xs.length / 4) most)

/-- An append of one box at a step of a region that draws its order. -/
theorem stepAppendB {w : World} {ops : Array Oper} {o : Oper} {a : Act} {K : Act → World → Prop} {Q : Exit → Act → World → Prop} {E : Prop} (hgd : o.guard = none) (s x : Operand)
    (ho : o.op = .call { callee := .builtin .append, args := #[s, x], argTypes := #[23, 23] }) (w0 : World) (v : Value) (xs : List Bx) (n : Nat) (hn : xs.length = n) (hs : a.eval s = v) (hw : Grew w0 w) (h : SlB w w0.heap.size v xs) (hl : n < 1000000)
    (M c : Nat) (b : Bx) (hx : a.eval x = .slice (some ⟨M, 0, none⟩) 1 c) (k0 : w.cell? ⟨M, 0, none⟩ = some (.int .i64 b.1)) (k1 : w.cell? ⟨M, 1, none⟩ = some (.int .i64 b.2.1)) (k2 : w.cell? ⟨M, 2, none⟩ = some (.int .i64 b.2.2.1)) (k3 : w.cell? ⟨M, 3, none⟩ = some (.int .i64 b.2.2.2))
    (h6 : ∀ g cap w', SlB w' w0.heap.size (.slice (some ⟨g, 0, none⟩) (n + 1) cap) (xs ++ [b]) → Grew w0 w' → K (a.put o.dst (.slice (some ⟨g, 0, none⟩) (n + 1) cap)) w') :
    if Region.wanted o (yielded ops a.tmps) = true then Oper.wp Tryz.prog o a w K Q else E := by
  subst hn
  obtain ⟨i, hi, hz, h1, h2⟩ := info_parts infoB
  refine step_append_lies w hgd s x 23 ho w0.heap.size 32 i _ 4 32 Tryz.underlying23 hi hz h1 h2 rfl (by decide) v xs.length (flatB xs) hs h ⟨M, 0, none⟩ 1 c (encB b) hx rfl (fun j u hj => ?_) (fun u hu => by simp [encB] at hu; rcases hu with rfl | rfl | rfl | rfl <;> rfl) (by decide) (by unfold maxLen; omega) (by omega) hw.size _ rfl ?_
  · match j with
    | 0 => simp [encB] at hj; subst hj; simpa [Addr.add] using k0
    | 1 => simp [encB] at hj; subst hj; simpa [Addr.add] using k1
    | 2 => simp [encB] at hj; subst hj; simpa [Addr.add] using k2
    | 3 => simp [encB] at hj; subst hj; simpa [Addr.add] using k3
    | j + 4 => simp [encB] at hj
  · intro g cap w' ho' hg' _ _
    refine h6 g cap w' ?_ (Kp.grewOf hw (kp_of_grownBy hg') fun x hx => (h.own_ge x hx).1)
    unfold SlB
    rw [List.length_append, show flatB (xs ++ [b]) = flatB xs ++ encB b from by simp [flatB]]
    exact ho'

def NewBoxes (xs : List Int) (most : Nat) (w : World) (e : Ending) (w' : World) : Prop :=
  ∃ v, e = .returned v ∧ SlB w' w.heap.size v (boxesL xs most) ∧ Grew w w'

set_option maxHeartbeats 1000000 in
set_option maxRecDepth 100000 in
theorem boxes_any (p : Option Addr) (cap most : Nat) (xs : List Int) (w : World) (hx : RdI w p xs) (hn : xs.length ≤ maxLen) (hm : most ≤ 1000) :
    Calls Tryz.prog 8 #[.slice p xs.length cap, .int .i64 most] w (NewBoxes xs most w) := by
  have hn0 := hn
  unfold maxLen at hn
  have hX := Lib.hid hx
  obtain ⟨n, hn'⟩ : ∃ n, xs.length = n := ⟨_, rfl⟩
  have HN := Lib.hid hn'
  have A0 := fun w' (h : Grew w w') => at0_any p cap xs w' (hx.grew h) hn0
  rw [hn'] at hn ⊢ A0
  have HA := Lib.hid A0
  have M5 := fun w => mod_any (xs.headD 0) 5 w (by omega)
  clear hn' hx hn0 A0
  by_cases h5 : xs.headD 0 % 5 = 4
  · have hs : spanOf xs = 2097152 := by unfold spanOf; rw [if_pos h5]
    have hz : sizeOfB xs = 2097152 := by unfold sizeOfB; rw [if_pos h5]
    have hb5 : (xs.headD 0 % 5 == 4) = true := beq_iff_eq.2 h5
    have HS := Lib.hid hs
    have HZ := Lib.hid hz
    clear hs hz h5
    go_enter Tryz.func8, Tryz.ntmps8
    go_wp2_with fail
    refine (HA.out _ (by (repeat' (first | exact Grew.refl _ | assumption | refine Grew.alloc ?_ _ | refine Grew.drew ?_ | refine Grew.drewN ?_ _ | refine Grew.setCell ?_ ?_ _ | (simp; done) | (simp; omega))))).mono ?_
    rintro e w1 ⟨rfl, hg1⟩
    generalize xs.headD 0 = h0 at *
    go_wp2_with fail
    refine (M5 _).mono ?_
    rintro e w2 ⟨rfl, rfl⟩
    go_wp2_with fail
    go_loopg [7, 8] most (fun gg s7 s8 wr => ∃ (j k cap7 : Nat) (p7 : Option Addr), k ≤ n ∧ j ≤ most ∧ most - j ≤ gg ∧ s7 = .slice p7 j cap7 ∧ s8 = .int .i64 k ∧ Grew w wr ∧ Aside (k = 4 * j ∧ SlB wr w.heap.size (.slice p7 j cap7) (boxesN xs j)))
    case atStart => exact ⟨0, 0, 0, none, by omega, by omega, by omega, rfl, rfl, by (repeat' (first | exact Grew.refl _ | assumption | refine Grew.alloc ?_ _ | refine Grew.drew ?_ | refine Grew.drewN ?_ _ | refine Grew.setCell ?_ ?_ _ | (simp; done) | (simp; omega))), rfl, SlB.nil _ _⟩
    case round =>
      obtain ⟨j, k, cap7, p7, hkn, hjm, hgg, rfl, rfl, hgw, A⟩ := hrel
      by_cases h1 : k + 3 < n
      · have h1z : (k : Int) + 3 < (n : Int) := by omega
        by_cases h2 : j < most
        · have h2z : (j : Int) < (most : Int) := by omega
          have hk4 : k < 9000000000 := by have := A.out.1; omega
          obtain ⟨a, rfl, hab, hca⟩ := hX.out.resolve_left (by rintro rfl; have := HN.out; simp at this; omega)
          have b0 := hca k (by rw [HN.out]; omega)
          have b1 := hca (k + 1) (by rw [HN.out]; omega)
          have b2 := hca (k + 2) (by rw [HN.out]; omega)
          have b3 := hca (k + 3) (by rw [HN.out]; omega)
          have HV : Aside (xs.getD k 0 = xs[k]'(by rw [HN.out]; omega) ∧ xs.getD (k + 1) 0 = xs[k + 1]'(by rw [HN.out]; omega) ∧ xs.getD (k + 2) 0 = xs[k + 2]'(by rw [HN.out]; omega) ∧ xs.getD (k + 3) 0 = xs[k + 3]'(by rw [HN.out]; omega)) := by
            show _ ∧ _
            refine ⟨?_, ?_, ?_, ?_⟩ <;> rw [List.getD_eq_getElem?_getD, List.getElem?_eq_getElem] <;> rfl
          clear hca
          generalize xs[k]'(by rw [HN.out]; omega) = z0 at b0 HV
          generalize xs[k + 1]'(by rw [HN.out]; omega) = z1 at b1 HV
          generalize xs[k + 2]'(by rw [HN.out]; omega) = z2 at b2 HV
          generalize xs[k + 3]'(by rw [HN.out]; omega) = z3 at b3 HV
          have HF : Aside (∀ W', Grew w W' → (W'.cell? (a.add k) = some (.int .i64 z0) ∧ W'.cell? ⟨a.block, a.off + (k + 1), none⟩ = some (.int .i64 z1) ∧ W'.cell? (a.add ((k : Int) + 2).toNat) = some (.int .i64 z2) ∧ W'.cell? (a.add ((k : Int) + 3).toNat) = some (.int .i64 z3))) :=
            fun W' g => ⟨g.cellA hab b0, g.cellA hab b1, by rw [show ((k : Int) + 2).toNat = k + 2 by omega]; exact g.cellA hab b2, by rw [show ((k : Int) + 3).toNat = k + 3 by omega]; exact g.cellA hab b3⟩
          have i0 : (0 : Int) ≤ (k : Int) ∧ (k : Int) < (n : Int) := by omega
          have i1 : (0 : Int) ≤ (k : Int) + 1 ∧ (k : Int) + 1 < (n : Int) := by omega
          have i2 : (0 : Int) ≤ (k : Int) + 2 ∧ (k : Int) + 2 < (n : Int) := by omega
          have i3 : (0 : Int) ≤ (k : Int) + 3 := by omega
          have u1 : IntKind.i64.wrap ((k : Int) + 1) = (k : Int) + 1 := IntWalk.i64_in _ (by omega)
          have u2 : IntKind.i64.wrap ((k : Int) + 2) = (k : Int) + 2 := IntWalk.i64_in _ (by omega)
          have u3 : IntKind.i64.wrap ((k : Int) + 3) = (k : Int) + 3 := IntWalk.i64_in _ (by omega)
          have HSl : Aside (∀ W', Grew wr W' → SlB W' w.heap.size (.slice p7 j cap7) (boxesN xs j)) := fun W' g => A.out.2.grew g
          have HB : ∀ w', Grew wr w' → Calls Tryz.prog 35 #[.int .i64 z0, .int .i64 z1, .int .i64 z2, .int .i64 z3, .int .i64 2097152, .int .i64 2097152] w' fun e w5 => e = .returned (.agg #[.int .i64 (boxOf z0 z1 z2 z3 2097152 2097152).1, .int .i64 (boxOf z0 z1 z2 z3 2097152 2097152).2.1, .int .i64 (boxOf z0 z1 z2 z3 2097152 2097152).2.2.1, .int .i64 (boxOf z0 z1 z2 z3 2097152 2097152).2.2.2]) ∧ Grew wr w5 ∧ Grew w w5 :=
            fun w' g => (boxOf_any z0 z1 z2 z3 2097152 2097152 w' (by omega) (by omega)).mono fun e w5 h => ⟨h.1, g.trans h.2, hgw.trans (g.trans h.2)⟩
          obtain ⟨b, hb⟩ : ∃ b, boxOf z0 z1 z2 z3 2097152 2097152 = b := ⟨_, rfl⟩
          rw [hb] at HB
          have HBb := Lib.hid hb
          clear hb b0 b1 b2 b3
          have hlen : (boxesN xs j).length = j := by unfold boxesN; rw [List.length_map, List.length_range]
          have HL := Lib.hid hlen
          clear hlen
          go_wp2_with fail
          go_region_held3 (fun W' => W'.cell? (a.add k) = some (.int .i64 z0) ∧ W'.cell? ⟨a.block, a.off + (k + 1), none⟩ = some (.int .i64 z1) ∧ W'.cell? (a.add ((k : Int) + 2).toNat) = some (.int .i64 z2) ∧ W'.cell? (a.add ((k : Int) + 3).toNat) = some (.int .i64 z3))
            (first | (refine HF.out _ ?_; (repeat' (first | exact Grew.refl _ | assumption | refine Grew.alloc ?_ _ | refine Grew.drew ?_ | refine Grew.drewN ?_ _ | refine Grew.setCell ?_ ?_ _ | (simp; done) | (simp; omega))); done) | (refine HF.out _ (Grew.trans ?_ (by assumption)); (repeat' (first | exact Grew.refl _ | assumption | refine Grew.alloc ?_ _ | refine Grew.drew ?_ | refine Grew.drewN ?_ _ | refine Grew.setCell ?_ ?_ _ | (simp; done) | (simp; omega))); done))
            (first | (go_at_call 35; refine (HB _ ?_).mono ?_; (· (repeat' (first | exact Grew.refl _ | assumption | refine Grew.alloc ?_ _ | refine Grew.drew ?_ | refine Grew.drewN ?_ _ | refine Grew.setCell ?_ ?_ _ | (simp; done) | (simp; omega)))); rintro e w5 ⟨rfl, hw5, hv5⟩)
                   | (refine stepAppendB rfl _ _ rfl w (.slice p7 j cap7) (boxesN xs j) j HL.out rfl ?_ (HSl.out _ ?_) ?_ w5.heap.size 1 b rfl ?_ ?_ ?_ ?_ ?_; (· (repeat' (first | exact Grew.refl _ | assumption | refine Grew.alloc ?_ _ | refine Grew.drew ?_ | refine Grew.drewN ?_ _ | refine Grew.setCell ?_ ?_ _ | (simp; done) | (simp; omega)))); (· (repeat' (first | exact Grew.refl _ | assumption | refine Grew.alloc ?_ _ | refine Grew.drew ?_ | refine Grew.drewN ?_ _ | refine Grew.setCell ?_ ?_ _ | (simp; done) | (simp; omega)))); (· omega); (· simp [*, go_sem]); (· simp [*, go_sem]); (· simp [*, go_sem]); (· simp [*, go_sem]); intro g cap6 w6 hP hv6))
          all_goals go_wp2_with fail
          go_roundg (most - (j + 1))
          case measure => omega
          case rel =>
            refine ⟨j + 1, k + 4, _, _, by omega, by omega, by omega, rfl, by go_num, by (repeat' (first | exact Grew.refl _ | assumption | refine Grew.alloc ?_ _ | refine Grew.drew ?_ | refine Grew.drewN ?_ _ | refine Grew.setCell ?_ ?_ _ | (simp; done) | (simp; omega))), (show Aside _ from ⟨?_, ?_⟩)⟩
            · have := A.out.1; omega
            · have e : boxesN xs (j + 1) = boxesN xs j ++ [b] := by
                unfold boxesN
                rw [List.range_succ, List.map_append]
                congr 1
                show [boxN xs j] = [b]
                unfold boxN
                rw [← A.out.1, HS.out, HZ.out, HV.out.1, HV.out.2.1, HV.out.2.2.1, HV.out.2.2.2, HBb.out]
              rw [e]
              exact hP.grew (by (repeat' (first | exact Grew.refl _ | assumption | refine Grew.alloc ?_ _ | refine Grew.drew ?_ | refine Grew.drewN ?_ _ | refine Grew.setCell ?_ ?_ _ | (simp; done) | (simp; omega))))
        · have h2z : ¬ (j : Int) < (most : Int) := by omega
          have hk4 : k < 9000000000 := by have := A.out.1; omega
          go_wp2_with fail
          go_returns
          obtain ⟨A1, A2⟩ := A.out
          have e : boxesL xs most = boxesN xs j := by unfold boxesL; rw [HN.out, show min (n / 4) most = j by omega]
          exact ⟨_, rfl, by rw [e]; exact A2, hgw⟩
      · have h1z : ¬ (k : Int) + 3 < (n : Int) := by omega
        have hk4 : k < 9000000000 := by have := A.out.1; omega
        go_wp2_with fail
        go_returns
        obtain ⟨A1, A2⟩ := A.out
        have e : boxesL xs most = boxesN xs j := by unfold boxesL; rw [HN.out, show min (n / 4) most = j by omega]
        exact ⟨_, rfl, by rw [e]; exact A2, hgw⟩
  · have hs : spanOf xs = 40 := by unfold spanOf; rw [if_neg h5]
    have hz : sizeOfB xs = 20 := by unfold sizeOfB; rw [if_neg h5]
    have hb5 : (xs.headD 0 % 5 == 4) = false := beq_eq_false_iff_ne.2 h5
    have HS := Lib.hid hs
    have HZ := Lib.hid hz
    clear hs hz h5
    go_enter Tryz.func8, Tryz.ntmps8
    go_wp2_with fail
    refine (HA.out _ (by (repeat' (first | exact Grew.refl _ | assumption | refine Grew.alloc ?_ _ | refine Grew.drew ?_ | refine Grew.drewN ?_ _ | refine Grew.setCell ?_ ?_ _ | (simp; done) | (simp; omega))))).mono ?_
    rintro e w1 ⟨rfl, hg1⟩
    generalize xs.headD 0 = h0 at *
    go_wp2_with fail
    refine (M5 _).mono ?_
    rintro e w2 ⟨rfl, rfl⟩
    go_wp2_with fail
    go_loopg [7, 8] most (fun gg s7 s8 wr => ∃ (j k cap7 : Nat) (p7 : Option Addr), k ≤ n ∧ j ≤ most ∧ most - j ≤ gg ∧ s7 = .slice p7 j cap7 ∧ s8 = .int .i64 k ∧ Grew w wr ∧ Aside (k = 4 * j ∧ SlB wr w.heap.size (.slice p7 j cap7) (boxesN xs j)))
    case atStart => exact ⟨0, 0, 0, none, by omega, by omega, by omega, rfl, rfl, by (repeat' (first | exact Grew.refl _ | assumption | refine Grew.alloc ?_ _ | refine Grew.drew ?_ | refine Grew.drewN ?_ _ | refine Grew.setCell ?_ ?_ _ | (simp; done) | (simp; omega))), rfl, SlB.nil _ _⟩
    case round =>
      obtain ⟨j, k, cap7, p7, hkn, hjm, hgg, rfl, rfl, hgw, A⟩ := hrel
      by_cases h1 : k + 3 < n
      · have h1z : (k : Int) + 3 < (n : Int) := by omega
        by_cases h2 : j < most
        · have h2z : (j : Int) < (most : Int) := by omega
          have hk4 : k < 9000000000 := by have := A.out.1; omega
          obtain ⟨a, rfl, hab, hca⟩ := hX.out.resolve_left (by rintro rfl; have := HN.out; simp at this; omega)
          have b0 := hca k (by rw [HN.out]; omega)
          have b1 := hca (k + 1) (by rw [HN.out]; omega)
          have b2 := hca (k + 2) (by rw [HN.out]; omega)
          have b3 := hca (k + 3) (by rw [HN.out]; omega)
          have HV : Aside (xs.getD k 0 = xs[k]'(by rw [HN.out]; omega) ∧ xs.getD (k + 1) 0 = xs[k + 1]'(by rw [HN.out]; omega) ∧ xs.getD (k + 2) 0 = xs[k + 2]'(by rw [HN.out]; omega) ∧ xs.getD (k + 3) 0 = xs[k + 3]'(by rw [HN.out]; omega)) := by
            show _ ∧ _
            refine ⟨?_, ?_, ?_, ?_⟩ <;> rw [List.getD_eq_getElem?_getD, List.getElem?_eq_getElem] <;> rfl
          clear hca
          generalize xs[k]'(by rw [HN.out]; omega) = z0 at b0 HV
          generalize xs[k + 1]'(by rw [HN.out]; omega) = z1 at b1 HV
          generalize xs[k + 2]'(by rw [HN.out]; omega) = z2 at b2 HV
          generalize xs[k + 3]'(by rw [HN.out]; omega) = z3 at b3 HV
          have HF : Aside (∀ W', Grew w W' → (W'.cell? (a.add k) = some (.int .i64 z0) ∧ W'.cell? ⟨a.block, a.off + (k + 1), none⟩ = some (.int .i64 z1) ∧ W'.cell? (a.add ((k : Int) + 2).toNat) = some (.int .i64 z2) ∧ W'.cell? (a.add ((k : Int) + 3).toNat) = some (.int .i64 z3))) :=
            fun W' g => ⟨g.cellA hab b0, g.cellA hab b1, by rw [show ((k : Int) + 2).toNat = k + 2 by omega]; exact g.cellA hab b2, by rw [show ((k : Int) + 3).toNat = k + 3 by omega]; exact g.cellA hab b3⟩
          have i0 : (0 : Int) ≤ (k : Int) ∧ (k : Int) < (n : Int) := by omega
          have i1 : (0 : Int) ≤ (k : Int) + 1 ∧ (k : Int) + 1 < (n : Int) := by omega
          have i2 : (0 : Int) ≤ (k : Int) + 2 ∧ (k : Int) + 2 < (n : Int) := by omega
          have i3 : (0 : Int) ≤ (k : Int) + 3 := by omega
          have u1 : IntKind.i64.wrap ((k : Int) + 1) = (k : Int) + 1 := IntWalk.i64_in _ (by omega)
          have u2 : IntKind.i64.wrap ((k : Int) + 2) = (k : Int) + 2 := IntWalk.i64_in _ (by omega)
          have u3 : IntKind.i64.wrap ((k : Int) + 3) = (k : Int) + 3 := IntWalk.i64_in _ (by omega)
          have HSl : Aside (∀ W', Grew wr W' → SlB W' w.heap.size (.slice p7 j cap7) (boxesN xs j)) := fun W' g => A.out.2.grew g
          have HB : ∀ w', Grew wr w' → Calls Tryz.prog 35 #[.int .i64 z0, .int .i64 z1, .int .i64 z2, .int .i64 z3, .int .i64 40, .int .i64 20] w' fun e w5 => e = .returned (.agg #[.int .i64 (boxOf z0 z1 z2 z3 40 20).1, .int .i64 (boxOf z0 z1 z2 z3 40 20).2.1, .int .i64 (boxOf z0 z1 z2 z3 40 20).2.2.1, .int .i64 (boxOf z0 z1 z2 z3 40 20).2.2.2]) ∧ Grew wr w5 ∧ Grew w w5 :=
            fun w' g => (boxOf_any z0 z1 z2 z3 40 20 w' (by omega) (by omega)).mono fun e w5 h => ⟨h.1, g.trans h.2, hgw.trans (g.trans h.2)⟩
          obtain ⟨b, hb⟩ : ∃ b, boxOf z0 z1 z2 z3 40 20 = b := ⟨_, rfl⟩
          rw [hb] at HB
          have HBb := Lib.hid hb
          clear hb b0 b1 b2 b3
          have hlen : (boxesN xs j).length = j := by unfold boxesN; rw [List.length_map, List.length_range]
          have HL := Lib.hid hlen
          clear hlen
          go_wp2_with fail
          go_region_held3 (fun W' => W'.cell? (a.add k) = some (.int .i64 z0) ∧ W'.cell? ⟨a.block, a.off + (k + 1), none⟩ = some (.int .i64 z1) ∧ W'.cell? (a.add ((k : Int) + 2).toNat) = some (.int .i64 z2) ∧ W'.cell? (a.add ((k : Int) + 3).toNat) = some (.int .i64 z3))
            (first | (refine HF.out _ ?_; (repeat' (first | exact Grew.refl _ | assumption | refine Grew.alloc ?_ _ | refine Grew.drew ?_ | refine Grew.drewN ?_ _ | refine Grew.setCell ?_ ?_ _ | (simp; done) | (simp; omega))); done) | (refine HF.out _ (Grew.trans ?_ (by assumption)); (repeat' (first | exact Grew.refl _ | assumption | refine Grew.alloc ?_ _ | refine Grew.drew ?_ | refine Grew.drewN ?_ _ | refine Grew.setCell ?_ ?_ _ | (simp; done) | (simp; omega))); done))
            (first | (go_at_call 35; refine (HB _ ?_).mono ?_; (· (repeat' (first | exact Grew.refl _ | assumption | refine Grew.alloc ?_ _ | refine Grew.drew ?_ | refine Grew.drewN ?_ _ | refine Grew.setCell ?_ ?_ _ | (simp; done) | (simp; omega)))); rintro e w5 ⟨rfl, hw5, hv5⟩)
                   | (refine stepAppendB rfl _ _ rfl w (.slice p7 j cap7) (boxesN xs j) j HL.out rfl ?_ (HSl.out _ ?_) ?_ w5.heap.size 1 b rfl ?_ ?_ ?_ ?_ ?_; (· (repeat' (first | exact Grew.refl _ | assumption | refine Grew.alloc ?_ _ | refine Grew.drew ?_ | refine Grew.drewN ?_ _ | refine Grew.setCell ?_ ?_ _ | (simp; done) | (simp; omega)))); (· (repeat' (first | exact Grew.refl _ | assumption | refine Grew.alloc ?_ _ | refine Grew.drew ?_ | refine Grew.drewN ?_ _ | refine Grew.setCell ?_ ?_ _ | (simp; done) | (simp; omega)))); (· omega); (· simp [*, go_sem]); (· simp [*, go_sem]); (· simp [*, go_sem]); (· simp [*, go_sem]); intro g cap6 w6 hP hv6))
          all_goals go_wp2_with fail
          go_roundg (most - (j + 1))
          case measure => omega
          case rel =>
            refine ⟨j + 1, k + 4, _, _, by omega, by omega, by omega, rfl, by go_num, by (repeat' (first | exact Grew.refl _ | assumption | refine Grew.alloc ?_ _ | refine Grew.drew ?_ | refine Grew.drewN ?_ _ | refine Grew.setCell ?_ ?_ _ | (simp; done) | (simp; omega))), (show Aside _ from ⟨?_, ?_⟩)⟩
            · have := A.out.1; omega
            · have e : boxesN xs (j + 1) = boxesN xs j ++ [b] := by
                unfold boxesN
                rw [List.range_succ, List.map_append]
                congr 1
                show [boxN xs j] = [b]
                unfold boxN
                rw [← A.out.1, HS.out, HZ.out, HV.out.1, HV.out.2.1, HV.out.2.2.1, HV.out.2.2.2, HBb.out]
              rw [e]
              exact hP.grew (by (repeat' (first | exact Grew.refl _ | assumption | refine Grew.alloc ?_ _ | refine Grew.drew ?_ | refine Grew.drewN ?_ _ | refine Grew.setCell ?_ ?_ _ | (simp; done) | (simp; omega))))
        · have h2z : ¬ (j : Int) < (most : Int) := by omega
          have hk4 : k < 9000000000 := by have := A.out.1; omega
          go_wp2_with fail
          go_returns
          obtain ⟨A1, A2⟩ := A.out
          have e : boxesL xs most = boxesN xs j := by unfold boxesL; rw [HN.out, show min (n / 4) most = j by omega]
          exact ⟨_, rfl, by rw [e]; exact A2, hgw⟩
      · have h1z : ¬ (k : Int) + 3 < (n : Int) := by omega
        have hk4 : k < 9000000000 := by have := A.out.1; omega
        go_wp2_with fail
        go_returns
        obtain ⟨A1, A2⟩ := A.out
        have e : boxesL xs most = boxesN xs j := by unfold boxesL; rw [HN.out, show min (n / 4) most = j by omega]
        exact ⟨_, rfl, by rw [e]; exact A2, hgw⟩

end Go.Proofs.YtcelamaiebjdaaaGreat

/- The walk of IndexNears: it returns true. -/
import Derived.Test.YtmoaefcpbphgmaaNearsPlain
import Derived.Test.YtmoaefcpbphgmaaHasInt
import Derived.Deep.LoopGhost
import Derived.Deep.RegionHeld3
import Derived.Deep.DrawnRows
import Derived.BigQuiet
import Derived.Deep.QuietTactic
namespace Go.Proofs.Ytmoaefcpbphgmaa
open Go.RowKit Go.Maps Go.Sort Go.Shelf
attribute [local go_sem ↓] Go.wp_at_zero Go.wp_at_succ

set_option maxHeartbeats 2000000 in
set_option maxRecDepth 100000 in
theorem indexNears_any (p : Option Addr) (cap : Nat) (xs : List Int) (x y a h grow : Int) (w : World) (hx : RdI w p xs) (hn : xs.length ≤ maxLen) :
    Calls Try.prog 4 #[.slice p xs.length cap, .int .i64 x, .int .i64 y, .int .i64 a, .int .i64 h, .int .i64 grow] w fun e w' => e = .returned (.bool true) ∧ Grew w w' := by
  have M := fun w => mod_any grow 40 w (by omega)
  have hg0 : 0 ≤ grow % 40 ∧ grow % 40 ≤ 39 := by omega
  generalize grow % 40 = n at *
  have hbok : okB (boxOf x y a h 50 30) := okB_boxOf _ _ _ _ _ _ (by omega) (by omega)
  have hbnd : -50 ≤ (boxOf x y a h 50 30).1 ∧ (boxOf x y a h 50 30).1 ≤ 50 ∧ -50 ≤ (boxOf x y a h 50 30).2.1 ∧ (boxOf x y a h 50 30).2.1 ≤ 50 ∧ -50 ≤ (boxOf x y a h 50 30).2.2.1 ∧ (boxOf x y a h 50 30).2.2.1 ≤ 80 ∧ -50 ≤ (boxOf x y a h 50 30).2.2.2 ∧ (boxOf x y a h 50 30).2.2.2 ≤ 80 := by
    unfold boxOf
    simp only
    omega
  have B := fun w => boxOf_any x y a h 50 30 w (by omega) (by omega)
  generalize boxOf x y a h 50 30 = b at *
  obtain ⟨b0, b1, b2, b3⟩ := b
  simp only at hbnd B
  have HOB := Lib.hid hbok
  clear hbok
  go_enter Try.func4, Try.ntmps4
  go_wp2_with fail
  refine (boxes_any p cap 20 xs _ (hx.grew (by (repeat' (first | exact Grew.refl _ | assumption | refine Grew.alloc ?_ _ | refine Grew.drew ?_ | refine Grew.drewN ?_ _ | refine Grew.setCell ?_ ?_ _ | (simp; done) | (simp; omega))))) hn (by decide)).mono ?_
  rintro e w1 ⟨v1, rfl, hsl, hg1⟩
  have hw1 : Grew w w1 := Grew.trans (by (repeat' (first | exact Grew.refl _ | assumption | refine Grew.alloc ?_ _ | refine Grew.drew ?_ | refine Grew.drewN ?_ _ | refine Grew.setCell ?_ ?_ _ | (simp; done) | (simp; omega)))) hg1
  have hok : ∀ b ∈ boxesL xs 20, okB b := okB_boxes _ _
  have hlen : (boxesL xs 20).length ≤ 20 := by unfold boxesL boxesN; rw [List.length_map, List.length_range]; omega
  generalize boxesL xs 20 = l at *
  have HL := Lib.hid hsl
  have HO := Lib.hid hok
  clear hsl hok hg1 hx hn
  go_wp2_with fail
  refine (B _).mono ?_
  rintro e v2 ⟨rfl, hg2⟩
  have hv2 : Grew w v2 := Grew.trans (by (repeat' (first | exact Grew.refl _ | assumption | refine Grew.alloc ?_ _ | refine Grew.drew ?_ | refine Grew.drewN ?_ _ | refine Grew.setCell ?_ ?_ _ | (simp; done) | (simp; omega)))) hg2
  have HL2 := Lib.hid ((HL.out.grew (by (repeat' (first | exact Grew.refl _ | assumption | refine Grew.alloc ?_ _ | refine Grew.drew ?_ | refine Grew.drewN ?_ _ | refine Grew.setCell ?_ ?_ _ | (simp; done) | (simp; omega))))).grew hg2)
  clear hg2
  go_wp2_with fail
  refine (putFirst_any _ v1 l _ (HL2.out.grew (by (repeat' (first | exact Grew.refl _ | assumption | refine Grew.alloc ?_ _ | refine Grew.drew ?_ | refine Grew.drewN ?_ _ | refine Grew.setCell ?_ ?_ _ | (simp; done) | (simp; omega))))) HO.out (by omega)).mono ?_
  rintro e w3 ⟨sb, mb, rfl, hsw, hg3, hsb, hmb⟩
  obtain ⟨B0, hB0⟩ : ∃ B0, v2.heap.size = B0 := ⟨_, rfl⟩
  have k0 : w3.cell? ⟨v2.heap.size, 0, none⟩ = some (.int .i64 b0) := hg3.cell' (by first | (simp [go_sem]; done) | (simp [*, go_sem]; done) | (go_cell; done))
  have k1 : w3.cell? ⟨v2.heap.size, 1, none⟩ = some (.int .i64 b1) := hg3.cell' (by first | (simp [go_sem]; done) | (simp [*, go_sem]; done) | (go_cell; done))
  have k2 : w3.cell? ⟨v2.heap.size, 2, none⟩ = some (.int .i64 b2) := hg3.cell' (by first | (simp [go_sem]; done) | (simp [*, go_sem]; done) | (go_cell; done))
  have k3 : w3.cell? ⟨v2.heap.size, 3, none⟩ = some (.int .i64 b3) := hg3.cell' (by first | (simp [go_sem]; done) | (simp [*, go_sem]; done) | (go_cell; done))
  have hbm : B0 < mb := by have := hsw.lt; rw [← hB0]; simp at hmb; omega
  have hv3 : Grew w w3 := Grew.trans (by (repeat' (first | exact Grew.refl _ | assumption | refine Grew.alloc ?_ _ | refine Grew.drew ?_ | refine Grew.drewN ?_ _ | refine Grew.setCell ?_ ?_ _ | (simp; done) | (simp; omega)))) hg3
  have HL3 := Lib.hid ((HL2.out.grew (by (repeat' (first | exact Grew.refl _ | assumption | refine Grew.alloc ?_ _ | refine Grew.drew ?_ | refine Grew.drewN ?_ _ | refine Grew.setCell ?_ ?_ _ | (simp; done) | (simp; omega))))).grew hg3)
  have HS3 := Lib.hid hsw
  have hwm : w.heap.size ≤ mb := by have := hv2.size; simp at hmb; omega
  obtain ⟨lp, lc, rfl, hlp⟩ := HL3.out.shape
  obtain ⟨m, hm⟩ : ∃ m, l.length = m := ⟨_, rfl⟩
  have HM := Lib.hid hm
  rw [hB0] at k0 k1 k2 k3
  rw [hB0]
  rw [hm] at hlen ⊢
  clear hg3 hsw hm hlp hsb hmb hB0
  go_wp2_with fail
  refine (near_any sb mb (entN l 0 l.length) (b0, b1, b2, b3) _ (HS3.out.grew (by (repeat' (first | exact Grew.refl _ | assumption | refine Grew.alloc ?_ _ | refine Grew.drew ?_ | refine Grew.drewN ?_ _ | refine Grew.setCell ?_ ?_ _ | (simp; done) | (simp; omega))))) (by unfold I64; simp only; omega) (by unfold I64; simp only; omega) (by unfold I64; simp only; omega) (by unfold I64; simp only; omega)).mono ?_
  rintro e w4 ⟨vn, rfl, hsn, hg4⟩
  rw [ids_near HO.out HOB.out] at hsn
  have c0 := hg4.cell' (b := B0) (o := 0) (v := .int .i64 b0) (by first | (simp [go_sem]; done) | (simp [*, go_sem]; done) | (go_cell; done))
  have c1 := hg4.cell' (b := B0) (o := 1) (v := .int .i64 b1) (by first | (simp [go_sem]; done) | (simp [*, go_sem]; done) | (go_cell; done))
  have c2 := hg4.cell' (b := B0) (o := 2) (v := .int .i64 b2) (by first | (simp [go_sem]; done) | (simp [*, go_sem]; done) | (go_cell; done))
  have c3 := hg4.cell' (b := B0) (o := 3) (v := .int .i64 b3) (by first | (simp [go_sem]; done) | (simp [*, go_sem]; done) | (go_cell; done))
  have hw4 : Grew w w4 := Grew.trans (by (repeat' (first | exact Grew.refl _ | assumption | refine Grew.alloc ?_ _ | refine Grew.drew ?_ | refine Grew.drewN ?_ _ | refine Grew.setCell ?_ ?_ _ | (simp; done) | (simp; omega)))) hg4
  have HL4 := Lib.hid ((HL3.out.grew (by (repeat' (first | exact Grew.refl _ | assumption | refine Grew.alloc ?_ _ | refine Grew.drew ?_ | refine Grew.drewN ?_ _ | refine Grew.setCell ?_ ?_ _ | (simp; done) | (simp; omega))))).grew hg4)
  have HS4 := Lib.hid ((HS3.out.grew (by (repeat' (first | exact Grew.refl _ | assumption | refine Grew.alloc ?_ _ | refine Grew.drew ?_ | refine Grew.drewN ?_ _ | refine Grew.setCell ?_ ?_ _ | (simp; done) | (simp; omega))))).grew hg4)
  obtain ⟨np, nc, rfl, hnp⟩ := hsn.shape
  have HN4 := Lib.hid hsn
  have HNP := Lib.hid hnp
  clear hg4 hsn hnp k0 k1 k2 k3
  go_wp2_with fail
  refine (M _).mono ?_
  rintro e w5 ⟨rfl, rfl⟩
  go_wp2_with fail
  refine (near_any sb mb (entN l 0 l.length) (b0 - n, b1 - n, b2 + n, b3 + n) _ (HS4.out.grew (by (repeat' (first | exact Grew.refl _ | assumption | refine Grew.alloc ?_ _ | refine Grew.drew ?_ | refine Grew.drewN ?_ _ | refine Grew.setCell ?_ ?_ _ | (simp; done) | (simp; omega))))) (by unfold I64; simp only; omega) (by unfold I64; simp only; omega) (by unfold I64; simp only; omega) (by unfold I64; simp only; omega)).mono ?_
  rintro e w5 ⟨vm, rfl, hsm, hg5⟩
  have hce := chk_le HOB.out
  have hoc : okB (b0 - n, b1 - n, b2 + n, b3 + n) := okB_mk (by simp only at hce; omega)
  rw [ids_near HO.out hoc] at hsm
  have hsub : ∀ x ∈ nearN l (b0, b1, b2, b3) l.length, x ∈ nearN l (b0 - n, b1 - n, b2 + n, b3 + n) l.length := near_mono (by simp only; omega) _
  have hasc := near_asc l (b0, b1, b2, b3) l.length
  have hall0 : ∀ q, q = l.length → (wantN (l ++ [(b0, b1, b2, b3)]) (l ++ [(b0, b1, b2, b3)]).length).filter (fun p => p.2 == (q : Int)) = (nearN l (b0, b1, b2, b3) l.length).map fun a => (a, (q : Int)) := by rintro q rfl; exact want_all l (b0, b1, b2, b3)
  have hall := hall0 m HM.out.symm
  clear hall0
  have hwl := wantN_len (l ++ [(b0, b1, b2, b3)]) (l ++ [(b0, b1, b2, b3)]).length
  have hnl : (nearN l (b0, b1, b2, b3) l.length).length ≤ 20 := by unfold nearN; rw [List.length_map]; exact Nat.le_trans (List.length_filter_le _ _) (by rw [List.length_range, HM.out]; exact hlen)
  have hml : (nearN l (b0 - n, b1 - n, b2 + n, b3 + n) l.length).length ≤ 20 := by unfold nearN; rw [List.length_map]; exact Nat.le_trans (List.length_filter_le _ _) (by rw [List.length_range, HM.out]; exact hlen)
  have hokL : ∀ x ∈ l ++ [(b0, b1, b2, b3)], okB x := by
    intro x hx
    rcases List.mem_append.1 hx with h1 | h1
    · exact HO.out x h1
    · rw [List.mem_singleton.1 h1]; exact HOB.out
  have hpo := pairsOf_want hokL
  have e0 := hg5.cell' (b := B0) (o := 0) (v := .int .i64 b0) (by first | (simp [go_sem]; done) | (simp [*, go_sem]; done) | (go_cell; done))
  have e1 := hg5.cell' (b := B0) (o := 1) (v := .int .i64 b1) (by first | (simp [go_sem]; done) | (simp [*, go_sem]; done) | (go_cell; done))
  have e2 := hg5.cell' (b := B0) (o := 2) (v := .int .i64 b2) (by first | (simp [go_sem]; done) | (simp [*, go_sem]; done) | (go_cell; done))
  have e3 := hg5.cell' (b := B0) (o := 3) (v := .int .i64 b3) (by first | (simp [go_sem]; done) | (simp [*, go_sem]; done) | (go_cell; done))
  have hw5 : Grew w w5 := Grew.trans (by (repeat' (first | exact Grew.refl _ | assumption | refine Grew.alloc ?_ _ | refine Grew.drew ?_ | refine Grew.drewN ?_ _ | refine Grew.setCell ?_ ?_ _ | (simp; done) | (simp; omega)))) hg5
  have HS5 := Lib.hid ((HS4.out.grew (by (repeat' (first | exact Grew.refl _ | assumption | refine Grew.alloc ?_ _ | refine Grew.drew ?_ | refine Grew.drewN ?_ _ | refine Grew.setCell ?_ ?_ _ | (simp; done) | (simp; omega))))).grew hg5)
  have HN5 := Lib.hid ((HN4.out.grew (by (repeat' (first | exact Grew.refl _ | assumption | refine Grew.alloc ?_ _ | refine Grew.drew ?_ | refine Grew.drewN ?_ _ | refine Grew.setCell ?_ ?_ _ | (simp; done) | (simp; omega))))).grew hg5)
  obtain ⟨mp, mc, rfl, _⟩ := hsm.shape
  have HM5 := Lib.hid hsm
  have hz : putE (entN l 0 l.length) (m : Int) (b0, b1, b2, b3) = 0 := putE_zero (by omega) HOB.out (fun p hp => by obtain ⟨i, _, h, rfl⟩ := mem_entN hp; have := HM.out; show (i : Int) ≠ m; omega) (by rw [entN_length, HM.out]; omega)
  have hs : putS (entN l 0 l.length) (m : Int) (b0, b1, b2, b3) = entN (l ++ [(b0, b1, b2, b3)]) 0 (l ++ [(b0, b1, b2, b3)]).length := by rw [putS_zero hz, ← ent_snoc, HM.out]
  have hll : (l ++ [(b0, b1, b2, b3)]).length = m + 1 := by rw [List.length_append, HM.out]; rfl
  rw [hll] at hwl
  rw [hll] at hpo hall hs
  have HZ := Lib.hid hz
  have HS := Lib.hid hs
  have HSub := Lib.hid hsub
  have HAsc := Lib.hid hasc
  have HAll := Lib.hid hall
  have HPo := Lib.hid hpo
  have HWl := Lib.hid hwl
  have HNl := Lib.hid hnl
  have HMl := Lib.hid hml
  clear hg5 hsm hce hoc hsub hasc hall hwl hnl hml hokL hpo hz hs c0 c1 c2 c3
  go_wp2_with fail
  refine (put_any sb mb (entN l 0 l.length) (m : Int) (b0, b1, b2, b3) _ (HS5.out.grew (by (repeat' (first | exact Grew.refl _ | assumption | refine Grew.alloc ?_ _ | refine Grew.drew ?_ | refine Grew.drewN ?_ _ | refine Grew.setCell ?_ ?_ _ | (simp; done) | (simp; omega))))) (by unfold I64; omega) (by unfold I64; simp only; omega) (by unfold I64; simp only; omega) (by unfold I64; simp only; omega) (by unfold I64; simp only; omega)).mono ?_
  rintro e w6 ⟨rfl, hsw, hk⟩
  rw [HZ.out]
  rw [HS.out] at hsw
  have hw6 : Grew w w6 := Kp.grewOf (by (repeat' (first | exact Grew.refl _ | assumption | refine Grew.alloc ?_ _ | refine Grew.drew ?_ | refine Grew.drewN ?_ _ | refine Grew.setCell ?_ ?_ _ | (simp; done) | (simp; omega)))) hk (fun x hx => by simp at hx; omega)
  have HS6 := Lib.hid hsw
  have hnm : ∀ {v : Value} {xs : List Int} {B : Nat}, SlI w5 B v xs → mb < B → SlI w6 B v xs := fun h hB => h.kp hk (fun g hg => by
    have := h.own_ge g (mem_own.2 hg)
    simp; omega)
  have HN6 := Lib.hid (hnm HN5.out HS3.out.lt.2)
  have HM6 := Lib.hid (hnm HM5.out HS4.out.lt.2)
  clear hk hsw hnm e0 e1 e2 e3
  generalize nearN l (b0 - n, b1 - n, b2 + n, b3 + n) l.length = more at *
  generalize nearN l (b0, b1, b2, b3) l.length = near at *
  generalize l ++ [(b0, b1, b2, b3)] = L at *
  go_wp2_with fail
  refine (pairs_any sb mb (entN L 0 (m + 1)) _ (HS6.out.grew (by (repeat' (first | exact Grew.refl _ | assumption | refine Grew.alloc ?_ _ | refine Grew.drew ?_ | refine Grew.drewN ?_ _ | refine Grew.setCell ?_ ?_ _ | (simp; done) | (simp; omega)))))).mono ?_
  rintro e w7 ⟨vp, rfl, hsp, hg7⟩
  rw [HPo.out] at hsp
  have hw7 : Grew w w7 := Grew.trans (by (repeat' (first | exact Grew.refl _ | assumption | refine Grew.alloc ?_ _ | refine Grew.drew ?_ | refine Grew.drewN ?_ _ | refine Grew.setCell ?_ ?_ _ | (simp; done) | (simp; omega)))) hg7
  have HN7 := Lib.hid ((HN6.out.grew (by (repeat' (first | exact Grew.refl _ | assumption | refine Grew.alloc ?_ _ | refine Grew.drew ?_ | refine Grew.drewN ?_ _ | refine Grew.setCell ?_ ?_ _ | (simp; done) | (simp; omega))))).grew hg7)
  have HM7 := Lib.hid ((HM6.out.grew (by (repeat' (first | exact Grew.refl _ | assumption | refine Grew.alloc ?_ _ | refine Grew.drew ?_ | refine Grew.drewN ?_ _ | refine Grew.setCell ?_ ?_ _ | (simp; done) | (simp; omega))))).grew hg7)
  obtain ⟨pp, pc, rfl, hpp⟩ := hsp.shape
  have HP7 := Lib.hid hsp
  have HPP := Lib.hid hpp
  generalize wantN L (m + 1) = P at *
  have hpl : P.length ≤ 441 := by
    have h1 := HWl.out
    have h2 : (m + 1) * (m + 1) ≤ 21 * 21 := Nat.mul_le_mul (by omega) (by omega)
    omega
  obtain ⟨k, hk⟩ : ∃ k, P.length = k := ⟨_, rfl⟩
  have HK := Lib.hid hk
  obtain ⟨kn, hkn⟩ : ∃ kn, near.length = kn := ⟨_, rfl⟩
  have HKN := Lib.hid hkn
  have HNL := HNl.out
  rw [hkn] at HNL
  rw [hk] at hpl ⊢
  rw [hkn]
  clear hg7 hsp hpp hk hkn
  go_wp2_with fail
  go_loopg [20, 21] k (fun gg s20 s21 wr => ∃ i c : Nat, i ≤ k ∧ k - i ≤ gg ∧ c ≤ i ∧ s20 = .int .i64 c ∧ s21 = .int .i64 i ∧ Grew w7 wr ∧ Aside (((P.take i).filter fun p => p.2 == (m : Int)).length = c))
  case atStart => exact ⟨0, 0, by omega, by omega, by omega, rfl, rfl, by (repeat' (first | exact Grew.refl _ | assumption | refine Grew.alloc ?_ _ | refine Grew.drew ?_ | refine Grew.drewN ?_ _ | refine Grew.setCell ?_ ?_ _ | (simp; done) | (simp; omega))), rfl⟩
  case round =>
    obtain ⟨i, c, hik, hgg, hci, rfl, rfl, hgw, A⟩ := hrel
    by_cases h1 : i < k
    · have h1z : (i : Int) < (k : Int) := by omega
      have hiP : i < P.length := by rw [HK.out]; exact h1
      obtain ⟨pg, rfl, hpg, hcl⟩ := HP7.out.rd.resolve_left (by rintro rfl; simp at hiP)
      have ca := hgw.cell' (hcl i hiP).1
      have cb := hgw.cell' (hcl i hiP).2
      have hmem : P[i] ∈ P := List.getElem_mem hiP
      have htk : P.take (i + 1) = P.take i ++ [P[i]] := List.take_succ_eq_append_getElem hiP
      generalize P[i] = pr at ca cb hmem htk
      obtain ⟨u, v⟩ := pr
      have HTK := Lib.hid htk
      clear hcl htk hiP
      by_cases hv : v = (m : Int)
      · have hvb : (v == (m : Int)) = true := by simpa using hv
        have hu : u ∈ near := by
          have h2 : (u, v) ∈ P.filter (fun p => p.2 == (m : Int)) := List.mem_filter.2 ⟨hmem, hvb⟩
          rw [HAll.out] at h2
          obtain ⟨a', ha, he⟩ := List.mem_map.1 h2
          injection he with e1 e2
          rw [← e1]; exact ha
        have HU := Lib.hid hu
        have HVB := Lib.hid hvb
        subst hv
        clear hmem hu hvb
        go_wp2_with fail
        have hH := hasInt_any np nc near u
        rw [HKN.out] at hH
        refine (hH _ ((HN7.out.grew hgw).rd.grew (by (repeat' (first | exact Grew.refl _ | assumption | refine Grew.alloc ?_ _ | refine Grew.drew ?_ | refine Grew.drewN ?_ _ | refine Grew.setCell ?_ ?_ _ | (simp; done) | (simp; omega))))) (by unfold maxLen; omega)).mono ?_
        rintro e w8 ⟨rfl, hg8⟩
        rw [show decide (u ∈ near) = true from decide_eq_true HU.out]
        have hw8 : Grew w7 w8 := Grew.trans (by (repeat' (first | exact Grew.refl _ | assumption | refine Grew.alloc ?_ _ | refine Grew.drew ?_ | refine Grew.drewN ?_ _ | refine Grew.setCell ?_ ?_ _ | (simp; done) | (simp; omega)))) hg8
        clear hg8 hH
        go_wp2_with fail
        go_roundg (k - (i + 1))
        case measure => omega
        case rel =>
          refine ⟨i + 1, c + 1, by omega, by omega, by omega, by go_num, by go_num, hw8, (show Aside _ from ?_)⟩
          rw [HTK.out, List.filter_append, List.length_append, show ((P.take i).filter fun p => p.2 == (m : Int)).length = c from A.out]
          simp
          exact True.intro
      · have hvb : (v == (m : Int)) = false := by simpa using hv
        have HVB := Lib.hid hvb
        clear hv hmem
        go_wp2_with fail
        go_roundg (k - (i + 1))
        case measure => omega
        case rel =>
          refine ⟨i + 1, c, by omega, by omega, by omega, rfl, by go_num, by (repeat' (first | exact Grew.refl _ | assumption | refine Grew.alloc ?_ _ | refine Grew.drew ?_ | refine Grew.drewN ?_ _ | refine Grew.setCell ?_ ?_ _ | (simp; done) | (simp; omega))), (show Aside _ from ?_)⟩
          rw [HTK.out, List.filter_append, List.length_append, show ((P.take i).filter fun p => p.2 == (m : Int)).length = c from A.out]
          simp [HVB.out]
          exact True.intro
    · have h1z : ¬ (i : Int) < (k : Int) := by omega
      obtain rfl : i = k := by omega
      have hc : c = kn := by
        have h2 := A.out
        rw [show P.take i = P from by rw [← HK.out]; exact List.take_length, HAll.out, List.length_map, HKN.out] at h2
        exact h2.symm
      subst hc
      have hH0 : ∀ x ∈ near, ∀ w', Grew w7 w' → Calls Try.prog 18 #[.slice mp more.length mc, .int .i64 x] w' fun e w8 => e = .returned (.bool true) ∧ w8 = w' := fun x hx w' g =>
        (hasInt_same mp mc more x w' (HM7.out.rd.grew g) (by have := HMl.out; unfold maxLen; omega)).mono fun e w8 h => ⟨by rw [h.1, decide_eq_true (HSub.out x hx)], h.2.symm⟩
      have HH := Lib.hid hH0
      have hNc := HN7.out
      rw [HKN.out] at hNc
      have HNc := Lib.hid hNc
      clear hH0 hNc
      go_wp2_with fail
      go_loopg [22] c (fun gg s22 wr => ∃ j : Nat, j ≤ c ∧ c - j ≤ gg ∧ s22 = .int .i64 j ∧ Grew w7 wr)
      case atStart => exact ⟨0, by omega, by omega, rfl, hgw⟩
      case round =>
        obtain ⟨j, hjc, hgg2, rfl, hgw2⟩ := hrel
        by_cases h2 : j < c
        · have h2z : (j : Int) < (c : Int) := by omega
          have hjn : j < near.length := by rw [HKN.out]; exact h2
          obtain ⟨ng, rfl⟩ := HNP.out (by omega)
          by_cases hj00 : j = 0
          · have hng : ¬ (0 : Int) < (j : Int) := by omega
            have hng2 : ¬ 0 < j := by omega
            have hng3 : decide ((0 : Int) < (j : Int)) = false := decide_eq_false hng
            have hng4 : decide (0 < j) = false := decide_eq_false hng2
            have HF0 : ∃ u, u = near[j] ∧ ∀ W', Grew w7 W' → W'.cell? ⟨ng, j, none⟩ = some (.int .i64 u) := ⟨_, rfl, fun W' g => g.cell' (HNc.out.cell j hjn)⟩
            obtain ⟨u, hu, HF1⟩ := HF0
            have HF := Lib.hid HF1
            have hH := HH.out near[j] (List.getElem_mem hjn)
            rw [← hu] at hH
            have HC := Lib.hid hH
            have hlt0 := lt_of_cell (HF1 wr hgw2)
            clear hjn hu hH HF1 hj00
            have ca := HF.out wr hgw2
            go_wp2_with fail
            go_quiet (first | (go_at_call 18; refine Calls.quiet_of_same (HC.out _ ?_); (repeat' (first | exact Grew.refl _ | assumption | refine Grew.alloc ?_ _ | refine Grew.drew ?_ | refine Grew.drewN ?_ _ | refine Grew.setCell ?_ ?_ _ | (simp; done) | (simp; omega)))))
            go_wp2_with fail
            go_roundg (c - (j + 1))
            case measure => omega
            case rel => exact ⟨j + 1, by omega, by omega, by go_num, by (repeat' (first | exact Grew.refl _ | assumption | refine Grew.alloc ?_ _ | refine Grew.drew ?_ | refine Grew.drewN ?_ _ | refine Grew.setCell ?_ ?_ _ | (simp; done) | (simp; omega)))⟩
          · obtain ⟨i, rfl⟩ : ∃ i, j = i + 1 := ⟨j - 1, by omega⟩
            have hin : i < near.length := by omega
            have HF0 : ∃ u v, u = near[i + 1] ∧ v = near[i] ∧ ∀ W', Grew w7 W' → (W'.cell? ⟨ng, i + 1, none⟩ = some (.int .i64 u) ∧ W'.cell? ⟨ng, i, none⟩ = some (.int .i64 v)) := ⟨_, _, rfl, rfl, fun W' g => ⟨g.cell' (HNc.out.cell (i + 1) hjn), g.cell' (HNc.out.cell i hin)⟩⟩
            obtain ⟨u, v, hu, hv, HF1⟩ := HF0
            have HF := Lib.hid HF1
            have hlt1 : near[i] < near[i + 1] := List.pairwise_iff_getElem.1 HAsc.out i (i + 1) hin hjn (by omega)
            have hH := HH.out near[i + 1] (List.getElem_mem hjn)
            rw [← hu] at hH hlt1
            rw [← hv] at hlt1
            have HC := Lib.hid hH
            clear hjn hin hj00 hu hv hH HF1
            have hj0 : (0 : Int) ≤ (i : Int) ∧ (i : Int) < (c : Int) ∧ (i : Int) + 1 < (c : Int) := by omega
            have hj1 : (0 : Int) < (i : Int) + 1 := by omega
            have hvu : ¬ u ≤ v := by omega
            obtain ⟨ca, cb⟩ := HF.out wr hgw2
            go_wp2_with fail
            go_quiet (first | (go_at_call 18; refine Calls.quiet_of_same (HC.out _ ?_); (repeat' (first | exact Grew.refl _ | assumption | refine Grew.alloc ?_ _ | refine Grew.drew ?_ | refine Grew.drewN ?_ _ | refine Grew.setCell ?_ ?_ _ | (simp; done) | (simp; omega)))))
            go_wp2_with fail
            go_roundg (c - (i + 2))
            case measure => omega
            case rel => exact ⟨i + 2, by omega, by omega, by go_num, by (repeat' (first | exact Grew.refl _ | assumption | refine Grew.alloc ?_ _ | refine Grew.drew ?_ | refine Grew.drewN ?_ _ | refine Grew.setCell ?_ ?_ _ | (simp; done) | (simp; omega)))⟩
        · have h2z : ¬ (j : Int) < (c : Int) := by omega
          obtain rfl : j = c := by omega
          have hwf : Grew w wr := hw7.trans hgw2
          go_wp2_with fail
          refine (awake_any _).mono ?_
          rintro e w9 ⟨rfl, hg9⟩
          have hw9 : Grew w w9 := Grew.trans (by (repeat' (first | exact Grew.refl _ | assumption | refine Grew.alloc ?_ _ | refine Grew.drew ?_ | refine Grew.drewN ?_ _ | refine Grew.setCell ?_ ?_ _ | (simp; done) | (simp; omega)))) hg9
          clear hg9
          go_wp2_with fail
          go_ret
          exact ⟨rfl, by (repeat' (first | exact Grew.refl _ | assumption | refine Grew.alloc ?_ _ | refine Grew.drew ?_ | refine Grew.drewN ?_ _ | refine Grew.setCell ?_ ?_ _ | (simp; done) | (simp; omega)))⟩

end Go.Proofs.Ytmoaefcpbphgmaa

/- The walk of IndexPairs: it returns true. -/
import Derived.Test.YtmoaefcpbphgmaaPairsPlain
import Derived.Deep.LoopGhost
import Derived.Deep.RegionHeld3
import Derived.Deep.DrawnRows
namespace Go.Proofs.Ytmoaefcpbphgmaa
open Go.RowKit Go.Maps Go.Sort Go.Shelf
attribute [local go_sem ↓] Go.wp_at_zero Go.wp_at_succ

set_option maxHeartbeats 2000000 in
set_option maxRecDepth 100000 in
theorem indexPairs_any (p : Option Addr) (cap : Nat) (xs : List Int) (w : World) (hx : RdI w p xs) (hn : xs.length ≤ maxLen) :
    Calls Try.prog 3 #[.slice p xs.length cap] w fun e w' => e = .returned (.bool true) ∧ Grew w w' := by
  go_enter Try.func3, Try.ntmps3
  go_wp2_with fail
  refine (boxes_any p cap 30 xs _ (hx.grew (by (repeat' (first | exact Grew.refl _ | assumption | refine Grew.alloc ?_ _ | refine Grew.drew ?_ | refine Grew.drewN ?_ _ | refine Grew.setCell ?_ ?_ _ | (simp; done) | (simp; omega))))) hn (by decide)).mono ?_
  rintro e w1 ⟨v1, rfl, hsl, hg1⟩
  have hw1 : Grew w w1 := Grew.trans (by (repeat' (first | exact Grew.refl _ | assumption | refine Grew.alloc ?_ _ | refine Grew.drew ?_ | refine Grew.drewN ?_ _ | refine Grew.setCell ?_ ?_ _ | (simp; done) | (simp; omega)))) hg1
  have hok : ∀ b ∈ boxesL xs 30, okB b := okB_boxes _ _
  have hlen : (boxesL xs 30).length ≤ 30 := by unfold boxesL boxesN; rw [List.length_map, List.length_range]; omega
  generalize boxesL xs 30 = l at *
  have HL := Lib.hid hsl
  have HO := Lib.hid hok
  clear hsl hok hg1 hx hn
  go_wp2_with fail
  refine (putFirst_any _ v1 l _ (HL.out.grew (by (repeat' (first | exact Grew.refl _ | assumption | refine Grew.alloc ?_ _ | refine Grew.drew ?_ | refine Grew.drewN ?_ _ | refine Grew.setCell ?_ ?_ _ | (simp; done) | (simp; omega))))) HO.out (by omega)).mono ?_
  rintro e w2 ⟨sb, mb, rfl, hsw, hg2, hsb, hmb⟩
  have hw2 : Grew w w2 := Grew.trans (by (repeat' (first | exact Grew.refl _ | assumption | refine Grew.alloc ?_ _ | refine Grew.drew ?_ | refine Grew.drewN ?_ _ | refine Grew.setCell ?_ ?_ _ | (simp; done) | (simp; omega)))) hg2
  have HL2 := Lib.hid ((HL.out.grew (by (repeat' (first | exact Grew.refl _ | assumption | refine Grew.alloc ?_ _ | refine Grew.drew ?_ | refine Grew.drewN ?_ _ | refine Grew.setCell ?_ ?_ _ | (simp; done) | (simp; omega))))).grew hg2)
  have HS2 := Lib.hid hsw
  clear hg2 hsw
  go_wp2_with fail
  refine (putLast_any _ v1 l _ (HL2.out.grew (by (repeat' (first | exact Grew.refl _ | assumption | refine Grew.alloc ?_ _ | refine Grew.drew ?_ | refine Grew.drewN ?_ _ | refine Grew.setCell ?_ ?_ _ | (simp; done) | (simp; omega))))) HO.out (by omega)).mono ?_
  rintro e w3 ⟨sc, mc, rfl, hsw, hg3, hsc, hmc⟩
  have hw3 : Grew w w3 := Grew.trans (by (repeat' (first | exact Grew.refl _ | assumption | refine Grew.alloc ?_ _ | refine Grew.drew ?_ | refine Grew.drewN ?_ _ | refine Grew.setCell ?_ ?_ _ | (simp; done) | (simp; omega)))) hg3
  have HL3 := Lib.hid ((HL2.out.grew (by (repeat' (first | exact Grew.refl _ | assumption | refine Grew.alloc ?_ _ | refine Grew.drew ?_ | refine Grew.drewN ?_ _ | refine Grew.setCell ?_ ?_ _ | (simp; done) | (simp; omega))))).grew hg3)
  have HS3 := Lib.hid ((HS2.out.grew (by (repeat' (first | exact Grew.refl _ | assumption | refine Grew.alloc ?_ _ | refine Grew.drew ?_ | refine Grew.drewN ?_ _ | refine Grew.setCell ?_ ?_ _ | (simp; done) | (simp; omega))))).grew hg3)
  have HT3 := Lib.hid hsw
  have hlb := HS3.out.lt
  have hlc := hsw.lt
  clear hg3 hsw
  obtain ⟨lp, lc, rfl, hlp⟩ := HL3.out.shape
  obtain ⟨n, hn⟩ : ∃ n, l.length = n := ⟨_, rfl⟩
  have HN := Lib.hid hn
  have HLP := Lib.hid hlp
  rw [hn] at hlen
  rw [hn]
  clear hn hlp
  go_wp2_with fail
  go_loopg [6, 7] n (fun gg s6 s7 wr => ∃ (i : Nat) (o6 : Value), i ≤ n ∧ n - i ≤ gg ∧ o6 = s6 ∧ s7 = .int .i64 i ∧ Grew w3 wr ∧ Aside (SlP wr w3.heap.size o6 (wantN l i)))
  case atStart => exact ⟨0, _, by omega, by omega, rfl, rfl, Grew.refl _, SlP.nil _ _⟩
  case round =>
    obtain ⟨i, o6, hin, hgg, rfl, rfl, hgw, A⟩ := hrel
    by_cases h1 : i < n
    · have h1z : (i : Int) < (n : Int) := by omega
      go_wp2_with fail
      go_loopg [6, 8] n (fun gg s6 s8 wq => ∃ (k : Nat) (o : Value), i + 1 ≤ k ∧ k ≤ n ∧ n - k ≤ gg ∧ o = s6 ∧ s8 = .int .i64 k ∧ Grew w3 wq ∧ Aside (SlP wq w3.heap.size o (wantN l i ++ rowW l i (k - (i + 1)))))
      case atStart => exact ⟨i + 1, _, by omega, by omega, by omega, rfl, by go_num, hgw, by rw [Nat.sub_self]; show SlP _ _ _ (_ ++ []); rw [List.append_nil]; exact A.out⟩
      case round =>
        obtain ⟨k, o, hik, hkn, hgk, rfl, rfl, hgq, A2⟩ := hrel
        by_cases h2 : k < n
        · have h2z : (k : Int) < (n : Int) := by omega
          obtain ⟨g, rfl⟩ := HLP.out (by rw [HN.out]; omega)
          have hbase := HL3.out
          rw [HN.out] at hbase
          obtain ⟨i0, i1, i2, i3⟩ := hbase.cells i (by rw [HN.out]; omega)
          obtain ⟨k0, k1, k2, k3⟩ := hbase.cells k (by rw [HN.out]; omega)
          have hbi : l.getD i bx0 = l[i]'(by rw [HN.out]; omega) := by rw [List.getD_eq_getElem?_getD, List.getElem?_eq_getElem]; rfl
          have hbk : l.getD k bx0 = l[k]'(by rw [HN.out]; omega) := by rw [List.getD_eq_getElem?_getD, List.getElem?_eq_getElem]; rfl
          rw [← hbi] at i0 i1 i2 i3
          rw [← hbk] at k0 k1 k2 k3
          obtain ⟨q, hq⟩ : ∃ q, k - (i + 1) = q := ⟨_, rfl⟩
          have hs0 := rowW_succ l i q
          have hlq := rowW_len l i q
          have hlw := wantN_len l i
          rw [show i + 1 + q = k by omega] at hs0
          obtain ⟨a, ha⟩ : ∃ a, l.getD i bx0 = a := ⟨_, rfl⟩
          obtain ⟨b, hb⟩ : ∃ b, l.getD k bx0 = b := ⟨_, rfl⟩
          rw [ha, hb] at hs0
          rw [ha] at i0 i1 i2 i3
          rw [hb] at k0 k1 k2 k3
          have HF : Aside (∀ W', Grew w3 W' → (W'.cell? ⟨g, i * 4, none⟩ = some (.int .i64 a.1) ∧ W'.cell? ⟨g, i * 4 + 1, none⟩ = some (.int .i64 a.2.1) ∧ W'.cell? ⟨g, i * 4 + 2, none⟩ = some (.int .i64 a.2.2.1) ∧ W'.cell? ⟨g, i * 4 + 3, none⟩ = some (.int .i64 a.2.2.2) ∧
              W'.cell? ⟨g, k * 4, none⟩ = some (.int .i64 b.1) ∧ W'.cell? ⟨g, k * 4 + 1, none⟩ = some (.int .i64 b.2.1) ∧ W'.cell? ⟨g, k * 4 + 2, none⟩ = some (.int .i64 b.2.2.1) ∧ W'.cell? ⟨g, k * 4 + 3, none⟩ = some (.int .i64 b.2.2.2))) :=
            fun W' g => ⟨g.cell' i0, g.cell' i1, g.cell' i2, g.cell' i3, g.cell' k0, g.cell' k1, g.cell' k2, g.cell' k3⟩
          have HM := fun w => meet_any a b w
          have hll : (wantN l i ++ rowW l i q).length < 1000000 := by
            rw [List.length_append]
            rw [HN.out] at hlw
            have h2 : i * n ≤ 30 * 30 := Nat.mul_le_mul (by omega) hlen
            omega
          have HLL := Lib.hid hll
          have HQ := Lib.hid (show k - (i + 1) = q ∧ k + 1 - (i + 1) = q + 1 by omega)
          have HR0 := Lib.hid hs0
          rw [hq] at A2
          clear hbase i0 i1 i2 i3 k0 k1 k2 k3 hbi hbk hs0 ha hb hq hlq hlw hll
          cases hm : meetsL a b
          · rw [hm] at HM HR0
            go_wp2_with fail
            go_region_held3 (fun W' => W'.cell? ⟨g, i * 4, none⟩ = some (.int .i64 a.1) ∧ W'.cell? ⟨g, i * 4 + 1, none⟩ = some (.int .i64 a.2.1) ∧ W'.cell? ⟨g, i * 4 + 2, none⟩ = some (.int .i64 a.2.2.1) ∧ W'.cell? ⟨g, i * 4 + 3, none⟩ = some (.int .i64 a.2.2.2) ∧
              W'.cell? ⟨g, k * 4, none⟩ = some (.int .i64 b.1) ∧ W'.cell? ⟨g, k * 4 + 1, none⟩ = some (.int .i64 b.2.1) ∧ W'.cell? ⟨g, k * 4 + 2, none⟩ = some (.int .i64 b.2.2.1) ∧ W'.cell? ⟨g, k * 4 + 3, none⟩ = some (.int .i64 b.2.2.2))
              (first | (refine HF.out _ ?_; (repeat' (first | exact Grew.refl _ | assumption | refine Grew.alloc ?_ _ | refine Grew.drew ?_ | refine Grew.drewN ?_ _ | refine Grew.setCell ?_ ?_ _ | (simp; done) | (simp; omega))); done) | (refine HF.out _ (Grew.trans ?_ (by assumption)); (repeat' (first | exact Grew.refl _ | assumption | refine Grew.alloc ?_ _ | refine Grew.drew ?_ | refine Grew.drewN ?_ _ | refine Grew.setCell ?_ ?_ _ | (simp; done) | (simp; omega))); done))
              (first | (go_at_call 10; refine (HM _).mono ?_; rintro e w5 ⟨rfl, hg5⟩))
            all_goals
              have hg6 : Grew wr w5 := Grew.trans (by (repeat' (first | exact Grew.refl _ | assumption | refine Grew.alloc ?_ _ | refine Grew.drew ?_ | refine Grew.drewN ?_ _ | refine Grew.setCell ?_ ?_ _ | (simp; done) | (simp; omega)))) hg5
              go_wp2_with fail
              go_roundg (n - (k + 1))
              case measure => omega
              case rel =>
                refine ⟨k + 1, _, by omega, by omega, by omega, rfl, by go_num, hgq.trans hg6, ?_⟩
                have := HR0.out
                show SlP _ _ _ _
                rw [HQ.out.2, this, if_neg (by simp), List.append_nil]
                exact A2.out.grew hg6
          · rw [hm] at HM HR0
            go_wp2_with fail
            go_region_held3 (fun W' => W'.cell? ⟨g, i * 4, none⟩ = some (.int .i64 a.1) ∧ W'.cell? ⟨g, i * 4 + 1, none⟩ = some (.int .i64 a.2.1) ∧ W'.cell? ⟨g, i * 4 + 2, none⟩ = some (.int .i64 a.2.2.1) ∧ W'.cell? ⟨g, i * 4 + 3, none⟩ = some (.int .i64 a.2.2.2) ∧
              W'.cell? ⟨g, k * 4, none⟩ = some (.int .i64 b.1) ∧ W'.cell? ⟨g, k * 4 + 1, none⟩ = some (.int .i64 b.2.1) ∧ W'.cell? ⟨g, k * 4 + 2, none⟩ = some (.int .i64 b.2.2.1) ∧ W'.cell? ⟨g, k * 4 + 3, none⟩ = some (.int .i64 b.2.2.2))
              (first | (refine HF.out _ ?_; (repeat' (first | exact Grew.refl _ | assumption | refine Grew.alloc ?_ _ | refine Grew.drew ?_ | refine Grew.drewN ?_ _ | refine Grew.setCell ?_ ?_ _ | (simp; done) | (simp; omega))); done) | (refine HF.out _ (Grew.trans ?_ (by assumption)); (repeat' (first | exact Grew.refl _ | assumption | refine Grew.alloc ?_ _ | refine Grew.drew ?_ | refine Grew.drewN ?_ _ | refine Grew.setCell ?_ ?_ _ | (simp; done) | (simp; omega))); done))
              (first | (go_at_call 10; refine (HM _).mono ?_; rintro e w5 ⟨rfl, hg5⟩))
            all_goals
              have hg6 : Grew wr w5 := Grew.trans (by (repeat' (first | exact Grew.refl _ | assumption | refine Grew.alloc ?_ _ | refine Grew.drew ?_ | refine Grew.drewN ?_ _ | refine Grew.setCell ?_ ?_ _ | (simp; done) | (simp; omega)))) hg5
              have hg7 : Grew w3 w5 := hgq.trans hg6
              obtain ⟨g2, cap2, w6, hr, hP, hkp, hat, hlt2⟩ := appendP (A2.out.grew hg6) hg7.size HLL.out ((i : Int), (k : Int))
              have hw6 : Grew w3 w6 := Kp.grewOf hg7 hkp (fun x hx => (A2.out.own_ge x hx).1)
              have HP := Lib.hid hP
              simp only at hr
              have HR := Lib.hid hr
              clear hP hkp hat hlt2 hr
              go_wp2_with (at_builtin; refine wpList_append_run rfl _ _ _ _ rfl rfl _ _ _ rfl rfl HR.out ?_)
              go_roundg (n - (k + 1))
              case measure => omega
              case rel =>
                refine ⟨k + 1, _, by omega, by omega, by omega, rfl, by go_num, hw6, ?_⟩
                have := HR0.out
                show SlP _ _ _ _
                rw [HQ.out.2, this, if_pos trivial]
                have h := HP.out
                rw [List.length_append, List.append_assoc] at h
                exact h
        · have h2z : ¬ (k : Int) < (n : Int) := by omega
          obtain rfl : k = n := by omega
          go_wp2_with fail
          go_roundg (k - (i + 1))
          case measure => omega
          case rel =>
            refine ⟨i + 1, _, by omega, by omega, rfl, by go_num, hgq, ?_⟩
            have e : wantN l (i + 1) = wantN l i ++ rowW l i (k - (i + 1)) := by rw [wantN_succ, HN.out]
            show SlP _ _ _ _
            rw [e]
            exact A2.out
    · have h1z : ¬ (i : Int) < (n : Int) := by omega
      obtain rfl : i = n := by omega
      have hwq : Grew w wr := hw3.trans hgw
      have HP := Lib.hid (HS3.out.grew hgw)
      have HQ := Lib.hid (HT3.out.grew hgw)
      have hW : pairsOf (entN l 0 l.length) = wantN l i := by rw [pairsOf_want HO.out, HN.out]
      obtain ⟨wp, wc, rfl, hwp⟩ := A.out.shape
      have hml : (wantN l i).length ≤ maxLen := by
        have h1 := wantN_len l i
        rw [HN.out] at h1
        have h2 : i * i ≤ 30 * 30 := Nat.mul_le_mul hlen hlen
        unfold maxLen; omega
      have HW := Lib.hid hW
      have HML := Lib.hid hml
      clear hW hml hwp
      go_wp2_with fail
      refine (pairs_any sb mb (entN l 0 l.length) _ (HP.out.grew (by (repeat' (first | exact Grew.refl _ | assumption | refine Grew.alloc ?_ _ | refine Grew.drew ?_ | refine Grew.drewN ?_ _ | refine Grew.setCell ?_ ?_ _ | (simp; done) | (simp; omega)))))).mono ?_
      rintro e w4 ⟨vp, rfl, hsp, hg4⟩
      rw [HW.out] at hsp
      have hw4 : Grew w w4 := Grew.trans (by (repeat' (first | exact Grew.refl _ | assumption | refine Grew.alloc ?_ _ | refine Grew.drew ?_ | refine Grew.drewN ?_ _ | refine Grew.setCell ?_ ?_ _ | (simp; done) | (simp; omega)))) hg4
      have hr4 : Grew wr w4 := Grew.trans (by (repeat' (first | exact Grew.refl _ | assumption | refine Grew.alloc ?_ _ | refine Grew.drew ?_ | refine Grew.drewN ?_ _ | refine Grew.setCell ?_ ?_ _ | (simp; done) | (simp; omega)))) hg4
      obtain ⟨pp, pc, rfl, _⟩ := hsp.shape
      have HSP := Lib.hid hsp
      clear hg4 hsp
      go_wp2_with fail
      refine (samePairs_any pp wp pc wc (wantN l i) (wantN l i) _ (HSP.out.rd.grew (by (repeat' (first | exact Grew.refl _ | assumption | refine Grew.alloc ?_ _ | refine Grew.drew ?_ | refine Grew.drewN ?_ _ | refine Grew.setCell ?_ ?_ _ | (simp; done) | (simp; omega))))) (A.out.rd.grew (by (repeat' (first | exact Grew.refl _ | assumption | refine Grew.alloc ?_ _ | refine Grew.drew ?_ | refine Grew.drewN ?_ _ | refine Grew.setCell ?_ ?_ _ | (simp; done) | (simp; omega))))) HML.out).mono ?_
      rintro e w5 ⟨rfl, hg5⟩
      rw [show decide (wantN l i = wantN l i) = true from decide_eq_true rfl]
      have hw5 : Grew w w5 := Grew.trans (by (repeat' (first | exact Grew.refl _ | assumption | refine Grew.alloc ?_ _ | refine Grew.drew ?_ | refine Grew.drewN ?_ _ | refine Grew.setCell ?_ ?_ _ | (simp; done) | (simp; omega)))) hg5
      have hr5 : Grew wr w5 := Grew.trans (by (repeat' (first | exact Grew.refl _ | assumption | refine Grew.alloc ?_ _ | refine Grew.drew ?_ | refine Grew.drewN ?_ _ | refine Grew.setCell ?_ ?_ _ | (simp; done) | (simp; omega)))) hg5
      clear hg5
      go_wp2_with fail
      refine (pairs_any sc mc (entN l 0 l.length) _ (HQ.out.grew (by (repeat' (first | exact Grew.refl _ | assumption | refine Grew.alloc ?_ _ | refine Grew.drew ?_ | refine Grew.drewN ?_ _ | refine Grew.setCell ?_ ?_ _ | (simp; done) | (simp; omega)))))).mono ?_
      rintro e w6 ⟨vp, rfl, hsp, hg6⟩
      rw [HW.out] at hsp
      have hw6 : Grew w w6 := Grew.trans (by (repeat' (first | exact Grew.refl _ | assumption | refine Grew.alloc ?_ _ | refine Grew.drew ?_ | refine Grew.drewN ?_ _ | refine Grew.setCell ?_ ?_ _ | (simp; done) | (simp; omega)))) hg6
      have hr6 : Grew wr w6 := Grew.trans (by (repeat' (first | exact Grew.refl _ | assumption | refine Grew.alloc ?_ _ | refine Grew.drew ?_ | refine Grew.drewN ?_ _ | refine Grew.setCell ?_ ?_ _ | (simp; done) | (simp; omega)))) hg6
      obtain ⟨qp, qc, rfl, _⟩ := hsp.shape
      have HSQ := Lib.hid hsp
      clear hg6 hsp
      go_wp2_with fail
      refine (samePairs_any qp wp qc wc (wantN l i) (wantN l i) _ (HSQ.out.rd.grew (by (repeat' (first | exact Grew.refl _ | assumption | refine Grew.alloc ?_ _ | refine Grew.drew ?_ | refine Grew.drewN ?_ _ | refine Grew.setCell ?_ ?_ _ | (simp; done) | (simp; omega))))) (A.out.rd.grew (by (repeat' (first | exact Grew.refl _ | assumption | refine Grew.alloc ?_ _ | refine Grew.drew ?_ | refine Grew.drewN ?_ _ | refine Grew.setCell ?_ ?_ _ | (simp; done) | (simp; omega))))) HML.out).mono ?_
      rintro e w7 ⟨rfl, hg7⟩
      rw [show decide (wantN l i = wantN l i) = true from decide_eq_true rfl]
      have hw7 : Grew w w7 := Grew.trans (by (repeat' (first | exact Grew.refl _ | assumption | refine Grew.alloc ?_ _ | refine Grew.drew ?_ | refine Grew.drewN ?_ _ | refine Grew.setCell ?_ ?_ _ | (simp; done) | (simp; omega)))) hg7
      clear hg7
      go_wp2_with fail
      refine (awake_any _).mono ?_
      rintro e w8 ⟨rfl, hg8⟩
      have hw8 : Grew w w8 := Grew.trans (by (repeat' (first | exact Grew.refl _ | assumption | refine Grew.alloc ?_ _ | refine Grew.drew ?_ | refine Grew.drewN ?_ _ | refine Grew.setCell ?_ ?_ _ | (simp; done) | (simp; omega)))) hg8
      clear hg8
      go_wp2_with fail
      go_ret
      exact ⟨rfl, by (repeat' (first | exact Grew.refl _ | assumption | refine Grew.alloc ?_ _ | refine Grew.drew ?_ | refine Grew.drewN ?_ _ | refine Grew.setCell ?_ ?_ _ | (simp; done) | (simp; omega)))⟩

end Go.Proofs.Ytmoaefcpbphgmaa

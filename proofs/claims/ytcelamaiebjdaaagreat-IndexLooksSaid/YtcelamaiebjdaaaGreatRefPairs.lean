/- The reference's sweeps: Pairs, Near. -/
import Derived.Test.YtcelamaiebjdaaaGreatRef3
import Derived.Deep.RegionHeld3
import Derived.Deep.DrawnRows
import Derived.Deep.CutRange
namespace Go.Proofs.YtcelamaiebjdaaaGreat
open Go.RowKit Go.Maps Go.Sort Go.Shelf
attribute [local go_sem ↓] Go.wp_at_zero Go.wp_at_succ

/-- Pairs. -/
def kP : Kind (Int × Int) where
  ty := 83
  sl := 80
  size := 2
  bytes := 16
  enc := encP
  zero := .agg #[.int .i64 0, .int .i64 0]
  pos := by decide
  len := fun _ => rfl
  one := fun x u hu => by simp [encP] at hu; rcases hu with rfl | rfl <;> rfl
  zsz := rfl
  under := Tryz.underlying80
  info := by kernel_rfl
  small := by decide
theorem Sl.rdPP {w : World} {B : Nat} {p : Option Addr} {n cap : Nat} {xs : List (Int × Int)} (h : Sl kP w B (.slice p n cap) xs) : RdP w p xs := by
  rcases h.form with ⟨_, rfl⟩ | ⟨g, cap', hv, _, hg, _⟩
  · exact .inl rfl
  · simp at hv
    obtain ⟨rfl, rfl, rfl⟩ := hv
    exact .inr ⟨g, rfl, hg, fun j hj => ⟨h.cell j 0 hj (by decide), h.cell j 1 hj (by decide)⟩⟩
theorem rdOneP {w : World} {M : Nat} {x y : Int} (h0 : w.cell? ⟨M, 0, none⟩ = some (.int .i64 x)) (h1 : w.cell? ⟨M, 1, none⟩ = some (.int .i64 y)) : Rd kP w (some ⟨M, 0, none⟩) [(x, y)] := by
  refine .inr ⟨_, rfl, lt_of_cell h0, fun j u hu => ?_⟩
  rw [Kind.flat_one] at hu
  rw [add_zero_off, Nat.zero_add]
  match j with
  | 0 => simp [kP, encP] at hu; subst hu; exact h0
  | 1 => simp [kP, encP] at hu; subst hu; exact h1
  | j + 2 => simp [kP, encP] at hu

set_option maxHeartbeats 4000000 in
set_option maxRecDepth 100000 in
theorem refPairs_any (rb : Nat) (v : Value) (l : Sw) (w : World) (h : RefSw w rb v l) :
    Calls Tryz.prog 57 #[.pointer (some ⟨rb, 0, none⟩)] w (OwnOf kP (pairsOf l) w) := by
  have c0 := h.c0
  have c1 := h.c1
  have hsm := h.ok.small
  rw [pairsOf_rows h.ok.asc]
  obtain ⟨p, c, rfl, hp⟩ := h.row.shape
  have H := Lib.hid h
  obtain ⟨n, hn⟩ : ∃ n, l.length = n := ⟨_, rfl⟩
  have HN := Lib.hid hn
  rw [hn] at c1 hp hsm
  have HP := Lib.hid hp
  have HC := Lib.hid c1
  clear h hn hp
  go_enter Tryz.func57, Tryz.ntmps57
  go_wp2_with fail
  refine (swValid_any rb _ c0).mono ?_
  rintro e w1 ⟨rfl, rfl⟩
  clear c0 c1
  go_wp2_with fail
  go_loopg [3, 4] n (fun gg s3 s4 wr => ∃ (i : Nat) (o3 : Value), i ≤ n ∧ n - i ≤ gg ∧ o3 = s3 ∧ s4 = .int .i64 i ∧ Grew w wr ∧ Aside (Sl kP wr w.heap.size o3 (pairsE l i)))
  case atStart => exact ⟨0, _, Nat.zero_le _, by omega, rfl, rfl, Grew.refl _, Sl.nil _ _ _⟩
  case round =>
    obtain ⟨i, o3, hi, hgg, rfl, rfl, hgw, A⟩ := hrel
    have c1 := hgw.cell' HC.out
    by_cases h1 : i < n
    · have h1z : (i : Int) < (n : Int) := by omega
      obtain ⟨g, rfl⟩ := HP.out (by omega)
      have hpl := pairsE_len l i
      rw [HN.out] at hpl
      have hpl2 : (pairsE l i).length ≤ 65536 := Nat.le_trans hpl (Nat.mul_le_mul (show i ≤ 256 by omega) (show n ≤ 256 by omega))
      have HPL := Lib.hid hpl2
      have A0 := Lib.hid (show Sl kP wr w.heap.size o3 (pairsE l i ++ rowE l i 0) by
        have : rowE l i 0 = [] := rfl
        rw [this, List.append_nil]; exact A.out)
      obtain ⟨wq, hwq⟩ : ∃ wq, wq = wr := ⟨_, rfl⟩
      subst hwq
      clear hpl hpl2 A
      go_wp2_with fail
      clear c1
      go_loopg [3, 5] n (fun gg s3 s5 wr => ∃ (q : Nat) (o3 : Value), i + 1 + q ≤ n ∧ n - (i + 1 + q) ≤ gg ∧ o3 = s3 ∧ s5 = .int .i64 ((i + 1 + q : Nat) : Int) ∧ Grew w wr ∧ Aside (Sl kP wr w.heap.size o3 (pairsE l i ++ rowE l i q)))
      case atStart => exact ⟨0, o3, by omega, by omega, rfl, by go_num, hgw, A0.out⟩
      case round =>
        obtain ⟨q, o4, hq, hgg2, rfl, rfl, hgw2, A⟩ := hrel
        obtain ⟨k, hk⟩ : ∃ k, i + 1 + q = k := ⟨_, rfl⟩
        have HKk := Lib.hid hk
        rw [hk] at hq hgg2 ⊢
        have c1 := hgw2.cell' HC.out
        by_cases h2 : k < n
        · have h2z : (k : Int) < (n : Int) := by omega
          have hil : i < l.length := by rw [HN.out]; exact h1
          have hkl : k < l.length := by rw [HN.out]; exact h2
          have hrs := rowE_succ l i q
          rw [hk] at hrs
          have hrl := rowE_len l i q
          obtain ⟨x, a, hxa⟩ : ∃ x a, eG l i = (x, a) := ⟨_, _, rfl⟩
          obtain ⟨y, b, hyb⟩ : ∃ y b, eG l k = (y, b) := ⟨_, _, rfl⟩
          have hci := H.out.cells i hil
          have hck := H.out.cells k hkl
          rw [hxa] at hci hrs
          rw [hyb] at hck hrs
          obtain ⟨a0, a1, a2, a3⟩ := a
          obtain ⟨b0, b1, b2, b3⟩ := b
          simp only at hci hck hrs
          have HF : Aside (∀ W, Grew w W → (W.cell? ⟨rb, 1, none⟩ = some (.slice (some ⟨g, 0, none⟩) n c) ∧ W.cell? ⟨g, i * 5 + 1, none⟩ = some (.int .i64 a0) ∧ W.cell? ⟨g, i * 5 + 2, none⟩ = some (.int .i64 a1) ∧ W.cell? ⟨g, i * 5 + 3, none⟩ = some (.int .i64 a2) ∧ W.cell? ⟨g, i * 5 + 4, none⟩ = some (.int .i64 a3) ∧
            W.cell? ⟨g, k * 5 + 1, none⟩ = some (.int .i64 b0) ∧ W.cell? ⟨g, k * 5 + 2, none⟩ = some (.int .i64 b1) ∧ W.cell? ⟨g, k * 5 + 3, none⟩ = some (.int .i64 b2) ∧ W.cell? ⟨g, k * 5 + 4, none⟩ = some (.int .i64 b3))) := fun W gr =>
            ⟨gr.cell' HC.out, gr.cell' hci.2.1, gr.cell' hci.2.2.1, gr.cell' hci.2.2.2.1, gr.cell' hci.2.2.2.2, gr.cell' hck.2.1, gr.cell' hck.2.2.1, gr.cell' hck.2.2.2.1, gr.cell' hck.2.2.2.2⟩
          have HI : Aside (∀ W, Grew w W → (W.cell? ⟨rb, 1, none⟩ = some (.slice (some ⟨g, 0, none⟩) n c) ∧ W.cell? ⟨g, i * 5, none⟩ = some (.int .i64 x) ∧ W.cell? ⟨g, k * 5, none⟩ = some (.int .i64 y))) := fun W gr => ⟨gr.cell' HC.out, gr.cell' hci.1, gr.cell' hck.1⟩
          have Mm := fun W => refMeets_any (a0, a1, a2, a3) (b0, b1, b2, b3) W
          obtain ⟨r, hr⟩ : ∃ r, mB (a0, a1, a2, a3) (b0, b1, b2, b3) = r := ⟨_, rfl⟩
          rw [hr] at Mm hrs
          simp only at Mm
          have HMm := Lib.hid Mm
          have HRS := Lib.hid hrs
          have HRL : Aside ((pairsE l i ++ rowE l i q).length < 900000) := by
            show _ < _
            have := HPL.out
            have := HKk.out
            rw [List.length_append]; omega
          have hiz0 : (0 : Int) ≤ (i : Int) ∧ (0 : Int) ≤ (k : Int) := by omega
          have hwr2 := hgw2.size
          obtain ⟨d1, d2, d3, d4, d5, d6, d7, d8, d9⟩ := HF.out wr hgw2
          clear hci hck hrs hrl hxa hyb hil hkl Mm hr hk c1
          go_wp2_with fail
          go_cut [45] from 29 to 45 (fun s45 wx => s45 = .bool r ∧ Grew wr wx)
          case first =>
            go_region_held3 (fun W => W.cell? ⟨rb, 1, none⟩ = some (.slice (some ⟨g, 0, none⟩) n c) ∧ W.cell? ⟨g, i * 5 + 1, none⟩ = some (.int .i64 a0) ∧ W.cell? ⟨g, i * 5 + 2, none⟩ = some (.int .i64 a1) ∧ W.cell? ⟨g, i * 5 + 3, none⟩ = some (.int .i64 a2) ∧ W.cell? ⟨g, i * 5 + 4, none⟩ = some (.int .i64 a3) ∧
              W.cell? ⟨g, k * 5 + 1, none⟩ = some (.int .i64 b0) ∧ W.cell? ⟨g, k * 5 + 2, none⟩ = some (.int .i64 b1) ∧ W.cell? ⟨g, k * 5 + 3, none⟩ = some (.int .i64 b2) ∧ W.cell? ⟨g, k * 5 + 4, none⟩ = some (.int .i64 b3))
              ((refine HF.out _ ?_; (repeat' (first | (with_reducible assumption) | (with_reducible exact Grew.refl _) | (with_reducible refine Grew.alloc ?_ _) | (with_reducible refine Grew.drew ?_) | (with_reducible refine Grew.drewN ?_ _) | (with_reducible refine Grew.setCell ?_ ?_ _) | (simp; done) | (simp; omega))); done))
              (first | (go_at_call 79; refine (HMm.out _).mono ?_; rintro e w6 ⟨rfl, hg6⟩; replace hg6 := Grew.trans (show Grew wr _ by (repeat' (first | (with_reducible assumption) | (with_reducible exact Grew.refl _) | (with_reducible refine Grew.alloc ?_ _) | (with_reducible refine Grew.drew ?_) | (with_reducible refine Grew.drewN ?_ _) | (with_reducible refine Grew.setCell ?_ ?_ _) | (simp; done) | (simp; omega)))) hg6; have hgw6 := hgw2.trans hg6))
            all_goals
              go_wp2_with fail
              go_meet
              exact ⟨rfl, hg6⟩
          obtain ⟨hs45, hgc⟩ := hcut
          subst hs45
          have hgwc := hgw2.trans hgc
          have AC := Lib.hid (A.out.grew hgc)
          clear d1 d2 d3 d4 d5 d6 d7 d8 d9 A
          cases r
          · go_wp2_with fail
            go_roundg (n - (k + 1))
            case measure => omega
            case rel =>
              refine ⟨q + 1, o4, by have := HKk.out; omega, by have := HKk.out; omega, rfl, by have := HKk.out; go_num, hgwc, (show Aside _ from ?_)⟩
              rw [HRS.out, if_neg (by simp), List.append_nil]
              exact AC.out
          · obtain ⟨d1, d2, d3⟩ := HI.out wc hgwc
            have hwc := hgwc.size
            go_wp2_with fail
            go_region_held3 (fun W => W.cell? ⟨rb, 1, none⟩ = some (.slice (some ⟨g, 0, none⟩) n c) ∧ W.cell? ⟨g, i * 5, none⟩ = some (.int .i64 x) ∧ W.cell? ⟨g, k * 5, none⟩ = some (.int .i64 y))
              ((refine HI.out _ ?_; (repeat' (first | (with_reducible assumption) | (with_reducible exact Grew.refl _) | (with_reducible refine Grew.alloc ?_ _) | (with_reducible refine Grew.drew ?_) | (with_reducible refine Grew.drewN ?_ _) | (with_reducible refine Grew.setCell ?_ ?_ _) | (simp; done) | (simp; omega))); done))
              (first | (refine stepAppend kP rfl _ _ rfl rfl w.heap.size o4 (pairsE l i ++ rowE l i q) rfl (AC.out.grew ?_) ?_ (some ⟨wc.heap.size, 0, none⟩) 1 1 [(x, y)] rfl rfl (rdOneP ?_ ?_) (by simp) ?_ ?_; (· (repeat' (first | (with_reducible assumption) | (with_reducible exact Grew.refl _) | (with_reducible refine Grew.alloc ?_ _) | (with_reducible refine Grew.drew ?_) | (with_reducible refine Grew.drewN ?_ _) | (with_reducible refine Grew.setCell ?_ ?_ _) | (simp; done) | (simp; omega)))); (· simp; omega); (· simp [go_sem]); (· simp [go_sem]); (· have := HRL.out; simp only [List.length_singleton]; omega); intro v' w7 hs7 hk7 ho7 hf7; have hg7 := Kp.grewOf (show Grew w _ by (repeat' (first | (with_reducible assumption) | (with_reducible exact Grew.refl _) | (with_reducible refine Grew.alloc ?_ _) | (with_reducible refine Grew.drew ?_) | (with_reducible refine Grew.drewN ?_ _) | (with_reducible refine Grew.setCell ?_ ?_ _) | (simp; done) | (simp; omega)))) hk7 (fun z hz => (AC.out.own_ge z hz).1)))
            all_goals
              go_wp2_with fail
              go_roundg (n - (k + 1))
              case measure => omega
              case rel =>
                refine ⟨q + 1, v', by have := HKk.out; omega, by have := HKk.out; omega, rfl, by have := HKk.out; go_num, by (repeat' (first | (with_reducible assumption) | (with_reducible exact Grew.refl _) | (with_reducible refine Grew.alloc ?_ _) | (with_reducible refine Grew.drew ?_) | (with_reducible refine Grew.drewN ?_ _) | (with_reducible refine Grew.setCell ?_ ?_ _) | (simp; done) | (simp; omega))), (show Aside _ from ?_)⟩
                rw [HRS.out, if_pos (by trivial), ← List.append_assoc]
                exact hs7.grew (by (repeat' (first | (with_reducible assumption) | (with_reducible exact Grew.refl _) | (with_reducible refine Grew.alloc ?_ _) | (with_reducible refine Grew.drew ?_) | (with_reducible refine Grew.drewN ?_ _) | (with_reducible refine Grew.setCell ?_ ?_ _) | (simp; done) | (simp; omega))))
        · have h2z : ¬ (k : Int) < (n : Int) := by omega
          have hlast : Aside (pairsE l i ++ rowE l i q = pairsE l (i + 1)) := by
            show _ = _
            rw [pairsE_succ, HN.out]
            have := HKk.out
            rw [show n - (i + 1) = q by omega]
          clear hk
          go_wp2_with fail
          go_roundg (n - (i + 1))
          case measure => omega
          case rel => exact ⟨i + 1, o4, by omega, by omega, rfl, by go_num, hgw2, by rw [← hlast.out]; exact A.out⟩
    · have h1z : ¬ (i : Int) < (n : Int) := by omega
      obtain rfl : i = n := by omega
      go_wp2_with fail
      go_ret
      have h := A.out
      rw [← HN.out] at h
      exact ⟨_, rfl, h, hgw⟩

set_option maxHeartbeats 4000000 in
set_option maxRecDepth 100000 in
theorem refNear_any (rb : Nat) (v : Value) (l : Sw) (b : Bx) (w : World) (h : RefSw w rb v l) :
    Calls Tryz.prog 28 #[.pointer (some ⟨rb, 0, none⟩), .agg #[.int .i64 b.1, .int .i64 b.2.1, .int .i64 b.2.2.1, .int .i64 b.2.2.2]] w (OwnOf kI (idsOf (fun x => mB x b) l) w) := by
  have c0 := h.c0
  have c1 := h.c1
  have hB := lt_of_cell c0
  have hsm := h.ok.small
  obtain ⟨p, c, rfl, hp⟩ := h.row.shape
  have H := Lib.hid h
  obtain ⟨n, hn⟩ : ∃ n, l.length = n := ⟨_, rfl⟩
  have HN := Lib.hid hn
  rw [hn] at c1 hp hsm
  have HP := Lib.hid hp
  have HC := Lib.hid c1
  obtain ⟨pr, hpr⟩ : ∃ pr : Bx → Bool, (fun x => mB x b) = pr := ⟨_, rfl⟩
  have Mm := fun x W => refMeets_any x b W
  have Mm : ∀ (x : Bx) W, Calls Tryz.prog 79 #[.agg #[.int .i64 x.1, .int .i64 x.2.1, .int .i64 x.2.2.1, .int .i64 x.2.2.2], .agg #[.int .i64 b.1, .int .i64 b.2.1, .int .i64 b.2.2.1, .int .i64 b.2.2.2]] W fun e w' => e = .returned (.bool (pr x)) ∧ Grew W w' := fun x W => by rw [← hpr]; exact Mm x W
  obtain ⟨r, hr⟩ : ∃ r, chk b.1 b.2.1 b.2.2.1 b.2.2.2 = r := ⟨_, rfl⟩
  have hnone : r ≠ 0 → idsOf pr l = [] := fun h0 => idsOf_none (fun x => by
    rw [← hpr]
    unfold mB meetB
    exact decide_eq_false (fun h => h0 (hr.symm.trans h.2.1)))
  have HCk := Lib.hid (fun W => refCheck_any b.1 b.2.1 b.2.2.1 b.2.2.2 W)
  rw [hr] at HCk
  rw [hpr]
  have HNone := Lib.hid hnone
  obtain ⟨b0, b1, b2, b3⟩ := b
  simp only at Mm HCk
  have HMm := Lib.hid Mm
  obtain ⟨Bb, hBb⟩ : ∃ Bb, w.heap.size = Bb := ⟨_, rfl⟩
  have hBb0 := hBb
  rw [hBb] at hB
  have c0b : ∀ W, Grew w W → W.cell? ⟨rb, 0, none⟩ = some (.bool true) := fun W g => g.cell' c0
  have HC0 := Lib.hid c0b
  clear h hn hp hpr hr hnone Mm c0 c1 c0b
  go_enter Tryz.func28, Tryz.ntmps28
  go_wp2_with fail
  refine (swValid_any rb _ (HC0.out _ (by (repeat' (first | (with_reducible assumption) | (with_reducible exact Grew.refl _) | (with_reducible refine Grew.alloc ?_ _) | (with_reducible refine Grew.drew ?_) | (with_reducible refine Grew.drewN ?_ _) | (with_reducible refine Grew.setCell ?_ ?_ _) | (simp; done) | (simp; omega)))))).mono ?_
  rintro e w1 ⟨rfl, rfl⟩
  go_wp2_with fail
  refine (HCk.out _).mono ?_
  rintro e w2 ⟨rfl, hg2⟩
  have k0 := hg2.cell' (b := Bb) (o := 0) (v := .int .i64 b0) (by rw [← hBb0]; simp [go_sem])
  have k1 := hg2.cell' (b := Bb) (o := 1) (v := .int .i64 b1) (by rw [← hBb0]; simp [go_sem])
  have k2 := hg2.cell' (b := Bb) (o := 2) (v := .int .i64 b2) (by rw [← hBb0]; simp [go_sem])
  have k3 := hg2.cell' (b := Bb) (o := 3) (v := .int .i64 b3) (by rw [← hBb0]; simp [go_sem])
  have hw2 : Grew w w2 := Grew.trans (by (repeat' (first | (with_reducible assumption) | (with_reducible exact Grew.refl _) | (with_reducible refine Grew.alloc ?_ _) | (with_reducible refine Grew.drew ?_) | (with_reducible refine Grew.drewN ?_ _) | (with_reducible refine Grew.setCell ?_ ?_ _) | (simp; done) | (simp; omega)))) hg2
  have HK : Aside (∀ W, Grew w2 W → (W.cell? ⟨Bb, 0, none⟩ = some (.int .i64 b0) ∧ W.cell? ⟨Bb, 1, none⟩ = some (.int .i64 b1) ∧ W.cell? ⟨Bb, 2, none⟩ = some (.int .i64 b2) ∧ W.cell? ⟨Bb, 3, none⟩ = some (.int .i64 b3))) := fun W g => ⟨g.cell' k0, g.cell' k1, g.cell' k2, g.cell' k3⟩
  have HW2 := Lib.hid hw2
  clear hg2 k0 k1 k2 k3 hBb0 hBb hw2
  by_cases hr0 : r = 0
  case neg =>
    have hr1 : (r != 0) = true := by simpa using hr0
    have hz := HNone.out hr0
    have HZ := Lib.hid hz
    clear hz hr0
    go_wp2_with fail
    go_ret
    exact ⟨_, rfl, by rw [HZ.out]; exact Sl.nil _ _ _, HW2.out⟩
  case pos =>
    subst hr0
    have c1 := HW2.out.cell' HC.out
    go_wp2_with fail
    clear c1
    go_loopg [5, 6] n (fun gg s5 s6 wr => ∃ (j : Nat) (o5 : Value), j ≤ n ∧ n - j ≤ gg ∧ o5 = s5 ∧ s6 = .int .i64 j ∧ Grew w2 wr ∧ Aside (Sl kI wr w2.heap.size o5 (whichN pr l j)))
    case atStart => exact ⟨0, _, Nat.zero_le _, by omega, rfl, rfl, Grew.refl _, Sl.nil _ _ _⟩
    case round =>
      obtain ⟨j, o5, hj, hgg, rfl, rfl, hgw, A⟩ := hrel
      have c1 := (HW2.out.trans hgw).cell' HC.out
      by_cases h1 : j < n
      · have h1z : (j : Int) < (n : Int) := by omega
        have h1z0 : (0 : Int) ≤ (j : Int) := by omega
        obtain ⟨g, rfl⟩ := HP.out (by omega)
        have hjl : j < l.length := by rw [HN.out]; exact h1
        have hci := H.out.cells j hjl
        have hws := whichN_succ (p := pr) hjl
        have hwl := whichN_len pr l j
        obtain ⟨x, a, hxa⟩ : ∃ x a, eG l j = (x, a) := ⟨_, _, rfl⟩
        rw [hxa] at hci hws
        obtain ⟨a0, a1, a2, a3⟩ := a
        simp only at hci hws
        obtain ⟨q, hq⟩ : ∃ q, pr (a0, a1, a2, a3) = q := ⟨_, rfl⟩
        have Mq := fun W => HMm.out (a0, a1, a2, a3) W
        rw [hq] at Mq hws
        simp only at Mq
        have HMq := Lib.hid Mq
        have HWS := Lib.hid hws
        have HF : Aside (∀ W, Grew wr W → (W.cell? ⟨rb, 1, none⟩ = some (.slice (some ⟨g, 0, none⟩) n c) ∧ W.cell? ⟨g, j * 5 + 1, none⟩ = some (.int .i64 a0) ∧ W.cell? ⟨g, j * 5 + 2, none⟩ = some (.int .i64 a1) ∧ W.cell? ⟨g, j * 5 + 3, none⟩ = some (.int .i64 a2) ∧ W.cell? ⟨g, j * 5 + 4, none⟩ = some (.int .i64 a3) ∧
          W.cell? ⟨Bb, 0, none⟩ = some (.int .i64 b0) ∧ W.cell? ⟨Bb, 1, none⟩ = some (.int .i64 b1) ∧ W.cell? ⟨Bb, 2, none⟩ = some (.int .i64 b2) ∧ W.cell? ⟨Bb, 3, none⟩ = some (.int .i64 b3))) := fun W gr => by
          have g0 := HW2.out.trans (hgw.trans gr)
          have hb := HK.out W (hgw.trans gr)
          exact ⟨g0.cell' HC.out, g0.cell' hci.2.1, g0.cell' hci.2.2.1, g0.cell' hci.2.2.2.1, g0.cell' hci.2.2.2.2, hb.1, hb.2.1, hb.2.2.1, hb.2.2.2⟩
        have HX : Aside (∀ W, Grew wr W → (W.cell? ⟨rb, 1, none⟩ = some (.slice (some ⟨g, 0, none⟩) n c) ∧ W.cell? ⟨g, j * 5, none⟩ = some (.int .i64 x))) := fun W gr => by
          have g0 := HW2.out.trans (hgw.trans gr)
          exact ⟨g0.cell' HC.out, g0.cell' hci.1⟩
        obtain ⟨d1, d2, d3, d4, d5, d6, d7, d8, d9⟩ := HF.out wr (Grew.refl _)
        clear hci hws hxa hjl Mq hq c1
        go_wp2_with fail
        go_cut [33] from 24 to 33 (fun s33 wx => s33 = .bool q ∧ Grew wr wx)
        case first =>
          go_region_held3 (fun W => W.cell? ⟨rb, 1, none⟩ = some (.slice (some ⟨g, 0, none⟩) n c) ∧ W.cell? ⟨g, j * 5 + 1, none⟩ = some (.int .i64 a0) ∧ W.cell? ⟨g, j * 5 + 2, none⟩ = some (.int .i64 a1) ∧ W.cell? ⟨g, j * 5 + 3, none⟩ = some (.int .i64 a2) ∧ W.cell? ⟨g, j * 5 + 4, none⟩ = some (.int .i64 a3) ∧
            W.cell? ⟨Bb, 0, none⟩ = some (.int .i64 b0) ∧ W.cell? ⟨Bb, 1, none⟩ = some (.int .i64 b1) ∧ W.cell? ⟨Bb, 2, none⟩ = some (.int .i64 b2) ∧ W.cell? ⟨Bb, 3, none⟩ = some (.int .i64 b3))
            ((refine HF.out _ ?_; (repeat' (first | (with_reducible assumption) | (with_reducible exact Grew.refl _) | (with_reducible refine Grew.alloc ?_ _) | (with_reducible refine Grew.drew ?_) | (with_reducible refine Grew.drewN ?_ _) | (with_reducible refine Grew.setCell ?_ ?_ _) | (simp; done) | (simp; omega))); done))
            (first | (go_at_call 79; refine (HMq.out _).mono ?_; rintro e w6 ⟨rfl, hg6⟩; replace hg6 := Grew.trans (show Grew wr _ by (repeat' (first | (with_reducible assumption) | (with_reducible exact Grew.refl _) | (with_reducible refine Grew.alloc ?_ _) | (with_reducible refine Grew.drew ?_) | (with_reducible refine Grew.drewN ?_ _) | (with_reducible refine Grew.setCell ?_ ?_ _) | (simp; done) | (simp; omega)))) hg6))
          all_goals
            go_wp2_with fail
            go_meet
            exact ⟨rfl, hg6⟩
        obtain ⟨hs33, hgc⟩ := hcut
        subst hs33
        have hgwc := hgw.trans hgc
        have AC := Lib.hid (A.out.grew hgc)
        clear d1 d2 d3 d4 d5 d6 d7 d8 d9 A
        cases q
        · go_wp2_with fail
          go_roundg (n - (j + 1))
          case measure => omega
          case rel =>
            refine ⟨j + 1, o5, by omega, by omega, rfl, by go_num, hgwc, (show Aside _ from ?_)⟩
            rw [HWS.out, if_neg (by simp), List.append_nil]
            exact AC.out
        · obtain ⟨d1, d2⟩ := HX.out wc hgc
          have hsz := hgwc.size
          obtain ⟨v', w4, hr, hs, hk, ho⟩ := appendOne kI AC.out hsz (by omega) x #[.int .i64 x] rfl
          have hw4 : Grew w2 w4 := Kp.grewOf hgwc hk (fun y hy => (AC.out.own_ge y hy).1)
          have HR := Lib.hid hr
          have HV := Lib.hid hs
          clear hr hs hk ho
          go_wp2_with (at_builtin; refine wpList_append_run rfl _ _ _ _ rfl rfl _ _ _ rfl rfl HR.out ?_)
          go_roundg (n - (j + 1))
          case measure => omega
          case rel => exact ⟨j + 1, _, by omega, by omega, rfl, by go_num, hw4, (show Aside _ from by rw [HWS.out, if_pos (by trivial)]; exact HV.out)⟩
      · have h1z : ¬ (j : Int) < (n : Int) := by omega
        obtain rfl : j = n := by omega
        go_wp2_with fail
        go_ret
        have h := A.out
        rw [← HN.out, whichN_all] at h
        exact ⟨_, rfl, h.base HW2.out.size, HW2.out.trans hgw⟩

end Go.Proofs.YtcelamaiebjdaaaGreat

/- The reference's sweeps: Along. The walk of IndexLooks: it returns true. The statement on IndexLooks, proved. -/
import Derived.Test.YtcelamaiebjdaaaGreatAlong3
import Derived.Test.YtcelamaiebjdaaaGreatRefPairs
import Derived.Test.YtcelamaiebjdaaaGreatPlayW
import Derived.Test.YtcelamaiebjdaaaGreatGate4
namespace Go.Proofs.YtcelamaiebjdaaaGreat
open Go.RowKit Go.Maps Go.Sort Go.Shelf
attribute [local go_sem ↓] Go.wp_at_zero Go.wp_at_succ

set_option maxHeartbeats 4000000 in
set_option maxRecDepth 100000 in
theorem refAlong_any (rb : Nat) (v : Value) (l : Sw) (fx fy tx ty : Int) (w : World) (h : RefSw w rb v l) :
    Calls Tryz.prog 29 #[.pointer (some ⟨rb, 0, none⟩), .agg #[.int .i64 fx, .int .i64 fy], .agg #[.int .i64 tx, .int .i64 ty]] w (OwnOf kI (idsOf (fun x => alongB x fx fy tx ty) l) w) := by
  have c0 := h.c0
  have c1 := h.c1
  have hB := lt_of_cell c0
  have hsm := h.ok.small
  obtain ⟨p, c, rfl, hp⟩ := h.row.shape
  have H := Lib.hid h
  obtain ⟨n, hn⟩ : ∃ n, l.length = n := ⟨_, rfl⟩
  have HN := Lib.hid hn
  rw [hn] at c1 hp hsm
  have HP := Lib.hid hp
  have HC := Lib.hid c1
  obtain ⟨pr, hpr⟩ : ∃ pr : Bx → Bool, (fun x => alongB x fx fy tx ty) = pr := ⟨_, rfl⟩
  have Mm : ∀ (x : Bx) W, Calls Tryz.prog 80 #[.agg #[.int .i64 x.1, .int .i64 x.2.1, .int .i64 x.2.2.1, .int .i64 x.2.2.2], .agg #[.int .i64 fx, .int .i64 fy], .agg #[.int .i64 tx, .int .i64 ty]] W fun e w' => e = .returned (.bool (pr x)) ∧ Grew W w' := fun x W => by rw [← hpr]; exact along3_any x.1 x.2.1 x.2.2.1 x.2.2.2 fx fy tx ty W
  rw [hpr]
  have HMm := Lib.hid Mm
  obtain ⟨Bb, hBb⟩ : ∃ Bb, w.heap.size = Bb := ⟨_, rfl⟩
  rw [hBb] at hB
  obtain ⟨w2, hw2e⟩ : ∃ w2, (w.alloc (.cells #[.int .i64 fx, .int .i64 fy] 29)).alloc (.cells #[.int .i64 tx, .int .i64 ty] 29) = w2 := ⟨_, rfl⟩
  have hw2 : Grew w w2 := by rw [← hw2e]; (repeat' (first | (with_reducible assumption) | (with_reducible exact Grew.refl _) | (with_reducible refine Grew.alloc ?_ _) | (with_reducible refine Grew.drew ?_) | (with_reducible refine Grew.drewN ?_ _) | (with_reducible refine Grew.setCell ?_ ?_ _) | (simp; done) | (simp; omega)))
  have HK : Aside (∀ W, Grew w2 W → (W.cell? ⟨Bb, 0, none⟩ = some (.int .i64 fx) ∧ W.cell? ⟨Bb, 1, none⟩ = some (.int .i64 fy) ∧ W.cell? ⟨Bb + 1, 0, none⟩ = some (.int .i64 tx) ∧ W.cell? ⟨Bb + 1, 1, none⟩ = some (.int .i64 ty))) := by
    intro W g
    refine ⟨g.cell' ?_, g.cell' ?_, g.cell' ?_, g.cell' ?_⟩
    all_goals (rw [← hw2e, ← hBb]; simp [go_sem])
  have c0b := hw2.cell' c0
  have HW2 := Lib.hid hw2
  clear h hn hp hpr Mm c0 c1 hw2
  go_enter Tryz.func29, Tryz.ntmps29
  go_wp2_with fail
  refine (swValid_any rb _ c0b).mono ?_
  rintro e w1 ⟨rfl, rfl⟩
  clear hw2e hBb
  have c1 := HW2.out.cell' HC.out
  go_wp2_with fail
  clear c1 c0b
  go_loopg [7, 8] n (fun gg s5 s6 wr => ∃ (j : Nat) (o5 : Value), j ≤ n ∧ n - j ≤ gg ∧ o5 = s5 ∧ s6 = .int .i64 j ∧ Grew w2 wr ∧ Aside (Sl kI wr w2.heap.size o5 (whichN pr l j)))
  case atStart => exact ⟨0, _, Nat.zero_le _, by omega, rfl, rfl, Grew.refl _, Sl.nil _ _ _⟩
  case round =>
    obtain ⟨j, o5, hj, hgg, rfl, rfl, hgw, A⟩ := hrel
    have c1 := (HW2.out.trans hgw).cell' HC.out
    by_cases h1 : j < n
    · have h1z : (j : Int) < (n : Int) := by omega
      have h1z0 : (0 : Int) ≤ (j : Int) := by omega
      obtain ⟨g, rfl⟩ := HP.out (by omega)
      have hjl : j < l.length := by rw [HN.out]; exact h1
      have hci := H.out.cells j hjl
      have hws := whichN_succ (p := pr) hjl
      have hwl := whichN_len pr l j
      obtain ⟨x, a, hxa⟩ : ∃ x a, eG l j = (x, a) := ⟨_, _, rfl⟩
      rw [hxa] at hci hws
      obtain ⟨a0, a1, a2, a3⟩ := a
      simp only at hci hws
      obtain ⟨q, hq⟩ : ∃ q, pr (a0, a1, a2, a3) = q := ⟨_, rfl⟩
      have Mq := fun W => HMm.out (a0, a1, a2, a3) W
      rw [hq] at Mq hws
      simp only at Mq
      have HMq := Lib.hid Mq
      have HWS := Lib.hid hws
      have HF : Aside (∀ W, Grew wr W → (W.cell? ⟨rb, 1, none⟩ = some (.slice (some ⟨g, 0, none⟩) n c) ∧ W.cell? ⟨g, j * 5 + 1, none⟩ = some (.int .i64 a0) ∧ W.cell? ⟨g, j * 5 + 2, none⟩ = some (.int .i64 a1) ∧ W.cell? ⟨g, j * 5 + 3, none⟩ = some (.int .i64 a2) ∧ W.cell? ⟨g, j * 5 + 4, none⟩ = some (.int .i64 a3) ∧
        W.cell? ⟨Bb, 0, none⟩ = some (.int .i64 fx) ∧ W.cell? ⟨Bb, 1, none⟩ = some (.int .i64 fy) ∧ W.cell? ⟨Bb + 1, 0, none⟩ = some (.int .i64 tx) ∧ W.cell? ⟨Bb + 1, 1, none⟩ = some (.int .i64 ty))) := fun W gr => by
        have g0 := HW2.out.trans (hgw.trans gr)
        have hb := HK.out W (hgw.trans gr)
        exact ⟨g0.cell' HC.out, g0.cell' hci.2.1, g0.cell' hci.2.2.1, g0.cell' hci.2.2.2.1, g0.cell' hci.2.2.2.2, hb.1, hb.2.1, hb.2.2.1, hb.2.2.2⟩
      have HX : Aside (∀ W, Grew wr W → (W.cell? ⟨rb, 1, none⟩ = some (.slice (some ⟨g, 0, none⟩) n c) ∧ W.cell? ⟨g, j * 5, none⟩ = some (.int .i64 x))) := fun W gr => by
        have g0 := HW2.out.trans (hgw.trans gr)
        exact ⟨g0.cell' HC.out, g0.cell' hci.1⟩
      obtain ⟨d1, d2, d3, d4, d5, d6, d7, d8, d9⟩ := HF.out wr (Grew.refl _)
      clear hci hws hxa hjl Mq hq c1
      go_wp2_with fail
      go_cut [31] from 21 to 31 (fun s33 wx => s33 = .bool q ∧ Grew wr wx)
      case first =>
        go_region_held3 (fun W => W.cell? ⟨rb, 1, none⟩ = some (.slice (some ⟨g, 0, none⟩) n c) ∧ W.cell? ⟨g, j * 5 + 1, none⟩ = some (.int .i64 a0) ∧ W.cell? ⟨g, j * 5 + 2, none⟩ = some (.int .i64 a1) ∧ W.cell? ⟨g, j * 5 + 3, none⟩ = some (.int .i64 a2) ∧ W.cell? ⟨g, j * 5 + 4, none⟩ = some (.int .i64 a3) ∧
          W.cell? ⟨Bb, 0, none⟩ = some (.int .i64 fx) ∧ W.cell? ⟨Bb, 1, none⟩ = some (.int .i64 fy) ∧ W.cell? ⟨Bb + 1, 0, none⟩ = some (.int .i64 tx) ∧ W.cell? ⟨Bb + 1, 1, none⟩ = some (.int .i64 ty))
          ((refine HF.out _ ?_; (repeat' (first | (with_reducible assumption) | (with_reducible exact Grew.refl _) | (with_reducible refine Grew.alloc ?_ _) | (with_reducible refine Grew.drew ?_) | (with_reducible refine Grew.drewN ?_ _) | (with_reducible refine Grew.setCell ?_ ?_ _) | (simp; done) | (simp; omega))); done))
          (first | (go_at_call 80; refine (HMq.out _).mono ?_; rintro e w6 ⟨rfl, hg6⟩; replace hg6 := Grew.trans (show Grew wr _ by (repeat' (first | (with_reducible assumption) | (with_reducible exact Grew.refl _) | (with_reducible refine Grew.alloc ?_ _) | (with_reducible refine Grew.drew ?_) | (with_reducible refine Grew.drewN ?_ _) | (with_reducible refine Grew.setCell ?_ ?_ _) | (simp; done) | (simp; omega)))) hg6))
        all_goals
          go_wp2_with fail
          go_meet
          exact ⟨rfl, hg6⟩
      obtain ⟨hs33, hgc⟩ := hcut
      subst hs33
      have hgwc := hgw.trans hgc
      have AC := Lib.hid (A.out.grew hgc)
      clear d1 d2 d3 d4 d5 d6 d7 d8 d9 A
      cases q
      · go_wp2_with fail
        go_roundg (n - (j + 1))
        case measure => omega
        case rel =>
          refine ⟨j + 1, o5, by omega, by omega, rfl, by go_num, hgwc, (show Aside _ from ?_)⟩
          rw [HWS.out, if_neg (by simp), List.append_nil]
          exact AC.out
      · obtain ⟨d1, d2⟩ := HX.out wc hgc
        have hsz := hgwc.size
        obtain ⟨v', w4, hr, hs, hk, ho⟩ := appendOne kI AC.out hsz (by omega) x #[.int .i64 x] rfl
        have hw4 : Grew w2 w4 := Kp.grewOf hgwc hk (fun y hy => (AC.out.own_ge y hy).1)
        have HR := Lib.hid hr
        have HV := Lib.hid hs
        clear hr hs hk ho
        go_wp2_with (at_builtin; refine wpList_append_run rfl _ _ _ _ rfl rfl _ _ _ rfl rfl HR.out ?_)
        go_roundg (n - (j + 1))
        case measure => omega
        case rel => exact ⟨j + 1, _, by omega, by omega, rfl, by go_num, hw4, (show Aside _ from by rw [HWS.out, if_pos (by trivial)]; exact HV.out)⟩
    · have h1z : ¬ (j : Int) < (n : Int) := by omega
      obtain rfl : j = n := by omega
      go_wp2_with fail
      go_ret
      have h := A.out
      rw [← HN.out, whichN_all] at h
      exact ⟨_, rfl, h.base HW2.out.size, HW2.out.trans hgw⟩

end Go.Proofs.YtcelamaiebjdaaaGreat

namespace Go.Proofs.YtcelamaiebjdaaaGreat
open Go.RowKit Go.Maps Go.Sort Go.Shelf
attribute [local go_sem ↓] Go.wp_at_zero Go.wp_at_succ

theorem add_fieldD (a : Addr) (j k : Nat) (hk : k ≠ 0) : a.add (j + k) = ⟨(a.add j).block, (a.add j).off + k, none⟩ := by
  have h1 : j + k ≠ 0 := by omega
  by_cases hj : j = 0
  · subst hj; simp [Addr.add, hk]
  · simp [Addr.add, hj, hk, Nat.add_assoc]

theorem same_n (p q : Option Addr) (cx cy : Nat) (A : List Int) (n : Nat) (W : World) (hn : A.length = n) (hx : RdI W p A) (hy : RdI W q A) (hl : n ≤ 100000) :
    Calls Tryz.prog 26 #[.slice p n cx, .slice q n cy] W fun e w' => e = .returned (.bool true) ∧ Grew W w' := by
  subst hn
  have h := sameInts_any p q cx cy A A W hx hy (by unfold maxLen; omega)
  rw [decide_eq_true rfl] at h
  exact h

/-- What holds between the acts. -/
structure PlayL (w wr : World) (sb mb rb : Nat) (v : Value) (L : Sw) : Prop where
  s : SweepAt wr sb mb L
  r : RefSw wr rb v L
  g : Grew w wr
  ge : ∀ b ∈ mb :: rb :: own v, w.heap.size ≤ b
  d1 : Apart sb mb rb v
theorem PlayL.acted {w wr w2 : World} {sb mb rb : Nat} {v : Value} {L : Sw} (p : PlayL w wr sb mb rb v L) {L' : Sw} {v' : Value} (hs : SweepAt w2 sb mb L') (hr : RefSw w2 rb v' L') (k : Kp (mb :: rb :: own v) wr w2) (ho : ∀ g ∈ own v', g ∈ own v ∨ wr.heap.size ≤ g) :
    PlayL w w2 sb mb rb v' L' := by
  have e1 := p.s.lt
  have e5 := p.g.size
  refine ⟨hs, hr, Kp.grewOf p.g k p.ge, ?_, ?_⟩
  · intro b hb
    rcases List.mem_cons.1 hb with rfl | hb
    · exact p.ge _ (by simp)
    rcases List.mem_cons.1 hb with rfl | hb
    · exact p.ge _ (by simp)
    · rcases ho b hb with h | h
      · exact p.ge b (by simp [h])
      · omega
  · refine ⟨p.d1.1, p.d1.2.1, fun hm => ?_, fun hm => ?_⟩
    · rcases ho _ hm with h | h
      · exact p.d1.2.2.1 h
      · omega
    · rcases ho _ hm with h | h
      · exact p.d1.2.2.2 h
      · omega

set_option maxHeartbeats 4000000 in
set_option maxRecDepth 100000 in
theorem indexLooks_any (p : Option Addr) (cap : Nat) (acts : List (Int × Int × Bx)) (b0 b1 b2 b3 fx fy tx ty : Int) (w : World) (ha : Rd kC w p acts ∧ ∀ x ∈ acts, actI x) (hn : acts.length ≤ maxLen)
    (i0 : I64 b0) (i1 : I64 b1) (i2 : I64 b2) (i3 : I64 b3) (j0 : I64 fx) (j1 : I64 fy) (j2 : I64 tx) (j3 : I64 ty) :
    Calls Tryz.prog 6 #[.slice p acts.length cap, .agg #[.int .i64 b0, .int .i64 b1, .int .i64 b2, .int .i64 b3], .agg #[.int .i64 fx, .int .i64 fy], .agg #[.int .i64 tx, .int .i64 ty]] w fun e w' => e = .returned (.bool true) ∧ Grew w w' := by
  obtain ⟨n, hn'⟩ : ∃ n, acts.length = n := ⟨_, rfl⟩
  have HN := Lib.hid hn'
  have HI := Lib.hid ha.2
  rw [hn'] at hn ⊢
  unfold maxLen at hn
  obtain ⟨B, hB⟩ : ∃ B, w.heap.size = B := ⟨_, rfl⟩
  obtain ⟨wz, hwze⟩ : ∃ wz, ((w.alloc (.cells #[.int .i64 b0, .int .i64 b1, .int .i64 b2, .int .i64 b3] 32)).alloc (.cells #[.int .i64 fx, .int .i64 fy] 29)).alloc (.cells #[.int .i64 tx, .int .i64 ty] 29) = wz := ⟨_, rfl⟩
  have hgz : Grew w wz := by rw [← hwze]; (repeat' (first | (with_reducible assumption) | (with_reducible exact Grew.refl _) | (with_reducible refine Grew.alloc ?_ _) | (with_reducible refine Grew.drew ?_) | (with_reducible refine Grew.drewN ?_ _) | (with_reducible refine Grew.setCell ?_ ?_ _) | (simp; done) | (simp; omega)))
  have HF : Aside (∀ W, Grew wz W → (W.cell? ⟨B, 0, none⟩ = some (.int .i64 b0) ∧ W.cell? ⟨B, 1, none⟩ = some (.int .i64 b1) ∧ W.cell? ⟨B, 2, none⟩ = some (.int .i64 b2) ∧ W.cell? ⟨B, 3, none⟩ = some (.int .i64 b3) ∧
    W.cell? ⟨B + 1, 0, none⟩ = some (.int .i64 fx) ∧ W.cell? ⟨B + 1, 1, none⟩ = some (.int .i64 fy) ∧ W.cell? ⟨B + 1 + 1, 0, none⟩ = some (.int .i64 tx) ∧ W.cell? ⟨B + 1 + 1, 1, none⟩ = some (.int .i64 ty))) := by
    intro W g
    refine ⟨g.cell' ?_, g.cell' ?_, g.cell' ?_, g.cell' ?_, g.cell' ?_, g.cell' ?_, g.cell' ?_, g.cell' ?_⟩
    all_goals (rw [← hwze, ← hB]; simp [go_sem])
  have HA := Lib.hid (ha.1.grew hgz)
  have HZ := Lib.hid hgz
  have HIb := Lib.hid (And.intro i0 (And.intro i1 (And.intro i2 i3)))
  have HJb := Lib.hid (And.intro j0 (And.intro j1 (And.intro j2 j3)))
  clear ha hn' hgz i0 i1 i2 i3 j0 j1 j2 j3
  go_enter Tryz.func6, Tryz.ntmps6
  go_wp2_with fail
  try rw [hwze]
  refine (newSweep_any _).mono ?_
  rintro e w1 ⟨sb, mb, rfl, hs1, hg1, hb1, hb2⟩
  have HS1 := Lib.hid hs1
  have HG1 := Lib.hid hg1
  clear hs1 hg1 hwze hB
  go_wp2_with fail
  refine (refNewSw_any _).mono ?_
  rintro e w2 ⟨rb, rfl, hr2, hg2, hb3⟩
  have HR2 := Lib.hid hr2
  have HG2 := Lib.hid hg2
  clear hr2 hg2
  by_cases hbig : 60 < n
  · have hz : (60 : Int) < (n : Int) := by omega
    have hw2 := HZ.out.trans (HG1.out.trans HG2.out)
    go_wp2_with fail
    refine (awake_any _).mono ?_
    rintro e w3 ⟨rfl, hg3⟩
    have hw3 := hw2.trans hg3
    clear hg3
    go_wp2_with fail
    go_ret
    exact ⟨rfl, hw3⟩
  have hz : ¬ (60 : Int) < (n : Int) := by omega
  have P0 : Aside (PlayL wz w2 sb mb rb (.slice none 0 0) []) := by
    have e1 := HS1.out.lt
    have z1 := HG1.out.size
    exact ⟨HS1.out.grew HG2.out, HR2.out, HG1.out.trans HG2.out, by intro b hb; simp [own, Value.ownBlock] at hb; omega, ⟨by omega, by omega, by simp [own, Value.ownBlock], by simp [own, Value.ownBlock]⟩⟩
  clear hbig hb1 hb2 hb3
  go_wp2_with fail
  go_loopg [11] n (fun gg s11 wr => ∃ (i : Nat) (v : Value) (L : Sw), i ≤ n ∧ n - i ≤ gg ∧ s11 = .int .i64 i ∧ Aside (PlayL wz wr sb mb rb v L))
  case atStart => exact ⟨0, _, [], Nat.zero_le _, by omega, rfl, P0.out⟩
  case round =>
    obtain ⟨i, v, L, hi, hgg, rfl, P⟩ := hrel
    by_cases h1 : i < n
    · have h1z : (i : Int) < (n : Int) := by omega
      have hix : i < acts.length := by rw [HN.out]; exact h1
      obtain ⟨a, rfl⟩ := rd_some HA.out (by omega)
      have hK : Aside (∀ W, Grew wz W → (W.cell? (a.add (i * 6)) = some (.int .i64 acts[i].1) ∧ W.cell? (a.add (i * 6 + 1)) = some (.int .i64 acts[i].2.1) ∧ W.cell? (a.add (i * 6 + 2)) = some (.int .i64 acts[i].2.2.1) ∧ W.cell? (a.add (i * 6 + 3)) = some (.int .i64 acts[i].2.2.2.1) ∧
        W.cell? (a.add (i * 6 + 4)) = some (.int .i64 acts[i].2.2.2.2.1) ∧ W.cell? (a.add (i * 6 + 5)) = some (.int .i64 acts[i].2.2.2.2.2))) := fun W g => by
        have h := HA.out.grew g
        exact ⟨h.cell i 0 hix (by decide), h.cell i 1 hix (by decide), h.cell i 2 hix (by decide), h.cell i 3 hix (by decide), h.cell i 4 hix (by decide), h.cell i 5 hix (by decide)⟩
      have hI := HI.out acts[i] (List.getElem_mem hix)
      generalize acts[i] = x at hK hI
      obtain ⟨kd, id, bb⟩ := x
      obtain ⟨i5, i0, i1, i2, i3⟩ := hI
      simp only at hK i5 i0 i1 i2 i3
      rw [add_fieldD a (i * 6) 1 (by decide), add_fieldD a (i * 6) 2 (by decide), add_fieldD a (i * 6) 3 (by decide), add_fieldD a (i * 6) 4 (by decide), add_fieldD a (i * 6) 5 (by decide)] at hK
      obtain ⟨k0, k1, k2, k3, k4, k5⟩ := hK.out wr P.out.g
      have HDn := Lib.hid (done_any sb mb rb v L kd id bb wr P.out.s P.out.r P.out.d1 i5 i0 i1 i2 i3)
      obtain ⟨c0, c1, c2, c3⟩ := bb
      simp only at k2 k3 k4 k5 HDn
      obtain ⟨L', hL'⟩ : ∃ L', actS L kd id (c0, c1, c2, c3) = L' := ⟨_, rfl⟩
      rw [hL'] at HDn
      clear hix hL' i5 i0 i1 i2 i3 hK
      go_wp2_with fail
      refine HDn.out.mono ?_
      rintro e w5 ⟨v', rfl, hs5, hr5, hk5, ho5⟩
      have P5 := Lib.hid (P.out.acted hs5 hr5 hk5 ho5)
      clear hs5 hr5 hk5 ho5 k0 k1 k2 k3 k4 k5 HDn P
      go_wp2_with fail
      go_roundg (n - (i + 1))
      case measure => omega
      case rel => exact ⟨i + 1, v', L', by omega, by omega, by go_num, P5.out⟩
    · have h1z : ¬ (i : Int) < (n : Int) := by omega
      obtain ⟨A, hA⟩ : ∃ A, idsOf (fun x => mB x (b0, b1, b2, b3)) L = A := ⟨_, rfl⟩
      obtain ⟨C, hC⟩ : ∃ C, idsOf (fun x => alongB x fx fy tx ty) L = C := ⟨_, rfl⟩
      have hsm := P.out.s.ok.small
      have hAl : A.length ≤ 256 := by rw [← hA, ← whichN_all]; exact Nat.le_trans (whichN_len _ _ _) hsm
      have hCl : C.length ≤ 256 := by rw [← hC, ← whichN_all]; exact Nat.le_trans (whichN_len _ _ _) hsm
      have N1 : ∀ W, Grew wr W → Calls Tryz.prog 27 #[.pointer (some ⟨sb, 0, none⟩), .agg #[.int .i64 b0, .int .i64 b1, .int .i64 b2, .int .i64 b3]] W (NewInts W A) := fun W g => by
        have h := near_any sb mb L (b0, b1, b2, b3) W (P.out.s.grew g) HIb.out.1 HIb.out.2.1 HIb.out.2.2.1 HIb.out.2.2.2
        rw [show idsOf (fun x => meetB x.1 x.2.1 x.2.2.1 x.2.2.2 (b0, b1, b2, b3).1 (b0, b1, b2, b3).2.1 (b0, b1, b2, b3).2.2.1 (b0, b1, b2, b3).2.2.2) L = A from hA] at h
        exact h
      have N2 : ∀ W, Grew wr W → Calls Tryz.prog 28 #[.pointer (some ⟨rb, 0, none⟩), .agg #[.int .i64 b0, .int .i64 b1, .int .i64 b2, .int .i64 b3]] W (OwnOf kI A W) := fun W g => by
        have h := refNear_any rb v L (b0, b1, b2, b3) W (P.out.r.grew g)
        rw [hA] at h
        exact h
      have N3 : ∀ W, Grew wr W → Calls Tryz.prog 11 #[.pointer (some ⟨sb, 0, none⟩), .agg #[.int .i64 fx, .int .i64 fy], .agg #[.int .i64 tx, .int .i64 ty]] W (NewInts W C) := fun W g => by
        have h := along_any sb mb L fx fy tx ty W (P.out.s.grew g) HJb.out.1 HJb.out.2.1 HJb.out.2.2.1 HJb.out.2.2.2
        rw [hC] at h
        exact h
      have N4 : ∀ W, Grew wr W → Calls Tryz.prog 29 #[.pointer (some ⟨rb, 0, none⟩), .agg #[.int .i64 fx, .int .i64 fy], .agg #[.int .i64 tx, .int .i64 ty]] W (OwnOf kI C W) := fun W g => by
        have h := refAlong_any rb v L fx fy tx ty W (P.out.r.grew g)
        rw [hC] at h
        exact h
      have N5 : ∀ W, Grew wr W → Calls Tryz.prog 21 #[.pointer (some ⟨sb, 0, none⟩), .pointer (some ⟨rb, 0, none⟩), .int .i64 0] W fun e w' => e = .returned (.bool true) ∧ Grew W w' := fun W g =>
        swept_any sb mb rb v L 0 W (P.out.s.grew g) (P.out.r.grew g) (by unfold I64; omega)
      have HN1 := Lib.hid N1
      have HN2 := Lib.hid N2
      have HN3 := Lib.hid N3
      have HN4 := Lib.hid N4
      have HN5 := Lib.hid N5
      obtain ⟨na, hna⟩ : ∃ na, A.length = na := ⟨_, rfl⟩
      obtain ⟨nc, hnc⟩ : ∃ nc, C.length = nc := ⟨_, rfl⟩
      have HNA := Lib.hid hna
      have HNC := Lib.hid hnc
      rw [hna] at hAl
      rw [hnc] at hCl
      obtain ⟨c0, c1, c2, c3, d0, d1, e0, e1⟩ := HF.out wr P.out.g
      have HPg := Lib.hid P.out.g
      clear N1 N2 N3 N4 N5 hA hC hna hnc hsm P
      go_wp2_with fail
      go_region_held3 (fun W => W.cell? ⟨B, 0, none⟩ = some (.int .i64 b0) ∧ W.cell? ⟨B, 1, none⟩ = some (.int .i64 b1) ∧ W.cell? ⟨B, 2, none⟩ = some (.int .i64 b2) ∧ W.cell? ⟨B, 3, none⟩ = some (.int .i64 b3) ∧
        W.cell? ⟨B + 1, 0, none⟩ = some (.int .i64 fx) ∧ W.cell? ⟨B + 1, 1, none⟩ = some (.int .i64 fy) ∧ W.cell? ⟨B + 1 + 1, 0, none⟩ = some (.int .i64 tx) ∧ W.cell? ⟨B + 1 + 1, 1, none⟩ = some (.int .i64 ty))
        ((refine HF.out _ (HPg.out.trans ?_); (repeat' (first | (with_reducible assumption) | (with_reducible exact Grew.refl _) | (with_reducible refine Grew.alloc ?_ _) | (with_reducible refine Grew.drew ?_) | (with_reducible refine Grew.drewN ?_ _) | (with_reducible refine Grew.setCell ?_ ?_ _) | (simp; done) | (simp; omega))); done))
        (first | (go_at_call 27; refine (HN1.out _ ?_).mono ?_; (· (repeat' (first | (with_reducible assumption) | (with_reducible exact Grew.refl _) | (with_reducible refine Grew.alloc ?_ _) | (with_reducible refine Grew.drew ?_) | (with_reducible refine Grew.drewN ?_ _) | (with_reducible refine Grew.setCell ?_ ?_ _) | (simp; done) | (simp; omega)))); rintro e w10 ⟨v10, rfl, hs10, hg10⟩; obtain ⟨p10, q10, rfl, -⟩ := hs10.shape; rw [HNA.out] at hs10 ⊢; replace hg10 := Grew.trans (show Grew wr _ by (repeat' (first | (with_reducible assumption) | (with_reducible exact Grew.refl _) | (with_reducible refine Grew.alloc ?_ _) | (with_reducible refine Grew.drew ?_) | (with_reducible refine Grew.drewN ?_ _) | (with_reducible refine Grew.setCell ?_ ?_ _) | (simp; done) | (simp; omega)))) hg10)
               | (go_at_call 28; refine (HN2.out _ ?_).mono ?_; (· (repeat' (first | (with_reducible assumption) | (with_reducible exact Grew.refl _) | (with_reducible refine Grew.alloc ?_ _) | (with_reducible refine Grew.drew ?_) | (with_reducible refine Grew.drewN ?_ _) | (with_reducible refine Grew.setCell ?_ ?_ _) | (simp; done) | (simp; omega)))); rintro e w11 ⟨v11, rfl, hs11, hg11⟩; obtain ⟨p11, q11, rfl, -⟩ := hs11.shape; rw [HNA.out] at hs11 ⊢; replace hs10 := hs10.grew (show Grew w10 w11 from Grew.trans (by (repeat' (first | (with_reducible assumption) | (with_reducible exact Grew.refl _) | (with_reducible refine Grew.alloc ?_ _) | (with_reducible refine Grew.drew ?_) | (with_reducible refine Grew.drewN ?_ _) | (with_reducible refine Grew.setCell ?_ ?_ _) | (simp; done) | (simp; omega)))) hg11); replace hg11 := Grew.trans (show Grew wr _ by (repeat' (first | (with_reducible assumption) | (with_reducible exact Grew.refl _) | (with_reducible refine Grew.alloc ?_ _) | (with_reducible refine Grew.drew ?_) | (with_reducible refine Grew.drewN ?_ _) | (with_reducible refine Grew.setCell ?_ ?_ _) | (simp; done) | (simp; omega)))) hg11)
               | (go_at_call 26; refine (same_n p10 p11 q10 q11 A na _ HNA.out (hs10.grew ?_).rd (rdI_kI (hs11.grew ?_).rd) ?_).mono ?_; (· (repeat' (first | (with_reducible assumption) | (with_reducible exact Grew.refl _) | (with_reducible refine Grew.alloc ?_ _) | (with_reducible refine Grew.drew ?_) | (with_reducible refine Grew.drewN ?_ _) | (with_reducible refine Grew.setCell ?_ ?_ _) | (simp; done) | (simp; omega)))); (· (repeat' (first | (with_reducible assumption) | (with_reducible exact Grew.refl _) | (with_reducible refine Grew.alloc ?_ _) | (with_reducible refine Grew.drew ?_) | (with_reducible refine Grew.drewN ?_ _) | (with_reducible refine Grew.setCell ?_ ?_ _) | (simp; done) | (simp; omega)))); (· omega); rintro e w12 ⟨rfl, hg12⟩; clear hs10; replace hg12 := Grew.trans (show Grew wr _ by (repeat' (first | (with_reducible assumption) | (with_reducible exact Grew.refl _) | (with_reducible refine Grew.alloc ?_ _) | (with_reducible refine Grew.drew ?_) | (with_reducible refine Grew.drewN ?_ _) | (with_reducible refine Grew.setCell ?_ ?_ _) | (simp; done) | (simp; omega)))) hg12)
               | (go_at_call 11; refine (HN3.out _ ?_).mono ?_; (· (repeat' (first | (with_reducible assumption) | (with_reducible exact Grew.refl _) | (with_reducible refine Grew.alloc ?_ _) | (with_reducible refine Grew.drew ?_) | (with_reducible refine Grew.drewN ?_ _) | (with_reducible refine Grew.setCell ?_ ?_ _) | (simp; done) | (simp; omega)))); rintro e w13 ⟨v13, rfl, hs13, hg13⟩; obtain ⟨p13, q13, rfl, -⟩ := hs13.shape; rw [HNC.out] at hs13 ⊢; replace hg13 := Grew.trans (show Grew wr _ by (repeat' (first | (with_reducible assumption) | (with_reducible exact Grew.refl _) | (with_reducible refine Grew.alloc ?_ _) | (with_reducible refine Grew.drew ?_) | (with_reducible refine Grew.drewN ?_ _) | (with_reducible refine Grew.setCell ?_ ?_ _) | (simp; done) | (simp; omega)))) hg13)
               | (go_at_call 29; refine (HN4.out _ ?_).mono ?_; (· (repeat' (first | (with_reducible assumption) | (with_reducible exact Grew.refl _) | (with_reducible refine Grew.alloc ?_ _) | (with_reducible refine Grew.drew ?_) | (with_reducible refine Grew.drewN ?_ _) | (with_reducible refine Grew.setCell ?_ ?_ _) | (simp; done) | (simp; omega)))); rintro e w14 ⟨v14, rfl, hs14, hg14⟩; obtain ⟨p14, q14, rfl, -⟩ := hs14.shape; rw [HNC.out] at hs14 ⊢; replace hs13 := hs13.grew (show Grew w13 w14 from Grew.trans (by (repeat' (first | (with_reducible assumption) | (with_reducible exact Grew.refl _) | (with_reducible refine Grew.alloc ?_ _) | (with_reducible refine Grew.drew ?_) | (with_reducible refine Grew.drewN ?_ _) | (with_reducible refine Grew.setCell ?_ ?_ _) | (simp; done) | (simp; omega)))) hg14); replace hg14 := Grew.trans (show Grew wr _ by (repeat' (first | (with_reducible assumption) | (with_reducible exact Grew.refl _) | (with_reducible refine Grew.alloc ?_ _) | (with_reducible refine Grew.drew ?_) | (with_reducible refine Grew.drewN ?_ _) | (with_reducible refine Grew.setCell ?_ ?_ _) | (simp; done) | (simp; omega)))) hg14)
               | (go_at_call 26; refine (same_n p13 p14 q13 q14 C nc _ HNC.out (hs13.grew ?_).rd (rdI_kI (hs14.grew ?_).rd) ?_).mono ?_; (· (repeat' (first | (with_reducible assumption) | (with_reducible exact Grew.refl _) | (with_reducible refine Grew.alloc ?_ _) | (with_reducible refine Grew.drew ?_) | (with_reducible refine Grew.drewN ?_ _) | (with_reducible refine Grew.setCell ?_ ?_ _) | (simp; done) | (simp; omega)))); (· (repeat' (first | (with_reducible assumption) | (with_reducible exact Grew.refl _) | (with_reducible refine Grew.alloc ?_ _) | (with_reducible refine Grew.drew ?_) | (with_reducible refine Grew.drewN ?_ _) | (with_reducible refine Grew.setCell ?_ ?_ _) | (simp; done) | (simp; omega)))); (· omega); rintro e w15 ⟨rfl, hg15⟩; replace hg15 := Grew.trans (show Grew wr _ by (repeat' (first | (with_reducible assumption) | (with_reducible exact Grew.refl _) | (with_reducible refine Grew.alloc ?_ _) | (with_reducible refine Grew.drew ?_) | (with_reducible refine Grew.drewN ?_ _) | (with_reducible refine Grew.setCell ?_ ?_ _) | (simp; done) | (simp; omega)))) hg15)
               | (go_at_call 21; refine (HN5.out _ ?_).mono ?_; (· (repeat' (first | (with_reducible assumption) | (with_reducible exact Grew.refl _) | (with_reducible refine Grew.alloc ?_ _) | (with_reducible refine Grew.drew ?_) | (with_reducible refine Grew.drewN ?_ _) | (with_reducible refine Grew.setCell ?_ ?_ _) | (simp; done) | (simp; omega)))); rintro e w16 ⟨rfl, hg16⟩; replace hg16 := Grew.trans (show Grew wr _ by (repeat' (first | (with_reducible assumption) | (with_reducible exact Grew.refl _) | (with_reducible refine Grew.alloc ?_ _) | (with_reducible refine Grew.drew ?_) | (with_reducible refine Grew.drewN ?_ _) | (with_reducible refine Grew.setCell ?_ ?_ _) | (simp; done) | (simp; omega)))) hg16)
               | (go_at_call 15; refine (awake_any _).mono ?_; rintro e w17 ⟨rfl, hg17⟩; replace hg17 := Grew.trans (show Grew wr _ by (repeat' (first | (with_reducible assumption) | (with_reducible exact Grew.refl _) | (with_reducible refine Grew.alloc ?_ _) | (with_reducible refine Grew.drew ?_) | (with_reducible refine Grew.drewN ?_ _) | (with_reducible refine Grew.setCell ?_ ?_ _) | (simp; done) | (simp; omega)))) hg17))
      all_goals
        have hend := HZ.out.trans (HPg.out.trans hg17)
        go_wp2_with fail
        go_ret
        exact ⟨rfl, Grew.trans hend (by (repeat' (first | (with_reducible assumption) | (with_reducible exact Grew.refl _) | (with_reducible refine Grew.alloc ?_ _) | (with_reducible refine Grew.drew ?_) | (with_reducible refine Grew.drewN ?_ _) | (with_reducible refine Grew.setCell ?_ ?_ _) | (simp; done) | (simp; omega))))⟩

end Go.Proofs.YtcelamaiebjdaaaGreat

namespace Go.Proofs.YtcelamaiebjdaaaGreat
open Go.ChangeShapes Go.WideShapes Go.ChangeAt Go.RowKit

set_option maxRecDepth 100000 in
theorem indexLooks_lifted (os : Os) (started : os.Started) (H : Type) (enc : TypeId × Value → H) :
    ReturnsInHanded {} Tryz.checked os 6 .any (Rows.indexLooksSpec.pre6 enc Tryz.prog Tryz.f6 Rows.indexLooksRow.domain false) (Rows.indexLooksSpec.post enc Tryz.prog Tryz.f6 false true false false) := by
  refine returnsInHanded_of_change (C := Tryz.checked) ownK started (by kernel_rfl) Tryz.func6
    (ChangeSpec.witness6 (enc := enc) (C := Tryz.checked) false ⟨#[], #[.slice none 0 0, .agg #[.int .i64 0, .int .i64 0, .int .i64 0, .int .i64 0], .agg #[.int .i64 0, .int .i64 0], .agg #[.int .i64 0, .int .i64 0]], []⟩ 8 (by kernel_rfl) (by kernel_rfl) (by kernel_rfl) (by kernel_rfl)) ?_
  intro W base args ds gs before hval0 hW hcnd _
  have hval : ∀ (j : Nat) t v, Tryz.f6.params[j]? = some t → args[j]? = some v → Value.okWide Tryz.prog W .any base t v := hval0
  have hW' := hW
  obtain ⟨p, q, hA0, hV, rfl, hfz, hnd⟩ := hW
  have hA : DataW.TrodAll enc Tryz.prog W 0 (fun _ => true) true Tryz.f6.params.toList args.toList ds p := hA0
  rw [Tryz.params6] at hA hval
  obtain ⟨v0, vs0, d0, ds0, p0, q0, hargs, rfl, rfl, h0, r0⟩ := trodAll_cons hA
  obtain ⟨v1, vs1, d1, ds1, p1, q1, rfl, rfl, rfl, h1, r1⟩ := trodAll_cons r0
  obtain ⟨v2, vs2, d2, ds2, p2, q2, rfl, rfl, rfl, h2, r2⟩ := trodAll_cons r1
  obtain ⟨v3, vs3, d3, ds3, p3, q3, rfl, rfl, rfl, h3, r3⟩ := trodAll_cons r2
  obtain ⟨rfl, rfl, rfl⟩ := trodAll_nil r3
  obtain rfl : args = #[v0, v1, v2, v3] := by cases args; simp_all
  obtain ⟨rfl, rfl⟩ := trodVars_none hV
  obtain ⟨ad0, cap0, xs0, rfl, hm0, hr0⟩ := open_rdC (hval 0 38 v0 rfl rfl) h0
  obtain ⟨a1a, a1b, a1c, a1e, rfl, rfl, rfl, w1a, w1b, w1c, w1e⟩ := open_bx (hval 1 32 v1 rfl rfl) h1
  obtain ⟨a2a, a2b, rfl, rfl, rfl, w2a, w2b⟩ := open_sp (hval 2 29 v2 rfl rfl) h2
  obtain ⟨a3a, a3b, rfl, rfl, rfl, w3a, w3b⟩ := open_sp (hval 3 29 v3 rfl rfl) h3
  have hlt0 : ∀ x ∈ p0, x.block < W.heap.size := fun x hx => by simpa using hW'.lt x (by simp [hx])
  clear hA0 hval0
  simp only [List.append_nil] at hW'
  refine (indexLooks_any ad0 cap0 xs0 a1a a1b a1c a1e a2a a2b a3a a3b W hr0 hm0 (i64_of_wf w1a) (i64_of_wf w1b) (i64_of_wf w1c) (i64_of_wf w1e) (i64_of_wf w2a) (i64_of_wf w2b) (i64_of_wf w3a) (i64_of_wf w3b)).mono fun e W' ⟨he, hg⟩ => ?_
  subst he
  refine ⟨_, rfl, _, [], _, [], p0, [], hW', trodAll_cons_mk (shut_bool Tryz.underlying4 _) trodAll_mk0, ?_, rfl, hg.frame _, fun h => by cases h⟩
  have t0 := Below.trod laidOut (by kernel_rfl) (of_decide_eq_true (by kernel_rfl)) h0 hg.below hlt0
  have := trodAll_cons_mk t0 (trodAll_cons_mk (shut_bx w1a w1b w1c w1e) (trodAll_cons_mk (shut_sp w2a w2b) (trodAll_cons_mk (shut_sp w3a w3b) (trodAll_mk0))))
  simp only [List.append_nil] at this
  exact this

/-- The statement. -/
theorem indexLooks_proved : Rows.IndexLooksSaid :=
  OpenClaim.holds_of_wide 6 Tryz.f6 rfl rfl rfl rfl rfl rfl rfl ⟨rfl, rfl, rfl, rfl, rfl⟩ rfl rfl rfl rfl rfl (by kernel_rfl) Tryz.func6 (by kernel_rfl)
    (of_decide_eq_true (by kernel_rfl)) (by unfold Func.isWrapper; first | (rw [if_pos (by decide +kernel)]; kernel_rfl) | (rw [if_neg (by decide +kernel)]; exact ⟨rfl, rfl⟩))
    (fun os started H enc _ => indexLooks_lifted os started H enc)

end Go.Proofs.YtcelamaiebjdaaaGreat

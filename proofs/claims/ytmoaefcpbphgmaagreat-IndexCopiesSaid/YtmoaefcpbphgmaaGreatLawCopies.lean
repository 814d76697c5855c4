/- The walk of IndexCopies: it returns true. -/
import Derived.Test.YtmoaefcpbphgmaaGreatTold
import Derived.Test.YtmoaefcpbphgmaaGreatTab
import Derived.Deep.LoopGhost
import Derived.Deep.RegionHeld3
import Derived.Deep.DrawnRows
namespace Go.Proofs.YtmoaefcpbphgmaaGreat
open Go.RowKit Go.Maps Go.Sort Go.Shelf
attribute [local go_sem ↓] Go.wp_at_zero Go.wp_at_succ

theorem Inv.sorted {n c : Nat} {G : List Int} {T : List Bool} {L V : List (Int × Int)} (h : Inv n c G T L V) : Inv n c G T (takenH G T) V :=
  ⟨h.lg, h.lt, h.bd, List.Perm.refl _, h.vg, h.cv⟩
theorem Inv.next {n c : Nat} {G : List Int} {T : List Bool} {A V : List (Int × Int)} {i : Nat} (h : Inv n c G T (A.drop i) V) (hi : i < A.length) :
    freeE G T A[i].1 A[i].2 = 0 ∧ Inv n c G (freeS G T A[i].1 A[i].2) (A.drop (i + 1)) V := by
  have hl : 0 < (A.drop i).length := by rw [List.length_drop]; omega
  have h1 := h.free hl
  have e : (A.drop i)[0] = A[i] := by rw [List.getElem_drop]; rfl
  rw [e] at h1
  have e2 : (A.drop i).eraseIdx 0 = A.drop (i + 1) := by
    rw [List.drop_eq_getElem_cons hi]; rfl
  rwa [e2] at h1
theorem Inv.done {n c : Nat} {G : List Int} {T : List Bool} {A V : List (Int × Int)} (h : Inv n c G T (A.drop A.length) V) (hn : n ≤ 64) : lenT T = 0 := by
  rw [h.len hn, List.drop_length]; rfl

theorem SlotsAt.most64 {w : World} {sb gb : Nat} {G : List Int} {T : List Bool} (h : SlotsAt w sb gb G T) : 1 ≤ G.length ∧ G.length ≤ 64 := by obtain ⟨_, _, h⟩ := h; exact h.most

set_option maxHeartbeats 4000000 in
set_option maxRecDepth 100000 in
theorem indexCopies_any (most : Int) (p : Option Addr) (cap : Nat) (xs : List Int) (q : Option Addr) (cq : Nat) (ys : List Int) (w : World) (hx : RdI w p xs) (hn : xs.length ≤ maxLen) (hy : RdI w q ys) (hm' : ys.length ≤ maxLen) :
    Calls Tryz.prog 7 #[.int .i64 most, .slice p xs.length cap, .slice q ys.length cq] w fun e w' => e = .returned (.bool true) ∧ Grew w w' := by
  obtain ⟨m, hm⟩ : ∃ m, xs.length = m := ⟨_, rfl⟩
  obtain ⟨k, hk⟩ : ∃ k, ys.length = k := ⟨_, rfl⟩
  have HX := Lib.hid hx
  have HY := Lib.hid hy
  have HM := Lib.hid hm
  have HK := Lib.hid hk
  rw [hm] at hn ⊢
  rw [hk] at hm' ⊢
  unfold maxLen at hn hm'
  clear hx hm hy hk
  by_cases h60 : 60 < m ∨ 60 < k
  · have hz : (60 : Int) < (m : Int) ∨ (¬ (60 : Int) < (m : Int) ∧ (60 : Int) < (k : Int)) := by omega
    clear h60
    rcases hz with hz | ⟨hz, hz2⟩
    all_goals
      go_enter Tryz.func7, Tryz.ntmps7
      go_wp2_with fail
      refine (awake_any _).mono ?_
      rintro e w1 ⟨rfl, hg1⟩
      go_wp2_with fail
      go_ret
      exact ⟨rfl, hg1⟩
  have hz1 : ¬ (60 : Int) < (m : Int) := by omega
  have hz2 : ¬ (60 : Int) < (k : Int) := by omega
  have hT := told_any p cap most xs w HX.out (by rw [HM.out]; omega)
  rw [HM.out] at hT
  have hn64 : 1 ≤ (1 + most % 64).toNat ∧ (1 + most % 64).toNat ≤ 64 := by omega
  generalize (1 + most % 64).toNat = n at hT hn64
  have HTd := Lib.hid hT
  clear hT hn
  go_enter Tryz.func7, Tryz.ntmps7
  go_wp2_with fail
  refine HTd.out.mono ?_
  rintro e w1 ⟨sb, gb, G, T, L, V, vl, vg, rfl, hs, hl, hv, hinv, hg1, hsb, hgb, ho1, ho2⟩
  obtain ⟨lp, lcap, rfl, hlp⟩ := hl.shape
  obtain ⟨vp, vcap, rfl, hvp⟩ := hv.shape
  obtain ⟨ll, hll⟩ : ∃ ll, L.length = ll := ⟨_, rfl⟩
  obtain ⟨vv, hvv⟩ : ∃ vv, V.length = vv := ⟨_, rfl⟩
  have hlL := hinv.lenL
  have HS1 := Lib.hid hs
  have HI := Lib.hid hinv
  have HLL := Lib.hid hll
  have HLP := Lib.hid hlp
  have HL := Lib.hid hl
  have HO := Lib.hid ho1
  rw [hll] at hlL
  rw [hll, hvv]
  obtain ⟨tb, htb⟩ : ∃ tb, w1.heap.size = tb := ⟨_, rfl⟩
  have hst := hs.lt
  clear hs hl hv hinv hlp hvp hll hvv ho1 ho2
  go_wp2_with fail
  have hw1 : Grew w1 (w1.alloc (.cells #[.pointer (some ⟨sb, 0, none⟩), .slice lp ll lcap, .slice vp vv vcap, .bool true] 60)) := (Grew.refl w1).alloc _
  have t0 : (w1.alloc (.cells #[.pointer (some ⟨sb, 0, none⟩), .slice lp ll lcap, .slice vp vv vcap, .bool true] 60)).cell? ⟨tb, 0, none⟩ = some (.pointer (some ⟨sb, 0, none⟩)) := by rw [← htb]; simp
  have t1 : (w1.alloc (.cells #[.pointer (some ⟨sb, 0, none⟩), .slice lp ll lcap, .slice vp vv vcap, .bool true] 60)).cell? ⟨tb, 1, none⟩ = some (.slice lp ll lcap) := by rw [← htb]; simp
  generalize w1.alloc (.cells #[.pointer (some ⟨sb, 0, none⟩), .slice lp ll lcap, .slice vp vv vcap, .bool true] 60) = w2 at hw1 t0 t1 ⊢
  have hw12 : Grew w w2 := hg1.trans hw1
  have ht2 := lt_of_cell t0
  have H0 : Aside (∀ W, Grew w2 W → W.cell? ⟨tb, 0, none⟩ = some (.pointer (some ⟨sb, 0, none⟩))) := fun W g => g.cell' t0
  have H1 := Lib.hid t1
  have hA : (takenH G T).length = ll := by rw [← HI.out.pl.length_eq, HLL.out]
  have HA := Lib.hid hA
  have HCopy : Aside (∀ W, Grew w2 W → Calls Tryz.prog 42 #[.pointer (some ⟨sb, 0, none⟩)] W fun e w' => ∃ sc gc, e = .returned (.pointer (some ⟨sc, 0, none⟩)) ∧ SlotsAt w' sc gc G T ∧ Grew w2 w' ∧ w2.heap.size ≤ sc ∧ w2.heap.size ≤ gc ∧ Lone w' sc) := fun W g =>
    (slCopy_any sb gb G T W (HS1.out.grew (hw1.trans g))).mono fun e w' ⟨sc, gc, he, hs, hg, h1, h2, h3⟩ => ⟨sc, gc, he, hs, g.trans hg, Nat.le_trans g.size h1, Nat.le_trans g.size h2, h3⟩
  have HAll : Aside (∀ s t W, SlotsAt W s t G T → Grew w2 W → Calls Tryz.prog 35 #[.pointer (some ⟨s, 0, none⟩)] W fun e w' => ∃ p c, e = .returned (.slice p ll c) ∧ Sl kH w' W.heap.size (.slice p ll c) (takenH G T) ∧ Grew w2 w' ∧ Grew W w' ∧ (0 < ll → ∃ g, p = some ⟨g, 0, none⟩)) := fun s t W hs g =>
    (all_any s t G T W hs).mono fun e w' ⟨v, he, hv, hg⟩ => by
      obtain ⟨p, c, rfl, hp⟩ := hv.shape
      rw [hA] at he hv hp
      exact ⟨p, c, he, hv, g.trans hg, hg, hp⟩
  have HSame : Aside (∀ p q cp cq W, RdP W p (takenH G T) → RdP W q (takenH G T) → Calls Tryz.prog 43 #[.slice p ll cp, .slice q ll cq] W fun e w' => e = .returned (.bool true) ∧ Grew W w') := fun p q cp cq W h1 h2 => by
    have h := sameHandles_any p q cp cq (takenH G T) (takenH G T) W h1 h2 (by rw [hA]; unfold maxLen; omega)
    rw [hA, decide_eq_true rfl] at h
    exact h
  clear hA
  go_region_held3 (fun W => W.cell? ⟨tb, 0, none⟩ = some (.pointer (some ⟨sb, 0, none⟩)))
    ((refine H0.out _ ?_; (repeat' (first | exact Grew.refl _ | assumption | refine Grew.alloc ?_ _ | refine Grew.drew ?_ | refine Grew.drewN ?_ _ | refine Grew.setCell ?_ ?_ _ | (simp; done) | (simp; omega))); done))
    (first | (go_at_call 42; refine (HCopy.out _ ?_).mono ?_; (· (repeat' (first | exact Grew.refl _ | assumption | refine Grew.alloc ?_ _ | refine Grew.drew ?_ | refine Grew.drewN ?_ _ | refine Grew.setCell ?_ ?_ _ | (simp; done) | (simp; omega)))); rintro e w5 ⟨sc, gc, rfl, hsc, hw5, hcs, hcg, hlone⟩)
           | (go_at_call 35; refine (HAll.out sb gb _ (HS1.out.grew (hw1.trans ?_)) ?_).mono ?_; (· (repeat' (first | exact Grew.refl _ | assumption | refine Grew.alloc ?_ _ | refine Grew.drew ?_ | refine Grew.drewN ?_ _ | refine Grew.setCell ?_ ?_ _ | (simp; done) | (simp; omega)))); (· (repeat' (first | exact Grew.refl _ | assumption | refine Grew.alloc ?_ _ | refine Grew.drew ?_ | refine Grew.drewN ?_ _ | refine Grew.setCell ?_ ?_ _ | (simp; done) | (simp; omega)))); rintro e w6 ⟨ap, acap, rfl, hsa, hw6, hw56, hap⟩))
  all_goals
    have hsz5 := hsc.lt
    have hsz2 : sb < w2.heap.size ∧ gb < w2.heap.size := (HS1.out.grew hw1).lt
    have hcs : sb < sc ∧ gb < sc ∧ sb < gc ∧ gb < gc := by omega
    have hne : sc ≠ sb := by omega
    have HC6 := Lib.hid (hsc.grew hw56)
    have HS6 := Lib.hid (HS1.out.grew (hw1.trans hw6))
    have hwb : w.heap.size ≤ sc ∧ w.heap.size ≤ gc := by have := hw12.size; omega
    have HA6 := Lib.hid hsa
    have ht6 : tb < w6.heap.size := Nat.lt_of_lt_of_le ht2 hw6.size
    have HMost : Aside (∀ s t W, SlotsAt W s t G T → Calls Tryz.prog 36 #[.pointer (some ⟨s, 0, none⟩)] W (fun e w' => e = .returned (.int .i64 n) ∧ W = w')) := fun s t W h => by
      have h := most_any s t G T W h
      rwa [HI.out.lg] at h
    have hs0 : ∃ v, w6.cell? ⟨sb, 0, none⟩ = some v := by obtain ⟨_, _, h⟩ := HS6.out; exact ⟨_, h.c0⟩
    obtain ⟨v0, hv0⟩ := hs0
    have H6 : Aside (∀ W, Grew w6 W → (W.cell? ⟨tb, 0, none⟩ = some (.pointer (some ⟨sb, 0, none⟩)) ∧ (binOp .eql 57 (.pointer (some ⟨sc, 0, none⟩)) (.pointer (some ⟨sb, 0, none⟩))).run Tryz.prog W = .ok (.bool false) W)) := fun W g => ⟨H0.out W (hw6.trans g), eqSlots ((hlone.grew hw56).grew g) hne (g.cell' hv0)⟩
    have HAll6 : Aside (∀ W, Grew w6 W → Calls Tryz.prog 35 #[.pointer (some ⟨sc, 0, none⟩)] W fun e w' => ∃ p c, e = .returned (.slice p ll c) ∧ RdP w' p (takenH G T) ∧ Grew w6 w') := fun W g =>
      (HAll.out sc gc W (HC6.out.grew g) (hw6.trans g)).mono fun e w' ⟨p, c, he, hs, _, hg, _⟩ => ⟨p, c, he, hs.rdP, g.trans hg⟩
    have HSame6 : Aside (∀ p c W, RdP W p (takenH G T) → Grew w6 W → Calls Tryz.prog 43 #[.slice p ll c, .slice ap ll acap] W fun e w' => e = .returned (.bool true) ∧ Grew w6 w') := fun p c W h g =>
      (HSame.out p ap c acap W h (HA6.out.grew g).rdP).mono fun e w' ⟨he, hg⟩ => ⟨he, g.trans hg⟩
    clear hsc hsa hv0 hlone
    obtain ⟨z0, z1⟩ := H6.out w6 (Grew.refl _)
    go_wp2_with fail
    go_region_held3 (fun W => W.cell? ⟨tb, 0, none⟩ = some (.pointer (some ⟨sb, 0, none⟩)) ∧ (binOp .eql 57 (.pointer (some ⟨sc, 0, none⟩)) (.pointer (some ⟨sb, 0, none⟩))).run Tryz.prog W = .ok (.bool false) W)
      ((refine H6.out _ ?_; (repeat' (first | exact Grew.refl _ | assumption | refine Grew.alloc ?_ _ | refine Grew.drew ?_ | refine Grew.drewN ?_ _ | refine Grew.setCell ?_ ?_ _ | (simp; done) | (simp; omega))); done))
      (first | (go_at_call 36; refine (HMost.out sc gc _ (HC6.out.grew ?_)).mono ?_; (· (repeat' (first | exact Grew.refl _ | assumption | refine Grew.alloc ?_ _ | refine Grew.drew ?_ | refine Grew.drewN ?_ _ | refine Grew.setCell ?_ ?_ _ | (simp; done) | (simp; omega)))); rintro e w7 ⟨rfl, rfl⟩)
             | (go_at_call 36; refine (HMost.out sb gb _ (HS6.out.grew ?_)).mono ?_; (· (repeat' (first | exact Grew.refl _ | assumption | refine Grew.alloc ?_ _ | refine Grew.drew ?_ | refine Grew.drewN ?_ _ | refine Grew.setCell ?_ ?_ _ | (simp; done) | (simp; omega)))); rintro e w7 ⟨rfl, rfl⟩)
             | (go_at_call 35; refine (HAll6.out _ ?_).mono ?_; (· (repeat' (first | exact Grew.refl _ | assumption | refine Grew.alloc ?_ _ | refine Grew.drew ?_ | refine Grew.drewN ?_ _ | refine Grew.setCell ?_ ?_ _ | (simp; done) | (simp; omega)))); rintro e w7 ⟨bp, bcap, rfl, hsb7, hw67⟩)
             | (go_at_call 43; refine (HSame6.out _ _ _ hsb7 ?_).mono ?_; (· (repeat' (first | exact Grew.refl _ | assumption | refine Grew.alloc ?_ _ | refine Grew.drew ?_ | refine Grew.drewN ?_ _ | refine Grew.setCell ?_ ?_ _ | (simp; done) | (simp; omega)))); rintro e w8 ⟨rfl, hw68⟩))
    all_goals
      have t1_8 : w8.cell? ⟨tb, 1, none⟩ = some (.slice lp ll lcap) := (hw6.trans hw68).cell' H1.out
      have t0_8 := (H6.out w8 hw68).1
      have hw8 : Grew w w8 := hw12.trans (hw6.trans hw68)
      have hw18 : Grew w1 w8 := hw1.trans (hw6.trans hw68)
      have HS8 := Lib.hid (HS6.out.grew hw68)
      have HC8 := Lib.hid (HC6.out.grew hw68)
      have HA8 := Lib.hid ((HA6.out.grew hw68))
      have HL8 := Lib.hid (HL.out.grew hw18)
      have HY8 := Lib.hid (HY.out.grew hw8)
      have htb' : tb ∉ [sb, gb] := by simp; omega
      have hsz8 : sc < w8.heap.size ∧ gc < w8.heap.size := HC8.out.lt
      have hApg : ∀ g, ap = some ⟨g, 0, none⟩ → sc < g ∧ gc < g := fun g hg => by
        have h := HA6.out.own_ge g (by rw [hg]; simp [own, Value.ownBlock])
        omega
      have HAp := Lib.hid hApg
      have HAq := Lib.hid hap
      clear hApg hap z0 z1 hsb7 hw67 hw68
      go_wp2_with fail
      go_loopg [10] k (fun gg s10 wr => ∃ i : Nat, i ≤ k ∧ k - i ≤ gg ∧ s10 = .int .i64 i ∧ Kp [sb, gb] w8 wr ∧ Aside (∃ G' T', SlotsAt wr sb gb G' T'))
      case atStart => exact ⟨0, Nat.zero_le _, by omega, rfl, Grew.kp (by (repeat' (first | exact Grew.refl _ | assumption | refine Grew.alloc ?_ _ | refine Grew.drew ?_ | refine Grew.drewN ?_ _ | refine Grew.setCell ?_ ?_ _ | (simp; done) | (simp; omega)))) _, (show Aside _ from ⟨G, T, HS8.out.grew (by (repeat' (first | exact Grew.refl _ | assumption | refine Grew.alloc ?_ _ | refine Grew.drew ?_ | refine Grew.drewN ?_ _ | refine Grew.setCell ?_ ?_ _ | (simp; done) | (simp; omega))))⟩)⟩
      case round =>
        obtain ⟨i, hi, hgg, rfl, hkw, A⟩ := hrel
        obtain ⟨G', T', hs⟩ := A.out
        have HSr := Lib.hid hs
        have r0 := hkw.cell t0_8 htb'
        have r1 := hkw.cell t1_8 htb'
        have hrt := lt_of_cell r0
        clear A hs
        by_cases h1 : i < k
        · have h1z : (i : Int) < (k : Int) := by omega
          have hiy : i < ys.length := by rw [HK.out]; exact h1
          obtain ⟨a, rfl, hab, hca⟩ := HY.out.resolve_left (by rintro rfl; simp at hiy)
          have ca : wr.cell? (a.add i) = some (.int .i64 ys[i]) := (World.cell?_of_block (w := w8) (a := a.add i) (by rw [block_add]; exact hkw.block _ (by have := hw8.size; omega) (by simp; omega))).trans (hw8.cellA hab (hca i hiy))
          generalize ys[i] = u at ca
          clear hca hiy
          by_cases hu : u.tmod 2 = 0
          · have hub : (u.tmod 2 == 0) = true := beq_iff_eq.2 hu
            clear hu
            go_wp2_with fail
            refine (take_any sb gb G' T' _ HSr.out).mono ?_
            rintro e w9 ⟨rfl, hs9, hk9⟩
            have HS9 := Lib.hid hs9
            have hk89 := hkw.trans hk9
            clear hs9 hk9
            go_wp2_with fail
            go_roundg (k - (i + 1))
            case measure => omega
            case rel => exact ⟨i + 1, by omega, by omega, by go_num, hk89.trans (Grew.kp (by (repeat' (first | exact Grew.refl _ | assumption | refine Grew.alloc ?_ _ | refine Grew.drew ?_ | refine Grew.drewN ?_ _ | refine Grew.setCell ?_ ?_ _ | (simp; done) | (simp; omega)))) _), (show Aside _ from ⟨_, _, HS9.out.grew (by (repeat' (first | exact Grew.refl _ | assumption | refine Grew.alloc ?_ _ | refine Grew.drew ?_ | refine Grew.drewN ?_ _ | refine Grew.setCell ?_ ?_ _ | (simp; done) | (simp; omega))))⟩)⟩
          · have hub : (u.tmod 2 == 0) = false := beq_eq_false_iff_ne.2 hu
            clear hu
            by_cases h0 : 0 < ll
            · have h0z : (0 : Int) < (ll : Int) := by omega
              obtain ⟨j, hj⟩ : ∃ j : Nat, u % (ll : Int) = (j : Int) := ⟨(u % (ll : Int)).toNat, by rw [Int.toNat_of_nonneg (Int.emod_nonneg _ (by omega))]⟩
              have hjl : j < ll := by have := Int.emod_lt_of_pos u h0z; omega
              have M := fun w => mod_any u ll w (by omega)
              rw [hj] at M
              have hjL : j < L.length := by rw [HLL.out]; exact hjl
              obtain ⟨lg, rfl⟩ := HLP.out (by rw [HLL.out]; exact h0)
              have hlg := HO.out lg (by simp [own, Value.ownBlock])
              have hlb : lg ∉ [sb, gb] := by simp; omega
              have k0 : wr.cell? ⟨lg, j * 2, none⟩ = some (.int .i64 L[j].1) := hkw.cell (by have h := HL8.out; rw [HLL.out] at h; exact h.cell j 0 hjL (by decide)) hlb
              have k1 : wr.cell? ⟨lg, j * 2 + 1, none⟩ = some (.int .i64 L[j].2) := hkw.cell (by have h := HL8.out; rw [HLL.out] at h; exact h.cell j 1 hjL (by decide)) hlb
              generalize L[j] = hd at k0 k1
              obtain ⟨hd1, hd2⟩ := hd
              simp only at k0 k1
              have hjz : (j : Int) < (ll : Int) ∧ (0 : Int) ≤ (j : Int) := by omega
              obtain ⟨hjz1, hjz2⟩ := hjz
              have HF : Aside (∀ W, Kp [sb] wr W → (W.cell? ⟨tb, 0, none⟩ = some (.pointer (some ⟨sb, 0, none⟩)) ∧ W.cell? ⟨tb, 1, none⟩ = some (.slice (some ⟨lg, 0, none⟩) ll lcap) ∧ W.cell? (a.add i) = some (.int .i64 u) ∧ W.cell? ⟨lg, j * 2, none⟩ = some (.int .i64 hd1) ∧ W.cell? ⟨lg, j * 2 + 1, none⟩ = some (.int .i64 hd2))) := fun W g =>
                ⟨g.cell r0 (by simp; omega), g.cell r1 (by simp; omega), (World.cell?_of_block (w := wr) (a := a.add i) (by rw [block_add]; exact g.block _ (by have := hw8.size; have := hkw.size; omega) (by simp; omega))).trans ca, g.cell k0 (by simp; omega), g.cell k1 (by simp; omega)⟩
              have HFr : Aside (∀ W, Grew wr W → Calls Tryz.prog 44 #[.pointer (some ⟨sb, 0, none⟩), .agg #[.int .i64 hd1, .int .i64 hd2]] W fun e w' => e = .returned (.int .i64 (freeE G' T' hd1 hd2)) ∧ SlotsAt w' sb gb G' (freeS G' T' hd1 hd2) ∧ Kp [sb] wr w') := fun W g =>
                (free_any sb gb G' T' hd1 hd2 W (HSr.out.grew g)).mono fun e w' ⟨he, hs, hk⟩ => ⟨he, hs, (g.kp _).trans hk⟩
              clear hj hjL hlg
              go_wp2_with fail
              go_region_held3 (fun W => W.cell? ⟨tb, 0, none⟩ = some (.pointer (some ⟨sb, 0, none⟩)) ∧ W.cell? ⟨tb, 1, none⟩ = some (.slice (some ⟨lg, 0, none⟩) ll lcap) ∧ W.cell? (a.add i) = some (.int .i64 u) ∧ W.cell? ⟨lg, j * 2, none⟩ = some (.int .i64 hd1) ∧ W.cell? ⟨lg, j * 2 + 1, none⟩ = some (.int .i64 hd2))
                (first | (refine HF.out _ (Grew.kp ?_ _); (repeat' (first | exact Grew.refl _ | assumption | refine Grew.alloc ?_ _ | refine Grew.drew ?_ | refine Grew.drewN ?_ _ | refine Grew.setCell ?_ ?_ _ | (simp; done) | (simp; omega))); done) | (refine HF.out _ hk9; done))
                (first | (go_at_call 16; refine (M _).mono ?_; rintro e w9 ⟨rfl, rfl⟩)
                       | (go_at_call 44; refine (HFr.out _ ?_).mono ?_; (· (repeat' (first | exact Grew.refl _ | assumption | refine Grew.alloc ?_ _ | refine Grew.drew ?_ | refine Grew.drewN ?_ _ | refine Grew.setCell ?_ ?_ _ | (simp; done) | (simp; omega)))); rintro e w9 ⟨rfl, hs9, hk9⟩))
              all_goals
                have HS9 := Lib.hid hs9
                have hk89 : Kp [sb, gb] w8 w9 := hkw.trans (hk9.mono (by simp))
                clear hs9 hk9
                go_wp2_with fail
                go_roundg (k - (i + 1))
                case measure => omega
                case rel => exact ⟨i + 1, by omega, by omega, by go_num, hk89.trans (Grew.kp (by (repeat' (first | exact Grew.refl _ | assumption | refine Grew.alloc ?_ _ | refine Grew.drew ?_ | refine Grew.drewN ?_ _ | refine Grew.setCell ?_ ?_ _ | (simp; done) | (simp; omega)))) _), (show Aside _ from ⟨_, _, HS9.out.grew (by (repeat' (first | exact Grew.refl _ | assumption | refine Grew.alloc ?_ _ | refine Grew.drew ?_ | refine Grew.drewN ?_ _ | refine Grew.setCell ?_ ?_ _ | (simp; done) | (simp; omega))))⟩)⟩
            · have h0z : ¬ (0 : Int) < (ll : Int) := by omega
              go_wp2_with fail
              go_roundg (k - (i + 1))
              case measure => omega
              case rel => exact ⟨i + 1, by omega, by omega, by go_num, hkw, (show Aside _ from ⟨_, _, HSr.out⟩)⟩
        · have h1z : ¬ (i : Int) < (k : Int) := by omega
          obtain ⟨wq, hwq⟩ : ∃ wq, wq = wr := ⟨_, rfl⟩
          subst hwq
          have hcr : SlotsAt wq sc gc G T := HC8.out.kp hkw (by simp; omega) (by simp; omega)
          have hAr : Sl kH wq w5.heap.size (.slice ap ll acap) (takenH G T) := HA8.out.kp hkw (fun g hg => by have := HA8.out.own_ge g hg; simp; omega)
          have HCr := Lib.hid hcr
          have HAr := Lib.hid hAr
          have HLc : Aside (∀ W, Grew wq W → Calls Tryz.prog 41 #[.pointer (some ⟨sc, 0, none⟩)] W fun e w' => e = .returned (.int .i64 ll) ∧ W = w') := fun W g => by
            have h := slLen_any sc gc G T W (hcr.grew g)
            rwa [HI.out.len (by omega), HLL.out] at h
          have hnl : ((ll : Int) != (ll : Int)) = false := by simp
          have hszq := hkw.size
          clear hcr hAr hi hgg h1
          go_wp2_with fail
          refine (all_any sc gc G T _ HCr.out).mono ?_
          rintro e w9 ⟨vb, rfl, hb9, hg9⟩
          obtain ⟨bp, bc, rfl, -⟩ := hb9.shape
          rw [HA.out] at hb9 ⊢
          have HB9 := Lib.hid hb9
          clear hb9
          go_wp2_with fail
          refine (HSame.out bp ap bc acap _ HB9.out.rdP (HAr.out.grew hg9).rdP).mono ?_
          rintro e w10 ⟨rfl, hg10⟩
          have hq10 := hg9.trans hg10
          have r0 := hq10.cell' r0
          have ht10 := lt_of_cell r0
          clear hg9 hg10
          go_wp2_with fail
          refine (HLc.out _ (by (repeat' (first | exact Grew.refl _ | assumption | refine Grew.alloc ?_ _ | refine Grew.drew ?_ | refine Grew.drewN ?_ _ | refine Grew.setCell ?_ ?_ _ | (simp; done) | (simp; omega))))).mono ?_
          rintro e w11 ⟨rfl, rfl⟩
          go_wp2_with fail
          refine (all_any sb gb G' T' _ (HSr.out.grew (by (repeat' (first | exact Grew.refl _ | assumption | refine Grew.alloc ?_ _ | refine Grew.drew ?_ | refine Grew.drewN ?_ _ | refine Grew.setCell ?_ ?_ _ | (simp; done) | (simp; omega)))))).mono ?_
          rintro e w12 ⟨vd, rfl, hd12, hg12⟩
          obtain ⟨dp, dc, rfl, -⟩ := hd12.shape
          have hq12 := hq10.trans hg12
          have r0 := hg12.cell' r0
          have ht12 := lt_of_cell r0
          have hsz10 := hq10.size
          have HD12 := Lib.hid hd12
          have hk12 : Kp [sb, gb] w8 w12 := hkw.trans (hq12.kp _)
          have HS12 := Lib.hid (HSr.out.grew hq12)
          have HC12 := Lib.hid (HCr.out.grew hq12)
          have hg64 := HSr.out.most64
          have hdl : (takenH G' T').length ≤ 64 := by
            rw [takenH_len]
            refine Nat.le_trans (List.length_filter_le _ _) ?_
            rw [List.length_range]; exact hg64.2
          have HDl := Lib.hid hdl
          obtain ⟨nd, hnd⟩ : ∃ nd, (takenH G' T').length = nd := ⟨_, rfl⟩
          have HND := Lib.hid hnd
          rw [hnd]
          clear hd12 hg12 hdl hnd
          go_wp2_with fail
          go_loopg [12] ll (fun gg s12 wr => ∃ j : Nat, j ≤ ll ∧ ll - j ≤ gg ∧ s12 = .int .i64 j ∧ Kp [sc] w12 wr ∧ Aside (∃ T2, SlotsAt wr sc gc G T2 ∧ Inv n m G T2 ((takenH G T).drop j) V))
          case atStart => exact ⟨0, Nat.zero_le _, by omega, rfl, Kp.refl _ _, (show Aside _ from ⟨T, HC12.out, by rw [List.drop_zero]; exact HI.out.sorted⟩)⟩
          case round =>
            obtain ⟨j, hj, hgg, rfl, hkr, A⟩ := hrel
            obtain ⟨T2, hs2, hi2⟩ := A.out
            have HS2 := Lib.hid hs2
            have HI2 := Lib.hid hi2
            have q0 := hkr.cell r0 (by simp; omega)
            have htr := lt_of_cell q0
            clear A hs2 hi2
            by_cases h2 : j < ll
            · have h2z : (j : Int) < (ll : Int) := by omega
              have hjA : j < (takenH G T).length := by rw [HA.out]; exact h2
              obtain ⟨ag, rfl⟩ := HAq.out (by omega)
              have hag := HAp.out ag rfl
              have hA12 := (HAr.out.grew hq12).kp hkr (fun g hg => by have := HAr.out.own_ge g hg; simp; omega)
              have k0 : wr.cell? ⟨ag, j * 2, none⟩ = some (.int .i64 (takenH G T)[j].1) := hA12.cell j 0 hjA (by decide)
              have k1 : wr.cell? ⟨ag, j * 2 + 1, none⟩ = some (.int .i64 (takenH G T)[j].2) := hA12.cell j 1 hjA (by decide)
              have hnx := HI2.out.next hjA
              generalize (takenH G T)[j] = hd at k0 k1 hnx
              obtain ⟨hd1, hd2⟩ := hd
              simp only at k0 k1 hnx
              have HN := Lib.hid hnx
              clear hnx hjA hA12 hag
              go_wp2_with fail
              refine (free_any sc gc G T2 hd1 hd2 _ HS2.out).mono ?_
              rintro e w13 ⟨rfl, hs13, hk13⟩
              rw [HN.out.1]
              have HS13 := Lib.hid hs13
              have hk13 := hkr.trans hk13
              clear hs13
              go_wp2_with fail
              go_roundg (ll - (j + 1))
              case measure => omega
              case rel => exact ⟨j + 1, by omega, by omega, by go_num, hk13, (show Aside _ from ⟨_, HS13.out, HN.out.2⟩)⟩
            · have h2z : ¬ (j : Int) < (ll : Int) := by omega
              obtain rfl : j = ll := by omega
              have hlc := slLen_any sc gc G T2 wr HS2.out
              rw [Inv.done (A := takenH G T) (by have h := HI2.out; rwa [← HA.out] at h) (by omega)] at hlc
              have HLc := Lib.hid hlc
              have HSe := Lib.hid (HS12.out.kp hkr (by simp; omega) (by simp; omega))
              have HDe := Lib.hid (HD12.out.kp hkr (fun g hg => by have := HD12.out.own_ge g hg; simp; omega))
              have hwe : Grew w wr := Kp.grewOf (by exact hw8) ((hk12.mono (bs := [sb, gb, sc]) (by intro x hx; simp at hx ⊢; omega)).trans (hkr.mono (by intro x hx; simp at hx ⊢; omega))) (fun x hx => by simp at hx; omega)
              clear hlc hk12
              go_wp2_with fail
              refine HLc.out.mono ?_
              rintro e w13 ⟨rfl, rfl⟩
              go_wp2_with fail
              refine (all_any sb gb G' T' _ HSe.out).mono ?_
              rintro e w14 ⟨ve, rfl, he14, hg14⟩
              obtain ⟨ep, ec, rfl, -⟩ := he14.shape
              have hsh := sameHandles_any ep dp ec dc (takenH G' T') (takenH G' T') w14 he14.rdP ((HDe.out.grew hg14).rdP) (by have := HDl.out; unfold maxLen; omega)
              rw [HND.out, decide_eq_true rfl] at hsh
              have HSh := Lib.hid hsh
              rw [HND.out]
              have hw14 := hwe.trans hg14
              clear he14 hg14 hsh
              go_wp2_with fail
              refine HSh.out.mono ?_
              rintro e w15 ⟨rfl, hg15⟩
              have hw15 := hw14.trans hg15
              clear hg15
              go_wp2_with fail
              refine (awake_any _).mono ?_
              rintro e w16 ⟨rfl, hg16⟩
              have hw16 := hw15.trans hg16
              clear hg16
              go_wp2_with fail
              go_ret
              exact ⟨rfl, hw16⟩

end Go.Proofs.YtmoaefcpbphgmaaGreat

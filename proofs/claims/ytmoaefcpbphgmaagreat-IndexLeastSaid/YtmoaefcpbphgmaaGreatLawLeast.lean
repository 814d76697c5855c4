/- The walk of IndexLeast: it returns true. -/
import Derived.Test.YtmoaefcpbphgmaaGreatTold
import Derived.Test.YtmoaefcpbphgmaaGreatTab
import Derived.Deep.LoopGhost
import Derived.Deep.RegionHeld3
import Derived.Deep.DrawnRows
namespace Go.Proofs.YtmoaefcpbphgmaaGreat
open Go.RowKit Go.Maps Go.Sort Go.Shelf
attribute [local go_sem ↓] Go.wp_at_zero Go.wp_at_succ

/-- f is the lowest slot from a on that is not taken, or n. -/
def LowF (T : List Bool) (n a f : Nat) : Prop := f ≤ n ∧ (f < n → T.getD f false = false ∧ a ≤ f) ∧ ∀ i, a ≤ i → i < f → T.getD i false = true
theorem LowF.start (T : List Bool) (n : Nat) : LowF T n n n := ⟨Nat.le_refl _, fun h => absurd h (Nat.lt_irrefl _), fun i h1 h2 => by omega⟩
theorem LowF.yes {T : List Bool} {n a f : Nat} (h : LowF T n (a + 1) f) (ht : T.getD a false = true) : LowF T n a f :=
  ⟨h.1, fun hf => ⟨(h.2.1 hf).1, by have := (h.2.1 hf).2; omega⟩, fun i h1 h2 => by
    by_cases e : i = a
    · rw [e]; exact ht
    · exact h.2.2 i (by omega) h2⟩
theorem LowF.no {T : List Bool} {n a : Nat} (ha : a < n) (ht : T.getD a false = false) : LowF T n a a := ⟨by omega, fun _ => ⟨ht, Nat.le_refl _⟩, fun i h1 h2 => by omega⟩
theorem LowF.least {n c : Nat} {G : List Int} {T : List Bool} {L V : List (Int × Int)} (h : Inv n c G T L V) (hc : c ≤ 1000) {f : Nat} (hf : LowF T n 0 f) : leastN G T = f := by
  obtain ⟨h1, h2, h3⟩ := hf
  have hle := leastN_le G T
  rw [h.lg] at hle
  rcases Nat.lt_trichotomy (leastN G T) f with hlt | he | hgt
  · have hy := leastN_yes (gens := G) (tk := T) (by rw [h.lg]; omega)
    have := h3 _ (Nat.zero_le _) hlt
    unfold freeAt at hy
    rw [this] at hy
    simp at hy
  · exact he
  · have hn := leastN_no hgt
    have h4 := (h2 (by omega)).1
    have h5 := h.bd f (by omega)
    unfold freeAt at hn
    rw [h4, decide_eq_true (by omega)] at hn
    simp at hn
theorem takenH_asc (G : List Int) (T : List Bool) : (takenH G T).Pairwise fun p q => p.1 < q.1 := by
  unfold takenH
  rw [List.pairwise_map]
  exact (List.Pairwise.filter _ List.pairwise_lt_range).imp fun h => Int.ofNat_lt.2 h

theorem SlotsAt.good {w : World} {sb gb : Nat} {G : List Int} {T : List Bool} (h : SlotsAt w sb gb G T) : 1 ≤ G.length ∧ G.length ≤ 64 := by obtain ⟨_, _, h⟩ := h; exact h.most

set_option maxHeartbeats 4000000 in
set_option maxRecDepth 100000 in
theorem indexLeast_any (most : Int) (p : Option Addr) (cap : Nat) (xs : List Int) (w : World) (hx : RdI w p xs) (hn : xs.length ≤ maxLen) :
    Calls Tryz.prog 6 #[.int .i64 most, .slice p xs.length cap] w fun e w' => e = .returned (.bool true) ∧ Grew w w' := by
  obtain ⟨m, hm⟩ : ∃ m, xs.length = m := ⟨_, rfl⟩
  have HX := Lib.hid hx
  have HM := Lib.hid hm
  rw [hm] at hn ⊢
  unfold maxLen at hn
  clear hx hm
  by_cases h120 : 120 < m
  · have h120z : (120 : Int) < (m : Int) := by omega
    go_enter Tryz.func6, Tryz.ntmps6
    go_wp2_with fail
    refine (awake_any _).mono ?_
    rintro e w1 ⟨rfl, hg1⟩
    go_wp2_with fail
    go_ret
    exact ⟨rfl, hg1⟩
  have h120z : ¬ (120 : Int) < (m : Int) := by omega
  have hT := told_any p cap most xs w HX.out (by rw [HM.out]; omega)
  rw [HM.out] at hT
  have hn64 : 1 ≤ (1 + most % 64).toNat ∧ (1 + most % 64).toNat ≤ 64 := by omega
  generalize (1 + most % 64).toNat = n at hT hn64
  have HTd := Lib.hid hT
  clear hT hn
  go_enter Tryz.func6, Tryz.ntmps6
  go_wp2_with fail
  refine HTd.out.mono ?_
  rintro e w1 ⟨sb, gb, G, T, L, V, vl, vg, rfl, hs, hl, hv, hinv, hg1, hsb, hgb, ho1, ho2⟩
  obtain ⟨lp, lcap, rfl, hlp⟩ := hl.shape
  obtain ⟨vp, vcap, rfl, hvp⟩ := hv.shape
  obtain ⟨ll, hll⟩ : ∃ ll, L.length = ll := ⟨_, rfl⟩
  obtain ⟨vv, hvv⟩ : ∃ vv, V.length = vv := ⟨_, rfl⟩
  have hlL := hinv.lenL
  have HS1 := Lib.hid hs
  have HI := Lib.hid hinv
  have HLL := Lib.hid hll
  have HLG := Lib.hid hinv.lg
  rw [hll] at hlL
  rw [hll, hvv]
  obtain ⟨tb, htb⟩ : ∃ tb, w1.heap.size = tb := ⟨_, rfl⟩
  have hst := hs.lt
  clear hs hl hv hinv hlp hvp hll hvv ho1 ho2
  go_wp2_with fail
  have hw1 : Grew w1 (w1.alloc (.cells #[.pointer (some ⟨sb, 0, none⟩), .slice lp ll lcap, .slice vp vv vcap, .bool true] 60)) := (Grew.refl w1).alloc _
  have t0 : (w1.alloc (.cells #[.pointer (some ⟨sb, 0, none⟩), .slice lp ll lcap, .slice vp vv vcap, .bool true] 60)).cell? ⟨tb, 0, none⟩ = some (.pointer (some ⟨sb, 0, none⟩)) := by rw [← htb]; simp
  generalize w1.alloc (.cells #[.pointer (some ⟨sb, 0, none⟩), .slice lp ll lcap, .slice vp vv vcap, .bool true] 60) = w2 at hw1 t0 ⊢
  have hw12 : Grew w w2 := hg1.trans hw1
  have HS2 := Lib.hid (HS1.out.grew hw1)
  refine (all_any sb gb G T _ HS2.out).mono ?_
  rintro e w3 ⟨va, rfl, hsa, hg3⟩
  obtain ⟨ap, acap, rfl, hap⟩ := hsa.shape
  have hal : (takenH G T).length = ll := by rw [← HI.out.pl.length_eq, HLL.out]
  rw [hal]
  have HA3 := Lib.hid hsa
  have HAL := Lib.hid hal
  have HAP := Lib.hid hap
  have HS3 := Lib.hid (HS2.out.grew hg3)
  have hw3 : Grew w w3 := hw12.trans hg3
  have t0 := hg3.cell' t0
  have hMo := fun w' (g : Grew w3 w') => most_any sb gb G T w' (HS3.out.grew g)
  rw [HLG.out] at hMo
  have HMo := Lib.hid hMo
  have ht3 := lt_of_cell t0
  clear hsa hal hap hMo hg3
  go_wp2_with fail
  refine (HMo.out _ (by (repeat' (first | exact Grew.refl _ | assumption | refine Grew.alloc ?_ _ | refine Grew.drew ?_ | refine Grew.drewN ?_ _ | refine Grew.setCell ?_ ?_ _ | (simp; done) | (simp; omega))))).mono ?_
  rintro e w4 ⟨rfl, rfl⟩
  go_wp2_with fail
  refine (HMo.out _ (by (repeat' (first | exact Grew.refl _ | assumption | refine Grew.alloc ?_ _ | refine Grew.drew ?_ | refine Grew.drewN ?_ _ | refine Grew.setCell ?_ ?_ _ | (simp; done) | (simp; omega))))).mono ?_
  rintro e w4 ⟨rfl, rfl⟩
  go_wp2_with fail
  go_loopg [7, 8] n (fun gg s7 s8 wr => ∃ (k f : Nat), k ≤ n ∧ n - k ≤ gg ∧ f ≤ n ∧ s7 = .int .i64 f ∧ s8 = .int .i64 ((n : Int) - 1 - (k : Int)) ∧ Grew w3 wr ∧ Aside (LowF T n (n - k) f))
  case atStart => exact ⟨0, n, Nat.zero_le _, by omega, Nat.le_refl _, rfl, by simp, Grew.refl _, LowF.start T n⟩
  case round =>
    obtain ⟨k, f, hk, hgg, hf, rfl, rfl, hgw, A⟩ := hrel
    have t0r := hgw.cell' t0
    have htr := lt_of_cell t0r
    by_cases h1 : k < n
    · obtain ⟨i, hi⟩ : ∃ i, n - 1 - k = i := ⟨_, rfl⟩
      have hiz : (n : Int) - 1 - (k : Int) = (i : Int) := by omega
      have hin : i < n := by omega
      have hiG : i < G.length := by rw [HLG.out]; exact hin
      have hAt := fun w' (g : Grew w3 w') => at_any sb gb G T (i : Int) w' (HS3.out.grew g)
      rw [atG_in hiG, atB_in hiG] at hAt
      have hnk : n - k = i + 1 ∧ n - (k + 1) = i := by omega
      have HNK := Lib.hid hnk
      have hmem : T.getD i false = true → ((i : Int), G.getD i 0) ∈ takenH G T := fun h => mem_takenH.2 ⟨i, hiG, h, rfl⟩
      have hHH := fun (a b : Int) w' (g : Grew w3 w') => hasHandle_any ap acap (takenH G T) a b w' ((HA3.out.grew g).rdP) (by rw [HAL.out]; unfold maxLen; omega)
      rw [HAL.out] at hHH
      have HHH := Lib.hid hHH
      cases hT : T.getD i false
      · rw [hT, if_neg (by simp)] at hAt
        obtain ⟨bb, hbb⟩ : ∃ bb, decide (((0 : Int), (0 : Int)) ∈ takenH G T) = bb := ⟨_, rfl⟩
        have HBB := Lib.hid hbb
        have HAt := Lib.hid hAt
        have HT := Lib.hid hT
        rw [hiz]
        clear hAt hHH hmem hnk hT hbb hiG hi
        cases bb
        all_goals
          go_wp2_with fail
          refine (HAt.out _ (by (repeat' (first | exact Grew.refl _ | assumption | refine Grew.alloc ?_ _ | refine Grew.drew ?_ | refine Grew.drewN ?_ _ | refine Grew.setCell ?_ ?_ _ | (simp; done) | (simp; omega))))).mono ?_
          rintro e w5 ⟨rfl, hg5⟩
          have h35 : Grew w3 w5 := hgw.trans (Grew.trans (by (repeat' (first | exact Grew.refl _ | assumption | refine Grew.alloc ?_ _ | refine Grew.drew ?_ | refine Grew.drewN ?_ _ | refine Grew.setCell ?_ ?_ _ | (simp; done) | (simp; omega)))) hg5)
          clear hg5
          go_wp2_with fail
          refine (HHH.out 0 0 _ (by (repeat' (first | exact Grew.refl _ | assumption | refine Grew.alloc ?_ _ | refine Grew.drew ?_ | refine Grew.drewN ?_ _ | refine Grew.setCell ?_ ?_ _ | (simp; done) | (simp; omega))))).mono ?_
          rintro e w6 ⟨rfl, hg6⟩
          rw [HBB.out]
          have h36 : Grew w3 w6 := Grew.trans (by (repeat' (first | exact Grew.refl _ | assumption | refine Grew.alloc ?_ _ | refine Grew.drew ?_ | refine Grew.drewN ?_ _ | refine Grew.setCell ?_ ?_ _ | (simp; done) | (simp; omega)))) hg6
          clear hg6
          go_wp2_with fail
          go_roundg (n - (k + 1))
          case measure => omega
          case rel => exact ⟨k + 1, i, by omega, by omega, by omega, rfl, by first | rfl | (congr 1; omega), h36, by rw [HNK.out.2]; exact LowF.no hin HT.out⟩
      · rw [hT, if_pos rfl] at hAt
        have hbb := hmem hT
        have HBB := Lib.hid (decide_eq_true hbb)
        have HAt := Lib.hid hAt
        have HT := Lib.hid hT
        obtain ⟨gi, hgi⟩ : ∃ gi, G.getD i 0 = gi := ⟨_, rfl⟩
        rw [hgi] at hAt
        have HAt := Lib.hid hAt
        have hBB := HBB.out
        rw [hgi] at hBB
        have HBB := Lib.hid hBB
        rw [hiz]
        clear hAt hHH hmem hnk hT hbb hiG hi hBB hgi
        go_wp2_with fail
        refine (HAt.out _ (by (repeat' (first | exact Grew.refl _ | assumption | refine Grew.alloc ?_ _ | refine Grew.drew ?_ | refine Grew.drewN ?_ _ | refine Grew.setCell ?_ ?_ _ | (simp; done) | (simp; omega))))).mono ?_
        rintro e w5 ⟨rfl, hg5⟩
        have h35 : Grew w3 w5 := hgw.trans (Grew.trans (by (repeat' (first | exact Grew.refl _ | assumption | refine Grew.alloc ?_ _ | refine Grew.drew ?_ | refine Grew.drewN ?_ _ | refine Grew.setCell ?_ ?_ _ | (simp; done) | (simp; omega)))) hg5)
        clear hg5
        go_wp2_with fail
        refine (HHH.out (i : Int) gi _ (by (repeat' (first | exact Grew.refl _ | assumption | refine Grew.alloc ?_ _ | refine Grew.drew ?_ | refine Grew.drewN ?_ _ | refine Grew.setCell ?_ ?_ _ | (simp; done) | (simp; omega))))).mono ?_
        rintro e w6 ⟨rfl, hg6⟩
        rw [HBB.out]
        have h36 : Grew w3 w6 := Grew.trans (by (repeat' (first | exact Grew.refl _ | assumption | refine Grew.alloc ?_ _ | refine Grew.drew ?_ | refine Grew.drewN ?_ _ | refine Grew.setCell ?_ ?_ _ | (simp; done) | (simp; omega)))) hg6
        clear hg6
        go_wp2_with fail
        go_roundg (n - (k + 1))
        case measure => omega
        case rel => exact ⟨k + 1, f, by omega, by omega, hf, rfl, by first | rfl | (congr 1; omega), h36, by rw [HNK.out.2]; exact LowF.yes (by have h := A.out; rwa [HNK.out.1] at h) HT.out⟩
    · obtain rfl : n = k := by omega
      have hz : (n : Int) - 1 - (n : Int) = -1 := by omega
      rw [hz]
      have hlf := LowF.least HI.out (by omega) (by have h := A.out; rwa [Nat.sub_self] at h)
      have HLF := Lib.hid hlf
      clear hz hlf
      go_wp2_with fail
      obtain ⟨wq, hwq⟩ : ∃ wq, wq = wr := ⟨_, rfl⟩
      subst hwq
      clear hk hgg h1
      go_loopg [11] ll (fun gg s11 wr => ∃ j : Nat, j ≤ ll ∧ ll - j ≤ gg ∧ s11 = .int .i64 ((j : Int) + 1) ∧ Grew w3 wr)
      case atStart => exact ⟨0, by omega, by omega, rfl, by (repeat' (first | exact Grew.refl _ | assumption | refine Grew.alloc ?_ _ | refine Grew.drew ?_ | refine Grew.drewN ?_ _ | refine Grew.setCell ?_ ?_ _ | (simp; done) | (simp; omega)))⟩
      case round =>
        obtain ⟨j, hj, hgg, rfl, hgq⟩ := hrel
        by_cases h2 : j + 1 < ll
        · have h2z : (j : Int) + 1 < (ll : Int) := by omega
          obtain ⟨ag, rfl⟩ := HAP.out (by rw [HAL.out]; omega)
          have hja : j < (takenH G T).length := by rw [HAL.out]; omega
          have hjb : j + 1 < (takenH G T).length := by rw [HAL.out]; omega
          have hA := HA3.out.grew hgq
          have ca := hA.cell j 0 hja (by decide)
          have cb := hA.cell (j + 1) 0 hjb (by decide)
          have hlt := List.pairwise_iff_getElem.1 (takenH_asc G T) j (j + 1) hja hjb (by omega)
          generalize (takenH G T)[j] = x at ca hlt
          generalize (takenH G T)[j + 1] = y at cb hlt
          obtain ⟨x1, x2⟩ := x
          obtain ⟨y1, y2⟩ := y
          have ca : wr.cell? ⟨ag, j * 2, none⟩ = some (.int .i64 x1) := ca
          have cb : wr.cell? ⟨ag, (j + 1) * 2, none⟩ = some (.int .i64 y1) := cb
          have hlt : ¬ y1 ≤ x1 := by simp at hlt; omega
          have u1 : IntKind.i64.wrap ((j : Int) + 1) = (j : Int) + 1 := IntWalk.i64_in _ (by omega)
          have u2 : IntKind.i64.wrap ((j : Int) + 1 - 1) = (j : Int) := by rw [IntWalk.i64_in _ (by omega)]; omega
          have u3 : IntKind.i64.wrap (j : Int) = (j : Int) := IntWalk.i64_in _ (by omega)
          have z1 : (0 : Int) ≤ (j : Int) + 1 := by omega
          have z2 : (j : Int) < (ll : Int) := by omega
          have z3 : (0 : Int) ≤ (j : Int) := by omega
          clear hA hja hjb
          go_wp2_with fail
          go_region_held3 (fun W' => W'.cell? ⟨ag, j * 2, none⟩ = some (.int .i64 x1) ∧ W'.cell? ⟨ag, (j + 1) * 2, none⟩ = some (.int .i64 y1)) ((simp [*, go_sem]; done)) (fail)
          all_goals go_wp2_with fail
          go_roundg (ll - (j + 1))
          case measure => omega
          case rel => exact ⟨j + 1, by omega, by omega, by go_num, by (repeat' (first | exact Grew.refl _ | assumption | refine Grew.alloc ?_ _ | refine Grew.drew ?_ | refine Grew.drewN ?_ _ | refine Grew.setCell ?_ ?_ _ | (simp; done) | (simp; omega)))⟩
        · have h2z : ¬ (j : Int) + 1 < (ll : Int) := by omega
          have tq := hgq.cell' t0
          have hwq := hw3.trans hgq
          have htq := lt_of_cell tq
          have hGen := fun w' (g : Grew w3 w') => gen_any sb gb G T (f : Int) w' (HS3.out.grew g)
          have HGen := Lib.hid hGen
          clear hj hgg hGen
          go_wp2_with fail
          refine (HGen.out _ (by (repeat' (first | exact Grew.refl _ | assumption | refine Grew.alloc ?_ _ | refine Grew.drew ?_ | refine Grew.drewN ?_ _ | refine Grew.setCell ?_ ?_ _ | (simp; done) | (simp; omega))))).mono ?_
          rintro e w5 ⟨rfl, rfl⟩
          go_wp2_with fail
          refine (take_any sb gb G T _ (HS3.out.grew (by (repeat' (first | exact Grew.refl _ | assumption | refine Grew.alloc ?_ _ | refine Grew.drew ?_ | refine Grew.drewN ?_ _ | refine Grew.setCell ?_ ?_ _ | (simp; done) | (simp; omega)))))).mono ?_
          rintro e w5 ⟨rfl, hs5, hk5⟩
          have htb5 : tb ∉ [sb, gb] := by simp; omega
          have hw5 : Grew w w5 := Kp.grewOf (by (repeat' (first | exact Grew.refl _ | assumption | refine Grew.alloc ?_ _ | refine Grew.drew ?_ | refine Grew.drewN ?_ _ | refine Grew.setCell ?_ ?_ _ | (simp; done) | (simp; omega)))) hk5 (fun x hx => by simp at hx; omega)
          have k0 := hk5.cell tq htb5
          have ht5 := lt_of_cell k0
          have HMx := Lib.hid (fun w' (g : Grew w5 w') => most_any sb gb (takeG G T) (takeS G T) w' (hs5.grew g))
          have HLx := Lib.hid (fun w' (g : Grew w5 w') => slLen_any sb gb (takeG G T) (takeS G T) w' (hs5.grew g))
          clear hs5 hk5 tq htb5
          by_cases hfull : ll = n
          · have hF := HI.out.full (by rw [HLL.out]; exact hfull)
            have hfn : f = n := by
              rcases Nat.lt_or_ge f n with h | h
              · have h3 := hF.1
                unfold takeH at h3
                rw [HLF.out, if_pos (by rw [HLG.out]; exact h)] at h3
                simp at h3
              · omega
            have HM1 := HMx.out
            have HF := Lib.hid hF
            rw [hF.2.1, HLG.out] at HM1
            have HM1 := Lib.hid HM1
            rw [hF.1]
            have hfb : ((f : Int) == (n : Int)) = true := beq_iff_eq.2 (by omega)
            have E0 := fun w => eqHandle 0 0 0 0 w
            clear hF hfn hfull
            go_wp2_with fail
            refine (HM1.out _ (by (repeat' (first | exact Grew.refl _ | assumption | refine Grew.alloc ?_ _ | refine Grew.drew ?_ | refine Grew.drewN ?_ _ | refine Grew.setCell ?_ ?_ _ | (simp; done) | (simp; omega))))).mono ?_
            rintro e w6 ⟨rfl, rfl⟩
            go_wp2_with fail
            refine (awake_any _).mono ?_
            rintro e w7 ⟨rfl, hg7⟩
            go_wp2_with fail
            go_ret
            exact ⟨rfl, Grew.trans (by (repeat' (first | exact Grew.refl _ | assumption | refine Grew.alloc ?_ _ | refine Grew.drew ?_ | refine Grew.drewN ?_ _ | refine Grew.setCell ?_ ?_ _ | (simp; done) | (simp; omega)))) hg7⟩
          · obtain ⟨i, g, hi, t1, -, -, t4, t5, t6⟩ := HI.out.take (by omega) (by rw [HLL.out]; exact hfull)
            obtain rfl : f = i := by rw [← t5, HLF.out]
            have hgn : genAt G (f : Int) + 1 = g := by
              rw [t4]; unfold genAt
              rw [if_pos ⟨by omega, by rw [HLG.out]; omega⟩, Int.toNat_natCast]
            have hb := HI.out.bd f hi
            have HM1 := HMx.out
            rw [t6.lg] at HM1
            have HM1 := Lib.hid HM1
            have HL1 := HLx.out
            rw [t6.len (by omega), List.length_append, HLL.out] at HL1
            have HL1 := Lib.hid HL1
            rw [t1]
            have hfb : ((f : Int) == (n : Int)) = false := beq_eq_false_iff_ne.2 (by omega)
            have hgb1 : 0 ≤ genAt G (f : Int) ∧ genAt G (f : Int) + 1 ≤ 1000000 := by rw [hgn, t4]; omega
            generalize genAt G (f : Int) = g0 at *
            subst hgn
            have E0 := fun w => eqHandle f (g0 + 1) f (g0 + 1) w
            have u1 : IntKind.i64.wrap (g0 + 1) = g0 + 1 := IntWalk.i64_in _ (by omega)
            have u2 : IntKind.i64.wrap ((ll : Int) + 1) = (ll : Int) + 1 := IntWalk.i64_in _ (by omega)
            clear hfull t1 t4 t5 t6 hb
            go_wp2_with fail
            refine (HM1.out _ (by (repeat' (first | exact Grew.refl _ | assumption | refine Grew.alloc ?_ _ | refine Grew.drew ?_ | refine Grew.drewN ?_ _ | refine Grew.setCell ?_ ?_ _ | (simp; done) | (simp; omega))))).mono ?_
            rintro e w6 ⟨rfl, rfl⟩
            go_wp2_with fail
            refine (HL1.out _ (by (repeat' (first | exact Grew.refl _ | assumption | refine Grew.alloc ?_ _ | refine Grew.drew ?_ | refine Grew.drewN ?_ _ | refine Grew.setCell ?_ ?_ _ | (simp; done) | (simp; omega))))).mono ?_
            rintro e w6 ⟨rfl, rfl⟩
            go_wp2_with fail
            refine (awake_any _).mono ?_
            rintro e w7 ⟨rfl, hg7⟩
            go_wp2_with fail
            go_ret
            exact ⟨rfl, Grew.trans (by (repeat' (first | exact Grew.refl _ | assumption | refine Grew.alloc ?_ _ | refine Grew.drew ?_ | refine Grew.drewN ?_ _ | refine Grew.setCell ?_ ?_ _ | (simp; done) | (simp; omega)))) hg7⟩

end Go.Proofs.YtmoaefcpbphgmaaGreat

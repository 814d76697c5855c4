/- The walk of IndexHandles: it returns true. -/
import Derived.Test.YtmoaefcpbphgmaaTold
import Derived.Test.YtmoaefcpbphgmaaRestore
import Derived.Deep.LoopGhost
import Derived.Deep.RegionHeld3
import Derived.Deep.DrawnRows
namespace Go.Proofs.Ytmoaefcpbphgmaa
open Go.RowKit Go.Maps Go.Sort Go.Shelf
attribute [local go_sem ↓] Go.wp_at_zero Go.wp_at_succ

theorem given_laws {n c : Nat} {G : List Int} {T : List Bool} {L V : List (Int × Int)} (h : Inv n c G T L V) {p : Int × Int} (hp : p ∈ V) :
    ¬ genAt G p.1 < p.2 ∧ 0 ≤ genAt G p.1 ∧ genAt G p.1 ≤ (c : Int) ∧ hasB G T p.1 (genAt G p.1 + 1) = false := by
  obtain ⟨i, hi, h1, h2⟩ := h.vg p hp
  have hb := h.bd i hi
  have hg : genAt G p.1 = G.getD i 0 := by
    rw [h1]
    unfold genAt
    rw [h.lg, if_pos (by omega), Int.toNat_natCast]
  refine ⟨by rw [hg]; omega, by rw [hg]; omega, by rw [hg]; omega, ?_⟩
  rw [has_iff]
  refine decide_eq_false fun hm => ?_
  obtain ⟨j, hj, _, he⟩ := mem_takenH.1 hm
  injection he with e1 e2
  rw [hg] at e2
  have : i = j := by omega
  subst this
  omega

set_option maxHeartbeats 4000000 in
set_option maxRecDepth 100000 in
theorem indexHandles_any (most : Int) (p : Option Addr) (cap : Nat) (xs : List Int) (w : World) (hx : RdI w p xs) (hn : xs.length ≤ maxLen) :
    Calls Try.prog 7 #[.int .i64 most, .slice p xs.length cap] w fun e w' => e = .returned (.bool true) ∧ Grew w w' := by
  obtain ⟨m, hm⟩ : ∃ m, xs.length = m := ⟨_, rfl⟩
  have HX := Lib.hid hx
  have HM := Lib.hid hm
  rw [hm] at hn ⊢
  unfold maxLen at hn
  clear hx hm
  by_cases h120 : 120 < m
  · have h120z : (120 : Int) < (m : Int) := by omega
    go_enter Try.func7, Try.ntmps7
    go_wp2_with fail
    refine (awake_any _).mono ?_
    rintro e w1 ⟨rfl, hg1⟩
    go_wp2_with fail
    go_ret
    exact ⟨rfl, hg1⟩
  have h120z : ¬ (120 : Int) < (m : Int) := by omega
  have hT := told_any p cap most xs w HX.out (by rw [HM.out]; omega)
  rw [HM.out] at hT
  have hn64 : 1 ≤ (1 + most % 64).toNat ∧ (1 + most % 64).toNat ≤ 64 := by omega
  generalize (1 + most % 64).toNat = n at hT hn64
  have HTd := Lib.hid hT
  clear hT hn
  go_enter Try.func7, Try.ntmps7
  go_wp2_with fail
  refine HTd.out.mono ?_
  rintro e w1 ⟨sb, gb, G, T, L, V, vl, vg, rfl, hs, hl, hv, hinv, hg1, hsb, hgb, ho1, ho2⟩
  obtain ⟨lp, lcap, rfl, hlp⟩ := hl.shape
  obtain ⟨vp, vcap, rfl, hvp⟩ := hv.shape
  have HLn := Lib.hid (hinv.len (by omega))
  obtain ⟨ll, hll⟩ : ∃ ll, L.length = ll := ⟨_, rfl⟩
  obtain ⟨vv, hvv⟩ : ∃ vv, V.length = vv := ⟨_, rfl⟩
  have hlL := hinv.lenL
  have hvV := hinv.cv
  have HS1 := Lib.hid hs
  have HI := Lib.hid hinv
  have HL := Lib.hid hl.rdP
  have HV := Lib.hid hv
  have HLL := Lib.hid hll
  have HVV := Lib.hid hvv
  have HVP := Lib.hid hvp
  rw [hll] at hlL
  rw [hvv] at hvV
  rw [hll, hvv]
  obtain ⟨tb, htb⟩ : ∃ tb, w1.heap.size = tb := ⟨_, rfl⟩
  have hLen : ∀ W, Grew w1 W → Calls Try.prog 29 #[.pointer (some ⟨sb, 0, none⟩)] W (fun e w' => e = .returned (.int .i64 ll) ∧ W = w') := fun W g => by
    have h := slLen_any sb gb G T W (hs.grew g)
    rw [hinv.len (by omega), hll] at h
    exact h
  have HLen := Lib.hid hLen
  have hst := hs.lt
  clear hs hl hv hinv hlp hvp hll hvv ho1 ho2 hsb hgb hLen
  go_wp2_with fail
  have hw1 : Grew w1 (w1.alloc (.cells #[.pointer (some ⟨sb, 0, none⟩), .slice lp ll lcap, .slice vp vv vcap, .bool true] 62)) := (Grew.refl w1).alloc _
  have t0 : (w1.alloc (.cells #[.pointer (some ⟨sb, 0, none⟩), .slice lp ll lcap, .slice vp vv vcap, .bool true] 62)).cell? ⟨tb, 0, none⟩ = some (.pointer (some ⟨sb, 0, none⟩)) := by rw [← htb]; simp
  have t1 : (w1.alloc (.cells #[.pointer (some ⟨sb, 0, none⟩), .slice lp ll lcap, .slice vp vv vcap, .bool true] 62)).cell? ⟨tb, 1, none⟩ = some (.slice lp ll lcap) := by rw [← htb]; simp
  have t2 : (w1.alloc (.cells #[.pointer (some ⟨sb, 0, none⟩), .slice lp ll lcap, .slice vp vv vcap, .bool true] 62)).cell? ⟨tb, 2, none⟩ = some (.slice vp vv vcap) := by rw [← htb]; simp
  have t3 : (w1.alloc (.cells #[.pointer (some ⟨sb, 0, none⟩), .slice lp ll lcap, .slice vp vv vcap, .bool true] 62)).cell? ⟨tb, 3, none⟩ = some (.bool true) := by rw [← htb]; simp
  generalize w1.alloc (.cells #[.pointer (some ⟨sb, 0, none⟩), .slice lp ll lcap, .slice vp vv vcap, .bool true] 62) = w2 at hw1 t0 t1 t2 t3 ⊢
  have HC : Aside (∀ W, Grew w2 W → (W.cell? ⟨tb, 0, none⟩ = some (.pointer (some ⟨sb, 0, none⟩)) ∧ W.cell? ⟨tb, 1, none⟩ = some (.slice lp ll lcap) ∧ W.cell? ⟨tb, 2, none⟩ = some (.slice vp vv vcap) ∧ W.cell? ⟨tb, 3, none⟩ = some (.bool true))) := fun W g => ⟨g.cell' t0, g.cell' t1, g.cell' t2, g.cell' t3⟩
  have hw12 : Grew w w2 := hg1.trans hw1
  have hnl : ((ll : Int) != (ll : Int)) = false := by simp
  have htl := lt_of_cell t0
  go_region_held3 (fun W' => W'.cell? ⟨tb, 0, none⟩ = some (.pointer (some ⟨sb, 0, none⟩)) ∧ W'.cell? ⟨tb, 1, none⟩ = some (.slice lp ll lcap) ∧ W'.cell? ⟨tb, 3, none⟩ = some (.bool true)) ((simp [*, go_sem]; done))
    (first | (go_at_call 29; refine (HLen.out _ ?_).mono ?_; (· (repeat' (first | exact Grew.refl _ | assumption | refine Grew.alloc ?_ _ | refine Grew.drew ?_ | refine Grew.drewN ?_ _ | refine Grew.setCell ?_ ?_ _ | (simp; done) | (simp; omega)))); rintro e w5 ⟨rfl, rfl⟩))
  all_goals
    go_wp2_with fail
    go_loopg [6] vv (fun gg s6 wr => ∃ i : Nat, i ≤ vv ∧ vv - i ≤ gg ∧ s6 = .int .i64 i ∧ Grew w2 wr)
    case atStart => exact ⟨0, Nat.zero_le _, by omega, rfl, by (repeat' (first | exact Grew.refl _ | assumption | refine Grew.alloc ?_ _ | refine Grew.drew ?_ | refine Grew.drewN ?_ _ | refine Grew.setCell ?_ ?_ _ | (simp; done) | (simp; omega)))⟩
    case round =>
      obtain ⟨wq, hwq⟩ : ∃ wq, wq = wr := ⟨_, rfl⟩
      subst hwq
      obtain ⟨i, hi, hgg, rfl, hgw⟩ := hrel
      by_cases h1 : i < vv
      · have h1z : (i : Int) < (vv : Int) := by omega
        have hiV : i < V.length := by rw [HVV.out]; exact h1
        obtain ⟨vg0, rfl⟩ := HVP.out (by rw [HVV.out]; omega)
        have hgq : Grew w1 wq := hw1.trans hgw
        have k0 : wq.cell? ⟨vg0, i * 2, none⟩ = some (.int .i64 V[i].1) := hgq.cell' (HV.out.cell i 0 hiV (by decide))
        have k1 : wq.cell? ⟨vg0, i * 2 + 1, none⟩ = some (.int .i64 V[i].2) := hgq.cell' (HV.out.cell i 1 hiV (by decide))
        have hmem : V[i] ∈ V := List.getElem_mem hiV
        generalize V[i] = h at k0 k1 hmem
        obtain ⟨h1s, h1g⟩ := h
        obtain ⟨g1, g2, g3, g4⟩ := given_laws HI.out hmem
        simp only at g1 g2 g3 g4 k0 k1
        obtain ⟨gv, hgv⟩ : ∃ gv, genAt G h1s = gv := ⟨_, rfl⟩
        rw [hgv] at g1 g2 g3 g4
        have hq0 := (HC.out wq hgw)
        obtain ⟨q0, q1, q2, q3⟩ := hq0
        have hqt := lt_of_cell q0
        obtain ⟨hb, hhb⟩ : ∃ hb, wq.heap.size = hb := ⟨_, rfl⟩
        obtain ⟨wb, hwb⟩ : ∃ wb, wq.alloc (.cells #[.int .i64 h1s, .int .i64 h1g] 55) = wb := ⟨_, rfl⟩
        have hgb : Grew wq wb := by rw [← hwb]; exact (Grew.refl wq).alloc _
        have b0 : wb.cell? ⟨hb, 0, none⟩ = some (.int .i64 h1s) := by rw [← hwb, ← hhb]; simp
        have b1 : wb.cell? ⟨hb, 1, none⟩ = some (.int .i64 h1g) := by rw [← hwb, ← hhb]; simp
        have hg2b : Grew w2 wb := hgw.trans hgb
        have hg1b : Grew w1 wb := hw1.trans hg2b
        have HF : Aside (∀ W, Grew wb W → (W.cell? ⟨tb, 0, none⟩ = some (.pointer (some ⟨sb, 0, none⟩)) ∧ W.cell? ⟨tb, 1, none⟩ = some (.slice lp ll lcap) ∧ W.cell? ⟨hb, 0, none⟩ = some (.int .i64 h1s) ∧ W.cell? ⟨hb, 1, none⟩ = some (.int .i64 h1g))) := fun W g => ⟨((HC.out _ hg2b).1 |> g.cell'), ((HC.out _ hg2b).2.1 |> g.cell'), g.cell' b0, g.cell' b1⟩
        have HHas : ∀ W, Grew wb W → Calls Try.prog 27 #[.pointer (some ⟨sb, 0, none⟩), .agg #[.int .i64 h1s, .int .i64 h1g]] W (fun e w' => e = .returned (.bool (decide ((h1s, h1g) ∈ L))) ∧ Grew wb w') := fun W g => by
          have h := has_any sb gb G T h1s h1g W (HS1.out.grew (hg1b.trans g))
          rw [HI.out.has] at h
          exact h.mono fun e w' he => ⟨he.1, g.trans he.2⟩
        have HHH : ∀ W, Grew wb W → Calls Try.prog 30 #[.slice lp ll lcap, .agg #[.int .i64 h1s, .int .i64 h1g]] W (fun e w' => e = .returned (.bool (decide ((h1s, h1g) ∈ L))) ∧ Grew wb w') := fun W g => by
          have h := hasHandle_any lp lcap L h1s h1g W (HL.out.grew (hg1b.trans g)) (by rw [HLL.out]; unfold maxLen; omega)
          rw [HLL.out] at h
          exact h.mono fun e w' he => ⟨he.1, g.trans he.2⟩
        have HGen : ∀ W, Grew wb W → Calls Try.prog 24 #[.pointer (some ⟨sb, 0, none⟩), .int .i64 h1s] W (fun e w' => e = .returned (.int .i64 gv) ∧ W = w') := fun W g => by
          have h := gen_any sb gb G T h1s W (HS1.out.grew (hg1b.trans g))
          rw [hgv] at h
          exact h
        have HLat : ∀ W, Grew wb W → Calls Try.prog 27 #[.pointer (some ⟨sb, 0, none⟩), .agg #[.int .i64 h1s, .int .i64 (gv + 1)]] W (fun e w' => e = .returned (.bool false) ∧ Grew wb w') := fun W g => by
          have h := has_any sb gb G T h1s (gv + 1) W (HS1.out.grew (hg1b.trans g))
          rw [g4] at h
          exact h.mono fun e w' he => ⟨he.1, g.trans he.2⟩
        have X := Lib.hid HLat
        have hgw1 : IntKind.i64.wrap (gv + 1) = gv + 1 := IntWalk.i64_in _ (by omega)
        generalize decide ((h1s, h1g) ∈ L) = bb at HHas HHH
        have Y := Lib.hid (And.intro HHas (And.intro HHH HGen))
        clear HHas HHH HGen HLat hgv g4 hmem hiV q3
        cases bb
        all_goals
          go_wp2_with fail
          go_region_held3 (fun W => W.cell? ⟨tb, 0, none⟩ = some (.pointer (some ⟨sb, 0, none⟩)) ∧ W.cell? ⟨tb, 1, none⟩ = some (.slice lp ll lcap) ∧ W.cell? ⟨hb, 0, none⟩ = some (.int .i64 h1s) ∧ W.cell? ⟨hb, 1, none⟩ = some (.int .i64 h1g))
            ((refine HF.out _ ?_; (repeat' (first | exact Grew.refl _ | assumption | refine Grew.alloc ?_ _ | refine Grew.drew ?_ | refine Grew.drewN ?_ _ | refine Grew.setCell ?_ ?_ _ | (simp; done) | (simp; omega))); done))
            (first | (go_at_call 27; refine (Y.out.1 _ ?_).mono ?_; (· (repeat' (first | exact Grew.refl _ | assumption | refine Grew.alloc ?_ _ | refine Grew.drew ?_ | refine Grew.drewN ?_ _ | refine Grew.setCell ?_ ?_ _ | (simp; done) | (simp; omega)))); rintro e w5 ⟨rfl, hw5⟩)
                   | (go_at_call 30; refine (Y.out.2.1 _ ?_).mono ?_; (· (repeat' (first | exact Grew.refl _ | assumption | refine Grew.alloc ?_ _ | refine Grew.drew ?_ | refine Grew.drewN ?_ _ | refine Grew.setCell ?_ ?_ _ | (simp; done) | (simp; omega)))); rintro e w6 ⟨rfl, hw6⟩)
                   | (go_at_call 24; refine (Y.out.2.2 _ ?_).mono ?_; (· (repeat' (first | exact Grew.refl _ | assumption | refine Grew.alloc ?_ _ | refine Grew.drew ?_ | refine Grew.drewN ?_ _ | refine Grew.setCell ?_ ?_ _ | (simp; done) | (simp; omega)))); rintro e w7 ⟨rfl, rfl⟩))
          all_goals
            go_wp2_with fail
            go_region_held3 (fun W => W.cell? ⟨tb, 0, none⟩ = some (.pointer (some ⟨sb, 0, none⟩)) ∧ W.cell? ⟨tb, 1, none⟩ = some (.slice lp ll lcap) ∧ W.cell? ⟨hb, 0, none⟩ = some (.int .i64 h1s) ∧ W.cell? ⟨hb, 1, none⟩ = some (.int .i64 h1g))
              ((refine HF.out _ ?_; (repeat' (first | exact Grew.refl _ | assumption | refine Grew.alloc ?_ _ | refine Grew.drew ?_ | refine Grew.drewN ?_ _ | refine Grew.setCell ?_ ?_ _ | (simp; done) | (simp; omega))); done))
              (first | (go_at_call 24; refine (Y.out.2.2 _ ?_).mono ?_; (· (repeat' (first | exact Grew.refl _ | assumption | refine Grew.alloc ?_ _ | refine Grew.drew ?_ | refine Grew.drewN ?_ _ | refine Grew.setCell ?_ ?_ _ | (simp; done) | (simp; omega)))); rintro e w7 ⟨rfl, rfl⟩))
            all_goals
              have z0 := (HF.out w6 hw6).1
              have zl := lt_of_cell z0
              go_wp2_with fail
              refine (X.out _ (by (repeat' (first | exact Grew.refl _ | assumption | refine Grew.alloc ?_ _ | refine Grew.drew ?_ | refine Grew.drewN ?_ _ | refine Grew.setCell ?_ ?_ _ | (simp; done) | (simp; omega))))).mono ?_
              rintro e w8 ⟨rfl, hw8⟩
              have h28 : Grew w2 w8 := hg2b.trans hw8
              go_wp2_with fail
              go_roundg (vv - (i + 1))
              case measure => omega
              case rel => exact ⟨i + 1, by omega, by omega, by go_num, by (repeat' (first | exact Grew.refl _ | assumption | refine Grew.alloc ?_ _ | refine Grew.drew ?_ | refine Grew.drewN ?_ _ | refine Grew.setCell ?_ ?_ _ | (simp; done) | (simp; omega)))⟩
      · have h1z : ¬ (i : Int) < (vv : Int) := by omega
        obtain ⟨q0, q1, q2, q3⟩ := HC.out wq hgw
        go_wp2_with fail
        refine (awake_any _).mono ?_
        rintro e w8 ⟨rfl, hg8⟩
        have hw8 : Grew w w8 := hw12.trans (hgw.trans hg8)
        go_wp2_with fail
        go_ret
        exact ⟨rfl, hw8⟩

end Go.Proofs.Ytmoaefcpbphgmaa

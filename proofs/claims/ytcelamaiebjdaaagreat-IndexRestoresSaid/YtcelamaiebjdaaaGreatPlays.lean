/- plays returns true. -/
import Derived.Test.YtcelamaiebjdaaaGreatPlayPlain
import Derived.Deep.RegionHeld3
import Derived.Deep.DrawnRows
namespace Go.Proofs.YtcelamaiebjdaaaGreat
open Go.RowKit Go.Maps Go.Sort Go.Shelf
attribute [local go_sem ↓] Go.wp_at_zero Go.wp_at_succ

theorem add_field (a : Addr) (j k : Nat) (hk : k ≠ 0) : a.add (j + k) = ⟨(a.add j).block, (a.add j).off + k, none⟩ := by
  have h1 : j + k ≠ 0 := by omega
  by_cases hj : j = 0
  · subst hj; simp [Addr.add, hk]
  · simp [Addr.add, hj, hk, Nat.add_assoc]
/-- Acts of a table. -/
def kA : Kind (Int × Int × Int) where
  ty := 112
  sl := 47
  size := 3
  bytes := 24
  enc := fun x => [.int .i64 x.1, .int .i64 x.2.1, .int .i64 x.2.2]
  zero := .agg #[.int .i64 0, .int .i64 0, .int .i64 0]
  pos := by decide
  len := fun _ => rfl
  one := fun x u hu => by simp at hu; rcases hu with rfl | rfl | rfl <;> rfl
  zsz := rfl
  under := Tryz.underlying47
  info := by kernel_rfl
  small := by decide

set_option maxHeartbeats 4000000 in
set_option maxRecDepth 100000 in
theorem plays_any (sb gb rb rg rt : Nat) (G : List Int) (T : List Bool) (p : Option Addr) (cap : Nat) (acts : List (Int × Int × Int)) (w : World) (hs : SlotsAt w sb gb G T) (hr : RefAt w rb rg rt G T) (hd : Dis [sb, gb] [rb, rg, rt]) (ha : Rd kA w p acts)
    (hab : 0 < acts.length → ∀ a, p = some a → a.block ∉ [sb, gb, rg, rt]) (hn : acts.length ≤ 100) :
    Calls Tryz.prog 25 #[.pointer (some ⟨sb, 0, none⟩), .pointer (some ⟨rb, 0, none⟩), .slice p acts.length cap] w fun e w' => e = .returned (.bool true) ∧ Kp [sb, gb, rg, rt] w w' := by
  obtain ⟨n, hn'⟩ : ∃ n, acts.length = n := ⟨_, rfl⟩
  have HN := Lib.hid hn'
  have HA := Lib.hid ha
  have HB := Lib.hid hab
  have HS := Lib.hid hs
  have HR := Lib.hid hr
  have HD := Lib.hid hd
  rw [hn'] at hn ⊢
  have l1 := hs.lt
  have l2 := hr.lt
  clear ha hab hs hr hd hn'
  go_enter Tryz.func25, Tryz.ntmps25
  go_wp2_with fail
  refine (slCopy_any sb gb G T _ HS.out).mono ?_
  rintro e w1 ⟨lb, lg, rfl, hl, hg1, b1, b2, -⟩
  have HL1 := Lib.hid hl
  have hl1 := hl.lt
  have z1 := hg1.size
  clear hl
  go_wp2_with fail
  refine (refCopy_any rb rg rt G T _ (HR.out.grew hg1)).mono ?_
  rintro e w2 ⟨wb, wg, wt, rfl, hq, hg2, b3, b4, b5⟩
  have hp0 : Play w w2 [sb, gb, rg, rt] sb gb rb rg rt lb lg wb wg wt G T G T (.slice none 0 0) [] :=
    ⟨HS.out.grew (hg1.trans hg2), HR.out.grew (hg1.trans hg2), HL1.out.grew hg2, hq, Sl.nil _ _ _, (hg1.trans hg2).kp _, fun b hb => .inl hb, HD.out, fun b hb hm => by
      simp only [List.mem_cons, List.not_mem_nil, or_false] at hb hm
      omega, fun b hb => by simp [own, Value.ownBlock] at hb⟩
  have HP0 := Lib.hid hp0
  clear hq hg1 hg2 hp0
  go_wp2_with fail
  go_loopg [0, 1, 7, 8, 9, 10] n (fun gg s0 s1 s7 s8 s9 s10 wr => ∃ (i s g r rg' rt' l lg' q qg qt : Nat) (G1 : List Int) (T1 : List Bool) (G2 : List Int) (T2 : List Bool) (v : Value) (V : List (Int × Int)), i ≤ n ∧ n - i ≤ gg ∧ s0 = .pointer (some ⟨s, 0, none⟩) ∧ s1 = .pointer (some ⟨r, 0, none⟩) ∧
    s7 = .pointer (some ⟨l, 0, none⟩) ∧ s8 = .pointer (some ⟨q, 0, none⟩) ∧ v = s9 ∧ s10 = .int .i64 i ∧ V.length ≤ i ∧ Aside (Play w wr [sb, gb, rg, rt] s g r rg' rt' l lg' q qg qt G1 T1 G2 T2 v V))
  case atStart => exact ⟨0, sb, gb, rb, rg, rt, lb, lg, wb, wg, wt, G, T, G, T, _, [], Nat.zero_le _, by omega, rfl, rfl, rfl, rfl, rfl, rfl, Nat.le_refl _, HP0.out⟩
  case round =>
    obtain ⟨i, s, g, r, rg', rt', l, lg', q, qg, qt, G1, T1, G2, T2, v, V, hi, hgg, rfl, rfl, rfl, rfl, rfl, rfl, hV, P⟩ := hrel
    by_cases h1 : i < n
    · have h1z : (i : Int) < (n : Int) := by omega
      have hix : i < acts.length := by rw [HN.out]; exact h1
      obtain ⟨a, ha, -, -⟩ := HA.out.resolve_left (by rintro rfl; simp at hix)
      subst ha
      have hA := HA.out.kp P.out.kp (HB.out (by omega))
      have k0 := hA.cell i 0 hix (by decide)
      have k1 := hA.cell i 1 hix (by decide)
      have k2 := hA.cell i 2 hix (by decide)
      generalize acts[i] = x at k0 k1 k2
      obtain ⟨x0, x1, x2⟩ := x
      have k0 : wr.cell? (a.add (i * 3)) = some (.int .i64 x0) := k0
      have k1 : wr.cell? (a.add (i * 3 + 1)) = some (.int .i64 x1) := k1
      have k2 : wr.cell? (a.add (i * 3 + 2)) = some (.int .i64 x2) := k2
      rw [add_field a (i * 3) 1 (by decide)] at k1
      rw [add_field a (i * 3) 2 (by decide)] at k2
      obtain ⟨vp, vc, rfl, hvp⟩ := P.out.g.shape
      obtain ⟨vl, hvl⟩ : ∃ vl, V.length = vl := ⟨_, rfl⟩
      rw [hvl] at hvp hV ⊢
      have HVL := Lib.hid hvl
      have HVP := Lib.hid hvp
      have M := fun w => mod_any x0 4 w (by omega)
      obtain ⟨kd, hkd⟩ : ∃ kd, x0 % 4 = kd := ⟨_, rfl⟩
      have hkr : kd = 0 ∨ kd = 1 ∨ kd = 2 ∨ kd = 3 := by omega
      rw [hkd] at M
      clear hA hix hvl hvp hkd
      go_wp2_with fail
      refine (M _).mono ?_
      rintro e wa ⟨rfl, hwa⟩
      have hga : Grew wr wa := by rw [← hwa]; exact ((Grew.refl wr).alloc _).alloc _
      obtain ⟨ac, hac⟩ : ∃ ac, wr.heap.size = ac := ⟨_, rfl⟩
      obtain ⟨hc, hhc⟩ : ∃ hc, ac + 1 = hc := ⟨_, rfl⟩
      have y1 : wa.cell? ⟨ac, 1, none⟩ = some (.int .i64 x1) := by rw [← hwa, ← hac]; simp [go_sem]
      have q0 : wa.cell? ⟨hc, 0, none⟩ = some (.int .i64 x1) := by rw [← hwa, ← hhc, ← hac]; simp [go_sem]
      have q1 : wa.cell? ⟨hc, 1, none⟩ = some (.int .i64 x2) := by rw [← hwa, ← hhc, ← hac]; simp [go_sem]
      have qf : ∀ j, wa.frozen? ⟨hc, j, none⟩ = false := fun j => by rw [← hwa, ← hhc, ← hac]; simp [go_sem]
      have Pa := Lib.hid (P.out.grew hga)
      have Pr := Lib.hid P.out
      have hcr : wr.heap.size ≤ hc := by omega
      have HGa := Lib.hid hga
      have hle : w.heap.size ≤ hc := by have := P.out.kp.size; omega
      rw [hac, hhc]
      clear hwa hga k0 k1 k2 hac hhc P M
      have hvl' : vl ≤ 100 := by omega
      have hrn : r ∉ [s] ∧ rg' ∉ [s] ∧ rt' ∉ [s] := by
        have h := Pa.out.d1 s (by simp)
        simp only [List.mem_cons, List.not_mem_nil, or_false] at h ⊢
        omega
      have hsn : s ∉ [rt'] ∧ g ∉ [rt'] := by
        have h := Pa.out.d1 s (by simp)
        have h' := Pa.out.d1 g (by simp)
        simp only [List.mem_cons, List.not_mem_nil, or_false] at h h' ⊢
        omega
      have hcn : hc ∉ [s, rt'] := by
        have h := Pr.out.s.lt
        have h' := Pr.out.r.lt
        simp only [List.mem_cons, List.not_mem_nil, or_false]
        omega
      rcases hkr with rfl | rfl | rfl | rfl
      · have hT := take_any s g G1 T1 wa Pa.out.s
        have hU := fun W h => refTake_any r rg' rt' G1 T1 W h
        generalize takeH G1 T1 = th at hT hU
        obtain ⟨a1, a2, a3⟩ := th
        simp only at hT hU
        have HT := Lib.hid hT
        have HU := Lib.hid hU
        have NE := fun w => neHandle a1 a2 a1 a2 w
        have hq1 : (a1 == a1 && a2 == a2) = true := by simp
        have hq3 : (a3 != a3) = false := by simp
        clear hT hU y1 q0 q1 qf
        go_wp2_with fail
        refine HT.out.mono ?_
        rintro e w3 ⟨rfl, hs3, hk3⟩
        have hr3 : RefAt w3 r rg' rt' G1 T1 := Pa.out.r.kp hk3 (fun hm => Pa.out.d1 _ hm (by simp)) (fun hm => Pa.out.d1 _ hm (by simp)) (fun hm => Pa.out.d1 _ hm (by simp))
        have hl3 := hr3.lt
        obtain ⟨w4, hw4e⟩ : ∃ w4, w3.alloc (.cells #[.int .i64 a1, .int .i64 a2] 74) = w4 := ⟨_, rfl⟩
        have hg4 : Grew w3 w4 := by rw [← hw4e]; exact (Grew.refl w3).alloc _
        obtain ⟨A, hA⟩ : ∃ A, w3.heap.size = A := ⟨_, rfl⟩
        have p0 : w4.cell? ⟨A, 0, none⟩ = some (.int .i64 a1) := by rw [← hw4e, ← hA]; simp
        have p1 : w4.cell? ⟨A, 1, none⟩ = some (.int .i64 a2) := by rw [← hw4e, ← hA]; simp
        have hAn : A ∉ [rg', rt'] := by simp; omega
        have HR4 := Lib.hid (hr3.grew hg4)
        have HS4 := Lib.hid (hs3.grew hg4)
        have HK4 := Lib.hid (hk3.trans (hg4.kp _))
        clear hs3 hk3 hr3 hg4 hl3
        go_wp2_with fail
        clear hw4e hA
        refine (HU.out _ HR4.out).mono ?_
        rintro e w5 ⟨rfl, hr5, hk5⟩
        have hs5 := HS4.out.kp hk5 (fun hm => Pa.out.d1 s (by simp) (List.mem_cons_of_mem _ hm)) (fun hm => Pa.out.d1 g (by simp) (List.mem_cons_of_mem _ hm))
        have p0 := hk5.cell p0 hAn
        have p1 := hk5.cell p1 hAn
        have lA := lt_of_cell p0
        have hk05 : Kp [s, g, rg', rt'] wa w5 := (HK4.out.mono (by intro x hx; simp at hx ⊢; omega)).trans (hk5.mono (by intro x hx; simp at hx ⊢; omega))
        have P5 := Lib.hid (Pa.out.step hk05 hs5 hr5)
        obtain ⟨w6, hw6e⟩ : ∃ w6, w5.alloc (.cells #[.int .i64 a1, .int .i64 a2] 74) = w6 := ⟨_, rfl⟩
        have hg6 : Grew w5 w6 := by rw [← hw6e]; exact (Grew.refl w5).alloc _
        obtain ⟨B, hB⟩ : ∃ B, w5.heap.size = B := ⟨_, rfl⟩
        have q0 : w6.cell? ⟨B, 0, none⟩ = some (.int .i64 a1) := by rw [← hw6e, ← hB]; simp
        have q1 : w6.cell? ⟨B, 1, none⟩ = some (.int .i64 a2) := by rw [← hw6e, ← hB]; simp
        have p0 := hg6.cell' p0
        have p1 := hg6.cell' p1
        have P6 := Lib.hid (P5.out.grew hg6)
        have lB := lt_of_cell q0
        obtain ⟨v', w7, hr, hs7, hk7, ho7⟩ := appendOne kH P6.out.g P6.out.kp.size (by rw [HVL.out]; omega) (a1, a2) #[.int .i64 a1, .int .i64 a2] rfl
        have P7 := Lib.hid (P6.out.app hs7 hk7 ho7)
        rw [HVL.out] at hr
        have HRn := Lib.hid hr
        have HAl := Lib.hid (alike_any s g r rg' rt' _ _ w7 P7.out.s P7.out.r)
        clear hr hs7 hk7 ho7 hr5 hk5 hs5 hk05 hg6
        go_wp2_with (at_builtin; refine wpList_append_run rfl _ _ _ _ rfl rfl _ _ _ rfl rfl HRn.out ?_)
        refine HAl.out.mono ?_
        rintro e w8 ⟨rfl, hg8⟩
        have P8 := Lib.hid (P7.out.grew hg8)
        clear hg8
        go_wp2_with fail
        go_roundg (n - (i + 1))
        case measure => omega
        case rel => exact ⟨i + 1, s, g, r, rg', rt', l, lg', q, qg, qt, takeG G1 T1, takeS G1 T1, G2, T2, v', V ++ [(a1, a2)], by omega, by omega, rfl, rfl, rfl, rfl, rfl, by go_num, by rw [List.length_append, HVL.out]; simp; omega, P8.out⟩
      · by_cases hv0 : 0 < vl
        · have hv0z : (0 : Int) < (vl : Int) := by omega
          obtain ⟨j, hj⟩ : ∃ j : Nat, x1 % (vl : Int) = (j : Int) := ⟨(x1 % (vl : Int)).toNat, by rw [Int.toNat_of_nonneg (Int.emod_nonneg _ (by omega))]⟩
          have hjl : j < vl := by have := Int.emod_lt_of_pos x1 hv0z; omega
          have M := fun w => mod_any x1 vl w (by omega)
          rw [hj] at M
          have hjV : j < V.length := by rw [HVL.out]; exact hjl
          obtain ⟨vg, rfl⟩ := HVP.out hv0
          have hVs := Pa.out.g
          rw [HVL.out] at hVs
          have k0 : wa.cell? ⟨vg, j * 2, none⟩ = some (.int .i64 V[j].1) := hVs.cell j 0 hjV (by decide)
          have k1 : wa.cell? ⟨vg, j * 2 + 1, none⟩ = some (.int .i64 V[j].2) := hVs.cell j 1 hjV (by decide)
          generalize V[j] = hd at k0 k1
          obtain ⟨h1', h2'⟩ := hd
          simp only at k0 k1
          have hjz1 : (j : Int) < (vl : Int) := by omega
          have hjz2 : (0 : Int) ≤ (j : Int) := by omega
          have qf0 := qf 0
          have qf1 := qf 1
          have hvgb := (hVs.own_ge vg (by simp [own, Value.ownBlock])).2
          obtain ⟨wx, hwx⟩ : ∃ wx, (wa.setCell ⟨hc, 0, none⟩ (.int .i64 h1')).setCell ⟨hc, 1, none⟩ (.int .i64 h2') = wx := ⟨_, rfl⟩
          have hgx : Grew wr wx := by rw [← hwx]; exact (HGa.out.setCell hcr _).setCell hcr _
          have r0 : wx.cell? ⟨hc, 0, none⟩ = some (.int .i64 h1') := by rw [← hwx]; simp [q0, go_sem]
          have r1 : wx.cell? ⟨hc, 1, none⟩ = some (.int .i64 h2') := by rw [← hwx]; simp [q1, go_sem]
          have Px := Lib.hid (Pr.out.grew hgx)
          clear hVs hjV hj hgx
          go_wp2_with fail
          refine (M _).mono ?_
          rintro e w3 ⟨rfl, rfl⟩
          go_wp2_with fail
          try rw [hwx]
          clear hwx k0 k1 q0 q1 y1 qf0 qf1 qf
          have q0 := r0
          have q1 := r1
          clear r0 r1
          have HF : Aside (∀ W, Kp [s, rt'] wx W → (W.cell? ⟨hc, 0, none⟩ = some (.int .i64 h1') ∧ W.cell? ⟨hc, 1, none⟩ = some (.int .i64 h2'))) := fun W k => ⟨k.cell q0 hcn, k.cell q1 hcn⟩
          have hq := show (freeE G1 T1 h1' h2' != freeE G1 T1 h1' h2') = false by simp
          go_region_held3 (fun W => W.cell? ⟨hc, 0, none⟩ = some (.int .i64 h1') ∧ W.cell? ⟨hc, 1, none⟩ = some (.int .i64 h2'))
            (first | (refine HF.out _ (Grew.kp ?_ _); (repeat' (first | exact Grew.refl _ | assumption | refine Grew.alloc ?_ _ | refine Grew.drew ?_ | refine Grew.drewN ?_ _ | refine Grew.setCell ?_ ?_ _ | (simp; done) | (simp; omega))); done) | (refine HF.out _ (hk7.mono ?_); (· intro x hx; simp at hx ⊢; omega); done) | (refine HF.out _ ((hk7.mono ?_).trans (hk8.mono ?_)); (· intro x hx; simp at hx ⊢; omega); (· intro x hx; simp at hx ⊢; omega); done))
            (first | (go_at_call 42; refine (free_any s g G1 T1 h1' h2' _ (Px.out.s.grew ?_)).mono ?_; (· (repeat' (first | exact Grew.refl _ | assumption | refine Grew.alloc ?_ _ | refine Grew.drew ?_ | refine Grew.drewN ?_ _ | refine Grew.setCell ?_ ?_ _ | (simp; done) | (simp; omega)))); rintro e w7 ⟨rfl, hs7, hk7⟩; replace hk7 := (Grew.kp (show Grew wx _ by (repeat' (first | exact Grew.refl _ | assumption | refine Grew.alloc ?_ _ | refine Grew.drew ?_ | refine Grew.drewN ?_ _ | refine Grew.setCell ?_ ?_ _ | (simp; done) | (simp; omega)))) [s]).trans hk7)
                   | (go_at_call 75; refine (refFree_any r rg' rt' G1 T1 h1' h2' _ (Px.out.r.kp hk7 ?_ ?_ ?_)).mono ?_; (· exact hrn.1); (· exact hrn.2.1); (· exact hrn.2.2); rintro e w8 ⟨rfl, hr8, hk8⟩))
          all_goals
            have hs8 := hs7.kp hk8 hsn.1 hsn.2
            have P8 := Lib.hid (Px.out.step ((hk7.mono (by intro x hx; simp at hx ⊢; omega)).trans (hk8.mono (by intro x hx; simp at hx ⊢; omega))) hs8 hr8)
            have HAl := Lib.hid (alike_any s g r rg' rt' _ _ w8 P8.out.s P8.out.r)
            clear hs7 hk7 hr8 hk8 hs8
            go_wp2_with fail
            refine HAl.out.mono ?_
            rintro e w9 ⟨rfl, hg9⟩
            have P9 := Lib.hid (P8.out.grew hg9)
            clear hg9
            go_wp2_with fail
            go_roundg (n - (i + 1))
            case measure => omega
            case rel => exact ⟨i + 1, s, g, r, rg', rt', l, lg', q, qg, qt, G1, freeS G1 T1 h1' h2', G2, T2, .slice (some ⟨vg, 0, none⟩) vl vc, V, by omega, by omega, rfl, rfl, rfl, rfl, rfl, by go_num, by rw [HVL.out]; omega, by have h := P9.out; rwa [HVL.out] at h⟩
        · have hv0z : ¬ (0 : Int) < (vl : Int) := by omega
          have HF : Aside (∀ W, Kp [s, rt'] wa W → (W.cell? ⟨hc, 0, none⟩ = some (.int .i64 x1) ∧ W.cell? ⟨hc, 1, none⟩ = some (.int .i64 x2))) := fun W k => ⟨k.cell q0 hcn, k.cell q1 hcn⟩
          have hq := show (freeE G1 T1 x1 x2 != freeE G1 T1 x1 x2) = false by simp
          go_wp2_with fail
          go_region_held3 (fun W => W.cell? ⟨hc, 0, none⟩ = some (.int .i64 x1) ∧ W.cell? ⟨hc, 1, none⟩ = some (.int .i64 x2))
            (first | (refine HF.out _ (Grew.kp ?_ _); (repeat' (first | exact Grew.refl _ | assumption | refine Grew.alloc ?_ _ | refine Grew.drew ?_ | refine Grew.drewN ?_ _ | refine Grew.setCell ?_ ?_ _ | (simp; done) | (simp; omega))); done) | (refine HF.out _ (hk7.mono ?_); (· intro x hx; simp at hx ⊢; omega); done) | (refine HF.out _ ((hk7.mono ?_).trans (hk8.mono ?_)); (· intro x hx; simp at hx ⊢; omega); (· intro x hx; simp at hx ⊢; omega); done))
            (first | (go_at_call 42; refine (free_any s g G1 T1 x1 x2 _ (Pa.out.s.grew ?_)).mono ?_; (· (repeat' (first | exact Grew.refl _ | assumption | refine Grew.alloc ?_ _ | refine Grew.drew ?_ | refine Grew.drewN ?_ _ | refine Grew.setCell ?_ ?_ _ | (simp; done) | (simp; omega)))); rintro e w7 ⟨rfl, hs7, hk7⟩; replace hk7 := (Grew.kp (show Grew wa _ by (repeat' (first | exact Grew.refl _ | assumption | refine Grew.alloc ?_ _ | refine Grew.drew ?_ | refine Grew.drewN ?_ _ | refine Grew.setCell ?_ ?_ _ | (simp; done) | (simp; omega)))) [s]).trans hk7)
                   | (go_at_call 75; refine (refFree_any r rg' rt' G1 T1 x1 x2 _ (Pa.out.r.kp hk7 ?_ ?_ ?_)).mono ?_; (· exact hrn.1); (· exact hrn.2.1); (· exact hrn.2.2); rintro e w8 ⟨rfl, hr8, hk8⟩))
          all_goals
            have hs8 := hs7.kp hk8 hsn.1 hsn.2
            have P8 := Lib.hid (Pa.out.step ((hk7.mono (by intro x hx; simp at hx ⊢; omega)).trans (hk8.mono (by intro x hx; simp at hx ⊢; omega))) hs8 hr8)
            have HAl := Lib.hid (alike_any s g r rg' rt' _ _ w8 P8.out.s P8.out.r)
            clear hs7 hk7 hr8 hk8 hs8
            go_wp2_with fail
            refine HAl.out.mono ?_
            rintro e w9 ⟨rfl, hg9⟩
            have P9 := Lib.hid (P8.out.grew hg9)
            clear hg9
            go_wp2_with fail
            go_roundg (n - (i + 1))
            case measure => omega
            case rel => exact ⟨i + 1, s, g, r, rg', rt', l, lg', q, qg, qt, G1, freeS G1 T1 x1 x2, G2, T2, .slice vp vl vc, V, by omega, by omega, rfl, rfl, rfl, rfl, rfl, by go_num, by rw [HVL.out]; omega, by have h := P9.out; rwa [HVL.out] at h⟩
      · have hh := show (hasB G1 T1 x1 x2 != hasB G1 T1 x1 x2) = false by simp
        have HF : Aside (∀ W, Kp [s, rt'] wa W → (W.cell? ⟨hc, 0, none⟩ = some (.int .i64 x1) ∧ W.cell? ⟨hc, 1, none⟩ = some (.int .i64 x2))) := fun W k => ⟨k.cell q0 hcn, k.cell q1 hcn⟩
        have hq := show (freeE G1 T1 x1 x2 != freeE G1 T1 x1 x2) = false by simp
        go_wp2_with fail
        go_region_held3 (fun W => W.cell? ⟨hc, 0, none⟩ = some (.int .i64 x1) ∧ W.cell? ⟨hc, 1, none⟩ = some (.int .i64 x2))
          (first | (refine HF.out _ (Grew.kp ?_ _); (repeat' (first | exact Grew.refl _ | assumption | refine Grew.alloc ?_ _ | refine Grew.drew ?_ | refine Grew.drewN ?_ _ | refine Grew.setCell ?_ ?_ _ | (simp; done) | (simp; omega))); done) | (refine HF.out _ (hk7.mono ?_); (· intro x hx; simp at hx ⊢; omega); done) | (refine HF.out _ ((hk7.mono ?_).trans (hk8.mono ?_)); (· intro x hx; simp at hx ⊢; omega); (· intro x hx; simp at hx ⊢; omega); done))
          (first | (go_at_call 43; refine (has_any s g G1 T1 x1 x2 _ (Pa.out.s.grew ?_)).mono ?_; (· (repeat' (first | exact Grew.refl _ | assumption | refine Grew.alloc ?_ _ | refine Grew.drew ?_ | refine Grew.drewN ?_ _ | refine Grew.setCell ?_ ?_ _ | (simp; done) | (simp; omega)))); rintro e w5 ⟨rfl, hg5⟩; replace hg5 := Grew.trans (show Grew wa _ by (repeat' (first | exact Grew.refl _ | assumption | refine Grew.alloc ?_ _ | refine Grew.drew ?_ | refine Grew.drewN ?_ _ | refine Grew.setCell ?_ ?_ _ | (simp; done) | (simp; omega)))) hg5)
                 | (go_at_call 71; refine (refHas_any r rg' rt' G1 T1 x1 x2 _ (Pa.out.r.grew ?_)).mono ?_; (· (repeat' (first | exact Grew.refl _ | assumption | refine Grew.alloc ?_ _ | refine Grew.drew ?_ | refine Grew.drewN ?_ _ | refine Grew.setCell ?_ ?_ _ | (simp; done) | (simp; omega)))); rintro e w6 ⟨rfl, hg6⟩; replace hg6 := Grew.trans (show Grew wa _ by (repeat' (first | exact Grew.refl _ | assumption | refine Grew.alloc ?_ _ | refine Grew.drew ?_ | refine Grew.drewN ?_ _ | refine Grew.setCell ?_ ?_ _ | (simp; done) | (simp; omega)))) hg6)
                 | (go_at_call 42; refine (free_any s g G1 T1 x1 x2 _ (Pa.out.s.grew ?_)).mono ?_; (· (repeat' (first | exact Grew.refl _ | assumption | refine Grew.alloc ?_ _ | refine Grew.drew ?_ | refine Grew.drewN ?_ _ | refine Grew.setCell ?_ ?_ _ | (simp; done) | (simp; omega)))); rintro e w7 ⟨rfl, hs7, hk7⟩; replace hk7 := (Grew.kp (show Grew wa _ by (repeat' (first | exact Grew.refl _ | assumption | refine Grew.alloc ?_ _ | refine Grew.drew ?_ | refine Grew.drewN ?_ _ | refine Grew.setCell ?_ ?_ _ | (simp; done) | (simp; omega)))) [s]).trans hk7)
                 | (go_at_call 75; refine (refFree_any r rg' rt' G1 T1 x1 x2 _ (Pa.out.r.kp hk7 ?_ ?_ ?_)).mono ?_; (· exact hrn.1); (· exact hrn.2.1); (· exact hrn.2.2); rintro e w8 ⟨rfl, hr8, hk8⟩))
        all_goals
          have hs8 := hs7.kp hk8 hsn.1 hsn.2
          have P8 := Lib.hid (Pa.out.step ((hk7.mono (by intro x hx; simp at hx ⊢; omega)).trans (hk8.mono (by intro x hx; simp at hx ⊢; omega))) hs8 hr8)
          have HAl := Lib.hid (alike_any s g r rg' rt' _ _ w8 P8.out.s P8.out.r)
          clear hs7 hk7 hr8 hk8 hs8
          go_wp2_with fail
          refine HAl.out.mono ?_
          rintro e w9 ⟨rfl, hg9⟩
          have P9 := Lib.hid (P8.out.grew hg9)
          clear hg9
          go_wp2_with fail
          go_roundg (n - (i + 1))
          case measure => omega
          case rel => exact ⟨i + 1, s, g, r, rg', rt', l, lg', q, qg, qt, G1, freeS G1 T1 x1 x2, G2, T2, .slice vp vl vc, V, by omega, by omega, rfl, rfl, rfl, rfl, rfl, by go_num, by rw [HVL.out]; omega, by have h := P9.out; rwa [HVL.out] at h⟩
      · have HAl := Lib.hid (alike_any l lg' q qg qt G2 T2 wa Pa.out.l Pa.out.q)
        clear y1 q0 q1 qf
        go_wp2_with fail
        refine HAl.out.mono ?_
        rintro e w3 ⟨rfl, hg3⟩
        have P3 := Lib.hid (Pa.out.grew hg3)
        clear hg3
        go_wp2_with fail
        refine (slCopy_any s g G1 T1 _ P3.out.s).mono ?_
        rintro e w4 ⟨s', g', rfl, hs4, hg4, c1, c2, hlone⟩
        have HS4 := Lib.hid hs4
        have HG4 := Lib.hid hg4
        have HL4 := Lib.hid hlone
        have c0 := P3.out.s.lt
        clear hs4 hg4 hlone
        go_wp2_with fail
        refine (refCopy_any r rg' rt' G1 T1 _ (P3.out.r.grew HG4.out)).mono ?_
        rintro e w5 ⟨r', rg2, rt2, rfl, hr5, hg5, c3, c4, c5⟩
        have P5 := Lib.hid (P3.out.copy HG4.out HS4.out hg5 hr5 ⟨c1, c2⟩ ⟨c3, c4, c5⟩)
        have hs0 : ∃ u, w5.cell? ⟨s, 0, none⟩ = some u := by obtain ⟨_, _, h⟩ := P5.out.l; exact ⟨_, h.c0⟩
        obtain ⟨u0, hu0⟩ := hs0
        have EP := eqSlots (HL4.out.grew hg5) (show s' ≠ s by omega) hu0
        have HAl5 := Lib.hid (alike_any s' g' r' rg2 rt2 G1 T1 w5 P5.out.s P5.out.r)
        clear hr5 hg5 hu0
        go_wp2_with fail
        refine HAl5.out.mono ?_
        rintro e w9 ⟨rfl, hg9⟩
        have P9 := Lib.hid (P5.out.grew hg9)
        clear hg9
        go_wp2_with fail
        go_roundg (n - (i + 1))
        case measure => omega
        case rel => exact ⟨i + 1, s', g', r', rg2, rt2, s, g, r, rg', rt', G1, T1, G1, T1, .slice vp vl vc, V, by omega, by omega, rfl, rfl, rfl, rfl, rfl, by go_num, by rw [HVL.out]; omega, by have h := P9.out; rwa [HVL.out] at h⟩
    · have h1z : ¬ (i : Int) < (n : Int) := by omega
      obtain ⟨vp, vc, rfl, hvp⟩ := P.out.g.shape
      have hal := alike_any l lg' q qg qt G2 T2 wr P.out.l P.out.q
      have HAl := Lib.hid hal
      clear hal hvp
      go_wp2_with fail
      refine HAl.out.mono ?_
      rintro e w3 ⟨rfl, hg3⟩
      go_wp2_with fail
      go_ret
      exact ⟨rfl, P.out.kp.trans (hg3.kp _)⟩

end Go.Proofs.YtcelamaiebjdaaaGreat

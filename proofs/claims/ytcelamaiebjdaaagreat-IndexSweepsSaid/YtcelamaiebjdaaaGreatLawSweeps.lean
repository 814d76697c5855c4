/- The walk of IndexSweeps: it returns true. -/
import Derived.Test.YtcelamaiebjdaaaGreatPlayW
namespace Go.Proofs.YtcelamaiebjdaaaGreat
open Go.RowKit Go.Maps Go.Sort Go.Shelf
attribute [local go_sem ↓] Go.wp_at_zero Go.wp_at_succ

theorem add_fieldC (a : Addr) (j k : Nat) (hk : k ≠ 0) : a.add (j + k) = ⟨(a.add j).block, (a.add j).off + k, none⟩ := by
  have h1 : j + k ≠ 0 := by omega
  by_cases hj : j = 0
  · subst hj; simp [Addr.add, hk]
  · simp [Addr.add, hj, hk, Nat.add_assoc]

set_option maxHeartbeats 4000000 in
set_option maxRecDepth 100000 in
theorem indexSweeps_any (p : Option Addr) (cap : Nat) (acts : List (Int × Int × Bx)) (w : World) (ha : Rd kC w p acts ∧ ∀ x ∈ acts, actI x) (hn : acts.length ≤ maxLen) :
    Calls Tryz.prog 4 #[.slice p acts.length cap] w fun e w' => e = .returned (.bool true) ∧ Grew w w' := by
  obtain ⟨n, hn'⟩ : ∃ n, acts.length = n := ⟨_, rfl⟩
  have HA := Lib.hid ha.1
  have HI := Lib.hid ha.2
  have HN := Lib.hid hn'
  rw [hn'] at hn ⊢
  unfold maxLen at hn
  clear ha hn'
  go_enter Tryz.func4, Tryz.ntmps4
  go_wp2_with fail
  refine (newSweep_any _).mono ?_
  rintro e w1 ⟨sb, mb, rfl, hs1, hg1, hb1, hb2⟩
  have HS1 := Lib.hid hs1
  have HG1 := Lib.hid hg1
  clear hs1 hg1
  go_wp2_with fail
  refine (refNewSw_any _).mono ?_
  rintro e w2 ⟨rb, rfl, hr2, hg2, hb3⟩
  have HR2 := Lib.hid hr2
  have HG2 := Lib.hid hg2
  clear hr2 hg2
  by_cases hbig : 60 < n
  · have hz : (60 : Int) < (n : Int) := by omega
    have hw2 := HG1.out.trans HG2.out
    go_wp2_with fail
    refine (awake_any _).mono ?_
    rintro e w3 ⟨rfl, hg3⟩
    have hw3 := hw2.trans hg3
    clear hg3
    go_wp2_with fail
    go_ret
    exact ⟨rfl, hw3⟩
  have hz : ¬ (60 : Int) < (n : Int) := by omega
  clear hbig
  go_wp2_with fail
  refine (swCopy_any sb mb [] _ (HS1.out.grew HG2.out)).mono ?_
  rintro e w3 ⟨lb, lm, rfl, hs3, hg3, hb4, -⟩
  have HS3 := Lib.hid hs3
  have HG3 := Lib.hid hg3
  clear hs3 hg3
  go_wp2_with fail
  refine (refSwCopy_any rb _ [] _ (HR2.out.grew HG3.out)).mono ?_
  rintro e w4 ⟨qb, u, rfl, hr4, hg4, hb5, hb6⟩
  have P0 := Lib.hid (PlayW.start HS1.out HG1.out ⟨hb1, hb2⟩ HR2.out HG2.out hb3 (by simp [own, Value.ownBlock]) HS3.out HG3.out hb4 hr4 hg4 hb5 hb6)
  clear hr4 hg4 hb1 hb2 hb3 hb4 hb5 hb6
  go_wp2_with fail
  go_loopg [3, 4, 5, 6, 7] n (fun gg s3 s4 s5 s6 s7 wr => ∃ (i s m r l lm' q : Nat) (v u : Value) (L L0 : Sw), i ≤ n ∧ n - i ≤ gg ∧ s3 = .pointer (some ⟨s, 0, none⟩) ∧ s4 = .pointer (some ⟨r, 0, none⟩) ∧ s5 = .pointer (some ⟨l, 0, none⟩) ∧ s6 = .pointer (some ⟨q, 0, none⟩) ∧ s7 = .int .i64 i ∧
    Aside (PlayW w wr s m r v L l lm' q u L0))
  case atStart => exact ⟨0, sb, mb, rb, lb, lm, qb, _, u, [], [], Nat.zero_le _, by omega, rfl, rfl, rfl, rfl, rfl, P0.out⟩
  case round =>
    obtain ⟨i, s, m, r, l, lm', q, v, u', L, L0, hi, hgg, rfl, rfl, rfl, rfl, rfl, P⟩ := hrel
    by_cases h1 : i < n
    · have h1z : (i : Int) < (n : Int) := by omega
      have hix : i < acts.length := by rw [HN.out]; exact h1
      obtain ⟨a, rfl⟩ := rd_some HA.out (by omega)
      have hK : Aside (∀ W, Grew w W → (W.cell? (a.add (i * 6)) = some (.int .i64 acts[i].1) ∧ W.cell? (a.add (i * 6 + 1)) = some (.int .i64 acts[i].2.1) ∧ W.cell? (a.add (i * 6 + 2)) = some (.int .i64 acts[i].2.2.1) ∧ W.cell? (a.add (i * 6 + 3)) = some (.int .i64 acts[i].2.2.2.1) ∧
        W.cell? (a.add (i * 6 + 4)) = some (.int .i64 acts[i].2.2.2.2.1) ∧ W.cell? (a.add (i * 6 + 5)) = some (.int .i64 acts[i].2.2.2.2.2))) := fun W g => by
        have h := HA.out.grew g
        exact ⟨h.cell i 0 hix (by decide), h.cell i 1 hix (by decide), h.cell i 2 hix (by decide), h.cell i 3 hix (by decide), h.cell i 4 hix (by decide), h.cell i 5 hix (by decide)⟩
      have hI := HI.out acts[i] (List.getElem_mem hix)
      generalize acts[i] = x at hK hI
      obtain ⟨kd, id, b⟩ := x
      obtain ⟨i5, i0, i1, i2, i3⟩ := hI
      simp only at hK i5 i0 i1 i2 i3
      rw [add_fieldC a (i * 6) 1 (by decide), add_fieldC a (i * 6) 2 (by decide), add_fieldC a (i * 6) 3 (by decide), add_fieldC a (i * 6) 4 (by decide), add_fieldC a (i * 6) 5 (by decide)] at hK
      obtain ⟨k0, k1, k2, k3, k4, k5⟩ := hK.out wr P.out.g
      have HDn := Lib.hid (done_any s m r v L kd id b wr P.out.s P.out.r P.out.d1 i5 i0 i1 i2 i3)
      obtain ⟨b0, b1, b2, b3⟩ := b
      simp only at k2 k3 k4 k5 HDn
      obtain ⟨L', hL'⟩ : ∃ L', actS L kd id (b0, b1, b2, b3) = L' := ⟨_, rfl⟩
      rw [hL'] at HDn
      have M := fun w => mod_any kd 4 w (by omega)
      obtain ⟨md, hmd⟩ : ∃ md, kd % 4 = md := ⟨_, rfl⟩
      rw [hmd] at M
      have HI5 := Lib.hid i5
      clear hix hL' hmd i5 i0 i1 i2 i3
      go_wp2_with fail
      refine HDn.out.mono ?_
      rintro e w5 ⟨v', rfl, hs5, hr5, hk5, ho5⟩
      have P5 := Lib.hid (P.out.acted hs5 hr5 hk5 ho5)
      have k0' := (hK.out w5 P5.out.g).1
      have k1' := (hK.out w5 P5.out.g).2.1
      clear hs5 hr5 hk5 ho5 k0 k1 k2 k3 k4 k5 HDn P
      go_wp2_with fail
      refine (M _).mono ?_
      rintro e w6 ⟨rfl, rfl⟩
      by_cases hm3 : md = 3
      · subst hm3
        have hsw := swept_any l lm' q u' L0 id w5 P5.out.l P5.out.q HI5.out
        have HSw := Lib.hid hsw
        clear hsw M k0'
        go_wp2_with fail
        refine HSw.out.mono ?_
        rintro e w6 ⟨rfl, hg6⟩
        have P6 := Lib.hid (P5.out.grew hg6)
        clear hg6 k1'
        go_wp2_with fail
        refine (swCopy_any s m L' _ P6.out.s).mono ?_
        rintro e w7 ⟨s', m', rfl, hs7, hg7, hb7, hlone⟩
        have HS7 := Lib.hid hs7
        have HG7 := Lib.hid hg7
        have HLn := Lib.hid hlone
        have hlt := P6.out.s.lt
        clear hs7 hg7 hlone
        go_wp2_with fail
        refine (refSwCopy_any r v' L' _ (P6.out.r.grew HG7.out)).mono ?_
        rintro e w8 ⟨r', v8, rfl, hr8, hg8, hb8, hb9⟩
        have P8 := Lib.hid (P6.out.copied HG7.out HS7.out hg8 hr8 hb7 hb8 hb9)
        have EP := eqSweeps (HLn.out.grew hg8) (show s' ≠ s by omega) P8.out.l.cell
        have k1' := (hK.out w8 P8.out.g).2.1
        have hsw := swept_any s' m' r' v8 L' id w8 P8.out.s P8.out.r HI5.out
        have HSw2 := Lib.hid hsw
        clear hr8 hg8 hb8 hb9 hsw
        go_wp2_with fail
        refine HSw2.out.mono ?_
        rintro e w9 ⟨rfl, hg9⟩
        have P9 := Lib.hid (P8.out.grew hg9)
        clear hg9 k1' EP
        go_wp2_with fail
        go_roundg (n - (i + 1))
        case measure => omega
        case rel => exact ⟨i + 1, s', m', r', s, m, r, v8, v', L', L', by omega, by omega, rfl, rfl, rfl, rfl, by go_num, P9.out⟩
      · have hmb : (md == 3) = false := beq_eq_false_iff_ne.2 hm3
        have hsw := swept_any s m r v' L' id w5 P5.out.s P5.out.r HI5.out
        have HSw := Lib.hid hsw
        clear hsw M hm3 k0'
        go_wp2_with fail
        refine HSw.out.mono ?_
        rintro e w6 ⟨rfl, hg6⟩
        have P6 := Lib.hid (P5.out.grew hg6)
        clear hg6 k1'
        go_wp2_with fail
        go_roundg (n - (i + 1))
        case measure => omega
        case rel => exact ⟨i + 1, s, m, r, l, lm', q, v', u', L', L0, by omega, by omega, rfl, rfl, rfl, rfl, by go_num, P6.out⟩
    · have h1z : ¬ (i : Int) < (n : Int) := by omega
      have hsw := swept_any l lm' q u' L0 0 wr P.out.l P.out.q (by unfold I64; omega)
      have HSw := Lib.hid hsw
      clear hsw
      go_wp2_with fail
      refine HSw.out.mono ?_
      rintro e w6 ⟨rfl, hg6⟩
      have hw6 := P.out.g.trans hg6
      clear hg6
      go_wp2_with fail
      refine (awake_any _).mono ?_
      rintro e w7 ⟨rfl, hg7⟩
      have hw7 := hw6.trans hg7
      clear hg7
      go_wp2_with fail
      go_ret
      exact ⟨rfl, hw7⟩

end Go.Proofs.YtcelamaiebjdaaaGreat

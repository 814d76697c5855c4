/- The walk of IndexMoves: it returns true. -/
import Derived.Test.YtmoaefcpbphgmaaGreatMove
import Derived.Deep.LoopGhost
import Derived.Deep.RegionHeld3
import Derived.Deep.DrawnRows
namespace Go.Proofs.YtmoaefcpbphgmaaGreat
open Go.RowKit Go.Maps Go.Sort Go.Shelf
attribute [local go_sem ↓] Go.wp_at_zero Go.wp_at_succ

theorem SlP.max {w : World} {B : Nat} {v : Value} {xs : List (Int × Int)} (h : SlP w B v xs) : xs.length ≤ maxLen := by
  rcases h.form with ⟨_, rfl⟩ | ⟨_, cap, _, _, _, h1, h2⟩
  · exact Nat.zero_le _
  · exact Nat.le_trans h1 h2
/-- The ids 0, 1, .. -/
def keysN (n : Nat) : List Int := (List.range n).map fun i : Nat => (i : Int)
theorem keys_ent (l : List Bx) (n : Nat) : (entN l 0 n).map (·.1) = keysN n := by
  unfold entN keysN
  rw [List.map_map, List.range_eq_range']
  rfl
theorem keysN_mem {n : Nat} {k : Int} (h : 0 ≤ k ∧ k < (n : Int)) : k ∈ keysN n := List.mem_map.2 ⟨k.toNat, List.mem_range.2 (by omega), by omega⟩

theorem moves_laws {S : Sw} {n : Nat} {k : Int} {b : Bx} (ha : Asc S) (hK : S.map (·.1) = keysN n) (hn : n ≤ 20) (hk : 0 ≤ k ∧ k < (n : Int)) (hb : okB b) :
    (moveE S k b = 0 ∧ moveS S k b = putL S k b) ∧ (dropE S k = 0 ∧ dropS S k = delL S k) ∧ (putE (delL S k) k b = 0 ∧ putS (delL S k) k b = putL S k b) ∧ getL (putL S k b) k = b ∧ hasL (putL S k b) k = true ∧ (putL S k b).map (·.1) = keysN n := by
  have hh : hasL S k = true := by rw [hasL_iff, hK]; exact keysN_mem hk
  have hi := idE_zero (show 0 ≤ k ∧ k ≤ 2147483647 by omega)
  have hc : chk b.1 b.2.1 b.2.2.1 b.2.2.2 = 0 := hb
  have m1 : moveE S k b = 0 := by unfold moveE; rw [hi, hc, hh]; simp
  have d1 : dropE S k = 0 := by unfold dropE; rw [hi, hh]; simp
  have hl : S.length ≤ 20 := by
    have := congrArg List.length hK
    rw [List.length_map] at this
    rw [this]; unfold keysN; rw [List.length_map, List.length_range]; exact hn
  have p1 : putE (delL S k) k b = 0 := putE_zero (by omega) hb (fun p hp => by have h2 := (List.mem_filter.1 hp).2; simpa using h2) (by
    have : (delL S k).length ≤ S.length := List.length_filter_le _ _
    omega)
  have hk2 := putL_keys (b := b) ha hh
  refine ⟨⟨m1, by unfold moveS; rw [if_pos m1]⟩, ⟨d1, by unfold dropS; rw [if_pos d1]⟩, ⟨p1, by rw [putS_zero p1, putL_del ha]⟩, getL_put ha, ?_, by rw [hk2, hK]⟩
  rw [hasL_iff, hk2, ← hasL_iff]; exact hh

set_option maxHeartbeats 4000000 in
set_option maxRecDepth 100000 in
theorem indexMoves_any (p : Option Addr) (cap : Nat) (xs : List Int) (q : Option Addr) (cq : Nat) (ys : List Int) (w : World) (hx : RdI w p xs) (hn : xs.length ≤ maxLen) (hy : RdI w q ys) (hm : ys.length ≤ maxLen) :
    Calls Tryz.prog 3 #[.slice p xs.length cap, .slice q ys.length cq] w fun e w' => e = .returned (.bool true) ∧ Grew w w' := by
  obtain ⟨my, hmy⟩ : ∃ my, ys.length = my := ⟨_, rfl⟩
  have HMY := Lib.hid hmy
  have HY := Lib.hid hy
  have HYM := Lib.hid hm
  rw [hmy] at hm ⊢
  clear hy hmy
  go_enter Tryz.func3, Tryz.ntmps3
  go_wp2_with fail
  refine (boxes_any p cap 20 xs _ (hx.grew (by (repeat' (first | exact Grew.refl _ | assumption | refine Grew.alloc ?_ _ | refine Grew.drew ?_ | refine Grew.drewN ?_ _ | refine Grew.setCell ?_ ?_ _ | (simp; done) | (simp; omega))))) hn (by decide)).mono ?_
  rintro e w1 ⟨v1, rfl, hsl, hg1⟩
  have hw1 : Grew w w1 := Grew.trans (by (repeat' (first | exact Grew.refl _ | assumption | refine Grew.alloc ?_ _ | refine Grew.drew ?_ | refine Grew.drewN ?_ _ | refine Grew.setCell ?_ ?_ _ | (simp; done) | (simp; omega)))) hg1
  have hok : ∀ b ∈ boxesL xs 20, okB b := okB_boxes _ _
  have hlen : (boxesL xs 20).length ≤ 20 := by unfold boxesL boxesN; rw [List.length_map, List.length_range]; omega
  generalize boxesL xs 20 = l at *
  have HL := Lib.hid hsl
  have HO := Lib.hid hok
  clear hsl hok hg1 hx hn
  go_wp2_with fail
  refine (putFirst_any _ v1 l _ (HL.out.grew (by (repeat' (first | exact Grew.refl _ | assumption | refine Grew.alloc ?_ _ | refine Grew.drew ?_ | refine Grew.drewN ?_ _ | refine Grew.setCell ?_ ?_ _ | (simp; done) | (simp; omega))))) HO.out (by omega)).mono ?_
  rintro e w2 ⟨sb, mb, rfl, hsw, hg2, hsb, hmb⟩
  have hw2 : Grew w w2 := Grew.trans (by (repeat' (first | exact Grew.refl _ | assumption | refine Grew.alloc ?_ _ | refine Grew.drew ?_ | refine Grew.drewN ?_ _ | refine Grew.setCell ?_ ?_ _ | (simp; done) | (simp; omega)))) hg2
  have HL2 := Lib.hid ((HL.out.grew (by (repeat' (first | exact Grew.refl _ | assumption | refine Grew.alloc ?_ _ | refine Grew.drew ?_ | refine Grew.drewN ?_ _ | refine Grew.setCell ?_ ?_ _ | (simp; done) | (simp; omega))))).grew hg2)
  have HS2 := Lib.hid hsw
  clear hg2 hsw
  go_wp2_with fail
  refine (putFirst_any _ v1 l _ (HL2.out.grew (by (repeat' (first | exact Grew.refl _ | assumption | refine Grew.alloc ?_ _ | refine Grew.drew ?_ | refine Grew.drewN ?_ _ | refine Grew.setCell ?_ ?_ _ | (simp; done) | (simp; omega))))) HO.out (by omega)).mono ?_
  rintro e w3 ⟨sc, mc, rfl, hsw, hg3, hsc, hmc⟩
  have hw3 : Grew w w3 := Grew.trans (by (repeat' (first | exact Grew.refl _ | assumption | refine Grew.alloc ?_ _ | refine Grew.drew ?_ | refine Grew.drewN ?_ _ | refine Grew.setCell ?_ ?_ _ | (simp; done) | (simp; omega)))) hg3
  have HS3 := Lib.hid ((HS2.out.grew (by (repeat' (first | exact Grew.refl _ | assumption | refine Grew.alloc ?_ _ | refine Grew.drew ?_ | refine Grew.drewN ?_ _ | refine Grew.setCell ?_ ?_ _ | (simp; done) | (simp; omega))))).grew hg3)
  have HT3 := Lib.hid hsw
  have hlb := HS2.out.lt
  have hlc := hsw.lt
  have hneb := HS2.out.ne
  have hnec := hsw.ne
  have hd : sc ≠ sb ∧ sc ≠ mb ∧ mc ≠ sb ∧ mc ≠ mb := by omega
  have hold : w.heap.size ≤ sb ∧ w.heap.size ≤ mb ∧ w.heap.size ≤ sc ∧ w.heap.size ≤ mc := by have := hw1.size; have := hw2.size; omega
  have hK0 := keys_ent l l.length
  obtain ⟨n, hn⟩ : ∃ n, l.length = n := ⟨_, rfl⟩
  obtain ⟨lp, lc, rfl, hlp⟩ := HL2.out.shape
  rw [hn] at hlen
  rw [hn]
  have HN := Lib.hid hn
  have HK0 := Lib.hid hK0
  clear hg3 hsw hn hK0 hlp
  by_cases h40 : 40 < my
  · have h40z : (40 : Int) < (my : Int) := by omega
    go_wp2_with fail
    refine (awake_any _).mono ?_
    rintro e w4 ⟨rfl, hg4⟩
    have hw4 : Grew w w4 := Grew.trans (by (repeat' (first | exact Grew.refl _ | assumption | refine Grew.alloc ?_ _ | refine Grew.drew ?_ | refine Grew.drewN ?_ _ | refine Grew.setCell ?_ ?_ _ | (simp; done) | (simp; omega)))) hg4
    go_wp2_with fail
    go_ret
    exact ⟨rfl, hw4⟩
  have h40z : ¬ (40 : Int) < (my : Int) := by omega
  go_wp2_with fail
  have hB := boxes_any q cq 10 ys w3 (HY.out.grew hw3) HYM.out (by decide)
  rw [HMY.out] at hB
  refine hB.mono ?_
  rintro e w4 ⟨v4, rfl, hsl, hg4⟩
  have hw4 : Grew w w4 := hw3.trans hg4
  have hokT : ∀ b ∈ boxesL ys 10, okB b := okB_boxes _ _
  have hlenT : (boxesL ys 10).length ≤ 10 ∧ 4 * (boxesL ys 10).length ≤ my := by unfold boxesL boxesN; rw [List.length_map, List.length_range, HMY.out]; omega
  generalize boxesL ys 10 = to at *
  obtain ⟨m, hmt⟩ : ∃ m, to.length = m := ⟨_, rfl⟩
  obtain ⟨tp, tc, rfl, htp⟩ := hsl.shape
  have HM := Lib.hid hmt
  have HTP := Lib.hid htp
  have HT4 := Lib.hid hsl
  have HOT := Lib.hid hokT
  rw [hmt] at hlenT
  rw [hmt]
  have HA4 := Lib.hid (HS3.out.grew hg4)
  have HB4 := Lib.hid (HT3.out.grew hg4)
  have h34 := hg4.size
  have h13 := hw3.size
  clear hB hsl hokT hmt htp hg4
  go_wp2_with fail
  go_loopg [9] m (fun gg s9 wr => ∃ i : Nat, i ≤ m ∧ m - i ≤ gg ∧ s9 = .int .i64 i ∧ Grew w wr ∧ Kp [mb, mc] w4 wr ∧ Aside (∃ S, SweepAt wr sb mb S ∧ SweepAt wr sc mc S ∧ S.map (·.1) = keysN n))
  case atStart => exact ⟨0, Nat.zero_le _, by omega, rfl, hw4, Kp.refl _ _, _, HA4.out, HB4.out, by have := HK0.out; rw [HN.out] at this; rw [HN.out]; exact this⟩
  case round =>
    obtain ⟨i, him, hgg, rfl, hgw, hkw, A⟩ := hrel
    obtain ⟨S, hA, hB, hK⟩ := A.out
    have HA := Lib.hid hA
    have HB := Lib.hid hB
    have HK := Lib.hid hK
    clear A hA hB hK
    by_cases h1 : i < m ∧ 0 < n
    · obtain ⟨h1, h2⟩ := h1
      have h1z : (i : Int) < (m : Int) := by omega
      have h2z : (0 : Int) < (n : Int) := by omega
      have hiy : 4 * i < ys.length := by rw [HMY.out]; omega
      obtain ⟨a, rfl, hab, hca⟩ := HY.out.resolve_left (by rintro rfl; simp at hiy)
      have ca := hgw.cellA hab (hca (4 * i) hiy)
      have hjl : i < to.length := by rw [HM.out]; exact h1
      obtain ⟨g, rfl⟩ := HTP.out (by omega)
      have hbase := HT4.out
      rw [HM.out] at hbase
      have hlt4 := hbase.own_ge
      have hgn : g ∉ [mb, mc] := by
        have := hbase.len
        simp; omega
      obtain ⟨k0, k1, k2, k3⟩ := hbase.cells i hjl
      have hb : okB to[i] := HOT.out _ (List.getElem_mem hjl)
      have hI := chk_I64 hb
      have t0 := hkw.cell k0 hgn
      have t1 := hkw.cell k1 hgn
      have t2 := hkw.cell k2 hgn
      have t3 := hkw.cell k3 hgn
      generalize to[i] = b at *
      generalize ys[4 * i] = u at ca
      have i4 : (0 : Int) ≤ 4 * (i : Int) ∧ 4 * (i : Int) < (my : Int) := by omega
      have HI := Lib.hid hI
      have HOB := Lib.hid hb
      clear hca hiy hjl k0 k1 k2 k3 hbase hI hb
      go_wp2_with fail
      refine (mod_any _ (n : Int) _ (by omega)).mono ?_
      rintro e w5 ⟨rfl, rfl⟩
      have hkb : 0 ≤ wrap64 (u + (i : Int)) % (n : Int) ∧ wrap64 (u + (i : Int)) % (n : Int) < (n : Int) := ⟨Int.emod_nonneg _ (by omega), Int.emod_lt_of_pos _ (by omega)⟩
      generalize wrap64 (u + (i : Int)) % (n : Int) = k at *
      have ML := Lib.hid (moves_laws HA.out.ok.asc HK.out (by omega) hkb HOB.out)
      have hkI : I64 k := by unfold I64; omega
      have hgr := hgw.size
      have hAlt := HA.out.lt
      have hBlt := HB.out.lt
      go_wp2_with fail
      refine (move_any sb mb S k b _ HA.out hkI HI.out.1 HI.out.2.1 HI.out.2.2.1 HI.out.2.2.2).mono ?_
      rintro e w6 ⟨rfl, hs, hk⟩
      rw [ML.out.1.1]
      rw [ML.out.1.2] at hs
      have hw6 : Grew w w6 := Kp.grewOf hgw hk (fun x hx => by simp at hx; omega)
      have hk6 : Kp [mb, mc] w4 w6 := hkw.trans (hk.mono (by simp))
      have HA6 := Lib.hid hs
      have HB6 := Lib.hid (HB.out.kp hk (by simp; omega) (by simp; omega))
      have t0 := hk.cell t0 (by simp at hgn ⊢; omega)
      have t1 := hk.cell t1 (by simp at hgn ⊢; omega)
      have t2 := hk.cell t2 (by simp at hgn ⊢; omega)
      have t3 := hk.cell t3 (by simp at hgn ⊢; omega)
      clear hs hk
      go_wp2_with fail
      refine (drop_any sc mc S k _ HB6.out hkI).mono ?_
      rintro e w7 ⟨rfl, hs, hk⟩
      rw [ML.out.2.1.1]
      rw [ML.out.2.1.2] at hs
      have hw7 : Grew w w7 := Kp.grewOf hw6 hk (fun x hx => by simp at hx; omega)
      have hk7 : Kp [mb, mc] w4 w7 := hk6.trans (hk.mono (by simp))
      have HA7 := Lib.hid (HA6.out.kp hk (by simp; omega) (by simp; omega))
      have HB7 := Lib.hid hs
      have t0 := hk.cell t0 (by simp at hgn ⊢; omega)
      have t1 := hk.cell t1 (by simp at hgn ⊢; omega)
      have t2 := hk.cell t2 (by simp at hgn ⊢; omega)
      have t3 := hk.cell t3 (by simp at hgn ⊢; omega)
      clear hs hk
      go_wp2_with fail
      refine (put_any sc mc (delL S k) k b _ HB7.out hkI HI.out.1 HI.out.2.1 HI.out.2.2.1 HI.out.2.2.2).mono ?_
      rintro e w8 ⟨rfl, hs, hk⟩
      rw [ML.out.2.2.1.1]
      rw [ML.out.2.2.1.2] at hs
      have hw8 : Grew w w8 := Kp.grewOf hw7 hk (fun x hx => by simp at hx; omega)
      have hk8 : Kp [mb, mc] w4 w8 := hk7.trans (hk.mono (by simp))
      have HA8 := Lib.hid (HA7.out.kp hk (by simp; omega) (by simp; omega))
      have HB8 := Lib.hid hs
      have t0 := hk.cell t0 (by simp at hgn ⊢; omega)
      have t1 := hk.cell t1 (by simp at hgn ⊢; omega)
      have t2 := hk.cell t2 (by simp at hgn ⊢; omega)
      have t3 := hk.cell t3 (by simp at hgn ⊢; omega)
      clear hs hk
      generalize putL S k b = S' at *
      go_wp2_with fail
      refine (pairs_any sb mb S' _ HA8.out).mono ?_
      rintro e w9 ⟨vp, rfl, hsp, hg9⟩
      have hw9 : Grew w w9 := hw8.trans hg9
      have HB9 := Lib.hid (HB8.out.grew hg9)
      have HA9 := Lib.hid (HA8.out.grew hg9)
      obtain ⟨pp, pc, rfl, _⟩ := hsp.shape
      have HSP := Lib.hid hsp
      have hpl : (pairsOf S').length ≤ maxLen := hsp.max
      have HPL := Lib.hid hpl
      have t0 := hg9.cell' t0
      have t1 := hg9.cell' t1
      have t2 := hg9.cell' t2
      have t3 := hg9.cell' t3
      have hk9 : Kp [mb, mc] w4 w9 := hk8.trans (hg9.kp _)
      clear hsp hg9 hpl
      go_wp2_with fail
      refine (pairs_any sc mc S' _ HB9.out).mono ?_
      rintro e w10 ⟨vq, rfl, hsq, hg10⟩
      have hw10 : Grew w w10 := hw9.trans hg10
      have HA10 := Lib.hid (HA9.out.grew hg10)
      have HB10 := Lib.hid (HB9.out.grew hg10)
      have HSP10 := Lib.hid (HSP.out.grew hg10)
      obtain ⟨qp, qc, rfl, _⟩ := hsq.shape
      have HSQ := Lib.hid hsq
      have t0 := hg10.cell' t0
      have t1 := hg10.cell' t1
      have t2 := hg10.cell' t2
      have t3 := hg10.cell' t3
      have hk10 : Kp [mb, mc] w4 w10 := hk9.trans (hg10.kp _)
      clear hsq hg10
      go_wp2_with fail
      refine (samePairs_any pp qp pc qc (pairsOf S') (pairsOf S') _ HSP10.out.rd HSQ.out.rd HPL.out).mono ?_
      rintro e w11 ⟨rfl, hg11⟩
      rw [show decide (pairsOf S' = pairsOf S') = true from decide_eq_true rfl]
      have hw11 : Grew w w11 := hw10.trans hg11
      have HA11 := Lib.hid (HA10.out.grew hg11)
      have HB11 := Lib.hid (HB10.out.grew hg11)
      have t0 := hg11.cell' t0
      have t1 := hg11.cell' t1
      have t2 := hg11.cell' t2
      have t3 := hg11.cell' t3
      have hk11 : Kp [mb, mc] w4 w11 := hk10.trans (hg11.kp _)
      clear hg11
      go_wp2_with fail
      refine (boxAt_any sb mb S' k _ HA11.out hkI).mono ?_
      rintro e w12 ⟨rfl, hg12⟩
      rw [ML.out.2.2.2.1, ML.out.2.2.2.2.1]
      have hw12 : Grew w w12 := hw11.trans hg12
      have HA12 := Lib.hid (HA11.out.grew hg12)
      have HB12 := Lib.hid (HB11.out.grew hg12)
      have t0 := hg12.cell' t0
      have t1 := hg12.cell' t1
      have t2 := hg12.cell' t2
      have t3 := hg12.cell' t3
      have hk12 : Kp [mb, mc] w4 w12 := hk11.trans (hg12.kp _)
      have N := fun w => neBox b.1 b.2.1 b.2.2.1 b.2.2.2 b.1 b.2.1 b.2.2.1 b.2.2.2 w
      have hg12' := lt_of_cell t0
      clear hg12
      go_wp2_with fail
      go_region_held3 (fun W' => W'.cell? ⟨g, i * 4, none⟩ = some (.int .i64 b.1) ∧ W'.cell? ⟨g, i * 4 + 1, none⟩ = some (.int .i64 b.2.1) ∧ W'.cell? ⟨g, i * 4 + 2, none⟩ = some (.int .i64 b.2.2.1) ∧ W'.cell? ⟨g, i * 4 + 3, none⟩ = some (.int .i64 b.2.2.2) ∧
          W'.cell? ⟨w12.heap.size, 0, none⟩ = some (.int .i64 b.1) ∧ W'.cell? ⟨w12.heap.size, 1, none⟩ = some (.int .i64 b.2.1) ∧ W'.cell? ⟨w12.heap.size, 2, none⟩ = some (.int .i64 b.2.2.1) ∧ W'.cell? ⟨w12.heap.size, 3, none⟩ = some (.int .i64 b.2.2.2)) ((simp [*, go_sem]; done)) (fail)
      all_goals
        go_wp2_with fail
        go_roundg (m - (i + 1))
        case measure => omega
        case rel => exact ⟨i + 1, by omega, by omega, by go_num, by (repeat' (first | exact Grew.refl _ | assumption | refine Grew.alloc ?_ _ | refine Grew.drew ?_ | refine Grew.drewN ?_ _ | refine Grew.setCell ?_ ?_ _ | (simp; done) | (simp; omega))), hk12.trans (Grew.kp (by (repeat' (first | exact Grew.refl _ | assumption | refine Grew.alloc ?_ _ | refine Grew.drew ?_ | refine Grew.drewN ?_ _ | refine Grew.setCell ?_ ?_ _ | (simp; done) | (simp; omega)))) _), S', HA12.out.grew (by (repeat' (first | exact Grew.refl _ | assumption | refine Grew.alloc ?_ _ | refine Grew.drew ?_ | refine Grew.drewN ?_ _ | refine Grew.setCell ?_ ?_ _ | (simp; done) | (simp; omega)))), HB12.out.grew (by (repeat' (first | exact Grew.refl _ | assumption | refine Grew.alloc ?_ _ | refine Grew.drew ?_ | refine Grew.drewN ?_ _ | refine Grew.setCell ?_ ?_ _ | (simp; done) | (simp; omega)))), ML.out.2.2.2.2.2⟩
    · have hx1 : ¬ (i : Int) < (m : Int) ∨ ((i : Int) < (m : Int) ∧ ¬ (0 : Int) < (n : Int)) := by omega
      have hlS : S.length = n := by
        have := congrArg List.length HK.out
        rwa [List.length_map, show (keysN n).length = n from by unfold keysN; rw [List.length_map, List.length_range]] at this
      have HLS := Lib.hid hlS
      clear hlS h1
      rcases hx1 with hx1 | ⟨hx1, hx2⟩
      all_goals
        go_wp2_with fail
        refine (len_any sb mb S _ HA.out).mono ?_
        rintro e w5 ⟨rfl, rfl⟩
        rw [HLS.out]
        go_wp2_with fail
        refine (len_any sc mc S _ HB.out).mono ?_
        rintro e w5 ⟨rfl, rfl⟩
        rw [HLS.out]
        go_wp2_with fail
        refine (awake_any _).mono ?_
        rintro e w6 ⟨rfl, hg6⟩
        have hw6 : Grew w w6 := hgw.trans hg6
        clear hg6
        go_wp2_with fail
        go_ret
        exact ⟨rfl, hw6⟩

end Go.Proofs.YtmoaefcpbphgmaaGreat

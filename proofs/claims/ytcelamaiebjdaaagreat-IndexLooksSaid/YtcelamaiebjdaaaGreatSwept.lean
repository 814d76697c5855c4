/- A sweep is as the reference's. -/
import Derived.Test.YtcelamaiebjdaaaGreatRefPairs
import Derived.Test.YtcelamaiebjdaaaGreatRefMove
import Derived.Test.YtcelamaiebjdaaaGreatRefDrop
import Derived.Test.YtcelamaiebjdaaaGreatWake
namespace Go.Proofs.YtcelamaiebjdaaaGreat
open Go.RowKit Go.Maps Go.Sort Go.Shelf
attribute [local go_sem ↓] Go.wp_at_zero Go.wp_at_succ

set_option maxHeartbeats 4000000 in
set_option maxRecDepth 100000 in
theorem swept_any (sb mb rb : Nat) (v : Value) (l : Sw) (id : Int) (w : World) (hs : SweepAt w sb mb l) (hr : RefSw w rb v l) (hid : I64 id) :
    Calls Tryz.prog 21 #[.pointer (some ⟨sb, 0, none⟩), .pointer (some ⟨rb, 0, none⟩), .int .i64 id] w fun e w' => e = .returned (.bool true) ∧ Grew w w' := by
  have hsm := hs.ok.small
  have hlen : (l.map (·.1)).length = l.length := List.length_map _
  have hkI : ∀ i (hi : i < (l.map (·.1) ++ [id]).length), I64 ((l.map (·.1) ++ [id])[i]) := fun i hi => by
    have hm : (l.map (·.1) ++ [id])[i] ∈ l.map (·.1) ++ [id] := List.getElem_mem hi
    rcases List.mem_append.1 hm with h | h
    · exact hs.ok.keyI h
    · rw [List.mem_singleton.1 h]; exact hid
  obtain ⟨n, hn⟩ : ∃ n, l.length = n := ⟨_, rfl⟩
  have hpl : (pairsOf l).length ≤ 65536 := by
    rw [pairsOf_rows hs.ok.asc]
    refine Nat.le_trans (pairsE_len l l.length) (Nat.mul_le_mul hsm hsm)
  have HKI := Lib.hid hkI
  have HRI := Lib.hid (fun W (g : Grew w W) => refIds_any rb v l W (hr.grew g))
  have HSI := Lib.hid (fun W (g : Grew w W) => ids_any sb mb l W (hs.grew g))
  have HSL := Lib.hid (fun W (g : Grew w W) => len_any sb mb l W (hs.grew g))
  have HSP := Lib.hid (fun W (g : Grew w W) => pairs_any sb mb l W (hs.grew g))
  have HRP := Lib.hid (fun W (g : Grew w W) => refPairs_any rb v l W (hr.grew g))
  have HSB := Lib.hid (fun k (hk : I64 k) W (g : Grew w W) => boxAt_any sb mb l k W (hs.grew g) hk)
  have HRB := Lib.hid (fun k W (g : Grew w W) => refBox_any rb v l k W (hr.grew g))
  obtain ⟨np, hnp⟩ : ∃ np, (pairsOf l).length = np := ⟨_, rfl⟩
  have HN := Lib.hid hn
  have HNP := Lib.hid hnp
  have HLen := Lib.hid (hlen.trans hn)
  rw [hn] at hsm
  rw [hnp] at hpl
  clear hs hr hkI hn hnp hlen hid
  go_enter Tryz.func21, Tryz.ntmps21
  go_wp2_with fail
  refine (HRI.out _ (Grew.refl _)).mono ?_
  rintro e w1 ⟨v1, rfl, hs1, hg1⟩
  obtain ⟨p1, c1, rfl, -⟩ := hs1.shape
  rw [HLen.out] at hs1 ⊢
  have S1 := Lib.hid hs1
  have HG1 := Lib.hid hg1
  clear hs1 hg1
  go_wp2_with fail
  refine (HSI.out _ HG1.out).mono ?_
  rintro e w2 ⟨v2, rfl, hs2, hg2⟩
  obtain ⟨p2, c2, rfl, -⟩ := hs2.shape
  rw [HLen.out] at hs2 ⊢
  have hSame := sameInts_any p2 p1 c2 c1 (l.map (·.1)) (l.map (·.1)) w2 hs2.rd (rdI_kI (S1.out.grew hg2).rd) (by rw [HLen.out]; unfold maxLen; omega)
  rw [HLen.out, decide_eq_true rfl] at hSame
  have HSame := Lib.hid hSame
  have HG2 := Lib.hid hg2
  clear hs2 hg2 hSame
  go_wp2_with fail
  refine HSame.out.mono ?_
  rintro e w3 ⟨rfl, hg3⟩
  have hw3 := HG1.out.trans (HG2.out.trans hg3)
  have S3 := Lib.hid ((S1.out.grew HG2.out).grew hg3)
  clear hg3
  go_wp2_with fail
  refine (HSL.out _ hw3).mono ?_
  rintro e w4 ⟨rfl, rfl⟩
  rw [HN.out]
  have hnn : ((n : Int) != (n : Int)) = false := by simp
  go_wp2_with fail
  refine (HSP.out _ hw3).mono ?_
  rintro e w4 ⟨v4, rfl, hs4, hg4⟩
  obtain ⟨p4, c4, rfl, -⟩ := hs4.shape
  rw [HNP.out] at hs4 ⊢
  have S4 := Lib.hid hs4
  have hw4 := hw3.trans hg4
  have HG4 := Lib.hid hg4
  clear hs4 hg4
  go_wp2_with fail
  refine (HRP.out _ hw4).mono ?_
  rintro e w5 ⟨v5, rfl, hs5, hg5⟩
  obtain ⟨p5, c5, rfl, -⟩ := hs5.shape
  rw [HNP.out] at hs5 ⊢
  have hSameP := samePairs_any p4 p5 c4 c5 (pairsOf l) (pairsOf l) w5 (S4.out.grew hg5).rd hs5.rdPP (by rw [HNP.out]; unfold maxLen; omega)
  rw [HNP.out, decide_eq_true rfl] at hSameP
  have HSameP := Lib.hid hSameP
  have hw5 := hw4.trans hg5
  have HG5 := Lib.hid hg5
  clear hs5 hg5 hSameP
  go_wp2_with fail
  refine HSameP.out.mono ?_
  rintro e w6 ⟨rfl, hg6⟩
  have hw6 := hw5.trans hg6
  obtain ⟨v7, w7, r7, s7, k7, -⟩ := appendOne kI (((S3.out.grew HG4.out).grew HG5.out).grew hg6) hw6.size (by rw [HLen.out]; omega) id #[.int .i64 id] rfl
  have hw7 : Grew w w7 := Kp.grewOf hw6 k7 (fun y hy => ((((S3.out.grew HG4.out).grew HG5.out).grew hg6).own_ge y hy).1)
  have R7 := Lib.hid r7
  obtain ⟨p7, c7, rfl, hp7⟩ := s7.shape
  have hl7 : (l.map (·.1) ++ [id]).length = n + 1 := by rw [List.length_append, HLen.out]; rfl
  rw [hl7] at s7 hp7 R7
  have S7 := Lib.hid s7
  have HP7 := Lib.hid hp7
  have HL7 := Lib.hid hl7
  have HW7 := Lib.hid hw7
  clear hg6 hw6 hw5 hw4 hw3 r7 s7 k7 hp7 hl7 hw7
  go_wp2_with (at_builtin; refine wpList_append_run rfl _ _ _ _ rfl rfl _ _ _ rfl rfl R7.out ?_)
  go_loopg [8] (n + 1) (fun gg s8 wr => ∃ j : Nat, j ≤ n + 1 ∧ n + 1 - j ≤ gg ∧ s8 = .int .i64 j ∧ Grew w7 wr)
  case atStart => exact ⟨0, Nat.zero_le _, by omega, rfl, Grew.refl _⟩
  case round =>
    obtain ⟨j, hj, hgg, rfl, hgw⟩ := hrel
    by_cases h1 : j < n + 1
    · have h1z : (j : Int) < (n : Int) + 1 := by omega
      have h1z2 : (j : Int) < ((n + 1 : Nat) : Int) := by omega
      have hjl : j < (l.map (·.1) ++ [id]).length := by rw [HL7.out]; exact h1
      obtain ⟨g, rfl⟩ := HP7.out (by omega)
      have hkj := HKI.out j hjl
      have hca : ∀ W, Grew w7 W → W.cell? ⟨g, j, none⟩ = some (.int .i64 ((l.map (·.1) ++ [id])[j])) := fun W gr => by
        have := (S7.out.grew gr).cell j 0 hjl (by decide)
        simpa [kI] using this
      generalize (l.map (·.1) ++ [id])[j] = k at hkj hca
      have hSB := fun W (g : Grew w W) => HSB.out k hkj W g
      have hRB := fun W (g : Grew w W) => HRB.out k W g
      generalize getL l k = b at hSB hRB
      generalize hasL l k = q at hSB hRB
      obtain ⟨b0, b1, b2, b3⟩ := b
      simp only at hSB hRB
      have HB1 := Lib.hid hSB
      have HB2 := Lib.hid hRB
      have HCa := Lib.hid hca
      have NE := fun w => neBox b0 b1 b2 b3 b0 b1 b2 b3 w
      have hq1 : (b0 == b0 && b1 == b1 && b2 == b2 && b3 == b3) = true := by simp
      have hq2 : (q != q) = false := by simp
      have ca := hca wr hgw
      clear hSB hRB hjl hca hkj
      go_wp2_with fail
      refine (HB1.out _ (HW7.out.trans hgw)).mono ?_
      rintro e w8 ⟨rfl, hg8⟩
      obtain ⟨A, hA⟩ : ∃ A, w8.heap.size = A := ⟨_, rfl⟩
      obtain ⟨w9, hw9e⟩ : ∃ w9, w8.alloc (.cells #[.int .i64 b0, .int .i64 b1, .int .i64 b2, .int .i64 b3] 32) = w9 := ⟨_, rfl⟩
      have hg89 : Grew w8 w9 := by rw [← hw9e]; (repeat' (first | (with_reducible assumption) | (with_reducible exact Grew.refl _) | (with_reducible refine Grew.alloc ?_ _) | (with_reducible refine Grew.drew ?_) | (with_reducible refine Grew.drewN ?_ _) | (with_reducible refine Grew.setCell ?_ ?_ _) | (simp; done) | (simp; omega)))
      have p0 : w9.cell? ⟨A, 0, none⟩ = some (.int .i64 b0) := by rw [← hw9e, ← hA]; simp
      have p1 : w9.cell? ⟨A, 1, none⟩ = some (.int .i64 b1) := by rw [← hw9e, ← hA]; simp
      have p2 : w9.cell? ⟨A, 2, none⟩ = some (.int .i64 b2) := by rw [← hw9e, ← hA]; simp
      have p3 : w9.cell? ⟨A, 3, none⟩ = some (.int .i64 b3) := by rw [← hw9e, ← hA]; simp
      have hw9 := hgw.trans (hg8.trans hg89)
      have ca := HCa.out _ hw9
      clear hg8 hg89
      go_wp2_with fail
      clear hw9e hA
      refine (HB2.out _ (HW7.out.trans hw9)).mono ?_
      rintro e w10 ⟨rfl, hg10⟩
      have p0 := hg10.cell' p0
      have p1 := hg10.cell' p1
      have p2 := hg10.cell' p2
      have p3 := hg10.cell' p3
      have hAlt := lt_of_cell p0
      have hw10 := hw9.trans hg10
      clear hg10
      go_wp2_with fail
      go_roundg (n + 1 - (j + 1))
      case measure => omega
      case rel => exact ⟨j + 1, by omega, by omega, by go_num, by (repeat' (first | (with_reducible assumption) | (with_reducible exact Grew.refl _) | (with_reducible refine Grew.alloc ?_ _) | (with_reducible refine Grew.drew ?_) | (with_reducible refine Grew.drewN ?_ _) | (with_reducible refine Grew.setCell ?_ ?_ _) | (simp; done) | (simp; omega)))⟩
    · have h1z : ¬ (j : Int) < (n : Int) + 1 := by omega
      have h1z2 : ¬ (j : Int) < ((n + 1 : Nat) : Int) := by omega
      go_wp2_with fail
      go_ret
      exact ⟨rfl, HW7.out.trans hgw⟩

end Go.Proofs.YtcelamaiebjdaaaGreat

/- The reference's tables: All, Len, Copy, NewSlots. -/
import Derived.Test.YtcelamaiebjdaaaGreatRefTake
import Derived.Deep.RegionHeld3
import Derived.Deep.DrawnRows
namespace Go.Proofs.YtcelamaiebjdaaaGreat
open Go.RowKit Go.Maps Go.Sort Go.Shelf
attribute [local go_sem ↓] Go.wp_at_zero Go.wp_at_succ

set_option maxHeartbeats 1000000 in
set_option maxRecDepth 100000 in
theorem refAll_any (rb rg rt : Nat) (G : List Int) (T : List Bool) (w : World) (h : RefAt w rb rg rt G T) :
    Calls Tryz.prog 62 #[.pointer (some ⟨rb, 0, none⟩)] w fun e w' => ∃ v, e = .returned v ∧ Sl kH w' w.heap.size v (takenH G T) ∧ Grew w w' := by
  have HS := Lib.hid h
  have hmost : G.length ≤ 64 := by obtain ⟨s, cap, h⟩ := h; exact h.most.2
  obtain ⟨n, hn⟩ : ∃ n, G.length = n := ⟨_, rfl⟩
  have HN := Lib.hid hn
  have hM := fun w' (g : Grew w w') => refMost_any rb rg rt G T w' (h.grew g)
  rw [hn] at hM hmost
  have HM := Lib.hid hM
  clear h hn hM
  go_enter Tryz.func62, Tryz.ntmps62
  go_wp2_with fail
  go_loopg [3, 4] n (fun gg s3 s4 wr => ∃ (j : Nat) (o3 : Value), j ≤ n ∧ n - j ≤ gg ∧ o3 = s3 ∧ s4 = .int .i64 j ∧ Grew w wr ∧ Aside (Sl kH wr w.heap.size o3 (takenN G T j)))
  case atStart => exact ⟨0, _, Nat.zero_le _, by omega, rfl, rfl, Grew.refl _, Sl.nil _ _ _⟩
  case round =>
    obtain ⟨j, o3, hj, hgg, rfl, rfl, hgw, A⟩ := hrel
    by_cases h1 : j < n
    · have h1z : (j : Int) < (n : Int) := by omega
      have hjG : j < G.length := by rw [HN.out]; exact h1
      have hA := fun w' (g : Grew w w') => refAt_any rb rg rt G T (j : Int) w' (HS.out.grew g)
      rw [atG_in hjG, atB_in hjG] at hA
      have hsu := takenN_succ G T j
      have hle := takenN_len G T j
      cases hT : T.getD j false
      · rw [hT, if_neg (by simp)] at hA hsu
        rw [List.append_nil] at hsu
        have HA := Lib.hid hA
        have HSU := Lib.hid hsu
        clear hA hsu hT hjG
        go_wp2_with fail
        refine (HM.out _ (by (repeat' (first | exact Grew.refl _ | assumption | refine Grew.alloc ?_ _ | refine Grew.drew ?_ | refine Grew.drewN ?_ _ | refine Grew.setCell ?_ ?_ _ | (simp; done) | (simp; omega))))).mono ?_
        rintro e wm ⟨rfl, rfl⟩
        go_wp2_with fail
        refine (HA.out _ (by (repeat' (first | exact Grew.refl _ | assumption | refine Grew.alloc ?_ _ | refine Grew.drew ?_ | refine Grew.drewN ?_ _ | refine Grew.setCell ?_ ?_ _ | (simp; done) | (simp; omega))))).mono ?_
        rintro e w2 ⟨rfl, hg2⟩
        have hw2 : Grew wr w2 := Grew.trans (by (repeat' (first | exact Grew.refl _ | assumption | refine Grew.alloc ?_ _ | refine Grew.drew ?_ | refine Grew.drewN ?_ _ | refine Grew.setCell ?_ ?_ _ | (simp; done) | (simp; omega)))) hg2
        have hww : Grew w w2 := hgw.trans hw2
        clear hg2
        go_wp2_with fail
        go_roundg (n - (j + 1))
        case measure => omega
        case rel => exact ⟨j + 1, _, by omega, by omega, rfl, by go_num, by (repeat' (first | exact Grew.refl _ | assumption | refine Grew.alloc ?_ _ | refine Grew.drew ?_ | refine Grew.drewN ?_ _ | refine Grew.setCell ?_ ?_ _ | (simp; done) | (simp; omega))), by rw [HSU.out]; exact A.out.grew (hw2.alloc _)⟩
      · rw [hT, if_pos rfl] at hA hsu
        obtain ⟨gj, hgj⟩ : ∃ gj, G.getD j 0 = gj := ⟨_, rfl⟩
        rw [hgj] at hA hsu
        have HA := Lib.hid hA
        have HSU := Lib.hid hsu
        clear hA hsu hT hjG hgj
        go_wp2_with fail
        refine (HM.out _ (by (repeat' (first | exact Grew.refl _ | assumption | refine Grew.alloc ?_ _ | refine Grew.drew ?_ | refine Grew.drewN ?_ _ | refine Grew.setCell ?_ ?_ _ | (simp; done) | (simp; omega))))).mono ?_
        rintro e wm ⟨rfl, rfl⟩
        go_wp2_with fail
        refine (HA.out _ (by (repeat' (first | exact Grew.refl _ | assumption | refine Grew.alloc ?_ _ | refine Grew.drew ?_ | refine Grew.drewN ?_ _ | refine Grew.setCell ?_ ?_ _ | (simp; done) | (simp; omega))))).mono ?_
        rintro e w2 ⟨rfl, hg2⟩
        have hw2 : Grew wr w2 := Grew.trans (by (repeat' (first | exact Grew.refl _ | assumption | refine Grew.alloc ?_ _ | refine Grew.drew ?_ | refine Grew.drewN ?_ _ | refine Grew.setCell ?_ ?_ _ | (simp; done) | (simp; omega)))) hg2
        have hww : Grew w w2 := hgw.trans hw2
        obtain ⟨w3, hw3e⟩ : ∃ w3, w2.alloc (.cells #[.int .i64 j, .int .i64 gj] 74) = w3 := ⟨_, rfl⟩
        have hg3 : Grew w2 w3 := by rw [← hw3e]; exact (Grew.refl w2).alloc _
        have b0 : w3.cell? ⟨w2.heap.size, 0, none⟩ = some (.int .i64 j) := by rw [← hw3e]; simp
        have b1 : w3.cell? ⟨w2.heap.size, 1, none⟩ = some (.int .i64 gj) := by rw [← hw3e]; simp
        have hw3 : Grew w w3 := hww.trans hg3
        obtain ⟨v', w4, hr, hs, hk, ho⟩ := appendOne kH ((A.out.grew hw2).grew hg3) hw3.size (by omega) ((j : Int), gj) #[.int .i64 j, .int .i64 gj] rfl
        have hw4 : Grew w w4 := Kp.grewOf hw3 hk (fun x hx => (A.out.own_ge x hx).1)
        have HR := Lib.hid hr
        have HV := Lib.hid hs
        clear hg2 hr hs hk ho
        go_wp2_with (at_builtin; refine wpList_append_run rfl _ _ _ _ rfl rfl _ _ _ rfl rfl HR.out ?_)
        go_roundg (n - (j + 1))
        case measure => omega
        case rel => exact ⟨j + 1, _, by omega, by omega, rfl, by go_num, hw4, by rw [HSU.out]; exact HV.out⟩
    · have h1z : ¬ (j : Int) < (n : Int) := by omega
      obtain rfl : n = j := by omega
      go_wp2_with fail
      refine (HM.out _ (by (repeat' (first | exact Grew.refl _ | assumption | refine Grew.alloc ?_ _ | refine Grew.drew ?_ | refine Grew.drewN ?_ _ | refine Grew.setCell ?_ ?_ _ | (simp; done) | (simp; omega))))).mono ?_
      rintro e wm ⟨rfl, rfl⟩
      go_wp2_with fail
      go_ret
      refine ⟨_, rfl, ?_, hgw⟩
      have h := A.out
      unfold takenN at h
      unfold takenH
      rw [HN.out]
      exact h


set_option maxHeartbeats 400000 in
theorem refLen_any (rb rg rt : Nat) (G : List Int) (T : List Bool) (w : World) (h : RefAt w rb rg rt G T) :
    Calls Tryz.prog 64 #[.pointer (some ⟨rb, 0, none⟩)] w fun e w' => e = .returned (.int .i64 (lenT T)) ∧ Grew w w' := by
  have hl : (takenH G T).length = lenT T := by
    obtain ⟨_, _, h⟩ := h
    rw [takenH_len, lenT_eq h.len h.most.2]
  have HL := Lib.hid hl
  have HR := Lib.hid h
  clear h hl
  go_enter Tryz.func64, Tryz.ntmps64
  go_wp2_with fail
  refine (refAll_any rb rg rt G T _ HR.out).mono ?_
  rintro e w1 ⟨v, rfl, hs, hg⟩
  obtain ⟨p, c, rfl, -⟩ := hs.shape
  rw [HL.out]
  clear hs
  go_wp2_with fail
  go_ret
  exact ⟨rfl, hg⟩

end Go.Proofs.YtcelamaiebjdaaaGreat

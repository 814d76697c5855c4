/- The walk of IndexSlots: it returns true. -/
import Derived.Test.YtcelamaiebjdaaaGreatPlays
import Derived.Test.YtcelamaiebjdaaaGreatWake
namespace Go.Proofs.YtcelamaiebjdaaaGreat
open Go.RowKit Go.Maps Go.Sort Go.Shelf
attribute [local go_sem ↓] Go.wp_at_zero Go.wp_at_succ

set_option maxHeartbeats 4000000 in
set_option maxRecDepth 100000 in
theorem indexSlots_any (most : Int) (p : Option Addr) (cap : Nat) (acts : List (Int × Int × Int)) (w : World) (ha : Rd kA w p acts) (hn : acts.length ≤ maxLen) :
    Calls Tryz.prog 5 #[.int .i64 most, .slice p acts.length cap] w fun e w' => e = .returned (.bool true) ∧ Grew w w' := by
  obtain ⟨m, hm⟩ : ∃ m, acts.length = m := ⟨_, rfl⟩
  have HA := Lib.hid ha
  have HM := Lib.hid hm
  rw [hm] at hn ⊢
  unfold maxLen at hn
  clear ha hm
  by_cases h100 : 100 < m
  · have hz : (100 : Int) < (m : Int) := by omega
    go_enter Tryz.func5, Tryz.ntmps5
    go_wp2_with fail
    refine (awake_any _).mono ?_
    rintro e w1 ⟨rfl, hg1⟩
    go_wp2_with fail
    go_ret
    exact ⟨rfl, hg1⟩
  have hz : ¬ (100 : Int) < (m : Int) := by omega
  go_enter Tryz.func5, Tryz.ntmps5
  go_wp2_with fail
  refine (newSlots_any most _).mono ?_
  intro e w1 h
  unfold NewSl at h
  by_cases hr : 1 ≤ most ∧ most ≤ 64
  · rw [if_pos hr] at h
    obtain ⟨sb, gb, rfl, hs, hg1, b1, b2⟩ := h
    have HS := Lib.hid hs
    have HG1 := Lib.hid hg1
    have l1 := hs.lt
    clear hs hg1
    go_wp2_with fail
    refine (refNew_any most _).mono ?_
    intro e w2 h
    unfold NewRef at h
    rw [if_pos hr] at h
    obtain ⟨rb, rg, rt, rfl, hr2, hg2, b3, b4, b5⟩ := h
    have HR := Lib.hid hr2
    have HS2 := Lib.hid (HS.out.grew hg2)
    have HG2 := Lib.hid (HG1.out.trans hg2)
    have hal := alike_any sb gb rb rg rt _ _ w2 HS2.out hr2
    have HAl := Lib.hid hal
    generalize List.replicate most.toNat (0 : Int) = G at *
    generalize List.replicate most.toNat false = T at *
    clear hr2 hg2 hal
    go_wp2_with fail
    refine HAl.out.mono ?_
    rintro e w3 ⟨rfl, hg3⟩
    have hw3 := HG2.out.trans hg3
    have hpl := plays_any sb gb rb rg rt G T p cap acts w3 (HS2.out.grew hg3) (HR.out.grew hg3) (fun x hx hm => by
      simp only [List.mem_cons, List.not_mem_nil, or_false] at hx hm
      omega) (HA.out.grew hw3) (fun h0 a hpa hm => by
      rcases HA.out with h | ⟨a', h1, h2, -⟩
      · rw [h] at h0; simp at h0
      · rw [h1] at hpa
        injection hpa with hpa
        subst hpa
        have := HG1.out.size
        simp only [List.mem_cons, List.not_mem_nil, or_false] at hm
        omega) (by rw [HM.out]; omega)
    rw [HM.out] at hpl
    have HPl := Lib.hid hpl
    clear hg3 hpl
    go_wp2_with fail
    refine HPl.out.mono ?_
    rintro e w4 ⟨rfl, hk4⟩
    have hw4 : Grew w w4 := Kp.grewOf hw3 hk4 (fun x hx => by
      have := HG1.out.size
      simp only [List.mem_cons, List.not_mem_nil, or_false] at hx
      omega)
    clear hk4
    go_wp2_with fail
    refine (awake_any _).mono ?_
    rintro e w5 ⟨rfl, hg5⟩
    have hw5 := hw4.trans hg5
    clear hg5
    go_wp2_with fail
    go_ret
    exact ⟨rfl, hw5⟩
  · rw [if_neg hr] at h
    obtain ⟨rfl, hg1⟩ := h
    have HG1 := Lib.hid hg1
    clear hg1
    go_wp2_with fail
    refine (refNew_any most _).mono ?_
    intro e w2 h
    unfold NewRef at h
    rw [if_neg hr] at h
    obtain ⟨rfl, hg2⟩ := h
    have hw2 := HG1.out.trans hg2
    clear hg2
    go_wp2_with fail
    refine (awake_any _).mono ?_
    rintro e w5 ⟨rfl, hg5⟩
    have hw5 := hw2.trans hg5
    clear hg5
    go_wp2_with fail
    go_ret
    exact ⟨rfl, hw5⟩

end Go.Proofs.YtcelamaiebjdaaaGreat

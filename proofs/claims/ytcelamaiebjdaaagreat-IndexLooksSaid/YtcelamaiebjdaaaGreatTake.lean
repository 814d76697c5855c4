/- Contract of Take of a table of slots. -/
import Derived.Test.YtcelamaiebjdaaaGreatHas
import Derived.Deep.LoopGhost
namespace Go.Proofs.YtcelamaiebjdaaaGreat
open Go.RowKit
attribute [local go_sem ↓] Go.wp_at_zero Go.wp_at_succ

/-- Slot i may be taken; the least such slot, or the number of slots. -/
def freeAt (gens : List Int) (tk : List Bool) (i : Nat) : Bool := !tk.getD i false && decide (gens.getD i 0 < 2147483647)
def leastN (gens : List Int) (tk : List Bool) : Nat := (List.range gens.length).findIdx (freeAt gens tk)
theorem leastN_le (gens : List Int) (tk : List Bool) : leastN gens tk ≤ gens.length := by
  have := List.findIdx_le_length (p := freeAt gens tk) (xs := List.range gens.length)
  simpa [leastN] using this
theorem leastN_no {gens : List Int} {tk : List Bool} {i : Nat} (h : i < leastN gens tk) : freeAt gens tk i = false := by
  have := List.not_of_lt_findIdx (p := freeAt gens tk) (xs := List.range gens.length) h
  simpa using this
theorem leastN_yes {gens : List Int} {tk : List Bool} (h : leastN gens tk < gens.length) : freeAt gens tk (leastN gens tk) = true := by
  have := List.findIdx_getElem (p := freeAt gens tk) (xs := List.range gens.length) (w := by simpa [leastN] using h)
  simpa [leastN] using this
/-- What Take returns, and the table then. -/
def takeH (gens : List Int) (tk : List Bool) : Int × Int × Int := if leastN gens tk < gens.length then ((leastN gens tk : Int), gens.getD (leastN gens tk) 0 + 1, 0) else (0, 0, 10)
def takeG (gens : List Int) (tk : List Bool) : List Int := if leastN gens tk < gens.length then gens.set (leastN gens tk) (gens.getD (leastN gens tk) 0 + 1) else gens
def takeS (gens : List Int) (tk : List Bool) : List Bool := if leastN gens tk < gens.length then tk.set (leastN gens tk) true else tk

theorem SlotsR.bump {w : World} {sb gb s cap : Nat} {gens : List Int} {tk : List Bool} (h : SlotsR w sb gb s cap gens tk) (j : Nat) (u : Int) (hu : 0 ≤ u ∧ u ≤ 2147483647) :
    SlotsR (w.setCell ⟨gb, j, none⟩ (.int .i64 u)) sb gb s cap (gens.set j u) tk := by
  have k : Kp [gb] w (w.setCell ⟨gb, j, none⟩ (.int .i64 u)) := (Kp.refl [gb] w).store (by simp) j _
  have hn : sb ∉ [gb] := by simp [h.ne]
  have hl : (gens.set j u).length = gens.length := List.length_set
  refine ⟨k.cell h.c0 hn, (World.frozen?_of_block (w := w) (a := ⟨sb, 0, none⟩) (k.block sb h.lt.1 hn)).trans h.f0, ?_, h.mask, ?_, h.ne, ?_, ?_, ?_⟩
  · rw [hl]; exact k.cell h.c1 hn
  · rw [hl]; exact (h.row.stored j u).1
  · rw [hl]; exact h.most
  · rw [hl]; exact h.len
  · intro g hg
    rcases List.mem_or_eq_of_mem_set hg with h1 | h1
    · exact h.gen g h1
    · rw [h1]; exact hu

set_option maxHeartbeats 1000000 in
set_option maxRecDepth 100000 in
theorem take_any (sb gb : Nat) (gens : List Int) (tk : List Bool) (w : World) (h : SlotsAt w sb gb gens tk) :
    Calls Tryz.prog 41 #[.pointer (some ⟨sb, 0, none⟩)] w fun e w' =>
      e = .returned (.tuple #[.agg #[.int .i64 (takeH gens tk).1, .int .i64 (takeH gens tk).2.1], .int .i64 (takeH gens tk).2.2]) ∧ SlotsAt w' sb gb (takeG gens tk) (takeS gens tk) ∧ Kp [sb, gb] w w' := by
  have hS := Lib.hid h
  have hB := h.lt
  obtain ⟨s, cap, h⟩ := h
  have c0 := h.c0
  have f0 := h.f0
  have c1 := h.c1
  have hm := h.most
  have hlt := h.mask.lt
  have HR := Lib.hid h
  obtain ⟨n, hn⟩ : ∃ n, gens.length = n := ⟨_, rfl⟩
  rw [hn] at hm c1
  have HN := Lib.hid hn
  clear h hn
  have hL := leastN_le gens tk
  rw [HN.out] at hL
  obtain ⟨L, hLe⟩ : ∃ L, leastN gens tk = L := ⟨_, rfl⟩
  have hNo : ∀ i, i < L → freeAt gens tk i = false := by rw [← hLe]; exact fun i => leastN_no
  have hYes : L < n → freeAt gens tk L = true := by rw [← hLe, ← HN.out]; exact fun h => leastN_yes h
  have hcell : ∀ j (hj : j < n), w.cell? ⟨gb, j, none⟩ = some (.int .i64 (gens.getD j 0)) := fun j hj => by
    rw [List.getD_eq_getElem?_getD, List.getElem?_eq_getElem (by rw [HN.out]; exact hj)]
    exact HR.out.row.cell j (by rw [HN.out]; exact hj)
  have HC := Lib.hid hcell
  have HNo := Lib.hid hNo
  have HYes := Lib.hid hYes
  have hgen : ∀ j, j < n → 0 ≤ gens.getD j 0 ∧ gens.getD j 0 ≤ 2147483647 := fun j hj => by
    rw [List.getD_eq_getElem?_getD, List.getElem?_eq_getElem (by rw [HN.out]; exact hj)]
    exact HR.out.gen _ (List.getElem_mem _)
  have HGen := Lib.hid hgen
  have HL := Lib.hid (show L ≤ n by rw [← hLe]; exact hL)
  have HLe := Lib.hid hLe
  clear hL hLe hNo hYes hcell hgen
  go_enter Tryz.func41, Tryz.ntmps41
  go_wp2_with fail
  refine (slNone_any sb n cap (some ⟨gb, 0, none⟩) _ hm.1 (by first | (simp [go_sem]; done) | (simp [*, go_sem]; done) | (go_cell; done))).mono ?_
  rintro e w1 ⟨rfl, rfl⟩
  go_wp2_with fail
  go_loopg [14] n (fun gg s14 wr => ∃ j : Nat, n - j ≤ gg ∧ s14 = .int .i64 j ∧ wr = w.alloc (.cells #[.int .i64 0, .int .i64 0] 74) ∧ Aside (j ≤ L))
  case atStart => exact ⟨0, by omega, rfl, rfl, Nat.zero_le _⟩
  case round =>
    obtain ⟨j, hgg, rfl, rfl, A⟩ := hrel
    by_cases hjn : j < n
    · have hjz : (j : Int) < (n : Int) := by omega
      have hj64 : j < 64 := by omega
      have cj : (w.alloc (.cells #[.int .i64 0, .int .i64 0] 74)).cell? ⟨gb, j, none⟩ = some (.int .i64 (gens.getD j 0)) := (Grew.alloc (Grew.refl w) _).cell' (HC.out j hjn)
      have hbit := HR.out.mask.bit j hj64
      have hge := HGen.out j hjn
      obtain ⟨g, hg⟩ : ∃ g, gens.getD j 0 = g := ⟨_, rfl⟩
      have cj0 := HC.out j hjn
      rw [hg] at cj cj0 hge
      have HG := Lib.hid hg
      clear hg
      cases hb : tk.getD j false
      · rw [hb] at hbit
        have HB := Lib.hid hb
        have HT := Lib.hid hbit
        clear hb hbit
        by_cases hmax : g < 2147483647
        · have hjL : Hid (j = L) := by
            show j = L
            have A1 : j ≤ L := A.out
            rcases Nat.lt_or_ge j L with h1 | h1
            · have := HNo.out j h1
              unfold freeAt at this
              rw [HB.out, HG.out] at this
              simp at this
              omega
            · omega
          have hne := HR.out.ne
          have fj : (w.alloc (.cells #[.int .i64 0, .int .i64 0] 74)).frozen? ⟨gb, j, none⟩ = false := (HR.out.row.grew (Grew.alloc (Grew.refl w) _)).free j
          have fj0 : w.frozen? ⟨gb, j, none⟩ = false := HR.out.row.free j
          have hne2 : sb ≠ w.heap.size := by omega
          have hne3 : gb ≠ w.heap.size := by omega
          go_wp2_with fail
          refine (on_any sb s j _ hj64 hlt (by first | (simp [go_sem]; done) | (simp [*, go_sem]; done) | (go_cell; done))).mono ?_
          rintro e w1 ⟨rfl, rfl⟩
          rw [HT.out]
          go_wp2_with fail
          refine (mark_any sb s j _ hj64 hlt (by first | (simp [go_sem]; done) | (simp [*, go_sem]; done) | (go_cell; done)) (by first | (simp [go_sem]; done) | (simp [*, go_sem]; done) | (go_cell; done))).mono ?_
          rintro e w1 ⟨rfl, rfl⟩
          go_wp2_with fail
          go_returns
          have hL0 : leastN gens tk = j := by rw [HLe.out]; exact hjL.out.symm
          have hlen : j < gens.length := by rw [HN.out]; exact hjn
          have eH : takeH gens tk = ((j : Int), g + 1, 0) := by unfold takeH; rw [hL0, if_pos hlen, HG.out]
          have eG : takeG gens tk = gens.set j (g + 1) := by unfold takeG; rw [hL0, if_pos hlen, HG.out]
          have eS : takeS gens tk = tk.set j true := by unfold takeS; rw [hL0, if_pos hlen]
          rw [eH, eG, eS]
          have M := HR.out.mask.mark hj64 (by rw [HR.out.len]; exact hlen)
          exact ⟨rfl, ⟨_, _, (((HR.out.remask _ _ M (by simp)).bump j (g + 1) (by omega)).kp (((Grew.refl _).alloc _).kp []) (by simp) (by simp))⟩, (((Kp.refl _ _).store (by simp) _ _).store (by simp) _ _).alloc _⟩
        · go_wp2_with fail
          refine (on_any sb s j _ hj64 hlt (by first | (simp [go_sem]; done) | (simp [*, go_sem]; done) | (go_cell; done))).mono ?_
          rintro e w1 ⟨rfl, rfl⟩
          rw [HT.out]
          go_wp2_with fail
          go_roundg (n - (j + 1))
          case measure => omega
          case rel =>
            refine ⟨j + 1, Nat.le_refl _, by go_num, rfl, (show Aside _ from ?_)⟩
            have h1 : j ≠ L := by
              rintro rfl
              have := HYes.out hjn
              unfold freeAt at this
              rw [HB.out, HG.out] at this
              simp at this
              omega
            have A1 : j ≤ L := A.out
            show j + 1 ≤ L
            omega
      · rw [hb] at hbit
        have HB := Lib.hid hb
        have HT := Lib.hid hbit
        clear hb hbit
        go_wp2_with fail
        refine (on_any sb s j _ hj64 hlt (by first | (simp [go_sem]; done) | (simp [*, go_sem]; done) | (go_cell; done))).mono ?_
        rintro e w1 ⟨rfl, rfl⟩
        rw [HT.out]
        go_wp2_with fail
        go_roundg (n - (j + 1))
        case measure => omega
        case rel =>
          refine ⟨j + 1, Nat.le_refl _, by go_num, rfl, (show Aside _ from ?_)⟩
          have h1 : j ≠ L := by
            rintro rfl
            have := HYes.out hjn
            unfold freeAt at this
            rw [HB.out] at this
            simp at this
          have A1 : j ≤ L := A.out
          show j + 1 ≤ L
          omega
    · have hjz : ¬ (j : Int) < (n : Int) := by omega
      have hj : L = n := by
        have A1 : j ≤ L := A.out
        have A2 : L ≤ n := HL.out
        omega
      go_wp2_with fail
      go_returns
      unfold takeH takeG takeS
      rw [HLe.out, HN.out, if_neg (by omega)]
      simp only
      exact ⟨trivial, by rw [if_neg (by omega), if_neg (by omega)]; exact hS.out.grew (by (repeat' (first | exact Grew.refl _ | assumption | refine Grew.alloc ?_ _ | refine Grew.drew ?_ | refine Grew.drewN ?_ _ | refine Grew.setCell ?_ ?_ _ | (simp; done) | (simp; omega)))), Grew.kp (by (repeat' (first | exact Grew.refl _ | assumption | refine Grew.alloc ?_ _ | refine Grew.drew ?_ | refine Grew.drewN ?_ _ | refine Grew.setCell ?_ ?_ _ | (simp; done) | (simp; omega)))) _⟩

end Go.Proofs.YtcelamaiebjdaaaGreat

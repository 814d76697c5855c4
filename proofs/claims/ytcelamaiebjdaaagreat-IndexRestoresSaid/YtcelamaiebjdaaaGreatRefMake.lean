/- The reference's tables: NewSlots. -/
import Derived.Test.YtcelamaiebjdaaaGreatRefNew
import Derived.RegionTactic
import Derived.BigRegion
namespace Go.Proofs.YtcelamaiebjdaaaGreat
open Go.RowKit Go.Maps Go.Sort Go.Shelf
attribute [local go_sem ↓] Go.wp_at_zero Go.wp_at_succ

/-- make([]int, n), make([]bool, n), in whatever world. -/
theorem mkI (n : Nat) (hn : n ≤ 1000) : ∃ ci : Array Value, (∀ W : World, (Instr.makeSlice 22 (.int .i64 n) (.int .i64 n)).run Tryz.prog W = .ok (.slice (some ⟨W.heap.size, 0, none⟩) n n) (W.alloc (.cells ci 3))) ∧
    ∀ W : World, Sl kI (W.alloc (.cells ci 3)) W.heap.size (.slice (some ⟨W.heap.size, 0, none⟩) n n) (List.replicate n 0) := by
  obtain ⟨i, hi, hz, h1, h2⟩ := info_parts kI.info
  refine ⟨madeCells (Value.int .i64 0).cells n, fun W => ?_, fun W => ?_⟩
  · have := run_make (P := Tryz.prog) W 22 3 i _ Tryz.underlying22 hi hz .i64 .i64 n n (by omega) (Int.le_refl _) (by rw [h2]; show ((8 : Nat) : Int) * (n : Int) ≤ _; omega) (by omega)
    rw [Int.toNat_natCast, h1] at this
    simp only [show kI.size = 1 from rfl, Nat.mul_one] at this
    exact this
  · have := World.ownsRow_lit (base := W.heap.size) (e := 3) (size := 1) W (madeCells (Value.int .i64 0).cells n) n (Nat.le_refl _) (by unfold maxLen; omega) (by rw [size_madeCells, Nat.mul_one])
    unfold Sl
    rw [flatIn, List.map_replicate, List.length_replicate]
    rw [show (Value.int .i64 0).cells = #[.int .i64 0] from rfl] at this ⊢
    rw [toList_madeCells_one] at this
    exact this
theorem mkB (n : Nat) (hn : n ≤ 1000) : ∃ ci : Array Value, (∀ W : World, (Instr.makeSlice 61 (.int .i64 n) (.int .i64 n)).run Tryz.prog W = .ok (.slice (some ⟨W.heap.size, 0, none⟩) n n) (W.alloc (.cells ci 4))) ∧
    ∀ W : World, Sl kB (W.alloc (.cells ci 4)) W.heap.size (.slice (some ⟨W.heap.size, 0, none⟩) n n) (List.replicate n false) := by
  obtain ⟨i, hi, hz, h1, h2⟩ := info_parts kB.info
  refine ⟨madeCells (Value.bool false).cells n, fun W => ?_, fun W => ?_⟩
  · have := run_make (P := Tryz.prog) W 61 4 i _ Tryz.underlying61 hi hz .i64 .i64 n n (by omega) (Int.le_refl _) (by rw [h2]; show ((1 : Nat) : Int) * (n : Int) ≤ _; omega) (by omega)
    rw [Int.toNat_natCast, h1] at this
    simp only [show kB.size = 1 from rfl, Nat.mul_one] at this
    exact this
  · have := World.ownsRow_lit (base := W.heap.size) (e := 4) (size := 1) W (madeCells (Value.bool false).cells n) n (Nat.le_refl _) (by unfold maxLen; omega) (by rw [size_madeCells, Nat.mul_one])
    unfold Sl
    rw [flatBo, List.map_replicate, List.length_replicate]
    rw [show (Value.bool false).cells = #[.bool false] from rfl] at this ⊢
    rw [toList_madeCells_one] at this
    exact this

theorem ref_end {G : List Int} {T : List Bool} {w w5 w6 w7 : World} {n g5 cp5 g6 cp6 : Nat} (hn : G.length = n) (hm : 1 ≤ n ∧ n ≤ 64) (hl : T.length = n) (hge : ∀ g ∈ G, 0 ≤ g ∧ g ≤ 2147483647) (h5 : Sl kI w5 w.heap.size (.slice (some ⟨g5, 0, none⟩) n cp5) G) (h6 : Sl kB w6 w.heap.size (.slice (some ⟨g6, 0, none⟩) n cp6) T)
    (k5 : Grew w5 w7) (k6 : Grew w6 w7) (hg : Grew w w7) (hne : g5 ≠ g6) :
    RefAt (w7.alloc (.cells #[.slice (some ⟨g5, 0, none⟩) n cp5, .slice (some ⟨g6, 0, none⟩) n cp6] 102)) w7.heap.size g5 g6 G T ∧ w.heap.size ≤ w7.heap.size ∧ w.heap.size ≤ g5 ∧ w.heap.size ≤ g6 := by
  have l5 := h5.len.2.2.1
  have l6 := h6.len.2.2.1
  have m5 := Nat.lt_of_lt_of_le l5 k5.size
  have m6 := Nat.lt_of_lt_of_le l6 k6.size
  have ga := (Grew.refl w7).alloc (.cells #[.slice (some ⟨g5, 0, none⟩) n cp5, .slice (some ⟨g6, 0, none⟩) n cp6] 102)
  refine ⟨⟨cp5, cp6, ?_⟩, hg.size, h5.len.2.1, h6.len.2.1⟩
  subst hn
  exact ⟨by simp, by simp, (slI_iff.1 ((h5.grew k5).grew ga)).base (Nat.zero_le _), ((h6.grew k6).grew ga).base (Nat.zero_le _), ⟨by omega, by omega, hne⟩, hm, hl, hge⟩

/-- What the reference's NewSlots returns. -/
def NewRef (most : Int) (w : World) (e : Ending) (w' : World) : Prop :=
  if 1 ≤ most ∧ most ≤ 64 then ∃ rb rg rt, e = .returned (.tuple #[.pointer (some ⟨rb, 0, none⟩), .int .i64 0]) ∧ RefAt w' rb rg rt (List.replicate most.toNat 0) (List.replicate most.toNat false) ∧ Grew w w' ∧ w.heap.size ≤ rb ∧ w.heap.size ≤ rg ∧ w.heap.size ≤ rt
  else e = .returned (.tuple #[.pointer none, .int .i64 3]) ∧ Grew w w'

set_option maxHeartbeats 2000000 in
set_option maxRecDepth 100000 in
theorem refNew_any (most : Int) (w : World) : Calls Tryz.prog 23 #[.int .i64 most] w (NewRef most w) := by
  by_cases h : 1 ≤ most ∧ most ≤ 64
  · obtain ⟨n, rfl⟩ := Int.eq_ofNat_of_zero_le (show 0 ≤ most by omega)
    obtain ⟨ci, hi, si⟩ := mkI n (by omega)
    obtain ⟨cb, hb, sb⟩ := mkB n (by omega)
    have hn1 : (1 : Int) ≤ (n : Int) := h.1
    have hn2 : (n : Int) ≤ 64 := h.2
    have H := Lib.hid h
    have SI := Lib.hid si
    have SB := Lib.hid sb
    clear h si sb
    go_enter Tryz.func23, Tryz.ntmps23
    go_wp2_with fail
    go_region_held3 (fun _ => True) (trivial) (fail)
    all_goals
      go_wp2_with fail
      go_ret2
      unfold NewRef
      rw [if_pos H.out, Int.toNat_natCast]
    · have s5 := SI.out w
      have s6 := SB.out (w.alloc (.cells ci 3))
      rw [show (w.alloc (.cells ci 3)).heap.size = w.heap.size + 1 from by simp] at s6
      obtain ⟨r1, r2, r3, r4⟩ := ref_end (w := w) (w7 := (w.alloc (.cells ci 3)).alloc (.cells cb 4)) List.length_replicate (by omega) List.length_replicate (fun g hg => by have := List.eq_of_mem_replicate hg; omega) s5 (s6.base (by omega)) (by (repeat' (first | exact Grew.refl _ | assumption | refine Grew.alloc ?_ _ | refine Grew.drew ?_ | refine Grew.drewN ?_ _ | refine Grew.setCell ?_ ?_ _ | (simp; done) | (simp; omega)))) (Grew.refl _) (by (repeat' (first | exact Grew.refl _ | assumption | refine Grew.alloc ?_ _ | refine Grew.drew ?_ | refine Grew.drewN ?_ _ | refine Grew.setCell ?_ ?_ _ | (simp; done) | (simp; omega)))) (by omega)
      rw [show ((w.alloc (.cells ci 3)).alloc (.cells cb 4)).heap.size = w.heap.size + 1 + 1 from by simp] at r1
      exact ⟨_, _, _, rfl, r1.grew ((Grew.refl _).drew), by (repeat' (first | exact Grew.refl _ | assumption | refine Grew.alloc ?_ _ | refine Grew.drew ?_ | refine Grew.drewN ?_ _ | refine Grew.setCell ?_ ?_ _ | (simp; done) | (simp; omega))), by omega, by omega, by omega⟩
    · have s6 := SB.out w
      have s5 := SI.out (w.alloc (.cells cb 4))
      rw [show (w.alloc (.cells cb 4)).heap.size = w.heap.size + 1 from by simp] at s5
      obtain ⟨r1, r2, r3, r4⟩ := ref_end (w := w) (w7 := (w.alloc (.cells cb 4)).alloc (.cells ci 3)) List.length_replicate (by omega) List.length_replicate (fun g hg => by have := List.eq_of_mem_replicate hg; omega) (s5.base (by omega)) s6 (Grew.refl _) (by (repeat' (first | exact Grew.refl _ | assumption | refine Grew.alloc ?_ _ | refine Grew.drew ?_ | refine Grew.drewN ?_ _ | refine Grew.setCell ?_ ?_ _ | (simp; done) | (simp; omega)))) (by (repeat' (first | exact Grew.refl _ | assumption | refine Grew.alloc ?_ _ | refine Grew.drew ?_ | refine Grew.drewN ?_ _ | refine Grew.setCell ?_ ?_ _ | (simp; done) | (simp; omega)))) (by omega)
      rw [show ((w.alloc (.cells cb 4)).alloc (.cells ci 3)).heap.size = w.heap.size + 1 + 1 from by simp] at r1
      exact ⟨_, _, _, rfl, r1.grew ((Grew.refl _).drew), by (repeat' (first | exact Grew.refl _ | assumption | refine Grew.alloc ?_ _ | refine Grew.drew ?_ | refine Grew.drewN ?_ _ | refine Grew.setCell ?_ ?_ _ | (simp; done) | (simp; omega))), by omega, by omega, by omega⟩
  · have H := Lib.hid h
    have hh : most < 1 ∨ 64 < most := by omega
    clear h
    rcases hh with hh | hh
    all_goals
      go_enter Tryz.func23, Tryz.ntmps23
      go_wp2_with fail
      all_goals
        go_ret2
        unfold NewRef
        rw [if_neg H.out]
        exact ⟨rfl, Grew.refl _⟩

end Go.Proofs.YtcelamaiebjdaaaGreat

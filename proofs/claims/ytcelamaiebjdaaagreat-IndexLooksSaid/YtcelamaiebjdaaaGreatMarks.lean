/- The marks: bits of up to 64 slots. -/
import Derived.Test.YtcelamaiebjdaaaGreatRow
import Derived.Laws.BitsAllLaws
namespace Go.Proofs.YtcelamaiebjdaaaGreat
open Go.RowKit

/-- The marks s say of each slot whether it is taken. -/
structure Mask (s : Nat) (t : List Bool) : Prop where
  lt : s < 18446744073709551616
  bit : ∀ i, i < 64 → s.testBit i = t.getD i false

theorem on_bits (s i : Nat) (hs : s < 18446744073709551616) : (bits .and .u64 ((s : Int) / 2 ^ i) 1 == 1) = s.testBit i := by
  have e1 : ((s : Int) / 2 ^ i) = ((s / 2 ^ i : Nat) : Int) := by simp
  have h1 : s / 2 ^ i < 18446744073709551616 := Nat.lt_of_le_of_lt (Nat.div_le_self _ _) hs
  rw [e1, show (1 : Int) = ((1 : Nat) : Int) from rfl, u64_and_nat _ _ h1 (by decide), nat_mask1, Nat.testBit_eq_decide_div_mod_eq]
  rw [Bool.eq_iff_iff]
  simp only [beq_iff_eq, decide_eq_true_eq]
  omega
theorem two_pow_lt {i : Nat} (hi : i < 64) : 2 ^ i < 18446744073709551616 := by
  have : (2 : Nat) ^ i < 2 ^ 64 := Nat.pow_lt_pow_right (by decide) hi
  simpa using this
theorem wrap_pow (i : Nat) (hi : i < 64) : IntKind.u64.wrap (2 ^ i) = ((2 ^ i : Nat) : Int) := by
  have := two_pow_lt hi
  rw [IntKind.wrap_u64]
  have e : ((2 : Int) ^ i) = ((2 ^ i : Nat) : Int) := by simp
  rw [e]
  exact Int.emod_eq_of_lt (Int.natCast_nonneg _) (Int.ofNat_lt.2 this)

set_option maxHeartbeats 400000 in
theorem on_any (sb s i : Nat) (w : World) (hi : i < 64) (hs : s < 18446744073709551616) (c0 : w.cell? ⟨sb, 0, none⟩ = some (.int .u64 s)) :
    Calls Tryz.prog 92 #[.pointer (some ⟨sb, 0, none⟩), .int .i64 i] w fun e w' => e = .returned (.bool (s.testBit i)) ∧ w = w' := by
  have h := Lib.hid (on_bits s i hs)
  have hs' : (s : Int) < 18446744073709551616 := by omega
  go_enter Tryz.func92, Tryz.ntmps92
  go_wp2_with fail
  go_ret
  exact ⟨ret_bool h.out, rfl⟩

/-- The marks with one more, with one less. -/
def markN (s i : Nat) : Nat := s ||| 2 ^ i
def clearN (s i : Nat) : Nat := s &&& (18446744073709551615 - 2 ^ i)

set_option maxHeartbeats 400000 in
theorem mark_any (sb s i : Nat) (w : World) (hi : i < 64) (hs : s < 18446744073709551616) (c0 : w.cell? ⟨sb, 0, none⟩ = some (.int .u64 s)) (f0 : w.frozen? ⟨sb, 0, none⟩ = false) :
    Calls Tryz.prog 82 #[.pointer (some ⟨sb, 0, none⟩), .int .i64 i] w fun e w' => e = .returned (.tuple #[]) ∧ w.setCell ⟨sb, 0, none⟩ (.int .u64 (markN s i)) = w' := by
  have h : bits .or .u64 (s : Int) (IntKind.u64.wrap (2 ^ i)) = (markN s i : Int) := by rw [wrap_pow i hi, u64_or_nat _ _ hs (two_pow_lt hi)]; rfl
  have H := Lib.hid h
  clear h
  go_enter Tryz.func82, Tryz.ntmps82
  go_wp2_with fail
  go_end0
  exact ⟨rfl, by rw [H.out]⟩

set_option maxHeartbeats 400000 in
theorem clear_any (sb s i : Nat) (w : World) (hi : i < 64) (hs : s < 18446744073709551616) (c0 : w.cell? ⟨sb, 0, none⟩ = some (.int .u64 s)) (f0 : w.frozen? ⟨sb, 0, none⟩ = false) :
    Calls Tryz.prog 93 #[.pointer (some ⟨sb, 0, none⟩), .int .i64 i] w fun e w' => e = .returned (.tuple #[]) ∧ w.setCell ⟨sb, 0, none⟩ (.int .u64 (clearN s i)) = w' := by
  have h : bits .andNot .u64 (s : Int) (IntKind.u64.wrap (2 ^ i)) = (clearN s i : Int) := by rw [wrap_pow i hi, u64_andNot_nat _ _ hs (two_pow_lt hi)]; rfl
  have H := Lib.hid h
  clear h
  go_enter Tryz.func93, Tryz.ntmps93
  go_wp2_with fail
  go_end0
  exact ⟨rfl, by rw [H.out]⟩

theorem Mask.none : ∀ n, Mask 0 (List.replicate n false) := fun n => ⟨by decide, fun i _ => by
  rw [Nat.zero_testBit, List.getD_eq_getElem?_getD, List.getElem?_replicate]; split <;> rfl⟩
theorem Mask.mark {s : Nat} {t : List Bool} (h : Mask s t) {i : Nat} (hi : i < 64) (hl : i < t.length) : Mask (markN s i) (t.set i true) := by
  refine ⟨?_, fun j hj => ?_⟩
  · have h1 := h.lt
    have h2 := two_pow_lt hi
    have := Nat.or_lt_two_pow (x := s) (y := 2 ^ i) (n := 64) (by simpa using h1) (by simpa using h2)
    simpa [markN] using this
  · unfold markN
    rw [Nat.testBit_or, h.bit j hj, Nat.testBit_two_pow, List.getD_eq_getElem?_getD, List.getD_eq_getElem?_getD, List.getElem?_set]
    by_cases e : i = j
    · subst e; simp [hl]
    · simp [e]
theorem Mask.clear {s : Nat} {t : List Bool} (h : Mask s t) {i : Nat} (hi : i < 64) : Mask (clearN s i) (t.set i false) := by
  refine ⟨?_, fun j hj => ?_⟩
  · exact Nat.lt_of_le_of_lt Nat.and_le_left h.lt
  · unfold clearN
    rw [Nat.testBit_and, h.bit j hj, List.getD_eq_getElem?_getD, List.getD_eq_getElem?_getD, List.getElem?_set]
    have e64 : 18446744073709551615 - 2 ^ i = 2 ^ 64 - (2 ^ i + 1) := by
      rw [show (18446744073709551615 : Nat) = 2 ^ 64 - 1 from rfl]; omega
    rw [e64, Nat.testBit_two_pow_sub_succ (by simpa using two_pow_lt hi), Nat.testBit_two_pow]
    by_cases e : i = j
    · subst e
      by_cases hl : i < t.length <;> simp [hl]
    · simp [e, hj]

end Go.Proofs.YtcelamaiebjdaaaGreat

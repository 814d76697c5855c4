/- The sweep of IndexFull, in plain words. -/
import Derived.Test.YtmoaefcpbphgmaaPairsPlain
namespace Go.Proofs.Ytmoaefcpbphgmaa
open Go.RowKit Go.Maps Go.Sort Go.Shelf

def boxF (i : Nat) : Bx := (3 * (i : Int), 0, 3 * (i : Int) + 1, 1)
def keyF (s : Int) (i : Nat) : Int := (i : Int) * s
/-- The first k boxes under their ids. -/
def entF (s : Int) (k : Nat) : Sw := (List.range k).map fun i : Nat => (keyF s i, boxF i)
theorem keyF_lt {s : Int} (hs : 1 ≤ s) {i j : Nat} (h : i < j) : keyF s i < keyF s j := by
  unfold keyF
  have h1 : (i : Int) < (j : Int) := by omega
  exact Int.mul_lt_mul_of_pos_right h1 (by omega)
theorem keyF_le {s : Int} (hs : 1 ≤ s ∧ s ≤ 1048576) {i : Nat} (h : i ≤ 256) : 0 ≤ keyF s i ∧ keyF s i ≤ 268435456 := by
  unfold keyF
  have h1 : 0 ≤ (i : Int) * s := Int.mul_nonneg (by omega) (by omega)
  have h2 : (i : Int) * s ≤ 256 * s := Int.mul_le_mul_of_nonneg_right (by omega) (by omega)
  omega
theorem entF_succ (s : Int) (hs : 1 ≤ s) (k : Nat) : putL (entF s k) (keyF s k) (boxF k) = entF s (k + 1) := by
  rw [putL_above fun p hp => by
    obtain ⟨i, hi, rfl⟩ := List.mem_map.1 hp
    exact keyF_lt hs (List.mem_range.1 hi)]
  unfold entF
  rw [List.range_succ, List.map_append]
  rfl
theorem okF (i : Nat) (h : i ≤ 256) : okB (boxF i) := okB_mk (by omega)

theorem allC_none {m : Int → Int → Bool} : ∀ {xs : List Int}, xs.Pairwise (fun x y => m x y = false) → allC m xs = []
  | [], _ => rfl
  | x :: r, h => by
    obtain ⟨h1, h2⟩ := List.pairwise_cons.1 h
    show (r.filter fun k => m x k).map (mkP x) ++ allC m r = []
    rw [allC_none h2, List.filter_eq_nil_iff.2 (fun k hk => by rw [h1 k hk]; simp)]
    rfl
theorem asc_entF (s : Int) (hs : 1 ≤ s) (k : Nat) : Asc (entF s k) := by
  unfold Asc entF
  rw [List.pairwise_map]
  exact List.pairwise_lt_range.imp fun h => keyF_lt hs h
theorem boxF_apart {i j : Nat} (h : i < j) : meetsL (boxF i) (boxF j) = false := by
  unfold meetsL boxF
  exact decide_eq_false (by simp only; omega)
theorem pairsF (s : Int) (hs : 1 ≤ s) (k : Nat) (hk : k ≤ 256) : pairsOf (entF s k) = [] := by
  refine allC_none ?_
  have e : (entF s k).map (·.1) = (List.range k).map (keyF s) := by unfold entF; rw [List.map_map]; rfl
  rw [e, List.pairwise_map]
  refine (List.pairwise_lt_range (n := k)).imp_of_mem fun {i j} hi hj h => ?_
  have g : ∀ q, q ∈ List.range k → getL (entF s k) (keyF s q) = boxF q := fun q hq => getL_of_mem (asc_entF s hs k) (List.mem_map.2 ⟨q, hq, rfl⟩)
  unfold meetL
  rw [g i hi, g j hj, meet_ok (okF i (by have := List.mem_range.1 hi; omega)) (okF j (by have := List.mem_range.1 hj; omega))]
  exact boxF_apart h

/-- The sweep behind the drop of id s and the put of id 256 * s. -/
def boxL : Bx := (1, 1, 2, 2)
def lastF (s : Int) : Sw := ((keyF s 0, boxF 0) :: (List.range' 2 254).map fun i : Nat => (keyF s i, boxF i)) ++ [(keyF s 256, boxL)]
theorem delF (s : Int) (hs : 1 ≤ s) : delL (entF s 256) s = (keyF s 0, boxF 0) :: (List.range' 2 254).map fun i : Nat => (keyF s i, boxF i) := by
  unfold delL entF
  rw [List.range_eq_range', List.range'_succ, List.range'_succ, List.map_cons, List.map_cons]
  have h0 : keyF s 0 ≠ s := by unfold keyF; omega
  have h1 : keyF s 1 = s := by unfold keyF; omega
  rw [List.filter_cons_of_pos (by simpa using h0), List.filter_cons_of_neg (by simpa using h1)]
  congr 1
  refine List.filter_eq_self.2 fun p hp => ?_
  obtain ⟨i, hi, rfl⟩ := List.mem_map.1 hp
  have := List.mem_range'_1.1 hi
  have := keyF_lt hs (show 1 < i by omega)
  rw [h1] at this
  simp only [Bool.not_eq_true', decide_eq_false_iff_not]
  omega
theorem putF (s : Int) (hs : 1 ≤ s) : putL (delL (entF s 256) s) (keyF s 256) boxL = lastF s := by
  rw [delF s hs, putL_above fun p hp => by
    rcases List.mem_cons.1 hp with rfl | hp
    · exact keyF_lt hs (by omega)
    · obtain ⟨i, hi, rfl⟩ := List.mem_map.1 hp
      have := List.mem_range'_1.1 hi
      exact keyF_lt hs (by omega)]
  rfl

theorem asc_last (s : Int) (hs : 1 ≤ s) : Asc (lastF s) := by
  have h := asc_put (k := keyF s 256) (b := boxL) (l := delL (entF s 256) s) (by
    unfold delL Asc
    exact (asc_entF s hs 256).filter _)
  rwa [putF s hs] at h
theorem ok_last : okB boxL := okB_mk (by omega)
/-- The box under number i of the last sweep. -/
def boxM (i : Nat) : Bx := if i = 256 then boxL else boxF i
theorem get_last (s : Int) (hs : 1 ≤ s) {i : Nat} (h : i = 0 ∨ 2 ≤ i ∧ i ≤ 256) : getL (lastF s) (keyF s i) = boxM i := by
  refine getL_of_mem (q := (keyF s i, boxM i)) (asc_last s hs) ?_
  unfold lastF boxM
  rcases h with rfl | ⟨h1, h2⟩
  · simp
  · by_cases e : i = 256
    · subst e; simp
    · rw [if_neg e]
      refine List.mem_append_left _ (List.mem_cons_of_mem _ (List.mem_map.2 ⟨i, ?_, rfl⟩))
      rw [List.mem_range'_1]; omega
theorem okM (i : Nat) (h : i ≤ 256) : okB (boxM i) := by
  unfold boxM
  split
  · exact ok_last
  · exact okF i h

theorem apart_M {i j : Nat} (h : i < j) (hi : i = 0 → j ≠ 256) (hj : j ≤ 256) (h2 : i = 0 ∨ 2 ≤ i) : meetsL (boxM i) (boxM j) = false := by
  unfold boxM
  rw [if_neg (by omega)]
  split
  · unfold meetsL boxF boxL
    exact decide_eq_false (by simp only; omega)
  · exact boxF_apart h
theorem pairs_last (s : Int) (hs : 1 ≤ s) : pairsOf (lastF s) = [(0, keyF s 256)] := by
  have e : (lastF s).map (·.1) = keyF s 0 :: ((List.range' 2 254).map (keyF s) ++ [keyF s 256]) := by
    unfold lastF
    rw [List.map_append, List.map_cons, List.map_map]
    rfl
  have e2 : (List.range' 2 254).map (keyF s) ++ [keyF s 256] = (List.range' 2 255).map (keyF s) := by
    rw [show List.range' 2 255 = List.range' 2 254 ++ [256] from List.range'_1_concat, List.map_append]
    rfl
  have mm : ∀ i j, (i = 0 ∨ 2 ≤ i ∧ i ≤ 256) → (2 ≤ j ∧ j ≤ 256) → meetL (lastF s) (keyF s i) (keyF s j) = meetsL (boxM i) (boxM j) := fun i j hi hj => by
    unfold meetL
    rw [get_last s hs hi, get_last s hs (.inr hj)]
    exact meet_ok (okM i (by omega)) (okM j (by omega))
  unfold pairsOf
  rw [e, e2]
  show (((List.range' 2 255).map (keyF s)).filter fun k => meetL (lastF s) (keyF s 0) k).map (mkP (keyF s 0)) ++ allC (meetL (lastF s)) ((List.range' 2 255).map (keyF s)) = _
  rw [allC_none (m := meetL (lastF s)) (by
    rw [List.pairwise_map]
    refine (List.pairwise_lt_range' 1).imp_of_mem fun {i j} hi hj h => ?_
    have h1 := List.mem_range'_1.1 hi
    have h2 := List.mem_range'_1.1 hj
    rw [mm i j (by omega) (by omega)]
    exact apart_M h (by omega) (by omega) (by omega)), List.append_nil, ← e2, List.filter_append,
    List.filter_eq_nil_iff.2 (fun k hk => by
      obtain ⟨j, hj, rfl⟩ := List.mem_map.1 hk
      have h2 := List.mem_range'_1.1 hj
      rw [mm 0 j (by omega) (by omega), apart_M (by omega) (by omega) (by omega) (by omega)]
      simp), List.nil_append]
  have h0 : meetL (lastF s) (keyF s 0) (keyF s 256) = true := by rw [mm 0 256 (by omega) (by omega)]; decide
  rw [List.filter_cons_of_pos (by exact h0), List.filter_nil]
  have hk0 : keyF s 0 = 0 := by unfold keyF; omega
  have hk := keyF_lt hs (show 0 < 256 by omega)
  rw [hk0] at hk ⊢
  show [mkP 0 (keyF s 256)] = _
  unfold mkP
  rw [Int.min_eq_left (by omega), Int.max_eq_right (by omega)]

theorem hasL_yes {l : Sw} {k : Int} {b : Bx} (h : (k, b) ∈ l) : hasL l k = true := by
  unfold hasL
  exact List.any_eq_true.2 ⟨_, h, by simp⟩
theorem full_laws (s : Int) (hs : 1 ≤ s ∧ s ≤ 1048576) :
    (putE (entF s 256) (256 * s) boxL = 10 ∧ putS (entF s 256) (256 * s) boxL = entF s 256) ∧ (putE (entF s 256) s boxL = 11 ∧ putS (entF s 256) s boxL = entF s 256) ∧
    (dropE (entF s 256) s = 0 ∧ dropS (entF s 256) s = delL (entF s 256) s) ∧ putE (delL (entF s 256) s) (256 * s) boxL = 0 ∧ putS (delL (entF s 256) s) (256 * s) boxL = lastF s := by
  have hl : (entF s 256).length = 256 := by unfold entF; rw [List.length_map, List.length_range]
  have hk := keyF_le hs (show 256 ≤ 256 by omega)
  have e : keyF s 256 = 256 * s := rfl
  rw [e] at hk
  have hno : ∀ p ∈ entF s 256, p.1 ≠ 256 * s := fun p hp => by
    obtain ⟨j, hj, rfl⟩ := List.mem_map.1 hp
    have := keyF_lt hs.1 (List.mem_range.1 hj)
    rw [e] at this
    show keyF s j ≠ _
    omega
  have h1 : keyF s 1 = s := by unfold keyF; omega
  have hyes : hasL (entF s 256) s = true := hasL_yes (b := boxF 1) (List.mem_map.2 ⟨1, by simp, by rw [h1]⟩)
  have hb : chk boxL.1 boxL.2.1 boxL.2.2.1 boxL.2.2.2 = 0 := ok_last
  have a1 : putE (entF s 256) (256 * s) boxL = 10 := by
    unfold putE
    rw [idE_zero (by omega), hb, hasL_no hno, hl]
    simp
  have a2 : putE (entF s 256) s boxL = 11 := by
    unfold putE
    rw [idE_zero (by omega), hb, hyes]
    simp
  have a3 : dropE (entF s 256) s = 0 := by
    unfold dropE
    rw [idE_zero (by omega), hyes]
    simp
  have a4 : putE (delL (entF s 256) s) (256 * s) boxL = 0 := by
    refine putE_zero (by omega) ok_last (fun p hp => hno p (List.mem_filter.1 hp).1) ?_
    rw [delF s hs.1, List.length_cons, List.length_map, List.length_range']
    omega
  refine ⟨⟨a1, ?_⟩, ⟨a2, ?_⟩, ⟨a3, ?_⟩, a4, ?_⟩
  · unfold putS; rw [a1]; simp
  · unfold putS; rw [a2]; simp
  · unfold dropS; rw [a3]; simp
  · rw [putS_zero a4, ← e, putF s hs.1]

end Go.Proofs.Ytmoaefcpbphgmaa

/- The plain law of Pairs: the sweep over left ends finds each pair of boxes that meet once. No program is named here. -/
import Derived.Test.YtcelamaiebjdaaaGreatSort
namespace Go.Proofs.YtcelamaiebjdaaaGreat
open Go.Sort

section
variable (m : Int → Int → Bool)

/-- The pair of two ids. -/
def mkP (x k : Int) : Int × Int := (min x k, max x k)
theorem mkP_comm (x k : Int) : mkP x k = mkP k x := by unfold mkP; rw [Int.min_comm, Int.max_comm]

/-- All pairs of a list that meet, each with those behind it. -/
def allC : List Int → List (Int × Int)
  | [] => []
  | x :: r => (r.filter fun k => m x k).map (mkP x) ++ allC r

variable {m}
theorem allC_snoc (hm : ∀ x y, m x y = m y x) (x : Int) : ∀ r : List Int, (allC m (r ++ [x])).Perm (allC m r ++ (r.filter fun k => m k x).map (mkP x))
  | [] => by simp [allC]
  | y :: r => by
    have ih := allC_snoc hm x r
    simp only [List.cons_append, allC, List.filter_append, List.map_append]
    have e : (List.filter (fun k => m y k) [x]).map (mkP y) = (List.filter (fun k => m k x) [y]).map (mkP x) := by
      simp only [List.filter_cons, List.filter_nil]
      cases m y x <;> simp [mkP_comm]
    rw [e, show List.filter (fun k => m k x) (y :: r) = List.filter (fun k => m k x) [y] ++ r.filter fun k => m k x from by rw [← List.filter_append]; rfl, List.map_append]
    generalize (List.filter (fun k => m k x) [y]).map (mkP x) = A
    generalize (List.filter (fun k => m y k) r).map (mkP y) = C at *
    rw [List.append_assoc, List.append_assoc]
    refine List.Perm.append_left C ?_
    refine ((ih.append_left A).trans ?_)
    rw [← List.append_assoc, ← List.append_assoc]
    exact List.perm_append_comm.append_right _

theorem allC_perm (hm : ∀ x y, m x y = m y x) {xs ys : List Int} (h : xs.Perm ys) : (allC m xs).Perm (allC m ys) := by
  induction h with
  | nil => exact List.Perm.refl _
  | cons x h ih => exact ((h.filter _).map _).append ih
  | swap x y r =>
    simp only [allC, List.filter_cons]
    have hxy := hm y x
    cases h : m x y
    · rw [h] at hxy
      simp only [hxy]
      rw [← List.append_assoc, ← List.append_assoc]
      exact List.perm_append_comm.append_right _
    · rw [h] at hxy
      simp only [hxy, if_true, List.map_cons, List.cons_append, mkP_comm y x]
      refine List.Perm.cons _ ?_
      rw [← List.append_assoc, ← List.append_assoc]
      exact List.perm_append_comm.append_right _
  | trans _ _ h1 h2 => exact h1.trans h2

/-- The pairs of an ascending list, as the reference tells them. -/
theorem allC_asc : ∀ {xs : List Int}, xs.Pairwise (· < ·) → (allC m xs).Pairwise fun p q => p.1 < q.1 ∨ p.1 = q.1 ∧ p.2 < q.2
  | [], _ => List.Pairwise.nil
  | x :: r, h => by
    obtain ⟨h1, h2⟩ := List.pairwise_cons.1 h
    have hmem : ∀ p ∈ allC m r, x < p.1 := by
      have key : ∀ (s : List Int), (∀ y ∈ s, x < y) → ∀ p ∈ allC m s, x < p.1 := by
        intro s
        induction s with
        | nil => intro _ p hp; simp [allC] at hp
        | cons y t ih =>
          intro hs p hp
          rcases List.mem_append.1 hp with hp | hp
          · obtain ⟨k, hk, rfl⟩ := List.mem_map.1 hp
            have a := hs y (by simp)
            have b := hs k (by have := (List.mem_filter.1 hk).1; simp [this])
            unfold mkP; simp only; omega
          · exact ih (fun z hz => hs z (by simp [hz])) p hp
      exact key r h1
    refine List.pairwise_append.2 ⟨?_, allC_asc h2, fun p hp q hq => .inl ?_⟩
    · rw [List.pairwise_map]
      refine (h2.filter _).imp_of_mem fun {a b} ha hb hab => .inr ?_
      have a1 := h1 a (List.mem_filter.1 ha).1
      have b1 := h1 b (List.mem_filter.1 hb).1
      unfold mkP; simp only; omega
    · obtain ⟨k, hk, rfl⟩ := List.mem_map.1 hp
      have k1 := h1 k (List.mem_filter.1 hk).1
      have := hmem q hq
      unfold mkP; simp only; omega

/-- A list that is a permutation of an ascending one, sorted, is that one. -/
theorem sorted_of_perm {xs ys : List (Int × Int)} (hp : xs.Perm ys) (hs : ys.Pairwise fun p q => p.1 < q.1 ∨ p.1 = q.1 ∧ p.2 < q.2) : (xs.mergeSort fun x y => !ltOf cfP y x) = ys := by
  have le : ∀ a b : Int × Int, (!ltOf cfP b a) = true ↔ ¬ (b.1 < a.1 ∨ b.1 = a.1 ∧ b.2 < a.2) := fun a b => by rw [cfP_lt, Bool.not_eq_true', decide_eq_false_iff_not]
  refine List.Perm.eq_of_pairwise (le := fun a b => (!ltOf cfP b a) = true) (fun a b _ _ h1 h2 => ?_) (List.pairwise_mergeSort (fun a b c h1 h2 => ?_) (fun a b => ?_) _) (hs.imp fun {a b} h => ?_) ((List.mergeSort_perm _ _).trans hp)
  · rw [le] at h1 h2; exact Prod.ext (by omega) (by omega)
  · rw [le] at *; omega
  · rw [Bool.or_eq_true, le, le]; omega
  · rw [le]; omega

variable (m) in
/-- What is alive, and what has been found, ahead of the round number j. -/
def liveN (X0 X1 : Int → Int) (xs : List Int) : Nat → List Int
  | 0 => []
  | j + 1 => ((liveN X0 X1 xs j).filter fun k => !decide (X1 k < X0 xs[j]!)) ++ [xs[j]!]
variable (m) in
def outN (X0 X1 : Int → Int) (xs : List Int) : Nat → List (Int × Int)
  | 0 => []
  | j + 1 => outN X0 X1 xs j ++ ((((liveN X0 X1 xs j).filter fun k => !decide (X1 k < X0 xs[j]!)).filter fun k => m k xs[j]!).map (mkP xs[j]!))

theorem take_succ! (xs : List Int) (j : Nat) (hj : j < xs.length) : xs.take (j + 1) = xs.take j ++ [xs[j]!] := by
  rw [List.take_succ_eq_append_getElem hj, getElem!_pos xs j hj]

theorem live_filter {X0 X1 : Int → Int} {xs : List Int} (hx : xs.Pairwise fun a b => X0 a ≤ X0 b) (hm : ∀ x y, m x y = true → X0 y ≤ X1 x) (x : Int) :
    ∀ j, j ≤ xs.length → (∀ i, i < j → X0 xs[i]! ≤ X0 x) → ((liveN X0 X1 xs j).filter fun k => m k x) = (xs.take j).filter fun k => m k x
  | 0, _, _ => by simp [liveN]
  | j + 1, hj, hi => by
    have ih := live_filter hx hm x j (by omega) (fun i h => hi i (by omega))
    rw [liveN, List.filter_append, List.filter_filter, take_succ! xs j (by omega), List.filter_append, ← ih]
    congr 1
    refine List.filter_congr fun k _ => ?_
    cases h : m k x
    · simp
    · have h1 := hm k x h
      have h2 := hi j (by omega)
      rw [show decide (X1 k < X0 xs[j]!) = false from decide_eq_false (by omega)]
      rfl

theorem outN_perm {X0 X1 : Int → Int} {xs : List Int} (hx : xs.Pairwise fun a b => X0 a ≤ X0 b) (hs : ∀ x y, m x y = m y x) (hm : ∀ x y, m x y = true → X0 y ≤ X1 x) :
    ∀ j, j ≤ xs.length → (outN m X0 X1 xs j).Perm (allC m (xs.take j))
  | 0, _ => by simp [outN, allC]
  | j + 1, hj => by
    have ih := outN_perm hx hs hm j (by omega)
    rw [outN, take_succ! xs j (by omega)]
    refine List.Perm.trans ?_ (allC_snoc hs xs[j]! (xs.take j)).symm
    have hle : ∀ i, i < j → X0 xs[i]! ≤ X0 xs[j]! := fun i hi => by
      rw [getElem!_pos xs i (by omega), getElem!_pos xs j (by omega)]
      exact List.pairwise_iff_getElem.1 hx i j (by omega) (by omega) hi
    have e := live_filter hx hm xs[j]! j (by omega) hle
    have e2 : (((liveN X0 X1 xs j).filter fun k => !decide (X1 k < X0 xs[j]!)).filter fun k => m k xs[j]!) = (xs.take j).filter fun k => m k xs[j]! := by
      rw [← e, List.filter_filter]
      refine List.filter_congr fun k _ => ?_
      cases h : m k xs[j]!
      · simp
      · have h1 := hm k xs[j]! h
        rw [show decide (X1 k < X0 xs[j]!) = false from decide_eq_false (by omega)]
        rfl
    rw [e2]
    exact ih.append_right _

/-- PAIRS: what the sweep has found, sorted, is all pairs of the ids in their order. -/
theorem pairs_law {X0 X1 : Int → Int} {xs ids : List Int} (hx : xs.Pairwise fun a b => X0 a ≤ X0 b) (hs : ∀ x y, m x y = m y x) (hm : ∀ x y, m x y = true → X0 y ≤ X1 x) (hp : xs.Perm ids) (ha : ids.Pairwise (· < ·)) :
    ((outN m X0 X1 xs xs.length).mergeSort fun x y => !ltOf cfP y x) = allC m ids := by
  refine sorted_of_perm ?_ (allC_asc ha)
  have h1 := outN_perm hx hs hm xs.length (Nat.le_refl _)
  rw [List.take_length] at h1
  exact h1.trans (allC_perm hs hp)

theorem liveN_mem {X0 X1 : Int → Int} {xs : List Int} : ∀ j, j ≤ xs.length → ∀ k ∈ liveN X0 X1 xs j, k ∈ xs
  | 0, _, k, hk => by simp [liveN] at hk
  | j + 1, hj, k, hk => by
    rw [liveN] at hk
    rcases List.mem_append.1 hk with hk | hk
    · exact liveN_mem j (by omega) k (List.mem_filter.1 hk).1
    · rw [List.mem_singleton.1 hk, getElem!_pos xs j (by omega)]; exact List.getElem_mem _
theorem liveN_len {X0 X1 : Int → Int} {xs : List Int} : ∀ j, (liveN X0 X1 xs j).length ≤ j
  | 0 => by simp [liveN]
  | j + 1 => by
    have := liveN_len (X0 := X0) (X1 := X1) (xs := xs) j
    have h2 := List.length_filter_le (fun k => !decide (X1 k < X0 xs[j]!)) (liveN X0 X1 xs j)
    rw [liveN, List.length_append, List.length_singleton]; omega
theorem outN_len {X0 X1 : Int → Int} {xs : List Int} : ∀ j, (outN m X0 X1 xs j).length ≤ j * j
  | 0 => by simp [outN]
  | j + 1 => by
    have := outN_len (X0 := X0) (X1 := X1) (xs := xs) j
    have h1 := liveN_len (X0 := X0) (X1 := X1) (xs := xs) j
    have h2 := List.length_filter_le (fun k => !decide (X1 k < X0 xs[j]!)) (liveN X0 X1 xs j)
    have h3 := List.length_filter_le (fun k => m k xs[j]!) ((liveN X0 X1 xs j).filter fun k => !decide (X1 k < X0 xs[j]!))
    rw [outN, List.length_append, List.length_map, Nat.add_mul, Nat.mul_add]; omega
end
#print axioms pairs_law
end Go.Proofs.YtcelamaiebjdaaaGreat

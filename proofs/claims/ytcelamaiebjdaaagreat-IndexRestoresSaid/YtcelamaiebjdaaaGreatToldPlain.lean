/- What holds of a table, of the handles that are taken and of those that were ever returned, in plain words. -/
import Derived.Test.YtcelamaiebjdaaaGreatHands
namespace Go.Proofs.YtcelamaiebjdaaaGreat
open Go.RowKit Go.Maps Go.Sort Go.Shelf

/-- The handles of the slots that are taken. -/
def takenH (G : List Int) (T : List Bool) : List (Int × Int) := ((List.range G.length).filter fun i => T.getD i false).map fun i : Nat => ((i : Int), G.getD i 0)

theorem filter_turn {p q : Nat → Bool} {i : Nat} (hp : p i = true) (hq : q i = false) : ∀ {l : List Nat}, l.Nodup → i ∈ l → (∀ j ∈ l, j ≠ i → p j = q j) → (l.filter p).Perm (i :: l.filter q)
  | [], _, hi, _ => by simp at hi
  | a :: r, hn, hi, he => by
    obtain ⟨h1, h2⟩ := List.nodup_cons.1 hn
    by_cases e : a = i
    · subst e
      rw [List.filter_cons_of_pos (by exact hp), List.filter_cons_of_neg (by rw [hq]; simp), List.filter_congr fun j hj => he j (by simp [hj]) (fun e => h1 (by rw [← e]; exact hj))]
    · have hi' : i ∈ r := by
        rcases List.mem_cons.1 hi with h | h
        · exact absurd h.symm e
        · exact h
      have ih := filter_turn hp hq h2 hi' fun j hj hne => he j (by simp [hj]) hne
      have ha := he a (by simp) e
      by_cases hpa : p a = true
      · rw [List.filter_cons_of_pos (by exact hpa), List.filter_cons_of_pos (by rw [← ha]; exact hpa)]
        exact (List.Perm.cons a ih).trans (List.Perm.swap i a _)
      · rw [List.filter_cons_of_neg (by exact hpa), List.filter_cons_of_neg (by rw [← ha]; exact hpa)]
        exact ih

theorem mem_takenH {G : List Int} {T : List Bool} {p : Int × Int} : p ∈ takenH G T ↔ ∃ i : Nat, i < G.length ∧ T.getD i false = true ∧ p = ((i : Int), G.getD i 0) := by
  unfold takenH
  constructor
  · intro h
    obtain ⟨i, hi, rfl⟩ := List.mem_map.1 h
    obtain ⟨h1, h2⟩ := List.mem_filter.1 hi
    exact ⟨i, List.mem_range.1 h1, h2, rfl⟩
  · rintro ⟨i, h1, h2, rfl⟩
    exact List.mem_map.2 ⟨i, List.mem_filter.2 ⟨List.mem_range.2 h1, h2⟩, rfl⟩
theorem has_iff (G : List Int) (T : List Bool) (s g : Int) : hasB G T s g = decide ((s, g) ∈ takenH G T) := by
  rw [Bool.eq_iff_iff, decide_eq_true_eq, mem_takenH]
  unfold hasB atG atB
  constructor
  · intro h
    simp only [Bool.and_eq_true, decide_eq_true_eq, beq_iff_eq] at h
    obtain ⟨⟨h1, h2⟩, h3, h4⟩ := h
    have hc : (decide (0 ≤ s ∧ s < (G.length : Int)) && T.getD s.toNat false) = true := by simp only [Bool.and_eq_true, decide_eq_true_eq]; exact ⟨h1, h2⟩
    rw [if_pos (by simpa using hc)] at h4
    exact ⟨s.toNat, by omega, h2, by rw [← h4]; simp only [Prod.mk.injEq, and_true]; omega⟩
  · rintro ⟨i, h1, h2, h3⟩
    injection h3 with h3 h4
    subst h3 h4
    have hc : (decide (0 ≤ (i : Int) ∧ (i : Int) < (G.length : Int)) && T.getD (i : Int).toNat false) = true := by
      simp only [Bool.and_eq_true, decide_eq_true_eq, Int.toNat_natCast]
      exact ⟨by omega, h2⟩
    rw [hc, if_pos rfl, Int.toNat_natCast]
    simp
theorem getD_set_self {α : Type} {l : List α} {i : Nat} (h : i < l.length) (v d : α) : (l.set i v).getD i d = v := by rw [List.getD_eq_getElem?_getD, List.getElem?_set_self h]; rfl
theorem getD_set_ne {α : Type} {l : List α} {i j : Nat} (h : i ≠ j) (v d : α) : (l.set i v).getD j d = l.getD j d := by rw [List.getD_eq_getElem?_getD, List.getD_eq_getElem?_getD, List.getElem?_set_ne h]
/-- A slot more is taken, with a generation. -/
theorem takenH_set {G : List Int} {T : List Bool} {i : Nat} (hi : i < G.length) (hl : T.length = G.length) (hT : T.getD i false = false) (v : Int) : (takenH (G.set i v) (T.set i true)).Perm (((i : Int), v) :: takenH G T) := by
  unfold takenH
  rw [List.length_set]
  have h := filter_turn (p := fun j => (T.set i true).getD j false) (q := fun j => T.getD j false) (i := i) (getD_set_self (by omega) _ _) hT List.nodup_range (List.mem_range.2 hi) fun j _ hne => getD_set_ne (fun e => hne e.symm) _ _
  refine (h.map _).trans ?_
  rw [List.map_cons, getD_set_self hi]
  refine List.Perm.of_eq ?_
  congr 1
  refine List.map_congr_left fun j hj => ?_
  have hj2 := (List.mem_filter.1 hj).2
  rw [getD_set_ne (fun e => by subst e; rw [hT] at hj2; cases hj2)]
theorem takenH_clear {G : List Int} {T : List Bool} {i : Nat} (hi : i < G.length) (hl : T.length = G.length) (hT : T.getD i false = true) : (takenH G T).Perm (((i : Int), G.getD i 0) :: takenH G (T.set i false)) := by
  have h := filter_turn (p := fun j => T.getD j false) (q := fun j => (T.set i false).getD j false) (i := i) hT (getD_set_self (by omega) _ _) List.nodup_range (List.mem_range.2 hi) fun j _ hne => (getD_set_ne (fun e => hne e.symm) _ _).symm
  exact h.map _

structure Inv (n c : Nat) (G : List Int) (T : List Bool) (L V : List (Int × Int)) : Prop where
  lg : G.length = n
  lt : T.length = n
  bd : ∀ i, i < n → 0 ≤ G.getD i 0 ∧ G.getD i 0 ≤ (c : Int)
  pl : L.Perm (takenH G T)
  vg : ∀ p ∈ V, ∃ i : Nat, i < n ∧ p.1 = (i : Int) ∧ p.2 ≤ G.getD i 0
  cv : V.length ≤ c
theorem inv_init (n : Nat) : Inv n 0 (List.replicate n 0) (List.replicate n false) [] [] := by
  refine ⟨List.length_replicate, List.length_replicate, fun i hi => ?_, ?_, by simp, Nat.le_refl _⟩
  · rw [List.getD_eq_getElem?_getD, List.getElem?_replicate, if_pos hi]; simp
  · refine List.Perm.of_eq ?_
    unfold takenH
    rw [List.filter_eq_nil_iff.2 (fun i _ => by rw [List.getD_eq_getElem?_getD, List.getElem?_replicate]; split <;> simp)]
    rfl
theorem Inv.mono {n c : Nat} {G : List Int} {T : List Bool} {L V : List (Int × Int)} (h : Inv n c G T L V) : Inv n (c + 1) G T L V :=
  ⟨h.lg, h.lt, fun i hi => by have := h.bd i hi; omega, h.pl, h.vg, by have := h.cv; omega⟩
theorem Inv.has {n c : Nat} {G : List Int} {T : List Bool} {L V : List (Int × Int)} (h : Inv n c G T L V) (s g : Int) : hasB G T s g = decide ((s, g) ∈ L) := by
  rw [has_iff, decide_eq_decide]; exact h.pl.mem_iff.symm
theorem takenH_len (G : List Int) (T : List Bool) : (takenH G T).length = ((List.range G.length).filter fun i => T.getD i false).length := by unfold takenH; rw [List.length_map]
theorem Inv.lenL {n c : Nat} {G : List Int} {T : List Bool} {L V : List (Int × Int)} (h : Inv n c G T L V) : L.length ≤ n := by
  rw [h.pl.length_eq, takenH_len, h.lg]
  exact Nat.le_trans (List.length_filter_le _ _) (by rw [List.length_range]; exact Nat.le_refl _)
theorem lenT_eq {T : List Bool} {n : Nat} (hl : T.length = n) (hn : n ≤ 64) : lenT T = ((List.range n).filter fun i => T.getD i false).length := by
  unfold lenT
  obtain ⟨k, hk⟩ : ∃ k, 64 = n + k := ⟨64 - n, by omega⟩
  have e : List.range 64 = List.range n ++ (List.range k).map (n + ·) := by rw [hk, List.range_add]
  rw [e, List.filter_append, (List.filter_eq_nil_iff (l := (List.range k).map (n + ·))).2 (fun i hi => by
    obtain ⟨j, _, rfl⟩ := List.mem_map.1 hi
    rw [List.getD_eq_getElem?_getD, List.getElem?_eq_none (by omega)]
    simp), List.append_nil]
theorem Inv.len {n c : Nat} {G : List Int} {T : List Bool} {L V : List (Int × Int)} (h : Inv n c G T L V) (hn : n ≤ 64) : lenT T = L.length := by
  rw [lenT_eq h.lt hn, h.pl.length_eq, takenH_len, h.lg]
theorem Inv.full {n c : Nat} {G : List Int} {T : List Bool} {L V : List (Int × Int)} (h : Inv n c G T L V) (hl : L.length = n) : takeH G T = (0, 0, 10) ∧ takeG G T = G ∧ takeS G T = T := by
  rw [h.pl.length_eq, takenH_len, h.lg] at hl
  have hall := List.length_filter_eq_length_iff.1 (hl.trans List.length_range.symm)
  have hge : ¬ leastN G T < G.length := fun hlt => by
    have hy := leastN_yes hlt
    have := hall (leastN G T) (List.mem_range.2 (by rw [← h.lg]; exact hlt))
    unfold freeAt at hy
    rw [this] at hy
    simp at hy
  exact ⟨by unfold takeH; rw [if_neg hge], by unfold takeG; rw [if_neg hge], by unfold takeS; rw [if_neg hge]⟩
theorem Inv.take {n c : Nat} {G : List Int} {T : List Bool} {L V : List (Int × Int)} (h : Inv n c G T L V) (hc : c ≤ 1000) (hl : L.length ≠ n) :
    ∃ (i : Nat) (g : Int), i < n ∧ takeH G T = ((i : Int), g, 0) ∧ ((i : Int), g) ∉ V ∧ T.getD i false = false ∧ g = G.getD i 0 + 1 ∧ leastN G T = i ∧ Inv n (c + 1) (takeG G T) (takeS G T) (L ++ [((i : Int), g)]) (V ++ [((i : Int), g)]) := by
  have hlt : leastN G T < G.length := by
    rcases Nat.lt_or_ge (leastN G T) G.length with h1 | h1
    · exact h1
    · exfalso
      apply hl
      rw [h.pl.length_eq, takenH_len, h.lg]
      have : ∀ i ∈ List.range n, T.getD i false = true := fun i hi => by
        have hin := List.mem_range.1 hi
        have h2 := leastN_no (gens := G) (tk := T) (i := i) (by rw [h.lg] at h1; omega)
        have h3 := h.bd i hin
        unfold freeAt at h2
        rw [decide_eq_true (show G.getD i 0 < 2147483647 by omega)] at h2
        simpa using h2
      rw [List.length_filter_eq_length_iff.2 this, List.length_range]
  have hy := leastN_yes hlt
  obtain ⟨i, hi⟩ : ∃ i, leastN G T = i := ⟨_, rfl⟩
  rw [hi] at hlt hy
  unfold freeAt at hy
  simp only [Bool.and_eq_true, Bool.not_eq_true', decide_eq_true_eq] at hy
  have hin : i < n := by rw [← h.lg]; exact hlt
  have eH : takeH G T = ((i : Int), G.getD i 0 + 1, 0) := by unfold takeH; rw [hi, if_pos hlt]
  have eG : takeG G T = G.set i (G.getD i 0 + 1) := by unfold takeG; rw [hi, if_pos hlt]
  have eS : takeS G T = T.set i true := by unfold takeS; rw [hi, if_pos hlt]
  refine ⟨i, G.getD i 0 + 1, hin, eH, fun hm => ?_, hy.1, rfl, hi, ?_⟩
  · obtain ⟨j, hj, h1, h2⟩ := h.vg _ hm
    have h1' : (i : Int) = (j : Int) := h1
    have : i = j := by omega
    subst this
    simp only at h2
    omega
  · rw [eG, eS]
    refine ⟨by rw [List.length_set]; exact h.lg, by rw [List.length_set]; exact h.lt, fun j hj => ?_, ?_, fun p hp => ?_, by rw [List.length_append]; have := h.cv; simp; omega⟩
    · have h1 := h.bd j hj
      by_cases e : i = j
      · subst e; rw [getD_set_self hlt]; omega
      · rw [getD_set_ne e]; omega
    · refine (List.perm_append_singleton _ _).trans ?_
      exact (List.Perm.cons _ h.pl).trans (takenH_set hlt (by rw [h.lt, h.lg]) hy.1 _).symm
    · rcases List.mem_append.1 hp with hp | hp
      · obtain ⟨j, hj, h1, h2⟩ := h.vg p hp
        refine ⟨j, hj, h1, ?_⟩
        by_cases e : i = j
        · subst e; rw [getD_set_self hlt]; omega
        · rw [getD_set_ne e]; exact h2
      · rw [List.mem_singleton.1 hp]
        exact ⟨i, hin, rfl, by rw [getD_set_self hlt]; exact Int.le_refl _⟩
theorem erase_perm {α : Type} {l : List α} {j : Nat} (hj : j < l.length) : (l[j] :: l.eraseIdx j).Perm l := by
  have h := List.perm_middle (a := l[j]) (l₁ := l.take j) (l₂ := l.drop (j + 1))
  rw [← List.drop_eq_getElem_cons hj, List.take_append_drop] at h
  rw [List.eraseIdx_eq_take_drop_succ]
  exact h.symm
theorem Inv.free {n c : Nat} {G : List Int} {T : List Bool} {L V : List (Int × Int)} (h : Inv n c G T L V) {j : Nat} (hj : j < L.length) :
    freeE G T L[j].1 L[j].2 = 0 ∧ Inv n c G (freeS G T L[j].1 L[j].2) (L.eraseIdx j) V := by
  have hm : L[j] ∈ L := List.getElem_mem hj
  have hb : hasB G T L[j].1 L[j].2 = true := by rw [h.has]; exact decide_eq_true hm
  obtain ⟨i, hi, hT, he⟩ := mem_takenH.1 (h.pl.mem_iff.1 hm)
  have eS : freeS G T L[j].1 L[j].2 = T.set i false := by unfold freeS; rw [hb, if_pos rfl, he, Int.toNat_natCast]
  refine ⟨by unfold freeE; rw [hb]; rfl, ?_⟩
  rw [eS]
  refine ⟨h.lg, by rw [List.length_set]; exact h.lt, h.bd, ?_, h.vg, h.cv⟩
  have h1 := (erase_perm hj).trans (h.pl.trans (takenH_clear hi (by rw [h.lt, h.lg]) hT))
  rw [he] at h1
  exact h1.cons_inv

end Go.Proofs.YtcelamaiebjdaaaGreat

/- The tables of IndexWorn, in plain words. -/
import Derived.Test.YtmoaefcpbphgmaaRestore
namespace Go.Proofs.Ytmoaefcpbphgmaa
open Go.RowKit Go.Maps Go.Sort Go.Shelf

/-- How often slots may still be taken in all. -/
def restS (gens : List Int) : Int := (gens.map fun g => 2147483647 - g).sum
def inG (gens : List Int) : Prop := ∀ g ∈ gens, 0 ≤ g ∧ g ≤ 2147483647
def freeN (n : Nat) : List Bool := List.replicate n false
/-- The generations that numbers say. -/
def wornG (xs : List Int) : List Int := xs.map fun x => 2147483647 - x % 4

theorem restS_append (a b : List Int) : restS (a ++ b) = restS a + restS b := by unfold restS; rw [List.map_append, List.sum_append]
theorem restS_cons (g : Int) (r : List Int) : restS (g :: r) = (2147483647 - g) + restS r := by unfold restS; rw [List.map_cons, List.sum_cons]
theorem restS_nonneg : ∀ {gens : List Int}, inG gens → 0 ≤ restS gens
  | [], _ => by simp [restS]
  | g :: r, h => by
    have h1 := h g (by simp)
    have h2 := restS_nonneg (gens := r) fun x hx => h x (by simp [hx])
    rw [restS_cons]; omega
theorem restS_zero : ∀ {gens : List Int}, inG gens → restS gens = 0 → ∀ g ∈ gens, g = 2147483647
  | [], _, _, g, hg => by simp at hg
  | a :: r, h, h0, g, hg => by
    have h1 := h a (by simp)
    have hr : inG r := fun x hx => h x (by simp [hx])
    have h2 := restS_nonneg hr
    rw [restS_cons] at h0
    rcases List.mem_cons.1 hg with rfl | hg
    · omega
    · exact restS_zero hr (by omega) g hg
theorem restS_all : ∀ {gens : List Int}, (∀ g ∈ gens, g = 2147483647) → restS gens = 0
  | [], _ => rfl
  | a :: r, h => by
    have h1 := h a (by simp)
    have h2 := restS_all (gens := r) fun x hx => h x (by simp [hx])
    rw [restS_cons]; omega
theorem restS_set : ∀ {gens : List Int} {i : Nat} (hi : i < gens.length) (v : Int), restS (gens.set i v) = restS gens + gens[i] - v
  | g :: r, 0, _, v => by simp only [List.set_cons_zero, List.getElem_cons_zero, restS_cons]; omega
  | g :: r, i + 1, hi, v => by
    have := restS_set (gens := r) (i := i) (by simpa using hi) v
    simp only [List.set_cons_succ, List.getElem_cons_succ, restS_cons, this]; omega
theorem freeN_get (n i : Nat) : (freeN n).getD i false = false := by
  unfold freeN
  rw [List.getD_eq_getElem?_getD, List.getElem?_replicate]
  split <;> rfl
theorem freeN_getE {n i : Nat} (h : i < (freeN n).length) : (freeN n)[i] = false := by simp [freeN]
theorem inG_wornG (xs : List Int) : inG (wornG xs) := fun g hg => by
  obtain ⟨x, _, rfl⟩ := List.mem_map.1 hg
  omega
theorem restS_wornG : ∀ (xs : List Int), 0 ≤ restS (wornG xs) ∧ restS (wornG xs) ≤ 3 * xs.length
  | [] => by simp [wornG, restS]
  | x :: r => by
    have := restS_wornG r
    show 0 ≤ restS ((2147483647 - x % 4) :: wornG r) ∧ restS ((2147483647 - x % 4) :: wornG r) ≤ _
    rw [restS_cons, List.length_cons]
    omega
theorem rest_ok {gens : List Int} {n : Nat} (hl : gens.length = n) (hn : 1 ≤ n ∧ n ≤ 64) (h : inG gens) : restE gens (freeN n) = 0 := by
  unfold restE
  rw [if_neg (by omega), if_neg (fun h2 => h2 fun i hi => by rw [List.getD_eq_getElem?_getD, List.getElem?_eq_getElem hi]; exact h _ (List.getElem_mem hi)), if_neg (by unfold freeN; rw [List.length_replicate]; omega), if_neg (fun h2 => h2 fun i hi ht => by rw [freeN_get] at ht; cases ht)]

/-- One Take and one Free at a table with nothing taken that is not worn out. -/
theorem worn_step {gens : List Int} {n : Nat} (hl : gens.length = n) (h : inG gens) (hr : 0 < restS gens) :
    ∃ (L : Nat) (g : Int) (G : List Int) (T : List Bool), L < n ∧ (0 ≤ g ∧ g ≤ 2147483647) ∧ takeH gens (freeN n) = ((L : Int), g, 0) ∧ takeG gens (freeN n) = G ∧ takeS gens (freeN n) = T ∧ freeE G T L g = 0 ∧ freeS G T L g = freeN n ∧ hasB G (freeN n) L g = false ∧
      G.length = n ∧ inG G ∧ restS G = restS gens - 1 := by
  have hlt : leastN gens (freeN n) < gens.length := by
    rcases Nat.lt_or_ge (leastN gens (freeN n)) gens.length with h1 | h1
    · exact h1
    · exfalso
      have hz : restS gens = 0 := by
        have : ∀ g ∈ gens, g = 2147483647 := fun g hg => by
          obtain ⟨i, hi, rfl⟩ := List.getElem_of_mem hg
          have h2 := leastN_no (gens := gens) (tk := freeN n) (i := i) (by omega)
          unfold freeAt at h2
          rw [freeN_get, List.getD_eq_getElem?_getD, List.getElem?_eq_getElem hi] at h2
          have h3 := h _ hg
          simp at h2
          omega
        exact restS_all this
      omega
  have hy := leastN_yes hlt
  obtain ⟨L, hL⟩ : ∃ L, leastN gens (freeN n) = L := ⟨_, rfl⟩
  rw [hL] at hlt hy
  have hg : gens.getD L 0 = gens[L] := by rw [List.getD_eq_getElem?_getD, List.getElem?_eq_getElem hlt]; rfl
  unfold freeAt at hy
  rw [freeN_get, hg] at hy
  simp only [Bool.not_false, Bool.true_and, decide_eq_true_eq] at hy
  have hb := h _ (List.getElem_mem hlt)
  have hLn : L < n := by omega
  have eG : takeG gens (freeN n) = gens.set L (gens[L] + 1) := by unfold takeG; rw [hL, if_pos hlt, hg]
  have eS : takeS gens (freeN n) = (freeN n).set L true := by unfold takeS; rw [hL, if_pos hlt]
  have hGl : (gens.set L (gens[L] + 1)).length = n := by rw [List.length_set, hl]
  have hGL : (gens.set L (gens[L] + 1)).getD L 0 = gens[L] + 1 := by rw [List.getD_eq_getElem?_getD, List.getElem?_set_self hlt]; rfl
  have hTL : ((freeN n).set L true).getD L false = true := by rw [List.getD_eq_getElem?_getD, List.getElem?_set_self (by unfold freeN; rw [List.length_replicate]; exact hLn)]; rfl
  have at1 : atB (gens.set L (gens[L] + 1)) ((freeN n).set L true) (L : Int) = true := by
    unfold atB
    rw [Int.toNat_natCast, hTL, hGl, decide_eq_true (by omega)]
    rfl
  have ha1 : hasB (gens.set L (gens[L] + 1)) ((freeN n).set L true) (L : Int) (gens[L] + 1) = true := by
    unfold hasB atG
    rw [at1, if_pos rfl, Int.toNat_natCast, hGL]
    simp
  refine ⟨L, gens[L] + 1, _, _, hLn, by omega, ?_, eG, eS, ?_, ?_, ?_, hGl, ?_, ?_⟩
  · unfold takeH; rw [hL, if_pos hlt, hg]
  · unfold freeE; rw [ha1]; rfl
  · unfold freeS
    rw [ha1, if_pos rfl, Int.toNat_natCast, List.set_set]
    refine List.ext_getElem (by rw [List.length_set]) fun i h1 h2 => ?_
    rw [List.getElem_set]
    split
    · rw [freeN_getE]
    · rfl
  · unfold hasB atB
    rw [freeN_get]
    simp
  · intro g hg2
    rcases List.mem_or_eq_of_mem_set hg2 with h1 | h1
    · exact h g h1
    · rw [h1]; omega
  · rw [restS_set hlt]; omega
theorem worn_end {gens : List Int} {n : Nat} (hl : gens.length = n) (h : inG gens) (hr : restS gens = 0) :
    takeH gens (freeN n) = (0, 0, 10) ∧ takeG gens (freeN n) = gens ∧ takeS gens (freeN n) = freeN n ∧ ∀ i, i < n → genAt gens (i : Int) = 2147483647 := by
  have hall := restS_zero h hr
  have hge : ¬ leastN gens (freeN n) < gens.length := fun hlt => by
    have hy := leastN_yes hlt
    unfold freeAt at hy
    rw [freeN_get, List.getD_eq_getElem?_getD, List.getElem?_eq_getElem hlt] at hy
    have := hall _ (List.getElem_mem hlt)
    simp at hy
    omega
  refine ⟨by unfold takeH; rw [if_neg hge], by unfold takeG; rw [if_neg hge], by unfold takeS; rw [if_neg hge], fun i hi => ?_⟩
  have hin : i < gens.length := by omega
  unfold genAt
  rw [if_pos (by omega), Int.toNat_natCast, List.getD_eq_getElem?_getD, List.getElem?_eq_getElem hin]
  exact hall _ (List.getElem_mem hin)
theorem genAt_get {gens : List Int} {i : Nat} (hi : i < gens.length) : genAt gens (i : Int) = gens[i] := by
  unfold genAt
  rw [if_pos (by omega), Int.toNat_natCast, List.getD_eq_getElem?_getD, List.getElem?_eq_getElem hi]
  rfl

theorem infoBo : (Try.prog.info? 4).map (fun i => (i.zero, i.size, i.bytes)) = some (some (.bool false), 1, 1) := by kernel_rfl
/-- make([]bool, n). -/
theorem makeB (n : Nat) (w : World) (hn : n ≤ 1000) : ∃ w1, (Instr.makeSlice 52 (.int .i64 n) (.int .i64 n)).run Try.prog w = .ok (.slice (some ⟨w.heap.size, 0, none⟩) n n) w1 ∧ RdB w1 (some ⟨w.heap.size, 0, none⟩) (freeN n) ∧ Grew w w1 := by
  obtain ⟨i, hi, hz, h1, h2⟩ := info_parts infoBo
  obtain ⟨w1, hr, ho, hg⟩ := run_make_full (P := Try.prog) w 0 52 4 i _ 1 Try.underlying52 hi hz h1 .i64 .i64 n (by rw [h2]; omega) (by unfold maxLen; omega) (by omega)
  have hgr : Grew w w1 := ⟨hg.os, hg.tape, hg.output, hg.size, fun k hk => hg.block k hk (by simp)⟩
  refine ⟨w1, hr, ?_, hgr⟩
  have hlt := (World.ownsRow.lt ho w.heap.size rfl).2
  refine .inr ⟨⟨w.heap.size, 0, none⟩, rfl, hlt, fun j hj => ?_⟩
  have hjn : j < n := by unfold freeN at hj; rwa [List.length_replicate] at hj
  have el : (madeCells (Value.bool false).cells (n * 1)).toList = List.replicate n (.bool false) := by
    rw [Nat.mul_one, show (Value.bool false).cells = #[.bool false] from rfl, toList_madeCells_one]
  have e : (⟨w.heap.size, 0, none⟩ : Addr).add j = ⟨w.heap.size, j, none⟩ := by unfold Addr.add; split <;> simp_all
  rw [e, World.ownsRow.cellAt (g := w.heap.size) (cap := n) ho j (by omega), el, List.getElem?_replicate, if_pos hjn, freeN_getE]

end Go.Proofs.Ytmoaefcpbphgmaa

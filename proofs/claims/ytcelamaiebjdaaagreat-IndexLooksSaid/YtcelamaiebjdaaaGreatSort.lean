/- Pairs' two calls of slices.SortFunc. -/
import Derived.Test.YtcelamaiebjdaaaGreatCmp
import Derived.Test.YtcelamaiebjdaaaGreatDelete
namespace Go.Proofs.YtcelamaiebjdaaaGreat
open Go.RowKit Go.Maps Go.Sort Go.Shelf

/-- An int64 as a key. -/
abbrev KeyI := { x : Int // I64 x }
instance : Inhabited KeyI := ⟨⟨0, by unfold I64; omega⟩⟩
abbrev encK (x : KeyI) : Value := zV x.1

theorem sortWorld_K (w : World) (blk m : Nat) (dk : Array KeyI) (os : Array Obj) : sortWorld encK w blk 0 m dk os = sortWorld zV w blk 0 m (dk.map (·.1)) os := by
  unfold sortWorld putRow
  congr 2
  funext c
  unfold putCells
  apply Array.ext_getElem?
  intro k
  rw [Array.getElem?_mapIdx, Array.getElem?_mapIdx, Array.size_map]
  congr 1
  funext x
  split
  · rename_i hk
    rw [Nat.sub_zero, getElem!_pos dk k (by omega), getElem!_pos (dk.map (·.1)) k (by simpa using by omega), Array.getElem_map]
  · rfl

set_option maxHeartbeats 1000000 in
theorem sortIds (sb mb ck : Nat) (l : Sw) (xs : List Int) (B : Nat) (v : Value) (W : World) (h : SweepAt W sb mb l) (cc : W.cell? ⟨ck, 0, none⟩ = some (.pointer (some ⟨sb, 0, none⟩))) (hs : SlI W B v xs) (hx : ∀ x ∈ xs, I64 x)
    (hB : sb < B ∧ mb < B) (hck : ck ∉ own v) (hlen : xs.length < 1000000) :
    Calls Tryz.prog 94 #[v, .func (.func 95) #[] #[.pointer (some ⟨ck, 0, none⟩)]] W fun e w' => e = .returned (.tuple #[]) ∧ SlI w' B v (xs.mergeSort fun x y => !ltOf (cfI l) y x) ∧ Kp (own v) W w' := by
  rcases hs.form with ⟨rfl, rfl⟩ | ⟨blk, cap, rfl, hBg, hblk, hcap, hmax⟩
  · refine (AnyF.slices_SortFunc_none { Tryz.sortFA with } none 0 _ W).mono ?_
    rintro e w' ⟨rfl, rfl⟩
    exact ⟨rfl, by rw [List.mergeSort_nil]; exact SlI.nil _ _, Kp.refl _ _⟩
  have hck' : ck ≠ blk := by simpa [own, Value.ownBlock] using hck
  show Calls _ _ _ _ fun e w' => e = .returned (.tuple #[]) ∧ SlI w' B _ _ ∧ Kp [blk] W w'
  have eg : ∀ args w, (callFunc 95 args).run Tryz.prog w = .ok (.enter 95 args) w := enters_of Tryz.func95 (by kernel_rfl) rfl
  obtain ⟨d, hd⟩ : ∃ d : Array KeyI, d = (xs.pmap Subtype.mk hx).toArray := ⟨_, rfl⟩
  have hdl : d.toList.map (·.1) = xs := by rw [hd]; simp [List.map_pmap]
  have hds : d.size = xs.length := by rw [← hdl]; simp
  have hdm : (d.map (·.1)) = xs.toArray := by rw [← hdl, ← Array.toList_map, Array.toArray_toList]
  have hH : Holds encK W blk 0 d := fun j hj => by
    have := hs.holds j (by simpa using (by omega : j < xs.length))
    rw [← hdm, getElem!_pos (d.map (·.1)) j (by simpa using hj), Array.getElem_map] at this
    rw [getElem!_pos d j hj]
    exact this
  have hcmp : CmpLays1 Tryz.prog 95 #[.pointer (some ⟨ck, 0, none⟩)] encK (fun x y => cfI l x.1 y.1) blk 0 d.size W := fun m os dk hdk x y => by
    rw [sortWorld_K]
    have hl : (dk.map (·.1)).toList.length = xs.length := by simp [hdk, hds]
    have ks := (hs.sorted (dk.map (·.1)).toList hl m os).2
    rw [Array.toArray_toList] at ks
    exact closure1 sb mb ck l x.1 y.1 _ (h.kp ks (by simp; omega) (by simp; omega)) (ks.cell cc (by simpa using hck')) x.2 y.2
  have hO : SWO (ltOf fun x y : KeyI => cfI l x.1 y.1) :=
    ⟨fun x => (swoI l).irrefl x.1, fun x y z => (swoI l).trans x.1 y.1 z.1, fun x y z => (swoI l).ntrans x.1 y.1 z.1⟩
  have hcon := Any.slices_SortFunc_total Tryz.sortFA encK (fun _ => rfl) (fun x y => cfI l x.1 y.1) hO 95 #[.pointer (some ⟨ck, 0, none⟩)] blk 0 cap d W eg hcmp hH hblk (by omega) (fun x y h1 h2 => Subtype.ext (totI l x.1 y.1 h1 h2))
  rw [hds] at hcon
  refine hcon.mono ?_
  rintro e w' ⟨rfl, n, os, rfl⟩
  rw [sortWorld_K]
  have em : (d.toList.mergeSort fun x y => !ltOf (fun x y : KeyI => cfI l x.1 y.1) y x).toArray.map (·.1) = (xs.mergeSort fun x y => !ltOf (cfI l) y x).toArray := by
    have e1 := List.map_mergeSort (r := fun x y => !ltOf (fun x y : KeyI => cfI l x.1 y.1) y x) (s := fun x y => !ltOf (cfI l) y x) (f := fun x : KeyI => x.1) (l := d.toList) (fun a _ b _ => rfl)
    rw [hdl] at e1
    rw [List.map_toArray, e1]
  rw [em]
  have := hs.sorted (xs.mergeSort fun x y => !ltOf (cfI l) y x) (by rw [List.length_mergeSort]) n os
  exact ⟨rfl, this⟩

/-- A pair's two cells. -/
def encP (x : Int × Int) : List Value := [.int .i64 x.1, .int .i64 x.2]
def flatP (ps : List (Int × Int)) : List Value := ps.flatMap encP
/-- v is a slice of the pairs ps in memory from block B on, nil if there is none. -/
def SlP (w : World) (B : Nat) (v : Value) (ps : List (Int × Int)) : Prop := w.ownsRow B 83 2 v ps.length (flatP ps)

theorem flatP_length (ps : List (Int × Int)) : (flatP ps).length = ps.length * 2 := by
  induction ps with
  | nil => rfl
  | cons p r ih => simp [flatP, encP] at *; omega
theorem flatP_at (ps : List (Int × Int)) (j : Nat) (hj : j < ps.length * 2) : (flatP ps)[j]? = some ((encP ps[j / 2]!)[j % 2]!) := by
  induction ps generalizing j with
  | nil => simp at hj
  | cons p r ih =>
    match j with
    | 0 => simp [flatP, encP]
    | 1 => simp [flatP, encP]
    | j + 2 =>
      have := ih j (by simp at hj; omega)
      have e : flatP (p :: r) = .int .i64 p.1 :: .int .i64 p.2 :: flatP r := rfl
      rw [e, List.getElem?_cons_succ, List.getElem?_cons_succ, this, show (j + 2) / 2 = j / 2 + 1 by omega, show (j + 2) % 2 = j % 2 by omega]
      simp

theorem SlP.nil (w : World) (B : Nat) : SlP w B (.slice none 0 0) [] := World.ownsRow_nil _ _ _ _
theorem SlP.form {w : World} {B : Nat} {v : Value} {xs : List (Int × Int)} (h : SlP w B v xs) :
    (v = .slice none 0 0 ∧ xs = []) ∨ ∃ g cap, v = .slice (some ⟨g, 0, none⟩) xs.length cap ∧ B ≤ g ∧ g < w.heap.size ∧ xs.length ≤ cap ∧ cap ≤ maxLen := by
  have hlt := World.ownsRow.lt h
  obtain ⟨_, h2⟩ := h
  rcases h2 with ⟨h2, h3⟩ | ⟨g, cap, cur, hv, hg, hh, hn, hm, _⟩
  · exact .inl ⟨h2, List.length_eq_zero_iff.1 h3⟩
  · exact .inr ⟨g, cap, hv, hg, (hlt g (by rw [hv]; rfl)).2, hn, hm⟩
theorem SlP.kp {bs : List Nat} {w w' : World} {B : Nat} {v : Value} {xs : List (Int × Int)} (h : SlP w B v xs) (k : Kp bs w w') (hn : ∀ g, v.ownBlock = some g → g ∉ bs) : SlP w' B v xs := by
  have hlt := World.ownsRow.lt h
  obtain ⟨h1, h2⟩ := h
  refine ⟨h1, ?_⟩
  rcases h2 with h2 | ⟨g, cap, cur, hv, hg, hh, r⟩
  · exact .inl h2
  · have e : v.ownBlock = some g := by rw [hv]; rfl
    exact .inr ⟨g, cap, cur, hv, hg, (k.block g (hlt g e).2 (hn g e)).trans hh, r⟩
theorem SlP.grew {w w' : World} {B : Nat} {v : Value} {xs : List (Int × Int)} (h : SlP w B v xs) (k : Grew w w') : SlP w' B v xs := h.kp (k.kp []) (by simp)
theorem SlP.len {w : World} {B g n cap : Nat} {xs : List (Int × Int)} (h : SlP w B (.slice (some ⟨g, 0, none⟩) n cap) xs) : n = xs.length ∧ B ≤ g ∧ g < w.heap.size ∧ xs.length ≤ cap ∧ cap ≤ maxLen := by
  rcases h.form with ⟨h2, _⟩ | ⟨g', cap', hv, r⟩
  · cases h2
  · simp at hv; obtain ⟨rfl, rfl, rfl⟩ := hv; exact ⟨rfl, r⟩
theorem SlP.cell {w : World} {B g n cap : Nat} {xs : List (Int × Int)} (h : SlP w B (.slice (some ⟨g, 0, none⟩) n cap) xs) (j : Nat) (hj : j < xs.length * 2) : w.cell? ⟨g, j, none⟩ = some ((encP xs[j / 2]!)[j % 2]!) := by
  obtain ⟨rfl, _⟩ := h.len
  rw [World.ownsRow.cellAt (g := g) (cap := cap) h j hj, flatP_at xs j hj]
theorem SlP.free {w : World} {B g n cap : Nat} {xs : List (Int × Int)} (h : SlP w B (.slice (some ⟨g, 0, none⟩) n cap) xs) (j : Nat) : w.frozen? ⟨g, j, none⟩ = false := by
  obtain ⟨rfl, _⟩ := h.len
  exact World.ownsRow.frozenAt (g := g) (cap := cap) h j
theorem SlP.holds {w : World} {B g n cap : Nat} {xs : List (Int × Int)} (h : SlP w B (.slice (some ⟨g, 0, none⟩) n cap) xs) : HoldsK encP 2 w g 0 xs.toArray := fun j hj => by
  have hj' : j < xs.length * 2 := by simpa using hj
  rw [Nat.zero_add]
  refine ⟨?_, h.free j⟩
  rw [h.cell j hj', get_flatK _ _ _ j (by simpa using hj')]
  simp only [List.getElem!_toArray, id]

theorem SlP.sorted {w : World} {B g n cap : Nat} {xs : List (Int × Int)} (h : SlP w B (.slice (some ⟨g, 0, none⟩) n cap) xs) (ys : List (Int × Int)) (hl : ys.length = xs.length) (m : Nat) (os : Array Obj) :
    SlP (sortWorldK encP 2 w g 0 m ys.toArray os) B (.slice (some ⟨g, 0, none⟩) n cap) ys ∧ Kp [g] w (sortWorldK encP 2 w g 0 m ys.toArray os) := by
  obtain ⟨rfl, hB, hg, hn, hm⟩ := h.len
  obtain ⟨_, h2⟩ := h
  have hsz : (putRowK encP 2 (Go.Sort.ahead w m) g 0 ys.toArray).heap.size = w.heap.size := by unfold putRowK; rw [size_putRow]; rfl
  have kp : Kp [g] w (sortWorldK encP 2 w g 0 m ys.toArray os) := by
    refine ⟨rfl, rfl, rfl, ?_, fun k hk hn => ?_⟩
    · show w.heap.size ≤ ((putRowK encP 2 (Go.Sort.ahead w m) g 0 ys.toArray).heap ++ os).size
      rw [Array.size_append, hsz]; omega
    · show ((putRowK encP 2 (Go.Sort.ahead w m) g 0 ys.toArray).heap ++ os)[k]? = _
      rw [Array.getElem?_append_left (by rw [hsz]; exact hk)]
      exact heap_mapBlock_other (by simpa using hn)
  refine ⟨?_, kp⟩
  unfold SlP
  rw [← hl]
  refine ⟨flatP_length _, ?_⟩
  rcases h2 with ⟨h2, _⟩ | ⟨g', cap', cur, hv, hg', hh, hn', hm', hs, ht⟩
  · cases h2
  · simp at hv
    obtain ⟨rfl, rfl⟩ := hv
    have hcs : (putCells id 0 (flatK encP 2 ys.toArray) cur).size = cur.size := by simp [putCells]
    refine .inr ⟨g, cap, putCells id 0 (flatK encP 2 ys.toArray) cur, rfl, hg', ?_, by omega, hm, by rw [hcs]; exact hs, ?_⟩
    · show ((putRowK encP 2 (Go.Sort.ahead w m) g 0 ys.toArray).heap ++ os)[g]? = _
      rw [Array.getElem?_append_left (by rw [hsz]; exact hg)]
      exact heap_mapBlock hh
    · apply List.ext_getElem?
      intro j
      rw [List.getElem?_take]
      by_cases hj : j < ys.length * 2
      · rw [if_pos hj, Array.getElem?_toList, flatP_at ys j hj]
        unfold putCells
        rw [Array.getElem?_mapIdx, Array.getElem?_eq_getElem (by omega)]
        have hj2 : j < ys.toArray.size * 2 := by simpa using hj
        simp only [Option.map_some, Nat.zero_le, true_and, Nat.zero_add, size_flatK, Nat.sub_zero, id]
        rw [if_pos hj2, get_flatK _ _ _ j hj2]
        simp
      · rw [if_neg hj, List.getElem?_eq_none (by rw [flatP_length]; omega)]

/-- The order of pairs. -/
def cfP (x y : Int × Int) : Int := orI (Lib.compareInt x.1 y.1) (Lib.compareInt x.2 y.2)
theorem cfP_lt (x y : Int × Int) : ltOf cfP x y = decide (x.1 < y.1 ∨ x.1 = y.1 ∧ x.2 < y.2) := by
  unfold ltOf cfP orI
  have h1 := @compareInt_lt x.1 y.1
  have h2 := @compareInt_lt x.2 y.2
  rw [decide_eq_decide]
  split <;> omega
theorem swoP : SWO (ltOf cfP) where
  irrefl x := by rw [cfP_lt]; simp
  trans x y z h1 h2 := by rw [cfP_lt] at *; simp only [decide_eq_true_eq] at *; omega
  ntrans x y z h1 h2 := by rw [cfP_lt] at *; simp only [decide_eq_false_iff_not] at *; omega
theorem totP (x y : Int × Int) (h1 : ltOf cfP x y = false) (h2 : ltOf cfP y x = false) : x = y := by
  rw [cfP_lt] at *; simp only [decide_eq_false_iff_not] at *
  exact Prod.ext (by omega) (by omega)

set_option maxHeartbeats 1000000 in
theorem sortPairs (xs : List (Int × Int)) (B : Nat) (v : Value) (W : World) (hs : SlP W B v xs) (hlen : xs.length < 1000000) :
    Calls Tryz.prog 100 #[v, .func (.func 101) #[] #[]] W fun e w' => e = .returned (.tuple #[]) ∧ SlP w' B v (xs.mergeSort fun x y => !ltOf cfP y x) ∧ Kp (own v) W w' := by
  rcases hs.form with ⟨rfl, rfl⟩ | ⟨blk, cap, rfl, hBg, hblk, hcap, hmax⟩
  · refine (AnyF.slices_SortFunc_none Tryz.sortFP none 0 _ W).mono ?_
    rintro e w' ⟨rfl, rfl⟩
    exact ⟨rfl, by rw [List.mergeSort_nil]; exact SlP.nil _ _, Kp.refl _ _⟩
  show Calls _ _ _ _ fun e w' => e = .returned (.tuple #[]) ∧ SlP w' B _ _ ∧ Kp [blk] W w'
  have eg : ∀ args w, (callFunc 101 args).run Tryz.prog w = .ok (.enter 101 args) w := enters_of Tryz.func101 (by kernel_rfl) rfl
  have hcmp : CmpLays Tryz.prog 101 #[] encP 2 cfP blk 0 xs.toArray.size W := fun m os dk hdk x y => closure3 x.1 x.2 y.1 y.2 _
  have hcon := AnyQ.slices_SortFunc_total Tryz.sortFP 2 Tryz.isAgg83 Tryz.sizeOf83 encP (fun _ => rfl) (fun x v hv => by simp [encP] at hv; rcases hv with rfl | rfl <;> rfl) cfP swoP 101 #[] blk 0 cap xs.toArray W eg hcmp hs.holds hblk (by simp; omega) totP
  rw [show xs.toArray.size = xs.length from by simp] at hcon
  refine hcon.mono ?_
  rintro e w' ⟨rfl, n, os, rfl⟩
  have := hs.sorted (xs.mergeSort fun x y => !ltOf cfP y x) (by rw [List.length_mergeSort]) n os
  exact ⟨rfl, this⟩

#print axioms sortIds
#print axioms sortPairs
end Go.Proofs.YtcelamaiebjdaaaGreat

/- Slices that came in, whatever their elements; of integers, of truth values. -/
import Derived.Test.YtcelamaiebjdaaaGreatGate2
import Derived.Test.YtcelamaiebjdaaaGreatKinds
import Derived.Deep.Slices
import Derived.Deep.Strs
import Derived.Deep.Grids
namespace Go.Proofs.YtcelamaiebjdaaaGreat
open Go.ChangeShapes Go.WideShapes Go.ChangeAt Go.RowKit Go.Lib Go.Joins Go.Deep

set_option maxRecDepth 100000 in
/-- A slice whose elements' cells are told: what lies there. -/
theorem open_rdK {α : Type} [Inhabited α] (K : Kind α) (Q : α → Prop) {H : Type} {enc : TypeId × Value → H} {W : World} (hC : Tryz.prog.cellsOf K.ty = K.size)
    (dec : ∀ n cs y, DataW.trod enc Tryz.prog W 0 (fun _ => true) true n K.ty cs = some y → ∃ x, K.enc x = cs ∧ Q x)
    {v : Value} {d : DataW H} {p : List MemPlace} (hv : Value.okWide Tryz.prog W .any 0 K.sl v) (h : DataW.Trod enc Tryz.prog W 0 (fun _ => true) true K.sl v d p) :
    ∃ (ad : Option Addr) (cap : Nat) (xs : List α), v = .slice ad xs.length cap ∧ xs.length ≤ maxLen ∧ (Rd K W ad xs ∧ (ad = none → cap = 0)) ∧ ∀ x ∈ xs, Q x := by
  obtain ⟨a0, len, cap, rfl⟩ := okWide_slice K.under hv
  obtain ⟨fuel, hf⟩ := h
  rcases open_slice K.under hf with ⟨hcs, _⟩ | ⟨a, len', cap', m, n, D, Pl, hcs, _, hl, hm, hmm, _, hx⟩
  · simp [Value.cells] at hcs
    obtain ⟨rfl, rfl, rfl⟩ := hcs
    exact ⟨none, 0, [], rfl, Nat.zero_le _, ⟨.inl rfl, fun _ => rfl⟩, by simp⟩
  · simp [Value.cells] at hcs
    obtain ⟨rfl, rfl, rfl⟩ := hcs
    simp only [if_true] at hmm
    subst hmm
    obtain ⟨f, hf⟩ := choose_lt (α := α) (n := m) (p := fun i x => Q x ∧ ∀ r, r < K.size → W.cell? (a.add (i * K.size + r)) = (K.enc x)[r]?) (fun i hi => by
      obtain ⟨cs', h1, h2⟩ := hx i hi
      obtain ⟨x, hx1, hx2⟩ := dec _ _ _ h2
      rw [hC] at h1
      obtain ⟨_, _, hcell⟩ := World.cells?_some h1
      refine ⟨x, hx2, fun r hr => ?_⟩
      have := hcell r hr
      rw [add_add] at this
      rw [this, hx1])
    have hln : ((List.range len).map f).length = len := by rw [List.length_map, List.length_range]
    refine ⟨some a, m, (List.range len).map f, by rw [hln], by rw [hln]; omega, ⟨?_, fun h => by cases h⟩, fun x hx => ?_⟩
    · by_cases h0 : len = 0
      · subst h0; exact .inl rfl
      · refine .inr ⟨a, rfl, ?_, fun j u hu => ?_⟩
        · have h2 := (hf 0 (by omega)).2 0 K.pos
          rw [List.getElem?_eq_getElem (by rw [K.len]; exact K.pos)] at h2
          have := lt_of_cellA h2
          rwa [block_add] at this
        · have hj : j < len * K.size := by
            have h2 : j < (K.flat ((List.range len).map f)).length := by
              rcases Nat.lt_or_ge j (K.flat ((List.range len).map f)).length with h3 | h3
              · exact h3
              · rw [List.getElem?_eq_none h3] at hu; cases hu
            rwa [Kind.flat_length, hln] at h2
          have hd : j / K.size < len := Nat.div_lt_of_lt_mul (by rw [Nat.mul_comm]; exact hj)
          have hr : j % K.size < K.size := Nat.mod_lt _ K.pos
          have hjj : j / K.size * K.size + j % K.size = j := by rw [Nat.mul_comm]; exact Nat.div_add_mod j K.size
          have h2 := Kind.flat_at (K := K) ((List.range len).map f) (j / K.size) (j % K.size) (by rw [hln]; exact hd) hr
          rw [hjj, hu] at h2
          have h3 := (hf (j / K.size) (by omega)).2 _ hr
          rw [hjj] at h3
          rw [h3, h2]
          simp only [List.getElem_map, List.getElem_range]
          rw [List.getElem?_eq_getElem]
    · obtain ⟨i, hi, rfl⟩ := List.mem_map.1 hx
      exact (hf i (by have := List.mem_range.1 hi; omega)).1

set_option maxRecDepth 100000 in
theorem open_rdJ {H : Type} {enc : TypeId × Value → H} {W : World} {v : Value} {d : DataW H} {p : List MemPlace} (hv : Value.okWide Tryz.prog W .any 0 22 v) (h : DataW.Trod enc Tryz.prog W 0 (fun _ => true) true 22 v d p) :
    ∃ (ad : Option Addr) (cap : Nat) (xs : List Int), v = .slice ad xs.length cap ∧ xs.length ≤ maxLen ∧ (Rd kI W ad xs ∧ (ad = none → cap = 0)) := by
  have hC : Tryz.prog.cellsOf 3 = 1 := by kernel_rfl
  obtain ⟨ad, cap, xs, h1, h2, h3, -⟩ := open_rdK kI (fun _ => True) (enc := enc) (W := W) hC (fun n cs y hy => by
    obtain ⟨a0, e0, -, -⟩ := DataW.trod_int Tryz.underlying3 hy
    exact ⟨a0, by rw [e0]; rfl, trivial⟩) hv h
  exact ⟨ad, cap, xs, h1, h2, h3⟩
set_option maxRecDepth 100000 in
theorem open_rdB {H : Type} {enc : TypeId × Value → H} {W : World} {v : Value} {d : DataW H} {p : List MemPlace} (hv : Value.okWide Tryz.prog W .any 0 61 v) (h : DataW.Trod enc Tryz.prog W 0 (fun _ => true) true 61 v d p) :
    ∃ (ad : Option Addr) (cap : Nat) (xs : List Bool), v = .slice ad xs.length cap ∧ xs.length ≤ maxLen ∧ (Rd kB W ad xs ∧ (ad = none → cap = 0)) := by
  have hC : Tryz.prog.cellsOf 4 = 1 := by kernel_rfl
  obtain ⟨ad, cap, xs, h1, h2, h3, -⟩ := open_rdK kB (fun _ => True) (enc := enc) (W := W) hC (fun n cs y hy => by
    obtain ⟨a0, e0, -⟩ := DataW.trod_bool Tryz.underlying4 hy
    exact ⟨a0, by rw [e0]; rfl, trivial⟩) hv h
  exact ⟨ad, cap, xs, h1, h2, h3⟩

end Go.Proofs.YtcelamaiebjdaaaGreat

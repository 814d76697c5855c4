/- Words on worlds that the walks of this claim share: what a call may leave behind. No program is named here. -/
import Derived.Test.YtcelamaiebjdaaaGreatProg
import Derived.WalkKit
import Derived.WalkSpells
import Derived.WalkLawsBesides
import Derived.Handy
import Derived.Lib.Hide
import Derived.Lib.MinMax
import Derived.Maps.OwnSet
import Derived.Sort.Grow
import Derived.Sort.Row
namespace Go.Proofs.YtcelamaiebjdaaaGreat
open Go.RowKit

/-- Some draws and some new blocks: nothing that lay there has turned. -/
structure Grew (w w' : World) : Prop where
  os : w'.os = w.os
  tape : w'.tape = w.tape
  output : w'.output = w.output
  size : w.heap.size ≤ w'.heap.size
  block : ∀ k, k < w.heap.size → w'.heap[k]? = w.heap[k]?

theorem Grew.refl (w : World) : Grew w w := ⟨rfl, rfl, rfl, Nat.le_refl _, fun _ _ => rfl⟩
theorem Grew.trans {a b c : World} (h : Grew a b) (k : Grew b c) : Grew a c :=
  ⟨k.os.trans h.os, k.tape.trans h.tape, k.output.trans h.output, Nat.le_trans h.size k.size,
    fun i hi => (k.block i (Nat.lt_of_lt_of_le hi h.size)).trans (h.block i hi)⟩
theorem Grew.below {a b : World} (h : Grew a b) : Below a.heap.size a b := ⟨h.os, h.tape, h.output, h.size, h.block⟩
theorem Grew.of_below {a b : World} (h : Below a.heap.size a b) : Grew a b := ⟨h.os, h.tape, h.output, h.size, h.block⟩
theorem Grew.drew {a w : World} (h : Grew a w) : Grew a w.drew := ⟨h.os, h.tape, h.output, h.size, h.block⟩
theorem Grew.drewN {a w : World} (h : Grew a w) (n : Nat) : Grew a (w.drewN n) := ⟨h.os, h.tape, h.output, h.size, h.block⟩
theorem Grew.alloc {a w : World} (h : Grew a w) (o : Obj) : Grew a (w.alloc o) :=
  h.trans ⟨rfl, rfl, rfl, by simp, fun k hk => Below.heap_alloc _ _ _ hk⟩
/-- A store into a block that is new. -/
theorem Grew.setCell {a w : World} (h : Grew a w) {p : Addr} (hp : a.heap.size ≤ p.block) (u : Value) : Grew a (w.setCell p u) :=
  ⟨h.os, h.tape, h.output, by simpa [World.setCell] using h.size, fun k hk => (Below.heap_setCell _ _ _ _ (by omega)).trans (h.block k hk)⟩
theorem Grew.cell {w w' : World} (h : Grew w w') {p : Addr} (hp : p.block < w.heap.size) : w'.cell? p = w.cell? p := World.cell?_of_block (w := w) (h.block p.block hp)
theorem Grew.frozen {w w' : World} (h : Grew w w') {p : Addr} (hp : p.block < w.heap.size) : w'.frozen? p = w.frozen? p := World.frozen?_of_block (w := w) (h.block p.block hp)

/-- The cell is there, and may be written. -/
theorem lt_of_cell {w : World} {b o : Nat} {v : Value} (h : w.cell? ⟨b, o, none⟩ = some v) : b < w.heap.size := by
  unfold World.cell? at h
  by_cases hb : b < w.heap.size
  · exact hb
  · rw [Array.getElem?_eq_none (by show w.heap.size ≤ b; omega)] at h; cases h
theorem Grew.cell' {w w' : World} (h : Grew w w') {b o : Nat} {v : Value} (hc : w.cell? ⟨b, o, none⟩ = some v) : w'.cell? ⟨b, o, none⟩ = some v :=
  (h.cell (p := ⟨b, o, none⟩) (lt_of_cell hc)).trans hc

/-- Of what lay there at most the blocks bs have turned; beside that some draws and some new blocks. -/
structure Kp (bs : List Nat) (w w' : World) : Prop where
  os : w'.os = w.os
  tape : w'.tape = w.tape
  output : w'.output = w.output
  size : w.heap.size ≤ w'.heap.size
  block : ∀ k, k < w.heap.size → k ∉ bs → w'.heap[k]? = w.heap[k]?

theorem Grew.kp {w w' : World} (h : Grew w w') (bs : List Nat) : Kp bs w w' := ⟨h.os, h.tape, h.output, h.size, fun k hk _ => h.block k hk⟩
theorem Kp.refl (bs : List Nat) (w : World) : Kp bs w w := (Grew.refl w).kp bs
theorem Kp.then {cs bs : List Nat} {a b c : World} (h : Kp cs a b) (k : Kp bs b c) (hb : ∀ x ∈ bs, x ∈ cs ∨ a.heap.size ≤ x) : Kp cs a c :=
  ⟨k.os.trans h.os, k.tape.trans h.tape, k.output.trans h.output, Nat.le_trans h.size k.size, fun i hi hn =>
    (k.block i (Nat.lt_of_lt_of_le hi h.size) (fun hm => (hb i hm).elim hn (fun hl => Nat.not_lt_of_le hl hi))).trans (h.block i hi hn)⟩
theorem Kp.trans {bs : List Nat} {a b c : World} (h : Kp bs a b) (k : Kp bs b c) : Kp bs a c := h.then k fun _ hx => .inl hx
theorem Kp.mono {cs bs : List Nat} {a b : World} (h : Kp cs a b) (hs : ∀ x ∈ cs, x ∈ bs) : Kp bs a b :=
  ⟨h.os, h.tape, h.output, h.size, fun i hi hn => h.block i hi fun hm => hn (hs i hm)⟩
/-- All that has turned is new. -/
theorem Kp.grew {bs : List Nat} {a b : World} (h : Kp bs a b) (hb : ∀ x ∈ bs, a.heap.size ≤ x) : Grew a b :=
  ⟨h.os, h.tape, h.output, h.size, fun i hi => h.block i hi fun hm => Nat.not_lt_of_le (hb i hm) hi⟩
theorem Kp.cell {bs : List Nat} {w w' : World} (h : Kp bs w w') {b o : Nat} {v : Value} (hc : w.cell? ⟨b, o, none⟩ = some v) (hn : b ∉ bs) : w'.cell? ⟨b, o, none⟩ = some v :=
  (World.cell?_of_block (w := w) (a := ⟨b, o, none⟩) (h.block b (lt_of_cell hc) hn)).trans hc
theorem Kp.drew {bs : List Nat} {a w : World} (h : Kp bs a w) : Kp bs a w.drew := h.trans ((Grew.refl w).drew.kp _)
theorem Kp.alloc {bs : List Nat} {a w : World} (h : Kp bs a w) (o : Obj) : Kp bs a (w.alloc o) := h.trans (((Grew.refl w).alloc o).kp _)
theorem Kp.turned {bs : List Nat} {a w w' : World} {b : Nat} (h : Kp bs a w) (ht : w.mapTurned w' b) (hb : b ∈ bs) : Kp bs a w' := by
  obtain ⟨es, clock, es', clock', hb', rfl⟩ := ht
  exact h.trans ⟨rfl, rfl, rfl, by simp [Go.ChangeMaps.setBlock], fun i _ hn => Go.ChangeMaps.heap_setBlock_other hb' _ (fun e => hn (by rw [e]; exact hb))⟩

/-- As the sort's contracts say it. -/
theorem Grew.grow {w w' : World} (h : Grew w w') (hd : w.drawn ≤ w'.drawn) : ∃ q os', w' = Go.Sort.grow (w.drewN q) os' := by
  refine ⟨w'.drawn - w.drawn, w'.heap.extract w.heap.size w'.heap.size, ?_⟩
  have hh : w.heap ++ w'.heap.extract w.heap.size w'.heap.size = w'.heap := by
    apply Array.ext_getElem?
    intro i
    by_cases hi : i < w.heap.size
    · rw [Array.getElem?_append_left hi]; exact (h.block i hi).symm
    · rw [Array.getElem?_append_right (by omega)]
      rw [Array.getElem?_extract]
      have := h.size
      by_cases h2 : i < w'.heap.size
      · rw [if_pos (by omega)]; congr 1; omega
      · rw [if_neg (by omega), Array.getElem?_eq_none (by omega)]
  have h1 := h.os; have h2 := h.tape; have h3 := h.output; have h4 := hd
  obtain ⟨heap', tape', drawn', os', output'⟩ := w'
  simp only at h1 h2 h3 h4 hh hd
  subst h1 h2 h3
  simp only [Go.Sort.grow, World.drewN, World.mk.injEq, and_true, true_and]
  exact ⟨hh.symm, by omega⟩
theorem Grew.of_grow (w : World) (q : Nat) (os' : Array Obj) : Grew w (Go.Sort.grow (w.drewN q) os') :=
  ⟨rfl, rfl, rfl, by simp [Go.Sort.grow, World.drewN], fun k hk => by
    show (w.heap ++ os')[k]? = _
    rw [Array.getElem?_append_left hk]⟩

theorem run_max_ints4 {P : Program} (w : World) (ts : Array TypeId) (t : TypeId) (k k1 k2 k3 : IntKind) (x y z u : Int) :
    (Builtin.max_ ts t #[.int k x, .int k1 y, .int k2 z, .int k3 u]).run P w = .ok (.int k (max (max (max x y) z) u)) w := by
  have e : ∀ a b : Int, (if b > a then b else a) = max a b := fun a b => by split <;> omega
  simp [Builtin.max_, Builtin.max2, e]
attribute [go_sem high] run_max_ints4

theorem ret_int {k : IntKind} {a b : Int} (h : a = b) : Ending.returned (.int k a) = .returned (.int k b) := by rw [h]
theorem ret_bool {a b : Bool} (h : a = b) : Ending.returned (.bool a) = .returned (.bool b) := by rw [h]
/-- The range of an int64. -/
def I64 (x : Int) : Prop := -9223372036854775808 ≤ x ∧ x ≤ 9223372036854775807

#print axioms Grew.grow
end Go.Proofs.YtcelamaiebjdaaaGreat

/- Slices whatever their elements: what lies there, appends. -/
import Derived.Test.YtcelamaiebjdaaaGreatAppend
import Derived.Test.YtcelamaiebjdaaaGreatKit
import Derived.Deep.AppendSrc
namespace Go.Proofs.YtcelamaiebjdaaaGreat
open Go.RowKit Go.Maps Go.Sort Go.Shelf

/-- A kind of elements: its types, its cells. -/
structure Kind (α : Type) where
  ty : TypeId
  sl : TypeId
  size : Nat
  bytes : Nat
  enc : α → List Value
  zero : Value
  pos : 0 < size
  len : ∀ x, (enc x).length = size
  one : ∀ x, ∀ u ∈ enc x, u.oneCell' = true
  zsz : zero.cells.size = size
  under : Tryz.prog.underlying sl = some (.slice ty)
  info : (Tryz.prog.info? ty).map (fun i => (i.zero, i.size, i.bytes)) = some (some zero, size, bytes)
  small : bytes ≤ 1000

variable {α : Type} {K : Kind α}
def Kind.flat (K : Kind α) (xs : List α) : List Value := xs.flatMap K.enc
theorem Kind.flat_nil : K.flat [] = [] := rfl
theorem Kind.flat_cons (x : α) (xs : List α) : K.flat (x :: xs) = K.enc x ++ K.flat xs := rfl
theorem Kind.flat_append (xs ys : List α) : K.flat (xs ++ ys) = K.flat xs ++ K.flat ys := List.flatMap_append
theorem Kind.flat_one (x : α) : K.flat [x] = K.enc x := by simp [Kind.flat]
theorem Kind.flat_length : ∀ (xs : List α), (K.flat xs).length = xs.length * K.size
  | [] => by simp [Kind.flat]
  | x :: r => by rw [Kind.flat_cons, List.length_append, K.len, Kind.flat_length r, List.length_cons, Nat.succ_mul]; omega
theorem Kind.flat_at : ∀ (xs : List α) (j i : Nat) (hj : j < xs.length) (hi : i < K.size), (K.flat xs)[j * K.size + i]? = some ((K.enc xs[j])[i]'(by rw [K.len]; exact hi))
  | [], j, i, hj, hi => by simp at hj
  | x :: r, 0, i, _, hi => by
    rw [Kind.flat_cons, List.getElem?_append_left (by rw [K.len]; omega), List.getElem?_eq_getElem (by rw [K.len]; omega)]
    simp
  | x :: r, j + 1, i, hj, hi => by
    rw [Kind.flat_cons, List.getElem?_append_right (by rw [K.len, Nat.succ_mul]; omega), K.len, show (j + 1) * K.size + i - K.size = j * K.size + i by rw [Nat.succ_mul]; omega, Kind.flat_at r j i (by simpa using hj) hi]
    simp
theorem Kind.flat_one_cell (xs : List α) : ∀ u ∈ K.flat xs, u.oneCell' = true := fun u hu => by
  obtain ⟨x, _, hx⟩ := List.mem_flatMap.1 hu
  exact K.one x u hx

/-- v is a slice of the elements xs in memory from block B on, nil if it has no address. -/
def Sl (K : Kind α) (w : World) (B : Nat) (v : Value) (xs : List α) : Prop := w.ownsRow B K.ty K.size v xs.length (K.flat xs)

theorem Sl.nil (K : Kind α) (w : World) (B : Nat) : Sl K w B (.slice none 0 0) [] := World.ownsRow_nil _ _ _ _
theorem Sl.form {w : World} {B : Nat} {v : Value} {xs : List α} (h : Sl K w B v xs) :
    (v = .slice none 0 0 ∧ xs = []) ∨ ∃ g cap, v = .slice (some ⟨g, 0, none⟩) xs.length cap ∧ B ≤ g ∧ g < w.heap.size ∧ xs.length ≤ cap ∧ cap ≤ maxLen := by
  have hlt := World.ownsRow.lt h
  obtain ⟨_, h2⟩ := h
  rcases h2 with ⟨h2, h3⟩ | ⟨g, cap, cur, hv, hg, hh, hn, hm, _⟩
  · exact .inl ⟨h2, List.length_eq_zero_iff.1 h3⟩
  · exact .inr ⟨g, cap, hv, hg, (hlt g (by rw [hv]; rfl)).2, hn, hm⟩
theorem Sl.base {w : World} {B B' : Nat} {v : Value} {xs : List α} (h : Sl K w B v xs) (hB : B' ≤ B) : Sl K w B' v xs := by
  obtain ⟨h1, h2⟩ := h
  refine ⟨h1, ?_⟩
  rcases h2 with h2 | ⟨g, cap, cur, hv, hg, r⟩
  · exact .inl h2
  · exact .inr ⟨g, cap, cur, hv, Nat.le_trans hB hg, r⟩
theorem Sl.kp {bs : List Nat} {w w' : World} {B : Nat} {v : Value} {xs : List α} (h : Sl K w B v xs) (k : Kp bs w w') (hn : ∀ g ∈ own v, g ∉ bs) : Sl K w' B v xs := by
  have hlt := World.ownsRow.lt h
  obtain ⟨h1, h2⟩ := h
  refine ⟨h1, ?_⟩
  rcases h2 with h2 | ⟨g, cap, cur, hv, hg, hh, r⟩
  · exact .inl h2
  · have e : v.ownBlock = some g := by rw [hv]; rfl
    exact .inr ⟨g, cap, cur, hv, hg, (k.block g (hlt g e).2 (hn g (mem_own.2 e))).trans hh, r⟩
theorem Sl.grew {w w' : World} {B : Nat} {v : Value} {xs : List α} (h : Sl K w B v xs) (k : Grew w w') : Sl K w' B v xs := h.kp (k.kp []) (by simp)
theorem Sl.shape {w : World} {B : Nat} {v : Value} {xs : List α} (h : Sl K w B v xs) : ∃ p cap, v = .slice p xs.length cap ∧ (0 < xs.length → ∃ g, p = some ⟨g, 0, none⟩) := by
  rcases h.form with ⟨rfl, rfl⟩ | ⟨g, cap, rfl, _⟩
  · exact ⟨none, 0, rfl, fun h => absurd h (Nat.lt_irrefl 0)⟩
  · exact ⟨_, cap, rfl, fun _ => ⟨g, rfl⟩⟩
theorem Sl.own_ge {w : World} {B : Nat} {v : Value} {xs : List α} (h : Sl K w B v xs) : ∀ g ∈ own v, B ≤ g ∧ g < w.heap.size := fun g hg => World.ownsRow.lt h g (by simpa [own] using hg)
theorem Sl.len {w : World} {B g n cap : Nat} {xs : List α} (h : Sl K w B (.slice (some ⟨g, 0, none⟩) n cap) xs) : n = xs.length ∧ B ≤ g ∧ g < w.heap.size ∧ xs.length ≤ cap ∧ cap ≤ maxLen := by
  rcases h.form with ⟨h2, _⟩ | ⟨g', cap', hv, r⟩
  · cases h2
  · simp at hv; obtain ⟨rfl, rfl, rfl⟩ := hv; exact ⟨rfl, r⟩
theorem Sl.cells {w : World} {B g n cap : Nat} {xs : List α} (h : Sl K w B (.slice (some ⟨g, 0, none⟩) n cap) xs) (j : Nat) (u : Value) (hu : (K.flat xs)[j]? = some u) : w.cell? ⟨g, j, none⟩ = some u := by
  obtain ⟨rfl, _⟩ := h.len
  have hj : j < (K.flat xs).length := by
    rcases Nat.lt_or_ge j (K.flat xs).length with h1 | h1
    · exact h1
    · rw [List.getElem?_eq_none h1] at hu; cases hu
  rw [World.ownsRow.cellAt (g := g) (cap := cap) h j (by rw [← Kind.flat_length]; exact hj), hu]
theorem Sl.cell {w : World} {B g n cap : Nat} {xs : List α} (h : Sl K w B (.slice (some ⟨g, 0, none⟩) n cap) xs) (j i : Nat) (hj : j < xs.length) (hi : i < K.size) : w.cell? ⟨g, j * K.size + i, none⟩ = some ((K.enc xs[j])[i]'(by rw [K.len]; exact hi)) :=
  h.cells _ _ (Kind.flat_at xs j i hj hi)
theorem Sl.free {w : World} {B g n cap : Nat} {xs : List α} (h : Sl K w B (.slice (some ⟨g, 0, none⟩) n cap) xs) (j : Nat) : w.frozen? ⟨g, j, none⟩ = false := by
  obtain ⟨rfl, _⟩ := h.len
  exact World.ownsRow.frozenAt (g := g) (cap := cap) h j

/-- A slice literal without elements. -/
theorem Sl.empty (K : Kind α) (w : World) (B : Nat) (hB : B ≤ w.heap.size) : Sl K ((w.alloc (.cells #[] K.ty)).drew) B (.slice (some ⟨w.heap.size, 0, none⟩) 0 0) [] := by
  refine ⟨by simp [Kind.flat], .inr ⟨w.heap.size, 0, #[], rfl, hB, ?_, Nat.le_refl _, Nat.zero_le _, by simp, by simp [Kind.flat]⟩⟩
  show (w.alloc (.cells #[] K.ty)).heap[w.heap.size]? = _
  exact heap_alloc_new w _
/-- At p lie the elements xs, one behind the other. -/
def Rd (K : Kind α) (w : World) (p : Option Addr) (xs : List α) : Prop := xs = [] ∨ ∃ a, p = some a ∧ a.block < w.heap.size ∧ ∀ j u, (K.flat xs)[j]? = some u → w.cell? (a.add j) = some u
theorem Rd.grew {w w' : World} {p : Option Addr} {xs : List α} (h : Rd K w p xs) (g : Grew w w') : Rd K w' p xs := by
  rcases h with h | ⟨a, ha, hb, hc⟩
  · exact .inl h
  · exact .inr ⟨a, ha, Nat.lt_of_lt_of_le hb g.size, fun j u hu => g.cellA hb (hc j u hu)⟩
theorem Rd.kp {bs : List Nat} {w w' : World} {p : Option Addr} {xs : List α} (h : Rd K w p xs) (k : Kp bs w w') (hn : ∀ a, p = some a → a.block ∉ bs) : Rd K w' p xs := by
  rcases h with h | ⟨a, ha, hb, hc⟩
  · exact .inl h
  · exact .inr ⟨a, ha, Nat.lt_of_lt_of_le hb k.size, fun j u hu => (World.cell?_of_block (w := w) (a := a.add j) (by rw [block_add]; exact k.block _ hb (hn a ha))).trans (hc j u hu)⟩
theorem add_zero_off (g o j : Nat) : (⟨g, o, none⟩ : Addr).add j = ⟨g, o + j, none⟩ := by
  unfold Addr.add
  split
  · rename_i h; subst h; rfl
  · rfl
theorem Sl.rd {w : World} {B : Nat} {p : Option Addr} {n cap : Nat} {xs : List α} (h : Sl K w B (.slice p n cap) xs) : Rd K w p xs := by
  rcases h.form with ⟨_, rfl⟩ | ⟨g, cap', hv, _, hg, _⟩
  · exact .inl rfl
  · simp at hv
    obtain ⟨rfl, rfl, rfl⟩ := hv
    exact .inr ⟨_, rfl, hg, fun j u hu => by rw [add_zero_off, Nat.zero_add]; exact h.cells j u hu⟩
/-- A part of such a slice. -/
theorem Sl.rdMid {w : World} {B g n cap : Nat} {xs : List α} (h : Sl K w B (.slice (some ⟨g, 0, none⟩) n cap) xs) (k m : Nat) : Rd K w (some ⟨g, k * K.size, none⟩) ((xs.drop k).take m) := by
  refine .inr ⟨_, rfl, h.len.2.2.1, fun j u hu => ?_⟩
  rw [add_zero_off]
  refine h.cells _ u ?_
  by_cases hk : k ≤ xs.length
  · have e : K.flat xs = K.flat (xs.take k) ++ (K.flat ((xs.drop k).take m) ++ K.flat ((xs.drop k).drop m)) := by
      rw [← Kind.flat_append, List.take_append_drop, ← Kind.flat_append, List.take_append_drop]
    have hl : (K.flat (xs.take k)).length = k * K.size := by rw [Kind.flat_length, List.length_take, Nat.min_eq_left hk]
    have hj : j < (K.flat ((xs.drop k).take m)).length := by
      rcases Nat.lt_or_ge j (K.flat ((xs.drop k).take m)).length with h1 | h1
      · exact h1
      · rw [List.getElem?_eq_none h1] at hu; cases hu
    rw [e, List.getElem?_append_right (by omega), hl, Nat.add_sub_cancel_left, List.getElem?_append_left hj, hu]
  · rw [List.drop_eq_nil_of_le (by omega)] at hu
    simp [Kind.flat] at hu
theorem Rd.cell {w : World} {a : Addr} {xs : List α} (h : Rd K w (some a) xs) (j i : Nat) (hj : j < xs.length) (hi : i < K.size) : w.cell? (a.add (j * K.size + i)) = some ((K.enc xs[j])[i]'(by rw [K.len]; exact hi)) := by
  rcases h with rfl | ⟨a', ha, _, hc⟩
  · simp at hj
  · injection ha with ha
    subst ha
    exact hc _ _ (Kind.flat_at xs j i hj hi)

/-- An append of whatever lies somewhere. -/
theorem append_any (K : Kind α) {w : World} {B : Nat} {v : Value} {xs : List α} (h : Sl K w B v xs) (hB : B ≤ w.heap.size) (p : Option Addr) (c : Nat) (ys : List α) (hy : Rd K w p ys) (hp : p = none → c = 0) (hl : xs.length + ys.length < 1000000) :
    ∃ v' w', (Builtin.append_ #[K.sl, K.sl] K.sl #[v, .slice p ys.length c]).run Tryz.prog w = .ok v' w' ∧ Sl K w' B v' (xs ++ ys) ∧ Kp (own v) w w' ∧ (∀ g ∈ own v', g ∈ own v ∨ w.heap.size ≤ g) ∧ (0 < xs.length + ys.length → ∃ g cap, v' = .slice (some ⟨g, 0, none⟩) (xs.length + ys.length) cap) := by
  obtain ⟨i, hi, hz, h1, h2⟩ := info_parts K.info
  have hb := K.small
  by_cases h0 : ys.length = 0
  · have hys : ys = [] := List.length_eq_zero_iff.1 h0
    subst hys
    refine ⟨v, w, ?_, by rw [List.append_nil]; exact h, Kp.refl _ _, fun g hg => .inl hg, fun hx => ?_⟩
    · have hS : Src Tryz.prog i.size K.sl (.slice p 0 c) 0 [] w := by
        cases p with
        | none => rw [hp rfl]; exact Src.ofNil w K.under 0
        | some a => exact Src.ofSlice w K.under a 0 c [] (by simp) (by simp) (by simp)
      rcases h.form with ⟨rfl, _⟩ | ⟨g, cap, rfl, _, _, hcap, _⟩
      · have hs := hS.len
        have hc := hS.cells
        simp only [List.length_nil]
        simp [Builtin.append_, run_underlying K.under, sizeOf, typeInfo, hi, hs, hc]
      · have := run_append_room_src w K.sl K.sl K.sl K.ty i K.under hi g 0 xs.length cap (.slice p 0 c) 0 [] hS (by omega) (by simp) (by simp)
        simpa [World.setCells] using this
    · obtain ⟨q, cap, rfl, hq⟩ := h.shape
      obtain ⟨g, rfl⟩ := hq (by simpa using hx)
      exact ⟨g, cap, rfl⟩
  · obtain ⟨a, rfl, hab, hca⟩ := hy.resolve_left (by rintro rfl; simp at h0)
    have hbig : (xs.length + ys.length) * K.bytes ≤ 140737488355328 := by
      have : (xs.length + ys.length) * K.bytes ≤ 1000000 * 1000 := Nat.mul_le_mul (by omega) hb
      omega
    obtain ⟨g, cap, w1, hr, ho, hg, hat, hlt⟩ := run_append_lies (P := Tryz.prog) w K.sl K.sl B K.ty i _ K.size K.bytes K.under hi hz h1 h2 K.zsz K.pos v xs.length (K.flat xs) h a ys.length c (K.flat ys) (Kind.flat_length ys) hca (Kind.flat_one_cell ys) (by omega) (by unfold maxLen; omega) hbig hB _ rfl
    refine ⟨_, w1, hr, ?_, kp_of_grownBy hg, fun x hx => ?_, fun _ => ⟨g, cap, rfl⟩⟩
    · unfold Sl
      rw [List.length_append, Kind.flat_append]
      exact ho
    · have e : x = g := by simpa [own, Value.ownBlock] using hx
      subst e
      rcases hat with hat | hat
      · exact .inl (mem_own.2 hat)
      · exact .inr (by omega)

/-- An append at a step of a region that draws its order. -/
theorem stepAppend (K : Kind α) {w : World} {ops : Array Oper} {o : Oper} {a : Act} {Q : Act → World → Prop} {R : Exit → Act → World → Prop} {E : Prop} (hgd : o.guard = none) (s x : Operand)
    (ho : o.op = .call { callee := .builtin .append, args := #[s, x], argTypes := #[K.sl, K.sl] }) (hty : o.type = K.sl) (B : Nat) (v : Value) (xs : List α) (hs : a.eval s = v) (h : Sl K w B v xs) (hB : B ≤ w.heap.size)
    (p : Option Addr) (n c : Nat) (ys : List α) (hn : ys.length = n) (hx : a.eval x = .slice p n c) (hy : Rd K w p ys) (hp : p = none → c = 0) (hl : xs.length + ys.length < 1000000)
    (h6 : ∀ v' w', Sl K w' B v' (xs ++ ys) → Kp (own v) w w' → (∀ g ∈ own v', g ∈ own v ∨ w.heap.size ≤ g) → (0 < xs.length + ys.length → ∃ g cap, v' = .slice (some ⟨g, 0, none⟩) (xs.length + ys.length) cap) → Q (a.put o.dst v') w') :
    if Region.wanted o (yielded ops a.tmps) = true then Oper.wp Tryz.prog o a w Q R else E := by
  subst hn
  obtain ⟨v', w', hr, h1, h2, h3, h4⟩ := append_any K h hB p c ys hy hp hl
  have hw : Region.wanted o (yielded ops a.tmps) = true := by simp [Region.wanted, hgd]
  rw [if_pos hw]
  unfold Oper.wp execOp
  simp only [ho, resolve, invoke, builtin, Sem.run_bind, Sem.run_pure, Result.andThen_ok, List.map_toArray, List.map_cons, List.map_nil, hs, hx, hty, hr]
  exact h6 v' w' h1 h2 h3 h4

end Go.Proofs.YtcelamaiebjdaaaGreat

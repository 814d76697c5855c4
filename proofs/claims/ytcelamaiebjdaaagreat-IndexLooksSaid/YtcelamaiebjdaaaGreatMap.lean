/- The sweep's map from ids to boxes: what it holds is a list of ids and boxes, by ascending ids; what a look-up, a store, a delete and a length do to it. -/
import Derived.Test.YtcelamaiebjdaaaGreatSolid
import Derived.Maps.Own
import Derived.Maps.OwnSet
import Derived.Maps.Views
namespace Go.Proofs.YtcelamaiebjdaaaGreat
open Go.RowKit Go.Maps

abbrev Bx := Int × Int × Int × Int
def bxV (b : Bx) : Value := .agg #[.int .i64 b.1, .int .i64 b.2.1, .int .i64 b.2.2.1, .int .i64 b.2.2.2]
def bx0 : Bx := (0, 0, 0, 0)
abbrev Sw := List (Int × Bx)
def heldR (v : Value) : Option (DataW Value × List MemPlace) := some (.held v, [])
def entL (p : Int × Bx) : Lit × DataW Value := (.int .i64 p.1, .held (bxV p.2))
def dOf (l : Sw) : DataW Value := .map (l.map entL)

def putL : Sw → Int → Bx → Sw
  | [], k, b => [(k, b)]
  | q :: r, k, b => if k < q.1 then (k, b) :: q :: r else if k = q.1 then (k, b) :: r else q :: putL r k b
def delL (l : Sw) (k : Int) : Sw := l.filter fun p => !decide (p.1 = k)
def hasL (l : Sw) (k : Int) : Bool := l.any fun p => decide (p.1 = k)
def getL (l : Sw) (k : Int) : Bx := match l.find? (fun p => decide (p.1 = k)) with | some p => p.2 | none => bx0
def Asc (l : Sw) : Prop := l.Pairwise fun p q => p.1 < q.1

theorem sameKey_ent (a b : Int) : (Lit.int .i64 a).sameKey (.int .i64 b) = decide (a = b) := by simp [Lit.sameKey]

theorem filter_gt {k : Int} : ∀ {r : Sw}, (∀ p ∈ r, k < p.1) → (r.map entL).filter (fun p => !p.1.sameKey (.int .i64 k)) = r.map entL
  | [], _ => rfl
  | q :: r, h => by
    have h1 := h q (by simp)
    have e : (entL q).1.sameKey (.int .i64 k) = false := by
      show (Lit.int .i64 q.1).sameKey _ = false
      rw [sameKey_ent]; simp; omega
    rw [List.map_cons, List.filter_cons, e, filter_gt fun p hp => h p (by simp [hp])]
    rfl
theorem insert_gt {k : Int} {d : DataW Value} : ∀ {r : Sw}, (∀ p ∈ r, k < p.1) → DataW.insert (.int .i64 k, d) (r.map entL) = (.int .i64 k, d) :: r.map entL
  | [], _ => rfl
  | q :: r, h => by
    have h1 := h q (by simp)
    have e : (Lit.int .i64 k).before (entL q).1 = true := by simp [entL, Lit.before, h1]
    rw [List.map_cons, DataW.insert]
    simp [e]

theorem put_aux (k : Int) (b : Bx) : ∀ {l : Sw}, Asc l → DataW.insert (.int .i64 k, .held (bxV b)) ((l.map entL).filter fun p => !p.1.sameKey (.int .i64 k)) = (putL l k b).map entL
  | [], _ => rfl
  | q :: r, h => by
    obtain ⟨h1, h2⟩ := List.pairwise_cons.1 h
    have es : (entL q).1.sameKey (.int .i64 k) = decide (q.1 = k) := sameKey_ent _ _
    unfold putL
    rw [List.map_cons, List.filter_cons, es]
    by_cases c1 : k < q.1
    · have hr : ∀ p ∈ r, k < p.1 := fun p hp => Int.lt_trans c1 (h1 p hp)
      rw [if_pos c1, show decide (q.1 = k) = false by simp; omega, filter_gt hr, if_pos (by rfl), ← List.map_cons, insert_gt (fun p hp => by
        rcases List.mem_cons.1 hp with rfl | hp
        · exact c1
        · exact hr p hp)]
      rfl
    · rw [if_neg c1]
      by_cases c2 : k = q.1
      · have hr : ∀ p ∈ r, k < p.1 := fun p hp => by rw [c2]; exact h1 p hp
        rw [if_pos c2, show decide (q.1 = k) = true by simp [c2], filter_gt hr, if_neg (by decide), insert_gt hr]
        rfl
      · have e : (Lit.int .i64 k).before (entL q).1 = false := by simp [entL, Lit.before]; omega
        rw [if_neg c2, show decide (q.1 = k) = false by simp; omega, if_pos (by rfl), DataW.insert]
        simp only [e, Bool.false_eq_true, if_false, List.map_cons, put_aux k b h2]
theorem dOf_put {l : Sw} (h : Asc l) (k : Int) (b : Bx) : (dOf l).put (.int .i64 k) (.held (bxV b)) = dOf (putL l k b) := by
  show DataW.map _ = DataW.map _
  rw [put_aux k b h]
theorem del_aux (k : Int) (l : Sw) : (l.map entL).filter (fun p => !p.1.sameKey (.int .i64 k)) = (delL l k).map entL := by
  unfold delL
  rw [List.filter_map]
  congr 1
  refine List.filter_congr fun p _ => ?_
  simp [Function.comp, entL, sameKey_ent]
theorem dOf_del (l : Sw) (k : Int) : (dOf l).del (.int .i64 k) = dOf (delL l k) := by
  show DataW.map _ = DataW.map _
  rw [del_aux]
theorem dOf_has (l : Sw) (k : Int) : Maps.has (dOf l) (.int .i64 k) = hasL l k := by
  unfold dOf hasL
  rw [Maps.has_eq, List.any_map]
  congr 1
  funext p
  exact sameKey_ent _ _
theorem dOf_size (l : Sw) : Maps.size (dOf l) = l.length := by simp [dOf, Maps.size]
theorem dOf_at (l : Sw) (k : Int) : (dOf l).atKey (.int .i64 k) (.held (bxV bx0)) = .held (bxV (getL l k)) := by
  unfold dOf DataW.atKey getL
  simp only
  rw [List.find?_map]
  have e : ((fun p : Lit × DataW Value => p.1.sameKey (.int .i64 k)) ∘ entL) = fun p => decide (p.1 = k) := by
    funext p; exact sameKey_ent _ _
  rw [e]
  cases l.find? (fun p => decide (p.1 = k)) <;> rfl

theorem mem_putL {p : Int × Bx} {k : Int} {b : Bx} : ∀ {l : Sw}, p ∈ putL l k b → p = (k, b) ∨ p ∈ l
  | [], h => by simpa [putL] using h
  | q :: r, h => by
    unfold putL at h
    split at h
    · simpa using h
    · split at h
      · rcases List.mem_cons.1 h with h | h
        · exact .inl h
        · exact .inr (by simp [h])
      · rcases List.mem_cons.1 h with h | h
        · exact .inr (by simp [h])
        · rcases mem_putL h with h | h
          · exact .inl h
          · exact .inr (by simp [h])
theorem asc_put {k : Int} {b : Bx} : ∀ {l : Sw}, Asc l → Asc (putL l k b)
  | [], _ => by simp [putL, Asc]
  | q :: r, h => by
    obtain ⟨h1, h2⟩ := List.pairwise_cons.1 h
    unfold putL
    split
    · rename_i c
      refine List.pairwise_cons.2 ⟨fun p hp => ?_, h⟩
      rcases List.mem_cons.1 hp with rfl | hp
      · exact c
      · exact Int.lt_trans c (h1 p hp)
    · split
      · rename_i c1 c2
        exact List.pairwise_cons.2 ⟨fun p hp => by show k < p.1; rw [c2]; exact h1 p hp, h2⟩
      · rename_i c1 c2
        refine List.pairwise_cons.2 ⟨fun p hp => ?_, asc_put h2⟩
        rcases mem_putL hp with rfl | hp
        · show q.1 < k; omega
        · exact h1 p hp
theorem length_put {k : Int} {b : Bx} : ∀ {l : Sw}, Asc l → (putL l k b).length = if hasL l k = true then l.length else l.length + 1
  | [], _ => by simp [putL, hasL]
  | q :: r, h => by
    obtain ⟨h1, h2⟩ := List.pairwise_cons.1 h
    have eh : hasL (q :: r) k = (decide (q.1 = k) || hasL r k) := by simp [hasL]
    unfold putL
    split
    · rename_i c
      have e2 : hasL r k = false := by
        unfold hasL; rw [List.any_eq_false]; intro p hp; have := h1 p hp; simp; omega
      have e3 : decide (q.1 = k) = false := by simp; omega
      rw [eh, e2, e3]; simp
    · split
      · rename_i c1 c2
        have e3 : decide (q.1 = k) = true := by simp [c2]
        rw [eh, e3]; simp
      · rename_i c1 c2
        have e3 : decide (q.1 = k) = false := by simp; omega
        rw [eh, e3, List.length_cons, length_put h2]
        simp only [Bool.false_or, List.length_cons]
        split <;> rfl
theorem asc_del {k : Int} {l : Sw} (h : Asc l) : Asc (delL l k) := h.filter _
theorem mem_delL {p : Int × Bx} {k : Int} {l : Sw} (h : p ∈ delL l k) : p ∈ l := (List.mem_filter.1 h).1

/-- Block mb is the map of the list l. -/
def MapAt (w : World) (mb : Nat) (l : Sw) : Prop := ∃ n, w.ownsMap Tryz.prog 3 heldR mb n (dOf l)

theorem keyed : Keyed Tryz.prog 3 := int_keyed Tryz.underlying3
theorem keyOf_mk {k : Int} (hk : I64 k) : keyOf Tryz.prog 3 (.int .i64 k) = some (.int .i64 k) := keyOf_int_mk Tryz.underlying3 (WalkArith.wf_i64 hk)
theorem zeroBox (w : World) : (zeroValue 32).run Tryz.prog w = .ok (bxV bx0) w := by kernel_rfl

theorem MapAt.size {w : World} {mb : Nat} {l : Sw} (h : MapAt w mb l) : w.ownsMap Tryz.prog 3 heldR mb l.length (dOf l) := by
  obtain ⟨n, es, clock, hb, F, hs, hD⟩ := h
  refine ⟨es, clock, hb, F, ?_, hD⟩
  have e := congrArg Maps.size hD
  rw [dOf_size] at e
  rw [e]
  simp [Maps.size, length_sorted]
theorem MapAt.look {w : World} {mb : Nat} {l : Sw} (h : MapAt w mb l) {k : Int} (hk : I64 k) :
    (Instr.lookup 84 (.map (some mb)) (.int .i64 k) false).run Tryz.prog w = .ok (bxV (getL l k)) w := by
  obtain ⟨v, ps, hr, hv⟩ := h.size.lookup keyed Tryz.underlying84 (zeroBox w) (zd := .held (bxV bx0)) (zp := []) rfl (keyOf_mk hk)
  rw [dOf_at] at hv
  simp only [heldR, Option.some.injEq, Prod.mk.injEq, DataW.held.injEq] at hv
  rw [hr, hv.1]
theorem MapAt.look_ok {w : World} {mb : Nat} {l : Sw} (h : MapAt w mb l) {k : Int} (hk : I64 k) :
    (Instr.lookup 84 (.map (some mb)) (.int .i64 k) true).run Tryz.prog w = .ok (.tuple #[bxV (getL l k), .bool (hasL l k)]) w := by
  obtain ⟨v, ps, hr, hv⟩ := h.size.look_ok keyed Tryz.underlying84 (zeroBox w) (zd := .held (bxV bx0)) (zp := []) rfl (keyOf_mk hk)
  rw [dOf_at] at hv
  simp only [heldR, Option.some.injEq, Prod.mk.injEq, DataW.held.injEq] at hv
  rw [hr, hv.1, dOf_has]
theorem MapAt.len {w : World} {mb : Nat} {l : Sw} (h : MapAt w mb l) (ty : TypeId) : (Builtin.len_ #[84] ty #[.map (some mb)]).run Tryz.prog w = .ok (.int .i64 l.length) w := by
  rw [h.size.len Tryz.underlying84 ty, dOf_size]
theorem MapAt.store {w : World} {mb : Nat} {l : Sw} (h : MapAt w mb l) (ha : Asc l) (hn : l.length < maxLen) {k : Int} (hk : I64 k) (b : Bx) :
    ∃ w', (Instr.mapUpdate 84 (.map (some mb)) (.int .i64 k) (bxV b)).run Tryz.prog w = .ok () w' ∧ MapAt w' mb (putL l k b) ∧ w.mapTurned w' mb := by
  obtain ⟨w', hr, ho, ht⟩ := h.size.store keyed Tryz.underlying84 hn (keyOf_mk hk) (val := bxV b) (d := .held (bxV b)) (ps := []) rfl
  rw [dOf_put ha] at ho
  exact ⟨w', hr, ⟨_, ho⟩, ht⟩
theorem MapAt.drop {w : World} {mb : Nat} {l : Sw} (h : MapAt w mb l) {k : Int} (hk : I64 k) (ty : TypeId) :
    ∃ w', (Builtin.delete_ #[84, 3] ty #[.map (some mb), .int .i64 k]).run Tryz.prog w = .ok (.tuple #[]) w' ∧ MapAt w' mb (delL l k) ∧ w.mapTurned w' mb := by
  obtain ⟨w', hr, ho, ht⟩ := h.size.drop keyed Tryz.underlying84 (keyOf_mk hk) ty
  rw [dOf_del] at ho
  exact ⟨w', hr, ⟨_, ho⟩, ht⟩
theorem MapAt.made (w : World) : MapAt (w.alloc (.map #[] 0)) w.heap.size [] := ⟨0, World.ownsMap_made w _ _ _⟩
theorem MapAt.lt {w : World} {mb : Nat} {l : Sw} (h : MapAt w mb l) : mb < w.heap.size := by obtain ⟨n, h⟩ := h; exact h.lt
theorem MapAt.of_block {w w' : World} {mb : Nat} {l : Sw} (h : MapAt w mb l) (hb : w'.heap[mb]? = w.heap[mb]?) : MapAt w' mb l := by
  obtain ⟨n, es, clock, hb', r⟩ := h
  exact ⟨n, es, clock, hb.trans hb', r⟩
/-- A map is no row of cells. -/
theorem MapAt.ne {w : World} {mb sb o : Nat} {l : Sw} {v : Value} (h : MapAt w mb l) (hc : w.cell? ⟨sb, o, none⟩ = some v) : sb ≠ mb := by
  rintro rfl
  obtain ⟨n, es, clock, hb, _⟩ := h
  unfold World.cell? at hc
  rw [show (Addr.block ⟨sb, o, none⟩) = sb from rfl, hb] at hc
  cases hc

theorem field_box0 (a b c d : Int) (w : World) : (Instr.field 32 (.agg #[.int .i64 a, .int .i64 b, .int .i64 c, .int .i64 d]) 0).run Tryz.prog w = .ok (.int .i64 a) w := by kernel_rfl
theorem field_box2 (a b c d : Int) (w : World) : (Instr.field 32 (.agg #[.int .i64 a, .int .i64 b, .int .i64 c, .int .i64 d]) 2).run Tryz.prog w = .ok (.int .i64 c) w := by kernel_rfl

#print axioms MapAt.store
end Go.Proofs.YtcelamaiebjdaaaGreat

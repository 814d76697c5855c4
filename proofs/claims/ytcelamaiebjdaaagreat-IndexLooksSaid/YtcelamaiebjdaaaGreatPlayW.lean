/- What holds between the acts that are done to a sweep. -/
import Derived.Test.YtcelamaiebjdaaaGreatDone
namespace Go.Proofs.YtcelamaiebjdaaaGreat
open Go.RowKit Go.Maps Go.Sort Go.Shelf

theorem eqSweeps {w : World} {a b : Nat} {v : Value} (h : Lone w a) (hab : a ≠ b) (hb : w.cell? ⟨b, 0, none⟩ = some v) :
    (binOp .eql 25 (.pointer (some ⟨a, 0, none⟩)) (.pointer (some ⟨b, 0, none⟩))).run Tryz.prog w = .ok (.bool false) w := by
  have hS : (Tryz.prog.info? 86).map (fun i => decide (i.size ≠ 0)) = some true := by kernel_rfl
  obtain ⟨j, hj, hz⟩ := Option.map_eq_some_iff.1 hS
  have hz := of_decide_eq_true hz
  have h : ∀ d : Nat, (Op.equalIn (d + 1) 25 (.pointer (some ⟨a, 0, none⟩)) (.pointer (some ⟨b, 0, none⟩))).run Tryz.prog w = .ok false w := fun d => by
    simp [Op.equalIn, run_underlying Tryz.underlying25, sizeOf, typeInfo, hj, hz, h.other hab hb]
  simp only [binOp]
  simp [Op.equal, Op.maxDepth, h 9999]

/-- Acts of a sweep. -/
def kC : Kind (Int × Int × Bx) where
  ty := 44
  sl := 38
  size := 6
  bytes := 48
  enc := fun x => [.int .i64 x.1, .int .i64 x.2.1, .int .i64 x.2.2.1, .int .i64 x.2.2.2.1, .int .i64 x.2.2.2.2.1, .int .i64 x.2.2.2.2.2]
  zero := .agg #[.int .i64 0, .int .i64 0, .int .i64 0, .int .i64 0, .int .i64 0, .int .i64 0]
  pos := by decide
  len := fun _ => rfl
  one := fun x u hu => by simp at hu; rcases hu with rfl | rfl | rfl | rfl | rfl | rfl <;> rfl
  zsz := rfl
  under := Tryz.underlying38
  info := by kernel_rfl
  small := by decide
/-- The numbers of an act are an int64's. -/
def actI (x : Int × Int × Bx) : Prop := I64 x.2.1 ∧ I64 x.2.2.1 ∧ I64 x.2.2.2.1 ∧ I64 x.2.2.2.2.1 ∧ I64 x.2.2.2.2.2

structure PlayW (w wr : World) (sb mb rb : Nat) (v : Value) (L : Sw) (lb lm qb : Nat) (u : Value) (L0 : Sw) : Prop where
  s : SweepAt wr sb mb L
  r : RefSw wr rb v L
  l : SweepAt wr lb lm L0
  q : RefSw wr qb u L0
  g : Grew w wr
  ge : ∀ b ∈ mb :: rb :: own v, w.heap.size ≤ b
  d1 : Apart sb mb rb v
  d2 : ∀ b ∈ lb :: lm :: qb :: own u, b ∉ mb :: rb :: own v

section
variable {w wr w2 : World} {sb mb rb : Nat} {v : Value} {L : Sw} {lb lm qb : Nat} {u : Value} {L0 : Sw}
theorem PlayW.grew (p : PlayW w wr sb mb rb v L lb lm qb u L0) (g : Grew wr w2) : PlayW w w2 sb mb rb v L lb lm qb u L0 :=
  ⟨p.s.grew g, p.r.grew g, p.l.grew g, p.q.grew g, p.g.trans g, p.ge, p.d1, p.d2⟩
theorem PlayW.acted (p : PlayW w wr sb mb rb v L lb lm qb u L0) {L' : Sw} {v' : Value} (hs : SweepAt w2 sb mb L') (hr : RefSw w2 rb v' L') (k : Kp (mb :: rb :: own v) wr w2) (ho : ∀ g ∈ own v', g ∈ own v ∨ wr.heap.size ≤ g) :
    PlayW w w2 sb mb rb v' L' lb lm qb u L0 := by
  have e1 := p.s.lt
  have e2 := p.r.lt
  have e3 := p.l.lt
  have e4 := p.q.lt
  have e5 := p.g.size
  refine ⟨hs, hr, p.l.kp k (p.d2 _ (by simp)) (p.d2 _ (by simp)), p.q.kp k (p.d2 _ (by simp)) (fun g hg => p.d2 g (by simp [hg])), Kp.grewOf p.g k p.ge, ?_, ?_, ?_⟩
  · intro b hb
    rcases List.mem_cons.1 hb with rfl | hb
    · exact p.ge _ (by simp)
    rcases List.mem_cons.1 hb with rfl | hb
    · exact p.ge _ (by simp)
    · rcases ho b hb with h | h
      · exact p.ge b (by simp [h])
      · omega
  · refine ⟨p.d1.1, p.d1.2.1, fun hm => ?_, fun hm => ?_⟩
    · rcases ho _ hm with h | h
      · exact p.d1.2.2.1 h
      · omega
    · rcases ho _ hm with h | h
      · exact p.d1.2.2.2 h
      · omega
  · intro b hb hm
    have hlt : b < wr.heap.size := by
      rcases List.mem_cons.1 hb with rfl | hb
      · exact e3.1
      rcases List.mem_cons.1 hb with rfl | hb
      · exact e3.2
      rcases List.mem_cons.1 hb with rfl | hb
      · exact e4.1
      · exact e4.2 b hb
    have h0 := p.d2 b hb
    rcases List.mem_cons.1 hm with h | hm
    · exact h0 (by simp [h])
    rcases List.mem_cons.1 hm with h | hm
    · exact h0 (by simp [h])
    · rcases ho b hm with h | h
      · exact h0 (by simp [h])
      · omega
theorem PlayW.copied (p : PlayW w wr sb mb rb v L lb lm qb u L0) {sb' mb' rb' : Nat} {v' : Value} {wm : World} (h1 : Grew wr wm) (hs : SweepAt wm sb' mb' L) (h2 : Grew wm w2) (hr : RefSw w2 rb' v' L)
    (b1 : wr.heap.size ≤ sb' ∧ wr.heap.size ≤ mb') (b2 : wm.heap.size ≤ rb') (b3 : ∀ g ∈ own v', wm.heap.size ≤ g) : PlayW w w2 sb' mb' rb' v' L sb mb rb v L := by
  have q := p.grew (h1.trans h2)
  have e1 := p.s.lt
  have e2 := p.r.lt
  have e3 := hs.lt
  have e5 := h1.size
  have e6 := p.g.size
  refine ⟨hs.grew h2, hr, q.s, q.r, q.g, ?_, ⟨by omega, by omega, fun hm => ?_, fun hm => ?_⟩, ?_⟩
  · intro b hb
    rcases List.mem_cons.1 hb with rfl | hb
    · omega
    rcases List.mem_cons.1 hb with rfl | hb
    · omega
    · have := b3 b hb; omega
  · have := b3 _ hm; omega
  · have := b3 _ hm; omega
  · intro b hb hm
    have hlt : b < wr.heap.size := by
      rcases List.mem_cons.1 hb with rfl | hb
      · exact e1.1
      rcases List.mem_cons.1 hb with rfl | hb
      · exact e1.2
      rcases List.mem_cons.1 hb with rfl | hb
      · exact e2.1
      · exact e2.2 b hb
    rcases List.mem_cons.1 hm with h | hm
    · omega
    rcases List.mem_cons.1 hm with h | hm
    · omega
    · have := b3 b hm; omega
theorem PlayW.start {w1 w3 w4 : World} (hs : SweepAt w1 sb mb L) (g1 : Grew w w1) (b1 : w.heap.size ≤ sb ∧ w.heap.size ≤ mb) (hr : RefSw wr rb v L) (g2 : Grew w1 wr) (b2 : w1.heap.size ≤ rb) (b3 : ∀ g ∈ own v, w1.heap.size ≤ g)
    (hl : SweepAt w3 lb lm L) (g3 : Grew wr w3) (b4 : wr.heap.size ≤ lb ∧ wr.heap.size ≤ lm) (hq : RefSw w4 qb u L) (g4 : Grew w3 w4) (b5 : w3.heap.size ≤ qb) (b6 : ∀ g ∈ own u, w3.heap.size ≤ g) :
    PlayW w w4 sb mb rb v L lb lm qb u L := by
  have e1 := hs.lt
  have e2 := hr.lt
  have z1 := g1.size
  have z2 := g2.size
  have z3 := g3.size
  refine ⟨((hs.grew g2).grew g3).grew g4, (hr.grew g3).grew g4, hl.grew g4, hq, ((g1.trans g2).trans g3).trans g4, ?_, ⟨by omega, by omega, fun hm => ?_, fun hm => ?_⟩, ?_⟩
  · intro b hb
    rcases List.mem_cons.1 hb with rfl | hb
    · omega
    rcases List.mem_cons.1 hb with rfl | hb
    · omega
    · have := b3 b hb; omega
  · have := b3 _ hm; omega
  · have := b3 _ hm; omega
  · intro b hb hm
    have hge : wr.heap.size ≤ b := by
      rcases List.mem_cons.1 hb with rfl | hb
      · omega
      rcases List.mem_cons.1 hb with rfl | hb
      · omega
      rcases List.mem_cons.1 hb with rfl | hb
      · omega
      · have := b6 b hb; omega
    rcases List.mem_cons.1 hm with h | hm
    · omega
    rcases List.mem_cons.1 hm with h | hm
    · omega
    · have := e2.2 b hm; omega
end

end Go.Proofs.YtcelamaiebjdaaaGreat

/- What holds between the acts of plays. -/
import Derived.Test.YtcelamaiebjdaaaGreatAlike
import Derived.Test.YtcelamaiebjdaaaGreatRefMake
namespace Go.Proofs.YtcelamaiebjdaaaGreat
open Go.RowKit Go.Maps Go.Sort Go.Shelf

/-- No number of xs is in ys. -/
def Dis (xs ys : List Nat) : Prop := ∀ x ∈ xs, x ∉ ys
structure Play (w wr : World) (A : List Nat) (sb gb rb rg rt lb lg wb wg wt : Nat) (G : List Int) (T : List Bool) (G0 : List Int) (T0 : List Bool) (v : Value) (V : List (Int × Int)) : Prop where
  s : SlotsAt wr sb gb G T
  r : RefAt wr rb rg rt G T
  l : SlotsAt wr lb lg G0 T0
  q : RefAt wr wb wg wt G0 T0
  g : Sl kH wr w.heap.size v V
  kp : Kp A w wr
  ms : ∀ b ∈ [sb, gb, rg, rt], b ∈ A ∨ w.heap.size ≤ b
  d1 : Dis [sb, gb] [rb, rg, rt]
  d2 : Dis [lb, lg, wb, wg, wt] [sb, gb, rg, rt]
  d3 : Dis (own v) [sb, gb, rb, rg, rt, lb, lg, wb, wg, wt]

section
variable {w wr w2 : World} {A : List Nat} {sb gb rb rg rt lb lg wb wg wt : Nat} {G : List Int} {T : List Bool} {G0 : List Int} {T0 : List Bool} {v : Value} {V : List (Int × Int)}
theorem Play.grew (p : Play w wr A sb gb rb rg rt lb lg wb wg wt G T G0 T0 v V) (g : Grew wr w2) : Play w w2 A sb gb rb rg rt lb lg wb wg wt G T G0 T0 v V :=
  ⟨p.s.grew g, p.r.grew g, p.l.grew g, p.q.grew g, p.g.grew g, p.kp.trans (g.kp _), p.ms, p.d1, p.d2, p.d3⟩
theorem Play.step (p : Play w wr A sb gb rb rg rt lb lg wb wg wt G T G0 T0 v V) (k : Kp [sb, gb, rg, rt] wr w2) {G' : List Int} {T' : List Bool} (hs : SlotsAt w2 sb gb G' T') (hr : RefAt w2 rb rg rt G' T') :
    Play w w2 A sb gb rb rg rt lb lg wb wg wt G' T' G0 T0 v V :=
  ⟨hs, hr, p.l.kp k (p.d2 _ (by simp)) (p.d2 _ (by simp)), p.q.kp k (p.d2 _ (by simp)) (p.d2 _ (by simp)) (p.d2 _ (by simp)), p.g.kp k (fun g hg hm => p.d3 g hg (by
      simp only [List.mem_cons, List.not_mem_nil, or_false] at hm ⊢
      rcases hm with h | h | h | h <;> simp [h])), p.kp.then k p.ms, p.ms, p.d1, p.d2, p.d3⟩
theorem Play.app (p : Play w wr A sb gb rb rg rt lb lg wb wg wt G T G0 T0 v V) {v' : Value} {V' : List (Int × Int)} (hs : Sl kH w2 w.heap.size v' V') (k : Kp (own v) wr w2) (ho : ∀ g ∈ own v', g ∈ own v ∨ wr.heap.size ≤ g) :
    Play w w2 A sb gb rb rg rt lb lg wb wg wt G T G0 T0 v' V' := by
  have hn : ∀ b ∈ [sb, gb, rb, rg, rt, lb, lg, wb, wg, wt], b ∉ own v := fun b hb hm => p.d3 b hm hb
  have hlt : ∀ b ∈ [sb, gb, rb, rg, rt, lb, lg, wb, wg, wt], b < wr.heap.size := by
    have h1 := p.s.lt
    have h2 := p.r.lt
    have h3 := p.l.lt
    have h4 := p.q.lt
    intro b hb
    simp only [List.mem_cons, List.not_mem_nil, or_false] at hb
    omega
  refine ⟨p.s.kp k (hn _ (by simp)) (hn _ (by simp)), p.r.kp k (hn _ (by simp)) (hn _ (by simp)) (hn _ (by simp)), p.l.kp k (hn _ (by simp)) (hn _ (by simp)), p.q.kp k (hn _ (by simp)) (hn _ (by simp)) (hn _ (by simp)), hs,
    p.kp.then k (fun x hx => .inr (p.g.own_ge x hx).1), p.ms, p.d1, p.d2, fun b hb hm => ?_⟩
  rcases ho b hb with h | h
  · exact p.d3 b h hm
  · have := hlt b hm
    omega
theorem Play.copy (p : Play w wr A sb gb rb rg rt lb lg wb wg wt G T G0 T0 v V) {s' g' r' rg' rt' : Nat} {wm : World} (h1 : Grew wr wm) (hs : SlotsAt wm s' g' G T) (h2 : Grew wm w2) (hr : RefAt w2 r' rg' rt' G T)
    (b1 : wr.heap.size ≤ s' ∧ wr.heap.size ≤ g') (b2 : wm.heap.size ≤ r' ∧ wm.heap.size ≤ rg' ∧ wm.heap.size ≤ rt') : Play w w2 A s' g' r' rg' rt' sb gb rb rg rt G T G T v V := by
  have q := p.grew (h1.trans h2)
  have e1 := p.s.lt
  have e2 := p.r.lt
  have e3 := hs.lt
  have e5 := h1.size
  have e6 := p.kp.size
  refine ⟨hs.grew h2, hr, q.s, q.r, q.g, q.kp, ?_, ?_, ?_, ?_⟩
  · intro b hb
    simp only [List.mem_cons, List.not_mem_nil, or_false] at hb
    right
    omega
  · intro b hb hm
    simp only [List.mem_cons, List.not_mem_nil, or_false] at hb hm
    omega
  · intro b hb hm
    simp only [List.mem_cons, List.not_mem_nil, or_false] at hb hm
    omega
  · intro b hb hm
    have h3 := p.d3 b hb
    have h4 := (p.g.own_ge b hb).2
    simp only [List.mem_cons, List.not_mem_nil, or_false] at h3 hm
    omega
end

end Go.Proofs.YtcelamaiebjdaaaGreat

/- How the law on regions in any order is used: guards, one step after the other. -/
import Derived.Test.YtcelamaiebjdaaaGreatRegion
namespace Go.Proofs.YtcelamaiebjdaaaGreat

theorem StepsAt.next {S : Nat → Oper → Prop} {k : Nat} {o : Oper} {r : List Oper} (h : S k o) (t : StepsAt S (k + 1) r) : StepsAt S k (o :: r) := ⟨h, t⟩
theorem yielded_Fr {ops : Array Oper} {D : List Nat} {a : Act} {x : Nat → Value} {g d : Nat} {b : Bool} (hg : ((ops[g]?).bind (·.dst)) = some d) (hd : d ∈ D) (hl : d < a.tmps.size) (hx : x d = .bool b) : yielded ops (Fr D a x).tmps g = some b := by
  unfold yielded
  rw [hg]
  have e : (Fr D a x).tmps[d]? = some (x d) := by
    unfold Fr
    simp only [List.getElem?_toArray]
    rw [mapFrom_get]
    simp [hl, hd]
  simp only [Option.bind_some, e, hx]
theorem wanted_is {ops : Array Oper} {D : List Nat} {a : Act} {x : Nat → Value} {o : Oper} {g d : Nat} {b want : Bool} (ho : o.guard = some (g, want)) (hg : ((ops[g]?).bind (·.dst)) = some d) (hd : d ∈ D) (hl : d < a.tmps.size) (hx : x d = .bool b) (r : Bool) (hr : (b == want) = r) : Region.wanted o (yielded ops (Fr D a x).tmps) = r := by
  unfold Region.wanted
  rw [ho]
  simp only
  rw [yielded_Fr hg hd hl hx]
  subst hr
  cases b <;> cases want <;> rfl

end Go.Proofs.YtcelamaiebjdaaaGreat

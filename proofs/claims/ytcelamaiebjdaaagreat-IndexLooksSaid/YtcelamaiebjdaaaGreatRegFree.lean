/- A law on regions in any order: the world's facts by what has come up; no word on which blocks a step may turn. -/
import Derived.Test.YtcelamaiebjdaaaGreatRegUse
namespace Go.Proofs.YtcelamaiebjdaaaGreat
open Go.RowKit

def depG (ops : Array Oper) (V : Nat → Value → Prop) (l : Nat → Bool) (x : Nat → Value) : List Edge → Prop
  | [] => True
  | e :: r => (Region.binds .any e = true → l e.on = true ∧ ∀ d, ((ops[e.on]?).bind (·.dst)) = some d → V e.on (x d)) ∧ depG ops V l x r
def StepG (P : Program) (ops : Array Oper) (D : List Nat) (a0 : Act) (V : Nat → Value → Prop) (R : (Nat → Bool) → (Nat → Value) → World → Prop) (j : Nat) (o : Oper) : Prop :=
  ∀ (ρ : Operand → Value) (l : Nat → Bool) (x : Nat → Value) (w : World), ρ = (Fr D a0 x).eval → (∀ v, ρ (.const v) = v) → R l x w → l j = false → depG ops V l x o.after.toList →
    (Region.wanted o (yielded ops (Fr D a0 x).tmps) = true ∧ ∀ R' : Value → World → Prop, (∀ v w', (∀ d, o.dst = some d → V j v) → R (setL l j) (upd x o.dst v) w' → R' v w') → OpDoes P o ρ w R') ∨
    (Region.wanted o (yielded ops (Fr D a0 x).tmps) = false ∧ (∀ d, o.dst = some d → V j undef) ∧ R (setL l j) (upd x o.dst undef) w)
theorem depG_of {ops : Array Oper} {V : Nat → Value → Prop} {l : Nat → Bool} {x : Nat → Value} : ∀ (es : List Edge), (∀ e ∈ es, Region.binds .any e = true → l e.on = true ∧ ∀ d, ((ops[e.on]?).bind (·.dst)) = some d → V e.on (x d)) → depG ops V l x es
  | [], _ => trivial
  | e :: r, h => ⟨h e (by simp), depG_of r fun f hf => h f (by simp [hf])⟩

/-- THE LAW, where what an operation yields is told without the world: what the world is lies in R alone. -/
theorem wp_region_free {P : Program} {ops : Array Oper} {Q : Exit → Act → World → Prop} {id : Nat} {a0 : Act} {w0 : World} (hm : P.follows .mixedOrders = true) (D : List Nat) (hok : regOK D ops = true) (V : Nat → Value → Prop)
    (R : (Nat → Bool) → (Nat → Value) → World → Prop) (h0 : ∀ x, R (fun _ => false) x w0.drew)
    (steps : StepsAt (StepG P ops D a0 V R) 0 ops.toList)
    (fin : ∀ (l : Nat → Bool) x w, R l x w → (∀ j, j < ops.size → l j = true) → (∀ j d, ((ops[j]?).bind (·.dst)) = some d → V j (x d)) → Q .normal (Fr D a0 x) w) : (Code.region id ops true).wp P Q a0 w0 := by
  refine wp_region_inv hm (fun l a w => ∃ x, a = Fr D a0 x ∧ R (fun j => l.getD j false) x w ∧ ∀ j d, l.getD j false = true → ((ops[j]?).bind (·.dst)) = some d → V j (x d)) (fun j o hj => (regOK.spec hok hj).1) ?_ ?_ ?_
  · refine ⟨_, (Fr_self D a0).symm, ?_, fun j d hl => ?_⟩
    · have e : (fun j => (Array.replicate ops.size false).getD j false) = fun _ => false := by
        funext j
        simp only [Array.getD_eq_getD_getElem?, Array.getElem?_replicate]
        split <;> rfl
      rw [e]
      exact h0 _
    · simp only [Array.getD_eq_getD_getElem?, Array.getElem?_replicate] at hl
      split at hl <;> cases hl
  · rintro l a w j o ⟨x, rfl, hR, hV⟩ hsz hj hl hdep
    have hlt : j < ops.size := (Array.getElem?_eq_some_iff.1 hj).1
    have hjl : j < l.size := by omega
    have hl2 : l.getD j false = false := by
      rw [Array.getD_eq_getD_getElem?, Array.getElem?_eq_getElem hjl] at hl ⊢
      exact hl
    have hset : (fun k => (l.setIfInBounds j true).getD k false) = setL (fun k => l.getD k false) j := by
      funext k
      unfold setL
      by_cases e : k = j
      · subst e; rw [if_pos rfl]; simp [hjl]
      · rw [if_neg e, getD_set_ne false fun h => e h.symm]
    have hstep := steps.at (j := j) (o := o) (by simpa using hj)
    rw [Nat.zero_add] at hstep
    have hd : depG ops V (fun k => l.getD k false) x o.after.toList := depG_of _ fun e he hb => ⟨hdep e (by simpa using he) hb, fun d hd => hV e.on d (hdep e (by simpa using he) hb) hd⟩
    have hkeep : ∀ v, (∀ d, o.dst = some d → V j v) → ∀ k d, (l.setIfInBounds j true).getD k false = true → ((ops[k]?).bind (·.dst)) = some d → V k (upd x o.dst v d) := by
      intro v hv k d hlk hkd
      by_cases e : k = j
      · subst e
        rw [hj] at hkd
        have hod : o.dst = some d := hkd
        have : upd x o.dst v d = v := by unfold upd; rw [if_pos hod]
        rw [this]
        exact hv d hod
      · rw [getD_set_ne false fun h => e h.symm] at hlk
        have hne : o.dst ≠ some d := fun hod => by
          cases hk2 : ops[k]? with
          | none => rw [hk2] at hkd; cases hkd
          | some ok =>
            rw [hk2] at hkd
            exact e (regOK.apart hok hk2 hj hkd hod)
        have : upd x o.dst v d = x d := by unfold upd; rw [if_neg hne]
        rw [this]
        exact hV k d hlk hkd
    unfold wpOp
    rw [hj]
    simp only
    rcases hstep (Fr D a0 x).eval _ x w rfl (fun _ => rfl) hR hl2 hd with ⟨hw, h⟩ | ⟨hw, hv, hr⟩
    · rw [if_pos hw]
      refine .inl ((h (fun v w' => (∀ d, o.dst = some d → V j v) ∧ R (setL (fun k => l.getD k false) j) (upd x o.dst v) w') (fun v w' h2 h3 => ⟨h2, h3⟩)).upon ?_)
      rintro v w' ⟨h2, h3⟩
      exact ⟨_, Fr_put v (regOK.spec hok hj).2, by rw [hset]; exact h3, hkeep v h2⟩
    · rw [if_neg (by rw [hw]; simp)]
      exact ⟨_, Fr_put undef (regOK.spec hok hj).2, by rw [hset]; exact hr, hkeep undef hv⟩
  · rintro l a w ⟨x, rfl, hR, hV⟩ hall
    exact fin _ x w hR hall fun j d hjd => by
      refine hV j d (hall j ?_) hjd
      rcases Nat.lt_or_ge j ops.size with h | h
      · exact h
      · rw [Array.getElem?_eq_none h] at hjd; cases hjd

end Go.Proofs.YtcelamaiebjdaaaGreat

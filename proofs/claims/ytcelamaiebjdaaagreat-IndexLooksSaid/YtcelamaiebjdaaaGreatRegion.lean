/- A law on regions whose order is left open: what each operation yields, said once an operation; no order is walked. No program is named here. -/
import Derived.Test.YtcelamaiebjdaaaGreatBase
import Derived.Orders
namespace Go.Proofs.YtcelamaiebjdaaaGreat
open Go.RowKit

/-- The slots of D hold x, the others what they held. -/
def mapFrom (D : List Nat) (x : Nat → Value) : Nat → List Value → List Value
  | _, [] => []
  | k, t :: r => (if k ∈ D then x k else t) :: mapFrom D x (k + 1) r
def Fr (D : List Nat) (a : Act) (x : Nat → Value) : Act := { a with tmps := (mapFrom D x 0 a.tmps.toList).toArray }
def upd (x : Nat → Value) (d : Option Nat) (v : Value) : Nat → Value := fun k => if d = some k then v else x k

theorem mapFrom_get (D : List Nat) (x : Nat → Value) : ∀ (l : List Value) (k i : Nat), (mapFrom D x k l)[i]? = (l[i]?).map fun t => if k + i ∈ D then x (k + i) else t
  | [], _, _ => by simp [mapFrom]
  | t :: r, k, 0 => by simp [mapFrom]
  | t :: r, k, i + 1 => by
    show (mapFrom D x (k + 1) r)[i]? = (r[i]?).map _
    rw [mapFrom_get D x r (k + 1) i]
    simp only [show k + 1 + i = k + (i + 1) by omega]
theorem mapFrom_len (D : List Nat) (x : Nat → Value) : ∀ (l : List Value) (k : Nat), (mapFrom D x k l).length = l.length
  | [], _ => rfl
  | t :: r, k => by show (mapFrom D x (k + 1) r).length + 1 = _; rw [mapFrom_len D x r]; rfl
theorem Act.ext' {a b : Act} (h : a.tmps = b.tmps) (k : a.defers = b.defers) : a = b := by
  cases a; cases b; simp_all
theorem Fr_put {D : List Nat} {a : Act} {x : Nat → Value} {d : Option Nat} (v : Value) (h : ∀ k, d = some k → k ∈ D) : (Fr D a x).put d v = Fr D a (upd x d v) := by
  cases d with
  | none =>
    refine Act.ext' ?_ rfl
    show (mapFrom D x 0 a.tmps.toList).toArray = (mapFrom D (upd x none v) 0 a.tmps.toList).toArray
    rfl
  | some d =>
    refine Act.ext' ?_ rfl
    show ((mapFrom D x 0 a.tmps.toList).toArray).setIfInBounds d v = (mapFrom D (upd x (some d) v) 0 a.tmps.toList).toArray
    apply Array.ext_getElem?
    intro i
    rw [List.setIfInBounds_toArray, List.getElem?_toArray, List.getElem?_toArray, List.getElem?_set, mapFrom_get, mapFrom_get, mapFrom_len]
    simp only [Nat.zero_add]
    have hd := h d rfl
    by_cases e : d = i
    · subst e
      rw [if_pos rfl]
      by_cases hl : d < a.tmps.toList.length
      · rw [if_pos hl, List.getElem?_eq_getElem hl, Option.map_some, if_pos hd]
        simp [upd]
      · rw [if_neg hl, List.getElem?_eq_none (by omega)]; rfl
    · rw [if_neg e]
      have : upd x (some d) v i = x i := by unfold upd; rw [if_neg (by simpa using e)]
      rw [this]
theorem Fr_self (D : List Nat) (a : Act) : Fr D a (fun k => (a.tmps.toList[k]?).getD undef) = a := by
  refine Act.ext' ?_ rfl
  show (mapFrom D _ 0 a.tmps.toList).toArray = a.tmps
  apply Array.ext_getElem?
  intro i
  have e : a.tmps.toList[i]? = a.tmps[i]? := Array.getElem?_toList
  rw [List.getElem?_toArray, mapFrom_get, ← e]
  cases h : a.tmps.toList[i]? with
  | none => rfl
  | some t => simp [h]

section
variable {P : Program} {ops : Array Oper} {Q : Exit → Act → World → Prop} {md : Region.Mode}

/-- How many have not come up. -/
def leftN (ops : Array Oper) (l : Array Bool) : Nat := ((List.range ops.size).filter fun j => !l.getD j true).length
theorem leftN_set {l : Array Bool} {i : Nat} (hi : i < ops.size) (hl : l.getD i true = false) : leftN ops (l.setIfInBounds i true) + 1 ≤ leftN ops l := by
  unfold leftN
  have hs : ∀ j, (!(l.setIfInBounds i true).getD j true) = (decide (j ≠ i) && !l.getD j true) := fun j => by
    by_cases e : i = j
    · subst e
      have hlt : i < l.size := by
        rcases Nat.lt_or_ge i l.size with h | h
        · exact h
        · simp [Array.getElem?_eq_none h] at hl
      simp [hlt]
    · rw [getD_set_ne true e]
      have : decide (j ≠ i) = true := decide_eq_true fun h => e h.symm
      rw [this, Bool.true_and]
  rw [List.filter_congr fun j _ => hs j, ← List.filter_filter]
  have hm : i ∈ (List.range ops.size).filter fun j => !l.getD j true := List.mem_filter.2 ⟨List.mem_range.2 hi, by rw [hl]; rfl⟩
  have := List.length_filter_lt_length_iff_exists (p := fun j => decide (j ≠ i)) (l := (List.range ops.size).filter fun j => !l.getD j true)
  have h2 := this.2 ⟨i, hm, by simp⟩
  omega

/-- What holds of what has come up holds at the end. -/
theorem wpAny_inv (I : Array Bool → Act → World → Prop)
    (hback : ∀ (j : Nat) (o : Oper), ops[j]? = some o → ∀ e ∈ o.after, e.on < j)
    (step : ∀ (l : Array Bool) (a : Act) (w : World) (j : Nat) (o : Oper), I l a w → l.size = ops.size → ops[j]? = some o → l.getD j true = false → (∀ e ∈ o.after, Region.binds md e = true → l.getD e.on false = true) → wpOp P ops Q j (I (l.setIfInBounds j true)) a w)
    (fin : ∀ l a w, I l a w → (∀ j, j < ops.size → l.getD j false = true) → Q .normal a w) :
    ∀ (fuel : Nat) (l : Array Bool) (a : Act) (w : World), l.size = ops.size → leftN ops l ≤ fuel → I l a w → wpAny P md ops Q fuel l a w := by
  have hall : ∀ l : Array Bool, l.size = ops.size → Region.ready md ops l = [] → ∀ j, j < ops.size → l.getD j false = true := by
    intro l hl hr j
    induction j using Nat.strongRecOn with
    | ind j ih =>
      intro hj
      cases hb : l.getD j false with
      | true => rfl
      | false =>
        exfalso
        have hjl : j < l.size := by omega
        have hb2 : l.getD j true = false := by
          rw [Array.getD_eq_getD_getElem?, Array.getElem?_eq_getElem hjl] at hb ⊢
          exact hb
        have : j ∈ Region.ready md ops l := mem_ready.2 ⟨hb2, ops[j], Array.getElem?_eq_getElem hj, fun e he _ => by
          have h1 := hback j _ (Array.getElem?_eq_getElem hj) e he
          exact ih e.on h1 (by omega)⟩
        rw [hr] at this
        cases this
  intro fuel
  induction fuel with
  | zero =>
    intro l a w hl hf hI
    have hr : Region.ready md ops l = [] := by
      rw [List.eq_nil_iff_forall_not_mem]
      intro j hj
      obtain ⟨h1, o, ho, _⟩ := mem_ready.1 hj
      have hlt : j < ops.size := (Array.getElem?_eq_some_iff.1 ho).1
      have := leftN_set (ops := ops) hlt h1
      omega
    exact ⟨hr, fin l a w hI (hall l hl hr)⟩
  | succ fuel ih =>
    intro l a w hl hf hI
    refine ⟨fun hr => fin l a w hI (hall l hl hr), fun i hi => ?_⟩
    obtain ⟨h1, o, ho, hdep⟩ := mem_ready.1 hi
    have hlt : i < ops.size := (Array.getElem?_eq_some_iff.1 ho).1
    have hs := leftN_set (ops := ops) hlt h1
    exact wpOp_mono (fun a' w' hI' => ih _ a' w' (by simpa using hl) (by omega) hI') (step l a w i o hI hl ho h1 hdep)

theorem wp_region_inv {id : Nat} {a : Act} {w : World} (hm : P.follows .mixedOrders = true) (I : Array Bool → Act → World → Prop)
    (hback : ∀ (j : Nat) (o : Oper), ops[j]? = some o → ∀ e ∈ o.after, e.on < j)
    (h0 : I (Array.replicate ops.size false) a w.drew)
    (step : ∀ (l : Array Bool) (a : Act) (w : World) (j : Nat) (o : Oper), I l a w → l.size = ops.size → ops[j]? = some o → l.getD j true = false → (∀ e ∈ o.after, Region.binds .any e = true → l.getD e.on false = true) → wpOp P ops Q j (I (l.setIfInBounds j true)) a w)
    (fin : ∀ l a w, I l a w → (∀ j, j < ops.size → l.getD j false = true) → Q .normal a w) : (Code.region id ops true).wp P Q a w :=
  wp_region_any hm (wpAny_inv I hback step fin _ _ _ _ (by simp) (by
    unfold leftN
    exact Nat.le_trans (List.length_filter_le _ _) (by rw [List.length_range]; exact Nat.le_refl _)) h0)
end

/-- What an operation does: it yields a value, of which and of the world behind it R holds. -/
def OpDoes (P : Program) (o : Oper) (ρ : Operand → Value) (w : World) (R : Value → World → Prop) : Prop :=
  match (execOp ρ o).run P w with
  | .ok (.value v) w' => R v w'
  | .ok .skip w' => R undef w'
  | .ok (.enter f args) w' => Calls P f args w' fun e w'' => ∃ v, e = .returned v ∧ R v w''
  | _ => False
theorem OpDoes.upon {P : Program} {o : Oper} {a : Act} {w : World} {R : Value → World → Prop} {K : Act → World → Prop} {Q : Exit → Act → World → Prop} (h : OpDoes P o a.eval w R) (hK : ∀ v w', R v w' → K (a.put o.dst v) w') : Oper.wp P o a w K Q := by
  unfold OpDoes at h
  unfold Oper.wp
  generalize (execOp a.eval o).run P w = r at h ⊢
  cases r with
  | ok n w' =>
    cases n <;> simp only [Oper.upon] at h ⊢
    · exact hK _ _ h
    · exact hK _ _ h
    · exact Calls.mono h fun e w'' he => by obtain ⟨v, rfl, hr⟩ := he; exact hK _ _ hr
  | halt x w' => exact h.elim

/-- The edges of an operation: what it waits for has come up, and yields what is said of it. -/
def depF (ops : Array Oper) (V : Nat → Value → World → Prop) (l : Nat → Bool) (x : Nat → Value) (w : World) : List Edge → Prop
  | [] => True
  | e :: r => (Region.binds .any e = true → l e.on = true ∧ ∀ d, ((ops[e.on]?).bind (·.dst)) = some d → V e.on (x d) w) ∧ depF ops V l x w r
def setL (l : Nat → Bool) (j : Nat) : Nat → Bool := fun k => if k = j then true else l k
/-- What is to be shown of operation number j. -/
def StepAt (P : Program) (ops : Array Oper) (bs : List Nat) (D : List Nat) (a0 : Act) (V : Nat → Value → World → Prop) (R : (Nat → Bool) → (Nat → Value) → World → Prop) (j : Nat) (o : Oper) : Prop :=
  ∀ (ρ : Operand → Value) (l : Nat → Bool) (x : Nat → Value) (w : World), ρ = (Fr D a0 x).eval → (∀ v, ρ (.const v) = v) → R l x w → l j = false → depF ops V l x w o.after.toList →
    (Region.wanted o (yielded ops (Fr D a0 x).tmps) = true ∧ ∀ R' : Value → World → Prop, (∀ v w', Kp bs w w' → (∀ d, o.dst = some d → V j v w') → R (setL l j) (upd x o.dst v) w' → R' v w') → OpDoes P o ρ w R') ∨
    (Region.wanted o (yielded ops (Fr D a0 x).tmps) = false ∧ (∀ d, o.dst = some d → V j undef w) ∧ R (setL l j) (upd x o.dst undef) w)
def StepsAt (S : Nat → Oper → Prop) : Nat → List Oper → Prop
  | _, [] => True
  | j, o :: r => S j o ∧ StepsAt S (j + 1) r
theorem StepsAt.at {S : Nat → Oper → Prop} : ∀ {l : List Oper} {k : Nat}, StepsAt S k l → ∀ {j : Nat} {o : Oper}, l[j]? = some o → S (k + j) o
  | [], _, _, _, _, h => by simp at h
  | o :: r, k, h, 0, o', hj => by
    have : o = o' := by simpa using hj
    subst this
    exact h.1
  | o :: r, k, h, j + 1, o', hj => by
    have := StepsAt.at h.2 (j := j) (o := o') (by simpa using hj)
    rwa [show k + 1 + j = k + (j + 1) by omega] at this

def regOK (D : List Nat) (ops : Array Oper) : Bool :=
  (ops.toList.zipIdx.all fun p => p.1.after.toList.all (fun e => decide (e.on < p.2)) && (match p.1.dst with | none => true | some d => decide (d ∈ D))) && decide ((ops.toList.filterMap (·.dst)).Nodup)
theorem regOK.spec {D : List Nat} {ops : Array Oper} (h : regOK D ops = true) {j : Nat} {o : Oper} (hj : ops[j]? = some o) : (∀ e ∈ o.after, e.on < j) ∧ ∀ d, o.dst = some d → d ∈ D := by
  unfold regOK at h
  rw [Bool.and_eq_true, List.all_eq_true] at h
  have hm : (o, j) ∈ ops.toList.zipIdx := by
    rw [List.mem_zipIdx_iff_getElem?]
    simpa using hj
  have := h.1 _ hm
  rw [Bool.and_eq_true, List.all_eq_true] at this
  refine ⟨fun e he => by simpa using this.1 e (by simpa using he), fun d hd => ?_⟩
  have h2 := this.2
  rw [hd] at h2
  simpa using h2
theorem filterMap_apart {α : Type} {f : α → Option Nat} : ∀ {l : List α}, (l.filterMap f).Nodup → ∀ {i j : Nat} {a b : α} {d : Nat}, l[i]? = some a → l[j]? = some b → f a = some d → f b = some d → i = j
  | [], _, i, _, _, _, _, h, _, _, _ => by simp at h
  | c :: r, hn, 0, 0, _, _, _, _, _, _, _ => rfl
  | c :: r, hn, 0, j + 1, a, b, d, hi, hj, ha, hb => by
    exfalso
    have hc : c = a := by simpa using hi
    subst hc
    rw [List.filterMap_cons_some ha, List.nodup_cons] at hn
    exact hn.1 (List.mem_filterMap.2 ⟨b, List.mem_of_getElem? (by simpa using hj), hb⟩)
  | c :: r, hn, i + 1, 0, a, b, d, hi, hj, ha, hb => by
    exfalso
    have hc : c = b := by simpa using hj
    subst hc
    rw [List.filterMap_cons_some hb, List.nodup_cons] at hn
    exact hn.1 (List.mem_filterMap.2 ⟨a, List.mem_of_getElem? (by simpa using hi), ha⟩)
  | c :: r, hn, i + 1, j + 1, a, b, d, hi, hj, ha, hb => by
    have hr : (r.filterMap f).Nodup := by
      cases hc : f c with
      | none => rwa [List.filterMap_cons_none hc] at hn
      | some e => rw [List.filterMap_cons_some hc] at hn; exact (List.nodup_cons.1 hn).2
    have := filterMap_apart hr (i := i) (j := j) (a := a) (b := b) (d := d) (by simpa using hi) (by simpa using hj) ha hb
    omega
theorem regOK.apart {D : List Nat} {ops : Array Oper} (h : regOK D ops = true) {i j : Nat} {a b : Oper} {d : Nat} (hi : ops[i]? = some a) (hj : ops[j]? = some b) (ha : a.dst = some d) (hb : b.dst = some d) : i = j := by
  unfold regOK at h
  rw [Bool.and_eq_true, decide_eq_true_eq] at h
  exact filterMap_apart h.2 (by simpa using hi) (by simpa using hj) ha hb

theorem depF_of {ops : Array Oper} {V : Nat → Value → World → Prop} {l : Nat → Bool} {x : Nat → Value} {w : World} : ∀ (es : List Edge), (∀ e ∈ es, Region.binds .any e = true → l e.on = true ∧ ∀ d, ((ops[e.on]?).bind (·.dst)) = some d → V e.on (x d) w) → depF ops V l x w es
  | [], _ => trivial
  | e :: r, h => ⟨h e (by simp), depF_of r fun f hf => h f (by simp [hf])⟩

/-- THE LAW: once an operation, in whatever world that the others may have made. -/
theorem wp_region_facts {P : Program} {ops : Array Oper} {Q : Exit → Act → World → Prop} {id : Nat} {a0 : Act} {w0 : World} (hm : P.follows .mixedOrders = true) (bs : List Nat) (D : List Nat) (hok : regOK D ops = true) (V : Nat → Value → World → Prop)
    (mono : ∀ j v w w', Kp bs w w' → V j v w → V j v w') (R : (Nat → Bool) → (Nat → Value) → World → Prop) (h0 : ∀ x, R (fun _ => false) x w0.drew)
    (steps : StepsAt (StepAt P ops bs D a0 V R) 0 ops.toList)
    (fin : ∀ (l : Nat → Bool) x w, R l x w → (∀ j, j < ops.size → l j = true) → (∀ j d, ((ops[j]?).bind (·.dst)) = some d → V j (x d) w) → Q .normal (Fr D a0 x) w) : (Code.region id ops true).wp P Q a0 w0 := by
  refine wp_region_inv hm (fun l a w => ∃ x, a = Fr D a0 x ∧ R (fun j => l.getD j false) x w ∧ ∀ j d, l.getD j false = true → ((ops[j]?).bind (·.dst)) = some d → V j (x d) w) (fun j o hj => (regOK.spec hok hj).1) ?_ ?_ ?_
  · refine ⟨_, (Fr_self D a0).symm, ?_, fun j d hl => ?_⟩
    · have e : (fun j => (Array.replicate ops.size false).getD j false) = fun _ => false := by
        funext j
        simp only [Array.getD_eq_getD_getElem?, Array.getElem?_replicate]
        split <;> rfl
      rw [e]
      exact h0 _
    · simp only [Array.getD_eq_getD_getElem?, Array.getElem?_replicate] at hl
      split at hl <;> cases hl
  · rintro l a w j o ⟨x, rfl, hR, hV⟩ hsz hj hl hdep
    have hlt : j < ops.size := (Array.getElem?_eq_some_iff.1 hj).1
    have hjl : j < l.size := by omega
    have hl2 : l.getD j false = false := by
      rw [Array.getD_eq_getD_getElem?, Array.getElem?_eq_getElem hjl] at hl ⊢
      exact hl
    have hset : (fun k => (l.setIfInBounds j true).getD k false) = setL (fun k => l.getD k false) j := by
      funext k
      unfold setL
      by_cases e : k = j
      · subst e; rw [if_pos rfl]; simp [hjl]
      · rw [if_neg e, getD_set_ne false fun h => e h.symm]
    have hstep := steps.at (j := j) (o := o) (by simpa using hj)
    rw [Nat.zero_add] at hstep
    have hd : depF ops V (fun k => l.getD k false) x w o.after.toList := depF_of _ fun e he hb => ⟨hdep e (by simpa using he) hb, fun d hd => hV e.on d (hdep e (by simpa using he) hb) hd⟩
    have hkeep : ∀ v w', Kp bs w w' → (∀ d, o.dst = some d → V j v w') → ∀ k d, (l.setIfInBounds j true).getD k false = true → ((ops[k]?).bind (·.dst)) = some d → V k (upd x o.dst v d) w' := by
      intro v w' hk hv k d hlk hkd
      by_cases e : k = j
      · subst e
        rw [hj] at hkd
        have hod : o.dst = some d := hkd
        have : upd x o.dst v d = v := by unfold upd; rw [if_pos hod]
        rw [this]
        exact hv d hod
      · rw [getD_set_ne false fun h => e h.symm] at hlk
        have hne : o.dst ≠ some d := fun hod => by
          cases hk2 : ops[k]? with
          | none => rw [hk2] at hkd; cases hkd
          | some ok =>
            rw [hk2] at hkd
            exact e (regOK.apart hok hk2 hj hkd hod)
        have : upd x o.dst v d = x d := by unfold upd; rw [if_neg hne]
        rw [this]
        exact mono _ _ _ _ hk (hV k d hlk hkd)
    unfold wpOp
    rw [hj]
    simp only
    rcases hstep (Fr D a0 x).eval _ x w rfl (fun _ => rfl) hR hl2 hd with ⟨hw, h⟩ | ⟨hw, hv, hr⟩
    · rw [if_pos hw]
      refine .inl ((h (fun v w' => Kp bs w w' ∧ (∀ d, o.dst = some d → V j v w') ∧ R (setL (fun k => l.getD k false) j) (upd x o.dst v) w') (fun v w' h1 h2 h3 => ⟨h1, h2, h3⟩)).upon ?_)
      rintro v w' ⟨h1, h2, h3⟩
      exact ⟨_, Fr_put v (regOK.spec hok hj).2, by rw [hset]; exact h3, hkeep v w' h1 h2⟩
    · rw [if_neg (by rw [hw]; simp)]
      exact ⟨_, Fr_put undef (regOK.spec hok hj).2, by rw [hset]; exact hr, hkeep undef w (Kp.refl _ _) hv⟩
  · rintro l a w ⟨x, rfl, hR, hV⟩ hall
    exact fin _ x w hR hall fun j d hjd => by
      refine hV j d (hall j ?_) hjd
      rcases Nat.lt_or_ge j ops.size with h | h
      · exact h
      · rw [Array.getElem?_eq_none h] at hjd; cases hjd

end Go.Proofs.YtcelamaiebjdaaaGreat

/- An act is done to a sweep and to the reference's. -/
import Derived.Test.YtcelamaiebjdaaaGreatSwept
namespace Go.Proofs.YtcelamaiebjdaaaGreat
open Go.RowKit Go.Maps Go.Sort Go.Shelf
attribute [local go_sem ↓] Go.wp_at_zero Go.wp_at_succ

/-- What an act leaves. -/
def actS (l : Sw) (kd id : Int) (b : Bx) : Sw := if kd % 4 = 0 then putS l id b else if kd % 4 = 1 then moveS l id b else if kd % 4 = 2 then dropS l id else l
def Acted (w : World) (sb mb rb : Nat) (v : Value) (l' : Sw) (e : Ending) (w' : World) : Prop :=
  ∃ v', e = .returned (.bool true) ∧ SweepAt w' sb mb l' ∧ RefSw w' rb v' l' ∧ Kp (mb :: rb :: own v) w w' ∧ ∀ g ∈ own v', g ∈ own v ∨ w.heap.size ≤ g
/-- No block of the sweep is one of the reference's. -/
def Apart (sb mb rb : Nat) (v : Value) : Prop := sb ≠ rb ∧ mb ≠ rb ∧ sb ∉ own v ∧ mb ∉ own v
theorem acted_end {w w0 w7 w8 : World} {sb mb rb : Nat} {v : Value} {l' : Sw} {bs : List Nat} {E : Int} {e : Ending} (g0 : Grew w w0) (hb : ∀ x ∈ bs, x = rb ∨ x ∈ own v) (hd : Apart sb mb rb v) (hs : SweepAt w7 sb mb l') (k7 : Kp [mb] w0 w7) (hp : SwPost w7 rb v bs E l' e w8) : Acted w sb mb rb v l' (.returned (.bool true)) w8 := by
  obtain ⟨v', -, h8, k8, ho⟩ := hp
  have n1 : sb ∉ bs := fun hm => by
    rcases hb sb hm with h | h
    · exact hd.1 h
    · exact hd.2.2.1 h
  have n2 : mb ∉ bs := fun hm => by
    rcases hb mb hm with h | h
    · exact hd.2.1 h
    · exact hd.2.2.2 h
  have hz := (g0.size)
  have hz7 := k7.size
  refine ⟨v', rfl, hs.kp k8 n1 n2, h8, ((g0.kp _).trans (k7.mono (by simp))).trans (k8.mono fun x hx => ?_), fun g hg => (ho g hg).imp id fun h => by omega⟩
  rcases hb x hx with h | h
  · simp [h]
  · simp [h]

set_option maxHeartbeats 4000000 in
set_option maxRecDepth 100000 in
theorem done_any (sb mb rb : Nat) (v : Value) (l : Sw) (kd id : Int) (b : Bx) (w : World) (hs : SweepAt w sb mb l) (hr : RefSw w rb v l) (hd : Apart sb mb rb v) (hid : I64 id) (i0 : I64 b.1) (i1 : I64 b.2.1) (i2 : I64 b.2.2.1) (i3 : I64 b.2.2.2) :
    Calls Tryz.prog 20 #[.pointer (some ⟨sb, 0, none⟩), .pointer (some ⟨rb, 0, none⟩), .agg #[.int .i64 kd, .int .i64 id, .int .i64 b.1, .int .i64 b.2.1, .int .i64 b.2.2.1, .int .i64 b.2.2.2]] w (Acted w sb mb rb v (actS l kd id b)) := by
  obtain ⟨b0, b1, b2, b3⟩ := b
  simp only at i0 i1 i2 i3 ⊢
  have M := fun w => mod_any kd 4 w (by omega)
  obtain ⟨q, hq⟩ : ∃ q, kd % 4 = q := ⟨_, rfl⟩
  have hq4 : q = 0 ∨ q = 1 ∨ q = 2 ∨ q = 3 := by omega
  have hA : actS l kd id (b0, b1, b2, b3) = if q = 0 then putS l id (b0, b1, b2, b3) else if q = 1 then moveS l id (b0, b1, b2, b3) else if q = 2 then dropS l id else l := by unfold actS; rw [hq]
  rw [hq] at M
  obtain ⟨L', hL'⟩ : ∃ L', actS l kd id (b0, b1, b2, b3) = L' := ⟨_, rfl⟩
  rw [hL']
  rw [hL'] at hA
  have HL := Lib.hid hA
  have hl1 := hs.lt
  have hl2 := hr.lt
  have HS := Lib.hid (fun W (g : Grew w W) => hs.grew g)
  have HR := Lib.hid (fun W (g : Grew w W) => hr.grew g)
  have HD := Lib.hid hd
  obtain ⟨Bb, hBb⟩ : ∃ Bb, w.heap.size = Bb := ⟨_, rfl⟩
  have hn1 : Bb ≠ mb := by omega
  have hn2 : Bb ≠ rb := by omega
  have hn3 : Bb ∉ own v := fun hm => by have := hl2.2 Bb hm; omega
  have hrm : rb ∉ [mb] := by simp; exact fun h => hd.2.1 h.symm
  have hvm : ∀ g ∈ own v, g ∉ [mb] := fun g hg hm => by simp at hm; subst hm; exact hd.2.2.2 hg
  have HQ4 := Lib.hid hq4
  clear hs hr hd hq hA hL' hl1 hl2 hq4
  go_enter Tryz.func20, Tryz.ntmps20
  go_wp2_with fail
  refine (M _).mono ?_
  rintro e w1 ⟨rfl, hw1e⟩
  have hw1 : Grew w w1 := by rw [← hw1e]; (repeat' (first | (with_reducible assumption) | (with_reducible exact Grew.refl _) | (with_reducible refine Grew.alloc ?_ _) | (with_reducible refine Grew.drew ?_) | (with_reducible refine Grew.drewN ?_ _) | (with_reducible refine Grew.setCell ?_ ?_ _) | (simp; done) | (simp; omega)))
  have k1 : w1.cell? ⟨Bb, 1, none⟩ = some (.int .i64 id) := by rw [← hw1e, ← hBb]; simp
  have k2 : w1.cell? ⟨Bb, 2, none⟩ = some (.int .i64 b0) := by rw [← hw1e, ← hBb]; simp
  have k3 : w1.cell? ⟨Bb, 3, none⟩ = some (.int .i64 b1) := by rw [← hw1e, ← hBb]; simp
  have k4 : w1.cell? ⟨Bb, 4, none⟩ = some (.int .i64 b2) := by rw [← hw1e, ← hBb]; simp
  have k5 : w1.cell? ⟨Bb, 5, none⟩ = some (.int .i64 b3) := by rw [← hw1e, ← hBb]; simp
  have hS1 := HS.out _ hw1
  have hR1 := HR.out _ hw1
  have HF : Aside (∀ (bs : List Nat) W, Kp bs w1 W → Bb ∉ bs → (W.cell? ⟨Bb, 1, none⟩ = some (.int .i64 id) ∧ W.cell? ⟨Bb, 2, none⟩ = some (.int .i64 b0) ∧ W.cell? ⟨Bb, 3, none⟩ = some (.int .i64 b1) ∧ W.cell? ⟨Bb, 4, none⟩ = some (.int .i64 b2) ∧ W.cell? ⟨Bb, 5, none⟩ = some (.int .i64 b3))) := fun bs W k h =>
    ⟨k.cell k1 h, k.cell k2 h, k.cell k3 h, k.cell k4 h, k.cell k5 h⟩
  have HF1 : Aside (∀ (bs : List Nat) W, Kp bs w1 W → Bb ∉ bs → W.cell? ⟨Bb, 1, none⟩ = some (.int .i64 id)) := fun bs W k h => k.cell k1 h
  have HS1 := Lib.hid hS1
  have HR1 := Lib.hid hR1
  have HW1 := Lib.hid hw1
  clear hw1e M hS1 hR1 hw1 hBb
  rcases HQ4.out with rfl | rfl | rfl | rfl
  · obtain ⟨E, hE⟩ : ∃ E, putE l id (b0, b1, b2, b3) = E := ⟨_, rfl⟩
    have hEE : (E == E) = true := by simp
    have P1 := fun W h => put_any sb mb l id (b0, b1, b2, b3) W h hid i0 i1 i2 i3
    have P2 := fun W h => refPut_any rb v l id (b0, b1, b2, b3) W h
    rw [hE] at P1 P2
    simp only at P1 P2
    have HP1 := Lib.hid P1
    have HP2 := Lib.hid P2
    clear P1 P2 hE
    go_wp2_with fail
    go_region_held3 (fun W => W.cell? ⟨Bb, 1, none⟩ = some (.int .i64 id) ∧ W.cell? ⟨Bb, 2, none⟩ = some (.int .i64 b0) ∧ W.cell? ⟨Bb, 3, none⟩ = some (.int .i64 b1) ∧ W.cell? ⟨Bb, 4, none⟩ = some (.int .i64 b2) ∧ W.cell? ⟨Bb, 5, none⟩ = some (.int .i64 b3))
      (first | (refine HF.out [] _ (Grew.kp ?_ _) ?_; (· (repeat' (first | (with_reducible assumption) | (with_reducible exact Grew.refl _) | (with_reducible refine Grew.alloc ?_ _) | (with_reducible refine Grew.drew ?_) | (with_reducible refine Grew.drewN ?_ _) | (with_reducible refine Grew.setCell ?_ ?_ _) | (simp; done) | (simp; omega)))); (· simp); done) | (refine HF.out [mb] _ hk7 ?_; (· simp; exact hn1); done) | (refine HF.out [mb, rb] _ ((hk7.mono ?_).trans (hk8.mono ?_)) ?_; (· simp); (· simp); (· simp; exact ⟨hn1, hn2⟩); done))
      (first | (go_at_call 36; refine (HP1.out _ (HS1.out.grew ?_)).mono ?_; (· (repeat' (first | (with_reducible assumption) | (with_reducible exact Grew.refl _) | (with_reducible refine Grew.alloc ?_ _) | (with_reducible refine Grew.drew ?_) | (with_reducible refine Grew.drewN ?_ _) | (with_reducible refine Grew.setCell ?_ ?_ _) | (simp; done) | (simp; omega)))); rintro e w7 ⟨rfl, hs7, hk7⟩; replace hk7 := (Grew.kp (show Grew w1 _ by (repeat' (first | (with_reducible assumption) | (with_reducible exact Grew.refl _) | (with_reducible refine Grew.alloc ?_ _) | (with_reducible refine Grew.drew ?_) | (with_reducible refine Grew.drewN ?_ _) | (with_reducible refine Grew.setCell ?_ ?_ _) | (simp; done) | (simp; omega)))) [mb]).trans hk7)
             | (go_at_call 49; refine (HP2.out _ (HR1.out.kp hk7 hrm hvm)).mono ?_; rintro e w8 hp8; have hp9 := hp8; obtain ⟨v8, rfl, hr8, hk8, ho8⟩ := hp9))
    all_goals
      go_wp2_with fail
      go_ret
      rw [HL.out]
      exact acted_end HW1.out (fun x hx => .inl (by simpa using hx)) HD.out hs7 hk7 hp8
  · obtain ⟨E, hE⟩ : ∃ E, moveE l id (b0, b1, b2, b3) = E := ⟨_, rfl⟩
    have hEE : (E == E) = true := by simp
    have P1 := fun W h => move_any sb mb l id (b0, b1, b2, b3) W h hid i0 i1 i2 i3
    have P2 := fun W h => refMove_any rb v l id (b0, b1, b2, b3) W h
    rw [hE] at P1 P2
    simp only at P1 P2
    have HP1 := Lib.hid P1
    have HP2 := Lib.hid P2
    clear P1 P2 hE
    go_wp2_with fail
    go_region_held3 (fun W => W.cell? ⟨Bb, 1, none⟩ = some (.int .i64 id) ∧ W.cell? ⟨Bb, 2, none⟩ = some (.int .i64 b0) ∧ W.cell? ⟨Bb, 3, none⟩ = some (.int .i64 b1) ∧ W.cell? ⟨Bb, 4, none⟩ = some (.int .i64 b2) ∧ W.cell? ⟨Bb, 5, none⟩ = some (.int .i64 b3))
      (first | (refine HF.out [] _ (Grew.kp ?_ _) ?_; (· (repeat' (first | (with_reducible assumption) | (with_reducible exact Grew.refl _) | (with_reducible refine Grew.alloc ?_ _) | (with_reducible refine Grew.drew ?_) | (with_reducible refine Grew.drewN ?_ _) | (with_reducible refine Grew.setCell ?_ ?_ _) | (simp; done) | (simp; omega)))); (· simp); done) | (refine HF.out [mb] _ hk7 ?_; (· simp; exact hn1); done) | (refine HF.out (mb :: own v) _ ((hk7.mono ?_).trans (hk8.mono ?_)) ?_; (· simp); (· intro x hx; simp [hx]); (· simp only [List.mem_cons, not_or]; exact ⟨hn1, hn3⟩); done))
      (first | (go_at_call 50; refine (HP1.out _ (HS1.out.grew ?_)).mono ?_; (· (repeat' (first | (with_reducible assumption) | (with_reducible exact Grew.refl _) | (with_reducible refine Grew.alloc ?_ _) | (with_reducible refine Grew.drew ?_) | (with_reducible refine Grew.drewN ?_ _) | (with_reducible refine Grew.setCell ?_ ?_ _) | (simp; done) | (simp; omega)))); rintro e w7 ⟨rfl, hs7, hk7⟩; replace hk7 := (Grew.kp (show Grew w1 _ by (repeat' (first | (with_reducible assumption) | (with_reducible exact Grew.refl _) | (with_reducible refine Grew.alloc ?_ _) | (with_reducible refine Grew.drew ?_) | (with_reducible refine Grew.drewN ?_ _) | (with_reducible refine Grew.setCell ?_ ?_ _) | (simp; done) | (simp; omega)))) [mb]).trans hk7)
             | (go_at_call 51; refine (HP2.out _ (HR1.out.kp hk7 hrm hvm)).mono ?_; rintro e w8 hp8; have hp9 := hp8; obtain ⟨v8, rfl, hr8, hk8, ho8⟩ := hp9))
    all_goals
      go_wp2_with fail
      go_ret
      rw [HL.out]
      exact acted_end HW1.out (fun x hx => .inr hx) HD.out hs7 hk7 hp8
  · obtain ⟨E, hE⟩ : ∃ E, dropE l id = E := ⟨_, rfl⟩
    have hEE : (E == E) = true := by simp
    have P1 := fun W h => drop_any sb mb l id W h hid
    have P2 := fun W h => refDrop_any rb v l id W h
    rw [hE] at P1 P2
    have HP1 := Lib.hid P1
    have HP2 := Lib.hid P2
    clear P1 P2 hE
    go_wp2_with fail
    go_region_held3 (fun W => W.cell? ⟨Bb, 1, none⟩ = some (.int .i64 id))
      (first | (refine HF1.out [] _ (Grew.kp ?_ _) ?_; (· (repeat' (first | (with_reducible assumption) | (with_reducible exact Grew.refl _) | (with_reducible refine Grew.alloc ?_ _) | (with_reducible refine Grew.drew ?_) | (with_reducible refine Grew.drewN ?_ _) | (with_reducible refine Grew.setCell ?_ ?_ _) | (simp; done) | (simp; omega)))); (· simp); done) | (refine HF1.out [mb] _ hk7 ?_; (· simp; exact hn1); done) | (refine HF1.out [mb, rb] _ ((hk7.mono ?_).trans (hk8.mono ?_)) ?_; (· simp); (· simp); (· simp; exact ⟨hn1, hn2⟩); done))
      (first | (go_at_call 52; refine (HP1.out _ (HS1.out.grew ?_)).mono ?_; (· (repeat' (first | (with_reducible assumption) | (with_reducible exact Grew.refl _) | (with_reducible refine Grew.alloc ?_ _) | (with_reducible refine Grew.drew ?_) | (with_reducible refine Grew.drewN ?_ _) | (with_reducible refine Grew.setCell ?_ ?_ _) | (simp; done) | (simp; omega)))); rintro e w7 ⟨rfl, hs7, hk7⟩; replace hk7 := (Grew.kp (show Grew w1 _ by (repeat' (first | (with_reducible assumption) | (with_reducible exact Grew.refl _) | (with_reducible refine Grew.alloc ?_ _) | (with_reducible refine Grew.drew ?_) | (with_reducible refine Grew.drewN ?_ _) | (with_reducible refine Grew.setCell ?_ ?_ _) | (simp; done) | (simp; omega)))) [mb]).trans hk7)
             | (go_at_call 53; refine (HP2.out _ (HR1.out.kp hk7 hrm hvm)).mono ?_; rintro e w8 hp8; have hp9 := hp8; obtain ⟨v8, rfl, hr8, hk8, ho8⟩ := hp9))
    all_goals
      go_wp2_with fail
      go_ret
      rw [HL.out]
      exact acted_end HW1.out (fun x hx => .inl (by simpa using hx)) HD.out hs7 hk7 hp8
  · go_wp2_with fail
    go_ret
    rw [HL.out]
    exact ⟨v, rfl, HS1.out, HR1.out, HW1.out.kp _, fun _ hx => .inl hx⟩

end Go.Proofs.YtcelamaiebjdaaaGreat

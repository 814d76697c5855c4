/- The reference's sweeps: what they are; what is asked of them without change. -/
import Derived.Test.YtcelamaiebjdaaaGreatEntPlain
import Derived.Test.YtcelamaiebjdaaaGreatOwnRun
import Derived.BigQuiet
import Derived.Deep.QuietTactic
namespace Go.Proofs.YtcelamaiebjdaaaGreat
open Go.RowKit Go.Maps Go.Sort Go.Shelf
attribute [local go_sem ↓] Go.wp_at_zero Go.wp_at_succ

/-- Boxes with their ids. -/
def kE : Kind (Int × Bx) where
  ty := 115
  sl := 87
  size := 5
  bytes := 40
  enc := fun x => [.int .i64 x.1, .int .i64 x.2.1, .int .i64 x.2.2.1, .int .i64 x.2.2.2.1, .int .i64 x.2.2.2.2]
  zero := .agg #[.int .i64 0, .int .i64 0, .int .i64 0, .int .i64 0, .int .i64 0]
  pos := by decide
  len := fun _ => rfl
  one := fun x u hu => by simp at hu; rcases hu with rfl | rfl | rfl | rfl | rfl <;> rfl
  zsz := rfl
  under := Tryz.underlying87
  info := by kernel_rfl
  small := by decide

/-- At rb lies a sweep of the reference whose list is v and holds l. -/
structure RefSw (w : World) (rb : Nat) (v : Value) (l : Sw) : Prop where
  c0 : w.cell? ⟨rb, 0, none⟩ = some (.bool true)
  c1 : w.cell? ⟨rb, 1, none⟩ = some v
  row : Sl kE w 0 v l
  ne : rb ∉ own v
  ok : SwOk l
  f1 : w.frozen? ⟨rb, 1, none⟩ = false
theorem RefSw.lt {w : World} {rb : Nat} {v : Value} {l : Sw} (h : RefSw w rb v l) : rb < w.heap.size ∧ ∀ g ∈ own v, g < w.heap.size := ⟨lt_of_cell h.c0, fun g hg => (h.row.own_ge g hg).2⟩
theorem RefSw.kp {bs : List Nat} {w w' : World} {rb : Nat} {v : Value} {l : Sw} (h : RefSw w rb v l) (k : Kp bs w w') (h1 : rb ∉ bs) (h2 : ∀ g ∈ own v, g ∉ bs) : RefSw w' rb v l :=
  ⟨k.cell h.c0 h1, k.cell h.c1 h1, h.row.kp k h2, h.ne, h.ok, (World.frozen?_of_block (w := w) (a := ⟨rb, 1, none⟩) (k.block rb (lt_of_cell h.c0) h1)).trans h.f1⟩
theorem RefSw.grew {w w' : World} {rb : Nat} {v : Value} {l : Sw} (h : RefSw w rb v l) (k : Grew w w') : RefSw w' rb v l := h.kp (k.kp []) (by simp) (by simp)
/-- The cells of entry j. -/
theorem RefSw.cells {w : World} {rb g n cap : Nat} {l : Sw} (h : RefSw w rb (.slice (some ⟨g, 0, none⟩) n cap) l) (j : Nat) (hj : j < l.length) :
    w.cell? ⟨g, j * 5, none⟩ = some (.int .i64 (eG l j).1) ∧ w.cell? ⟨g, j * 5 + 1, none⟩ = some (.int .i64 (eG l j).2.1) ∧ w.cell? ⟨g, j * 5 + 2, none⟩ = some (.int .i64 (eG l j).2.2.1) ∧
      w.cell? ⟨g, j * 5 + 3, none⟩ = some (.int .i64 (eG l j).2.2.2.1) ∧ w.cell? ⟨g, j * 5 + 4, none⟩ = some (.int .i64 (eG l j).2.2.2.2) := by
  rw [eG_in hj]
  exact ⟨h.row.cell j 0 hj (by decide), h.row.cell j 1 hj (by decide), h.row.cell j 2 hj (by decide), h.row.cell j 3 hj (by decide), h.row.cell j 4 hj (by decide)⟩

theorem refSw_new (w : World) : RefSw (w.alloc (.cells #[.bool true, .slice none 0 0] 89)) w.heap.size (.slice none 0 0) [] :=
  ⟨by simp, by simp, Sl.nil _ _ _, by simp [own, Value.ownBlock], swOk_nil, by simp [go_sem]⟩
set_option maxHeartbeats 400000 in
theorem refNewSw_any (w : World) : Calls Tryz.prog 17 #[] w fun e w' => ∃ rb, e = .returned (.pointer (some ⟨rb, 0, none⟩)) ∧ RefSw w' rb (.slice none 0 0) [] ∧ Grew w w' ∧ w.heap.size ≤ rb := by
  have h := refSw_new w
  go_enter Tryz.func17, Tryz.ntmps17
  go_wp2_with fail
  go_ret
  exact ⟨_, rfl, h, by (repeat' (first | (with_reducible assumption) | (with_reducible exact Grew.refl _) | (with_reducible refine Grew.alloc ?_ _) | (with_reducible refine Grew.drew ?_) | (with_reducible refine Grew.drewN ?_ _) | (with_reducible refine Grew.setCell ?_ ?_ _) | (simp; done) | (simp; omega))), Nat.le_refl _⟩

set_option maxHeartbeats 400000 in
theorem swValid_any (rb : Nat) (w : World) (c0 : w.cell? ⟨rb, 0, none⟩ = some (.bool true)) :
    Calls Tryz.prog 48 #[.pointer (some ⟨rb, 0, none⟩)] w fun e w' => e = .returned (.bool true) ∧ w = w' := by
  go_enter Tryz.func48, Tryz.ntmps48
  go_wp2_with fail
  go_ret
  exact ⟨rfl, rfl⟩

/-- What place returns: where the id stands. -/
def Place (l : Sw) (k : Int) (e : Ending) : Prop := (hasL l k = false ∧ e = .returned (.int .i64 (-1))) ∨ ∃ i : Nat, i < l.length ∧ (eG l i).1 = k ∧ e = .returned (.int .i64 i)
set_option maxHeartbeats 1000000 in
set_option maxRecDepth 100000 in
theorem place_any (rb : Nat) (v : Value) (l : Sw) (k : Int) (w : World) (h : RefSw w rb v l) :
    Calls Tryz.prog 104 #[.pointer (some ⟨rb, 0, none⟩), .int .i64 k] w fun e w' => Place l k e ∧ w = w' := by
  have c1 := h.c1
  have hsm := h.ok.small
  obtain ⟨p, c, rfl, hp⟩ := h.row.shape
  have H := Lib.hid h
  obtain ⟨n, hn⟩ : ∃ n, l.length = n := ⟨_, rfl⟩
  have HN := Lib.hid hn
  rw [hn] at c1 hp hsm
  have HP := Lib.hid hp
  clear h hn hp
  go_enter Tryz.func104, Tryz.ntmps104
  go_wp2_with fail
  go_loopg [5] n (fun gg s5 wr => ∃ j : Nat, j ≤ n ∧ n - j ≤ gg ∧ s5 = .int .i64 j ∧ w = wr ∧ Aside (∀ i, i < j → (eG l i).1 ≠ k))
  case atStart => exact ⟨0, Nat.zero_le _, by omega, rfl, rfl, fun i hi => absurd hi (Nat.not_lt_zero _)⟩
  case round =>
    obtain ⟨j, hj, hgg, rfl, rfl, A⟩ := hrel
    by_cases h1 : j < n
    · have h1z : (j : Int) < (n : Int) := by omega
      obtain ⟨g, rfl⟩ := HP.out (by omega)
      have hjl : j < l.length := by rw [HN.out]; exact h1
      have d0 := (H.out.cells j hjl).1
      obtain ⟨x, hx⟩ : ∃ x, (eG l j).1 = x := ⟨_, rfl⟩
      rw [hx] at d0
      have HX := Lib.hid hx
      clear hx hjl
      by_cases e1 : x = k
      · subst e1
        have e2 : (x == x) = true := by simp
        go_wp2_with fail
        go_ret
        exact ⟨.inr ⟨j, by rw [HN.out]; exact h1, HX.out, rfl⟩, rfl⟩
      · have e2 : (x == k) = false := by simpa using e1
        have HE := Lib.hid e1
        clear e1
        go_wp2_with fail
        go_roundg (n - (j + 1))
        case measure => omega
        case rel =>
          refine ⟨j + 1, by omega, by omega, by go_num, rfl, (show Aside _ from fun i hi => ?_)⟩
          by_cases e : i = j
          · subst e; rw [HX.out]; exact HE.out
          · exact A.out i (by omega)
    · have h1z : ¬ (j : Int) < (n : Int) := by omega
      obtain rfl : j = n := by omega
      go_wp2_with fail
      go_ret
      exact ⟨.inl ⟨hasL_none (by rw [HN.out]; exact A.out), rfl⟩, rfl⟩

set_option maxHeartbeats 1000000 in
set_option maxRecDepth 100000 in
theorem refIds_any (rb : Nat) (v : Value) (l : Sw) (w : World) (h : RefSw w rb v l) :
    Calls Tryz.prog 54 #[.pointer (some ⟨rb, 0, none⟩)] w (OwnOf kI (l.map (·.1)) w) := by
  have c0 := h.c0
  have c1 := h.c1
  have hsm := h.ok.small
  obtain ⟨p, c, rfl, hp⟩ := h.row.shape
  have H := Lib.hid h
  obtain ⟨n, hn⟩ : ∃ n, l.length = n := ⟨_, rfl⟩
  have HN := Lib.hid hn
  rw [hn] at c1 hp hsm
  have HP := Lib.hid hp
  have HC := Lib.hid c1
  have HC0 := Lib.hid c0
  clear h hn hp
  go_enter Tryz.func54, Tryz.ntmps54
  go_wp2_with fail
  refine (swValid_any rb _ c0).mono ?_
  rintro e w1 ⟨rfl, rfl⟩
  clear c0 c1
  go_wp2_with fail
  go_loopg [3, 4] n (fun gg s3 s4 wr => ∃ (j : Nat) (o3 : Value), j ≤ n ∧ n - j ≤ gg ∧ o3 = s3 ∧ s4 = .int .i64 j ∧ Grew w wr ∧ Aside (Sl kI wr w.heap.size o3 (idsN l j)))
  case atStart => exact ⟨0, _, Nat.zero_le _, by omega, rfl, rfl, Grew.refl _, Sl.nil _ _ _⟩
  case round =>
    obtain ⟨j, o3, hj, hgg, rfl, rfl, hgw, A⟩ := hrel
    have c1 := hgw.cell' HC.out
    by_cases h1 : j < n
    · have h1z : (j : Int) < (n : Int) := by omega
      obtain ⟨g, rfl⟩ := HP.out (by omega)
      have hjl : j < l.length := by rw [HN.out]; exact h1
      have d0 := hgw.cell' (H.out.cells j hjl).1
      have hsu := idsN_succ hjl
      have hle := idsN_len l j
      obtain ⟨x, hx⟩ : ∃ x, (eG l j).1 = x := ⟨_, rfl⟩
      rw [hx] at d0 hsu
      obtain ⟨v', w4, hr, hs, hk, ho⟩ := appendOne kI A.out hgw.size (by omega) x #[.int .i64 x] rfl
      have hw4 : Grew w w4 := Kp.grewOf hgw hk (fun y hy => (A.out.own_ge y hy).1)
      have HR := Lib.hid hr
      have HV := Lib.hid hs
      have HSU := Lib.hid hsu
      clear hr hs hk ho hx hjl hsu
      go_wp2_with (at_builtin; refine wpList_append_run rfl _ _ _ _ rfl rfl _ _ _ rfl rfl HR.out ?_)
      go_roundg (n - (j + 1))
      case measure => omega
      case rel => exact ⟨j + 1, _, by omega, by omega, rfl, by go_num, hw4, by rw [HSU.out]; exact HV.out⟩
    · have h1z : ¬ (j : Int) < (n : Int) := by omega
      obtain rfl : j = n := by omega
      go_wp2_with fail
      go_ret
      have h := A.out
      rw [← HN.out, idsN_all] at h
      exact ⟨_, rfl, h, hgw⟩

set_option maxHeartbeats 1000000 in
set_option maxRecDepth 100000 in
theorem refBox_any (rb : Nat) (v : Value) (l : Sw) (k : Int) (w : World) (h : RefSw w rb v l) :
    Calls Tryz.prog 59 #[.pointer (some ⟨rb, 0, none⟩), .int .i64 k] w fun e w' =>
      e = .returned (.tuple #[.agg #[.int .i64 (getL l k).1, .int .i64 (getL l k).2.1, .int .i64 (getL l k).2.2.1, .int .i64 (getL l k).2.2.2], .bool (hasL l k)]) ∧ Grew w w' := by
  have hg0 : Grew w (w.alloc (.cells #[.int .i64 0, .int .i64 0, .int .i64 0, .int .i64 0] 32)) := by (repeat' (first | (with_reducible assumption) | (with_reducible exact Grew.refl _) | (with_reducible refine Grew.alloc ?_ _) | (with_reducible refine Grew.drew ?_) | (with_reducible refine Grew.drewN ?_ _) | (with_reducible refine Grew.setCell ?_ ?_ _) | (simp; done) | (simp; omega)))
  have hpl := place_any rb v l k _ (h.grew hg0)
  have HPl := Lib.hid hpl
  obtain ⟨p, c, rfl, hp⟩ := h.row.shape
  have c0 := h.c0
  have c1 := hg0.cell' h.c1
  have hB := lt_of_cell c0
  have H := Lib.hid h
  have HG0 := Lib.hid hg0
  have HP := Lib.hid hp
  clear hpl hg0 hp h
  go_enter Tryz.func59, Tryz.ntmps59
  go_wp2_with fail
  refine (swValid_any rb _ (by first | (simp [go_sem]; done) | (simp [*, go_sem]; done) | (go_cell; done))).mono ?_
  rintro e w1 ⟨rfl, rfl⟩
  go_wp2_with fail
  refine HPl.out.mono ?_
  rintro e w1 ⟨hpl, rfl⟩
  rcases hpl with ⟨hh, rfl⟩ | ⟨i, hi, hk, rfl⟩
  · have e1 := hh
    have e2 := getL_no hh
    have E1 := Lib.hid e1
    have E2 := Lib.hid e2
    clear hh e1 e2
    go_wp2_with fail
    go_returns
    refine ⟨?_, by (repeat' (first | (with_reducible assumption) | (with_reducible exact Grew.refl _) | (with_reducible refine Grew.alloc ?_ _) | (with_reducible refine Grew.drew ?_) | (with_reducible refine Grew.drewN ?_ _) | (with_reducible refine Grew.setCell ?_ ?_ _) | (simp; done) | (simp; omega)))⟩
    rw [E1.out, E2.out]
    rfl
  · have E1 := Lib.hid (hasL_at hi hk)
    have E2 := Lib.hid (getL_at H.out.ok.asc hi hk)
    obtain ⟨g, rfl⟩ := HP.out (by omega)
    obtain ⟨-, d1, d2, d3, d4⟩ := (H.out.grew HG0.out).cells i hi
    have hil : (i : Int) < (l.length : Int) := by omega
    obtain ⟨b, hb⟩ : ∃ b, (eG l i).2 = b := ⟨_, rfl⟩
    rw [hb] at d1 d2 d3 d4 E2
    clear hi hk hb
    go_wp2_with fail
    go_returns
    refine ⟨?_, by (repeat' (first | (with_reducible assumption) | (with_reducible exact Grew.refl _) | (with_reducible refine Grew.alloc ?_ _) | (with_reducible refine Grew.drew ?_) | (with_reducible refine Grew.drewN ?_ _) | (with_reducible refine Grew.setCell ?_ ?_ _) | (simp; done) | (simp; omega)))⟩
    rw [E1.out, E2.out]

end Go.Proofs.YtcelamaiebjdaaaGreat

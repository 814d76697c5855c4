/- Contracts of the statements' put: a sweep with the boxes of a list. -/
import Derived.Test.YtcelamaiebjdaaaGreatBoxList
namespace Go.Proofs.YtcelamaiebjdaaaGreat
open Go.RowKit Go.Maps Go.Sort Go.Shelf
attribute [local go_sem ↓] Go.wp_at_zero Go.wp_at_succ

def okB (b : Bx) : Prop := chk b.1 b.2.1 b.2.2.1 b.2.2.2 = 0
theorem okB_mk {a b c d : Int} (h : -2097152 ≤ a ∧ a ≤ c ∧ c ≤ 2097152 ∧ -2097152 ≤ b ∧ b ≤ d ∧ d ≤ 2097152) : okB (a, b, c, d) := by
  have h1 : (fairB a b && fairB c d) = true := by
    unfold fairB
    simp only [Bool.and_eq_true, decide_eq_true_eq]
    omega
  show chk a b c d = 0
  unfold chk
  rw [if_pos h1, if_neg (by omega)]
theorem okB_boxOf (x y w h span size : Int) (hs : 0 ≤ span ∧ span ≤ 2097152) (hz : 0 ≤ size ∧ size ≤ 2097152) : okB (boxOf x y w h span size) := by
  unfold boxOf
  have hm1 := Int.emod_nonneg x (show 2 * span + 1 ≠ 0 by omega)
  have hm2 := Int.emod_lt_of_pos x (show 0 < 2 * span + 1 by omega)
  have hm3 := Int.emod_nonneg y (show 2 * span + 1 ≠ 0 by omega)
  have hm4 := Int.emod_lt_of_pos y (show 0 < 2 * span + 1 by omega)
  have hm5 := Int.emod_nonneg w (show size + 1 ≠ 0 by omega)
  have hm7 := Int.emod_nonneg h (show size + 1 ≠ 0 by omega)
  generalize x % (2 * span + 1) = p at *
  generalize y % (2 * span + 1) = q at *
  generalize w % (size + 1) = r at *
  generalize h % (size + 1) = t at *
  exact okB_mk (by omega)
theorem okB_boxes (xs : List Int) (k : Nat) : ∀ b ∈ boxesN xs k, okB b := by
  intro b hb
  obtain ⟨j, _, rfl⟩ := List.mem_map.1 hb
  unfold boxN spanOf sizeOfB
  split <;> exact okB_boxOf _ _ _ _ _ _ (by omega) (by omega)

/-- The boxes from number a on, k of them, under their numbers. -/
def entN (l : List Bx) (a k : Nat) : Sw := (List.range' a k).map fun i : Nat => ((i : Int), l.getD i bx0)
theorem mem_entN {l : List Bx} {a k : Nat} {p : Int × Bx} (h : p ∈ entN l a k) : ∃ i, a ≤ i ∧ i < a + k ∧ p = ((i : Int), l.getD i bx0) := by
  obtain ⟨i, hi, rfl⟩ := List.mem_map.1 h
  have := List.mem_range'_1.1 hi
  exact ⟨i, this.1, this.2, rfl⟩
theorem entN_length (l : List Bx) (a k : Nat) : (entN l a k).length = k := by simp [entN]
theorem putL_above {k : Int} {b : Bx} : ∀ {l : Sw}, (∀ p ∈ l, p.1 < k) → putL l k b = l ++ [(k, b)]
  | [], _ => rfl
  | q :: r, h => by
    have h1 := h q (by simp)
    unfold putL
    rw [if_neg (by omega), if_neg (by omega), putL_above fun p hp => h p (by simp [hp])]
    rfl
theorem putL_below {k : Int} {b : Bx} {l : Sw} (h : ∀ p ∈ l, k < p.1) : putL l k b = (k, b) :: l := by
  cases l with
  | nil => rfl
  | cons q r => unfold putL; rw [if_pos (h q (by simp))]
theorem hasL_no {k : Int} {l : Sw} (h : ∀ p ∈ l, p.1 ≠ k) : hasL l k = false := by
  unfold hasL
  rw [List.any_eq_false]
  intro p hp
  simpa using h p hp
theorem putE_zero {l : Sw} {k : Int} {b : Bx} (hk : 0 ≤ k ∧ k ≤ 2147483647) (hb : okB b) (hn : ∀ p ∈ l, p.1 ≠ k) (hl : l.length < 256) : putE l k b = 0 := by
  unfold okB at hb
  unfold putE
  rw [idE_zero hk, hb, hasL_no hn, if_neg (by simp), if_neg (by simp), if_neg (by simp), if_neg (by omega)]
theorem putS_zero {l : Sw} {k : Int} {b : Bx} (h : putE l k b = 0) : putS l k b = putL l k b := by unfold putS; rw [if_pos h]
theorem ent_above (l : List Bx) (k : Nat) : putL (entN l 0 k) (k : Int) (l.getD k bx0) = entN l 0 (k + 1) := by
  rw [putL_above fun p hp => by obtain ⟨i, _, h, rfl⟩ := mem_entN hp; show (i : Int) < k; omega]
  unfold entN
  rw [List.range'_1_concat, List.map_append, Nat.zero_add]
  rfl
theorem ent_below (l : List Bx) (a k : Nat) : putL (entN l (a + 1) k) (a : Int) (l.getD a bx0) = entN l a (k + 1) := by
  rw [putL_below fun p hp => by obtain ⟨i, h, _, rfl⟩ := mem_entN hp; show (a : Int) < i; omega]
  unfold entN
  rw [List.range'_succ, List.map_cons]

/-- What put returns. -/
def NewPut (l : List Bx) (w : World) (e : Ending) (w' : World) : Prop :=
  ∃ sb mb, e = .returned (.pointer (some ⟨sb, 0, none⟩)) ∧ SweepAt w' sb mb (entN l 0 l.length) ∧ Grew w w' ∧ w.heap.size ≤ sb ∧ w.heap.size ≤ mb

set_option maxHeartbeats 1000000 in
set_option maxRecDepth 100000 in
theorem putFirst_any (B : Nat) (v : Value) (l : List Bx) (w : World) (hv : SlB w B v l) (hok : ∀ b ∈ l, okB b) (hn : l.length ≤ 256) :
    Calls Tryz.prog 9 #[v, .bool false] w (NewPut l w) := by
  obtain ⟨p, cap, rfl, hp⟩ := hv.shape
  obtain ⟨n, hn'⟩ : ∃ n, l.length = n := ⟨_, rfl⟩
  have HV := Lib.hid hv
  have HP := Lib.hid hp
  have HN := Lib.hid hn'
  have HO := Lib.hid hok
  rw [hn'] at hn ⊢
  clear hv hp hn' hok
  go_enter Tryz.func9, Tryz.ntmps9
  go_wp2_with fail
  refine (newSweep_any _).mono ?_
  rintro e w1 ⟨sb, mb, rfl, hsw, hg1, hsb, hmb⟩
  have HS1 := Lib.hid hsw
  have hlt := lt_of_cell hsw.cell
  clear hsw
  go_wp2_with fail
  go_loopg [6] n (fun gg s6 wr => ∃ j : Nat, j ≤ n ∧ n - j ≤ gg ∧ s6 = .int .i64 j ∧ Grew w wr ∧ Aside (SweepAt wr sb mb (entN l 0 j)))
  case atStart => exact ⟨0, by omega, by omega, rfl, by (repeat' (first | exact Grew.refl _ | assumption | refine Grew.alloc ?_ _ | refine Grew.drew ?_ | refine Grew.drewN ?_ _ | refine Grew.setCell ?_ ?_ _ | (simp; done) | (simp; omega))), HS1.out⟩
  case round =>
    obtain ⟨j, hjn, hgg, rfl, hgw, A⟩ := hrel
    by_cases h1 : j < n
    · have h1z : (j : Int) < (n : Int) := by omega
      have hjl : j < l.length := by rw [HN.out]; exact h1
      obtain ⟨g, rfl⟩ := HP.out (by omega)
      have hbase := HV.out
      rw [HN.out] at hbase
      obtain ⟨k0, k1, k2, k3⟩ := hbase.cells j hjl
      have hb : okB l[j] := HO.out _ (List.getElem_mem hjl)
      have hgd : l.getD j bx0 = l[j] := by rw [List.getD_eq_getElem?_getD, List.getElem?_eq_getElem hjl]; rfl
      have hI := chk_I64 hb
      have hz : putE (entN l 0 j) (j : Int) l[j] = 0 := putE_zero (by omega) hb (fun p hp => by obtain ⟨i, _, h, rfl⟩ := mem_entN hp; show (i : Int) ≠ j; omega) (by rw [entN_length]; omega)
      have hs : putS (entN l 0 j) (j : Int) l[j] = entN l 0 (j + 1) := by rw [putS_zero hz, ← hgd, ent_above]
      have c0 := hgw.cell' k0
      have c1 := hgw.cell' k1
      have c2 := hgw.cell' k2
      have c3 := hgw.cell' k3
      generalize l[j] = b at *
      have HZ := Lib.hid hz
      have HS := Lib.hid hs
      have HI := Lib.hid hI
      clear k0 k1 k2 k3 hbase hz hs hb hgd hI hjl
      go_wp2_with fail
      refine (put_any sb mb (entN l 0 j) (j : Int) b _ (A.out.grew (by (repeat' (first | exact Grew.refl _ | assumption | refine Grew.alloc ?_ _ | refine Grew.drew ?_ | refine Grew.drewN ?_ _ | refine Grew.setCell ?_ ?_ _ | (simp; done) | (simp; omega))))) (by unfold I64; omega) HI.out.1 HI.out.2.1 HI.out.2.2.1 HI.out.2.2.2).mono ?_
      rintro e w2 ⟨rfl, hsw2, hk2⟩
      rw [HZ.out]
      rw [HS.out] at hsw2
      have hw2 : Grew w w2 := Kp.grewOf (by (repeat' (first | exact Grew.refl _ | assumption | refine Grew.alloc ?_ _ | refine Grew.drew ?_ | refine Grew.drewN ?_ _ | refine Grew.setCell ?_ ?_ _ | (simp; done) | (simp; omega)))) hk2 (fun x hx => by simp at hx; omega)
      have HS2 := Lib.hid hsw2
      clear hsw2 hk2
      go_wp2_with fail
      go_roundg (n - (j + 1))
      case measure => omega
      case rel => exact ⟨j + 1, by omega, by omega, by go_num, hw2, HS2.out⟩
    · have h1z : ¬ (j : Int) < (n : Int) := by omega
      obtain rfl : j = n := by omega
      go_wp2_with fail
      go_returns
      refine ⟨sb, mb, rfl, ?_, hgw, hsb, hmb⟩
      rw [HN.out]
      exact A.out

set_option maxHeartbeats 1000000 in
set_option maxRecDepth 100000 in
theorem putLast_any (B : Nat) (v : Value) (l : List Bx) (w : World) (hv : SlB w B v l) (hok : ∀ b ∈ l, okB b) (hn : l.length ≤ 256) :
    Calls Tryz.prog 9 #[v, .bool true] w (NewPut l w) := by
  obtain ⟨p, cap, rfl, hp⟩ := hv.shape
  obtain ⟨n, hn'⟩ : ∃ n, l.length = n := ⟨_, rfl⟩
  have HV := Lib.hid hv
  have HP := Lib.hid hp
  have HN := Lib.hid hn'
  have HO := Lib.hid hok
  rw [hn'] at hn ⊢
  clear hv hp hn' hok
  go_enter Tryz.func9, Tryz.ntmps9
  go_wp2_with fail
  refine (newSweep_any _).mono ?_
  rintro e w1 ⟨sb, mb, rfl, hsw, hg1, hsb, hmb⟩
  have HS1 := Lib.hid hsw
  have hlt := lt_of_cell hsw.cell
  clear hsw
  go_wp2_with fail
  go_loopg [6] n (fun gg s6 wr => ∃ j : Nat, j ≤ n ∧ n - j ≤ gg ∧ s6 = .int .i64 j ∧ Grew w wr ∧ Aside (SweepAt wr sb mb (entN l (n - j) j)))
  case atStart => exact ⟨0, by omega, by omega, rfl, by (repeat' (first | exact Grew.refl _ | assumption | refine Grew.alloc ?_ _ | refine Grew.drew ?_ | refine Grew.drewN ?_ _ | refine Grew.setCell ?_ ?_ _ | (simp; done) | (simp; omega))), HS1.out⟩
  case round =>
    obtain ⟨j, hjn, hgg, rfl, hgw, A⟩ := hrel
    by_cases h1 : j < n
    · have h1z : (j : Int) < (n : Int) := by omega
      obtain ⟨m, hm⟩ : ∃ m, n - 1 - j = m := ⟨_, rfl⟩
      have em : (n : Int) - 1 - (j : Int) = (m : Int) := by omega
      have hmn : (m : Int) < (n : Int) := by omega
      have HM := Lib.hid (show n - j = m + 1 ∧ n - (j + 1) = m by omega)
      have hjl : m < l.length := by rw [HN.out]; omega
      obtain ⟨g, rfl⟩ := HP.out (by omega)
      have hbase := HV.out
      rw [HN.out] at hbase
      obtain ⟨k0, k1, k2, k3⟩ := hbase.cells m hjl
      have hb : okB l[m] := HO.out _ (List.getElem_mem hjl)
      have hgd : l.getD m bx0 = l[m] := by rw [List.getD_eq_getElem?_getD, List.getElem?_eq_getElem hjl]; rfl
      have hI := chk_I64 hb
      have hz : putE (entN l (n - j) j) (m : Int) l[m] = 0 := putE_zero (by omega) hb (fun p hp => by obtain ⟨i, h, _, rfl⟩ := mem_entN hp; have := HM.out.1; show (i : Int) ≠ m; omega) (by rw [entN_length]; omega)
      have hs : putS (entN l (n - j) j) (m : Int) l[m] = entN l (n - (j + 1)) (j + 1) := by rw [putS_zero hz, ← hgd, HM.out.1, HM.out.2, ent_below]
      have c0 := hgw.cell' k0
      have c1 := hgw.cell' k1
      have c2 := hgw.cell' k2
      have c3 := hgw.cell' k3
      generalize l[m] = b at *
      have HZ := Lib.hid hz
      have HS := Lib.hid hs
      have HI := Lib.hid hI
      clear k0 k1 k2 k3 hbase hz hs hb hgd hI hjl hm
      go_wp2_with fail
      refine (put_any sb mb (entN l (n - j) j) (m : Int) b _ (A.out.grew (by (repeat' (first | exact Grew.refl _ | assumption | refine Grew.alloc ?_ _ | refine Grew.drew ?_ | refine Grew.drewN ?_ _ | refine Grew.setCell ?_ ?_ _ | (simp; done) | (simp; omega))))) (by unfold I64; omega) HI.out.1 HI.out.2.1 HI.out.2.2.1 HI.out.2.2.2).mono ?_
      rintro e w2 ⟨rfl, hsw2, hk2⟩
      rw [HZ.out]
      rw [HS.out] at hsw2
      have hw2 : Grew w w2 := Kp.grewOf (by (repeat' (first | exact Grew.refl _ | assumption | refine Grew.alloc ?_ _ | refine Grew.drew ?_ | refine Grew.drewN ?_ _ | refine Grew.setCell ?_ ?_ _ | (simp; done) | (simp; omega)))) hk2 (fun x hx => by simp at hx; omega)
      have HS2 := Lib.hid hsw2
      clear hsw2 hk2
      go_wp2_with fail
      go_roundg (n - (j + 1))
      case measure => omega
      case rel => exact ⟨j + 1, by omega, by omega, by go_num, hw2, HS2.out⟩
    · have h1z : ¬ (j : Int) < (n : Int) := by omega
      obtain rfl : j = n := by omega
      go_wp2_with fail
      go_returns
      refine ⟨sb, mb, rfl, ?_, hgw, hsb, hmb⟩
      rw [HN.out]
      have := A.out
      rwa [Nat.sub_self] at this

end Go.Proofs.YtcelamaiebjdaaaGreat

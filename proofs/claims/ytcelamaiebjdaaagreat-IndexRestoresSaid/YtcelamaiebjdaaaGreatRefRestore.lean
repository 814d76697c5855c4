/- Copies of lists; the reference's RestoreSlots. -/
import Derived.Test.YtcelamaiebjdaaaGreatRefMake
namespace Go.Proofs.YtcelamaiebjdaaaGreat
open Go.RowKit Go.Maps Go.Sort Go.Shelf
attribute [local go_sem ↓] Go.wp_at_zero Go.wp_at_succ

/-- append([]T{}, xs...), whatever xs is. -/
theorem own_run {α : Type} (K : Kind α) {w : World} (p : Option Addr) (c n : Nat) (ys : List α) (hn : ys.length = n) (hy : Rd K w p ys) (hp : p = none → c = 0) (hl : n < 1000000) :
    ∃ v' w', (Builtin.append_ #[K.sl, K.sl] K.sl #[.slice (some ⟨w.heap.size, 0, none⟩) 0 0, .slice p n c]).run Tryz.prog (w.alloc (.cells #[] K.ty)) = .ok v' w' ∧ Sl K w' w.heap.size v' ys ∧ Grew w w' := by
  subst hn
  have h0 : Sl K (w.alloc (.cells #[] K.ty)) w.heap.size (.slice (some ⟨w.heap.size, 0, none⟩) 0 0) [] :=
    ⟨by simp [Kind.flat], .inr ⟨w.heap.size, 0, #[], rfl, Nat.le_refl _, heap_alloc_new w _, Nat.le_refl _, Nat.zero_le _, by simp, by simp [Kind.flat]⟩⟩
  have hg : Grew w (w.alloc (.cells #[] K.ty)) := (Grew.refl w).alloc _
  obtain ⟨v', w', hr, hs, hk, -, -⟩ := append_any K h0 hg.size p c ys (hy.grew hg) hp (by simpa using hl)
  exact ⟨v', w', hr, hs, Kp.grewOf hg hk fun x hx => by simp [own, Value.ownBlock] at hx; omega⟩

def OwnOf {α : Type} (K : Kind α) (xs : List α) (w : World) (e : Ending) (w' : World) : Prop := ∃ v, e = .returned v ∧ Sl K w' w.heap.size v xs ∧ Grew w w'

set_option maxHeartbeats 400000 in
set_option maxRecDepth 100000 in
theorem ownInts_any (p : Option Addr) (c : Nat) (xs : List Int) (w : World) (hx : Rd kI w p xs) (hp : p = none → c = 0) (hl : xs.length ≤ 1000) :
    Calls Tryz.prog 30 #[.slice p xs.length c] w (OwnOf kI xs w) := by
  obtain ⟨v, w5, hr, hs, hg⟩ := own_run kI p c xs.length xs rfl hx hp (by omega)
  have HR := Lib.hid hr
  have HS := Lib.hid hs
  have HG := Lib.hid hg
  generalize xs.length = n at HR hl ⊢
  clear hr hs hg hx
  go_enter Tryz.func30, Tryz.ntmps30
  go_wp2_with (at_builtin; refine wpList_append_run rfl _ _ _ _ rfl rfl _ _ _ rfl rfl HR.out ?_)
  go_ret
  exact ⟨v, rfl, HS.out, HG.out⟩
set_option maxHeartbeats 400000 in
set_option maxRecDepth 100000 in
theorem ownBools_any (p : Option Addr) (c : Nat) (xs : List Bool) (w : World) (hx : Rd kB w p xs) (hp : p = none → c = 0) (hl : xs.length ≤ 1000) :
    Calls Tryz.prog 31 #[.slice p xs.length c] w (OwnOf kB xs w) := by
  obtain ⟨v, w5, hr, hs, hg⟩ := own_run kB p c xs.length xs rfl hx hp (by omega)
  have HR := Lib.hid hr
  have HS := Lib.hid hs
  have HG := Lib.hid hg
  generalize xs.length = n at HR hl ⊢
  clear hr hs hg hx
  go_enter Tryz.func31, Tryz.ntmps31
  go_wp2_with (at_builtin; refine wpList_append_run rfl _ _ _ _ rfl rfl _ _ _ rfl rfl HR.out ?_)
  go_ret
  exact ⟨v, rfl, HS.out, HG.out⟩

/-- What the reference's RestoreSlots returns. -/
def RefRestored (gens : List Int) (tk : List Bool) (w : World) (e : Ending) (w' : World) : Prop :=
  if restE gens tk = 0 then ∃ rb rg rt, e = .returned (.tuple #[.pointer (some ⟨rb, 0, none⟩), .int .i64 0]) ∧ RefAt w' rb rg rt gens tk ∧ Grew w w' ∧ w.heap.size ≤ rb ∧ w.heap.size ≤ rg ∧ w.heap.size ≤ rt
  else e = .returned (.tuple #[.pointer none, .int .i64 (restE gens tk)]) ∧ Grew w w'
theorem RefRestored.bad {gens : List Int} {tk : List Bool} {w w' : World} {c : Int} (h : restE gens tk = c) (hc : c ≠ 0) (g : Grew w w') : RefRestored gens tk w (.returned (.tuple #[.pointer none, .int .i64 c])) w' := by
  unfold RefRestored
  rw [h, if_neg hc]
  exact ⟨rfl, g⟩

theorem rdI_cell {w : World} {a : Addr} {xs : List Int} (h : Rd kI w (some a) xs) (j : Nat) (hj : j < xs.length) : w.cell? (a.add j) = some (.int .i64 xs[j]) := by
  have := h.cell j 0 hj (by decide)
  simpa [kI] using this
theorem rdB_cell {w : World} {a : Addr} {xs : List Bool} (h : Rd kB w (some a) xs) (j : Nat) (hj : j < xs.length) : w.cell? (a.add j) = some (.bool xs[j]) := by
  have := h.cell j 0 hj (by decide)
  simpa [kB] using this
theorem rd_some {α : Type} {K : Kind α} {w : World} {p : Option Addr} {xs : List α} (h : Rd K w p xs) (h0 : 0 < xs.length) : ∃ a, p = some a := by
  rcases h with rfl | ⟨a, ha, -⟩
  · simp at h0
  · exact ⟨a, ha⟩

set_option maxHeartbeats 2000000 in
set_option maxRecDepth 100000 in
theorem refRestore_any (p q : Option Addr) (cx cy : Nat) (gens : List Int) (tk : List Bool) (w : World) (hx : Rd kI w p gens) (hy : Rd kB w q tk) (hn : gens.length ≤ maxLen) (hm : tk.length ≤ maxLen) :
    Calls Tryz.prog 33 #[.slice p gens.length cx, .slice q tk.length cy] w (RefRestored gens tk w) := by
  unfold maxLen at hn hm
  by_cases hl : 1 ≤ gens.length ∧ gens.length ≤ 64
  case neg =>
    have hE : restE gens tk = 3 := by unfold restE; rw [if_pos hl]
    have HE := Lib.hid hE
    have hh : (gens.length : Int) < 1 ∨ 64 < (gens.length : Int) := by omega
    clear hE hl hx hy
    rcases hh with hh | hh
    all_goals
      go_enter Tryz.func33, Tryz.ntmps33
      go_wp2_with fail
      go_ret2
      exact RefRestored.bad HE.out (by decide) (Grew.refl _)
  case pos =>
    obtain ⟨n, hn'⟩ : ∃ n, gens.length = n := ⟨_, rfl⟩
    obtain ⟨m, hm'⟩ : ∃ m, tk.length = m := ⟨_, rfl⟩
    have HX := Lib.hid hx
    have HY := Lib.hid hy
    have HN := Lib.hid hn'
    have HM := Lib.hid hm'
    have HL := Lib.hid hl
    rw [hn'] at hl hn ⊢
    rw [hm'] at hm ⊢
    have hl1 : (1 : Int) ≤ (n : Int) ∧ (n : Int) ≤ 64 := by omega
    clear hx hy hn' hm'
    go_enter Tryz.func33, Tryz.ntmps33
    go_wp2_with fail
    go_loopg [6] n (fun gg s6 wr => ∃ j : Nat, j ≤ n ∧ n - j ≤ gg ∧ s6 = .int .i64 j ∧ w = wr ∧ Aside (∀ i, i < j → 0 ≤ gens.getD i 0 ∧ gens.getD i 0 ≤ 2147483647))
    case atStart => exact ⟨0, Nat.zero_le _, by omega, rfl, rfl, fun i hi => absurd hi (Nat.not_lt_zero _)⟩
    case round =>
      obtain ⟨j, hjn, hgg, rfl, rfl, A⟩ := hrel
      by_cases hlt : j < n
      · have hjz : (j : Int) < (n : Int) := by omega
        have hjx : j < gens.length := by rw [HN.out]; exact hlt
        obtain ⟨a, rfl⟩ := rd_some HX.out (by omega)
        have ca := rdI_cell HX.out j hjx
        have B : Aside (gens.getD j 0 = gens[j]) := by show _ = _; rw [List.getD_eq_getElem?_getD, List.getElem?_eq_getElem hjx]; rfl
        have hE : Aside (¬ (0 ≤ gens[j] ∧ gens[j] ≤ 2147483647) → restE gens tk = 3) := fun hb => by
          unfold restE
          rw [if_neg (by simpa using HL.out), if_pos (fun h => hb (by have := h j hjx; rw [show gens.getD j 0 = gens[j] from B.out] at this; exact this))]
        generalize gens[j] = u at ca B hE
        clear hjx
        by_cases hu0 : u < 0
        · go_wp2_with fail
          go_ret2
          exact RefRestored.bad (hE.out (by omega)) (by decide) (Grew.refl _)
        by_cases hu1 : 2147483647 < u
        · go_wp2_with fail
          go_ret2
          exact RefRestored.bad (hE.out (by omega)) (by decide) (Grew.refl _)
        · go_wp2_with fail
          go_roundg (n - (j + 1))
          case measure => omega
          case rel =>
            refine ⟨j + 1, by omega, by omega, by go_num, rfl, (show Aside _ from fun i hi => ?_)⟩
            by_cases e : i = j
            · subst e; rw [B.out]; omega
            · exact A.out i (by omega)
      · have hjz : ¬ (j : Int) < (n : Int) := by omega
        obtain rfl : n = j := by omega
        by_cases hmn : m = n
        case neg =>
          have hE : restE gens tk = 4 := by
            unfold restE
            rw [if_neg (by simpa using HL.out), if_neg (by rw [HN.out]; exact fun h => h A.out), if_pos (by rw [HM.out, HN.out]; exact hmn)]
          have HE := Lib.hid hE
          have hmz : ((m : Int) != (n : Int)) = true := by simp; omega
          clear hE hmn
          go_wp2_with fail
          go_ret2
          exact RefRestored.bad HE.out (by decide) (Grew.refl _)
        case pos =>
          subst hmn
          have hmz : ((m : Int) != (m : Int)) = false := by simp
          obtain ⟨wz, hwz⟩ : ∃ wz, wz = w := ⟨_, rfl⟩
          have HWZ := Lib.hid hwz
          clear hwz
          go_wp2_with fail
          go_loopg [7] m (fun gg s7 wr => ∃ j : Nat, j ≤ m ∧ m - j ≤ gg ∧ s7 = .int .i64 j ∧ w = wr ∧ Aside (∀ i, i < j → tk.getD i false = true → gens.getD i 0 ≠ 0))
          case atStart => exact ⟨0, Nat.zero_le _, by omega, rfl, rfl, fun i hi => absurd hi (Nat.not_lt_zero _)⟩
          case round =>
            obtain ⟨j, hjn2, hgg2, rfl, rfl, A2⟩ := hrel
            by_cases hlt2 : j < m
            · have hjz2 : (j : Int) < (m : Int) := by omega
              have hjx : j < gens.length := by rw [HN.out]; exact hlt2
              have hjy : j < tk.length := by rw [HM.out]; exact hlt2
              obtain ⟨a, rfl⟩ := rd_some HX.out (by omega)
              obtain ⟨b, rfl⟩ := rd_some HY.out (by omega)
              have ca := rdI_cell HX.out j hjx
              have cb := rdB_cell HY.out j hjy
              have B : Aside (gens.getD j 0 = gens[j] ∧ tk.getD j false = tk[j]) := by
                show _ ∧ _
                rw [List.getD_eq_getElem?_getD, List.getElem?_eq_getElem hjx, List.getD_eq_getElem?_getD, List.getElem?_eq_getElem hjy]
                exact ⟨rfl, rfl⟩
              have hE : Aside (tk[j] = true → gens[j] = 0 → restE gens tk = 4) := fun ht hg => by
                unfold restE
                rw [if_neg (by simpa using HL.out), if_neg (by rw [HN.out]; exact fun h => h A.out), if_neg (by rw [HM.out, HN.out]; simp), if_pos (fun h => h j hjx (by rw [(show _ ∧ _ from B.out).2]; exact ht) (by rw [(show _ ∧ _ from B.out).1]; exact hg))]
              generalize gens[j] = u at ca B hE
              generalize tk[j] = t at cb B hE
              clear hjx hjy
              cases t
              · go_wp2_with fail
                go_roundg (m - (j + 1))
                case measure => omega
                case rel =>
                  refine ⟨j + 1, by omega, by omega, by go_num, rfl, (show Aside _ from fun i hi ht => ?_)⟩
                  by_cases e : i = j
                  · subst e; rw [B.out.2] at ht; cases ht
                  · exact A2.out i (by omega) ht
              · by_cases hu : u = 0
                · subst hu
                  go_wp2_with fail
                  go_ret2
                  exact RefRestored.bad (hE.out (by trivial) (by trivial)) (by decide) (Grew.refl _)
                · have hub : (u == 0) = false := beq_eq_false_iff_ne.2 hu
                  have HU := Lib.hid hu
                  clear hu
                  go_wp2_with fail
                  go_roundg (m - (j + 1))
                  case measure => omega
                  case rel =>
                    refine ⟨j + 1, by omega, by omega, by go_num, rfl, (show Aside _ from fun i hi ht => ?_)⟩
                    by_cases e : i = j
                    · subst e; rw [B.out.1]; exact HU.out
                    · exact A2.out i (by omega) ht
            · have hjz2 : ¬ (j : Int) < (m : Int) := by omega
              obtain rfl : m = j := by omega
              have hE : restE gens tk = 0 := by
                unfold restE
                rw [if_neg (by simpa using HL.out), if_neg (by rw [HN.out]; exact fun h => h A.out), if_neg (by rw [HM.out, HN.out]; simp), if_neg (by rw [HN.out]; exact fun h => h A2.out)]
              have HE := Lib.hid hE
              obtain ⟨a, rfl⟩ := rd_some HX.out (by have := HN.out; omega)
              obtain ⟨b, rfl⟩ := rd_some HY.out (by have := HM.out; omega)
              obtain ⟨v5, w5, hr5, hs5, hg5⟩ := own_run kI (some a) cx m gens HN.out HX.out (by simp) (by omega)
              obtain ⟨v6, w6, hr6, hs6, hg6⟩ := own_run kB (some b) cy m tk HM.out (HY.out.grew hg5) (by simp) (by omega)
              obtain ⟨p5, c5, rfl, hp5⟩ := hs5.shape
              obtain ⟨p6, c6, rfl, hp6⟩ := hs6.shape
              obtain ⟨g5, rfl⟩ := hp5 (by have := HN.out; omega)
              obtain ⟨g6, rfl⟩ := hp6 (by have := HM.out; omega)
              rw [HN.out] at hr5 hs5
              rw [HM.out] at hr6 hs6
              have R5 := Lib.hid hr5
              have R6 := Lib.hid hr6
              have hne : g5 ≠ g6 := by have := hs5.len.2.2.1; have := hs6.len.2.1; omega
              have hend := ref_end (w := w) HN.out (by rw [← HN.out]; exact HL.out) HM.out (fun g hg => by
                obtain ⟨i, hi, rfl⟩ := List.getElem_of_mem hg
                have := A.out i (by rw [← HN.out]; exact hi)
                rwa [List.getD_eq_getElem?_getD, List.getElem?_eq_getElem hi] at this) hs5 (hs6.base hg5.size) hg6 (Grew.refl _) (hg5.trans hg6) hne
              have HEnd := Lib.hid hend
              have hgw := hg5.trans hg6
              have HGW := Lib.hid (hgw.alloc (.cells #[.slice (some ⟨g5, 0, none⟩) m c5, .slice (some ⟨g6, 0, none⟩) m c6] 102))
              clear hE hr5 hr6 hs5 hs6 hg5 hg6 hp5 hp6 hne hend hgw
              go_wp2_with (at_builtin; first | (refine wpList_append_run rfl _ _ _ _ rfl rfl _ _ _ rfl rfl R5.out ?_) | (refine wpList_append_run rfl _ _ _ _ rfl rfl _ _ _ rfl rfl R6.out ?_))
              go_ret2
              unfold RefRestored
              rw [if_pos HE.out]
              exact ⟨w6.heap.size, g5, g6, rfl, HEnd.out.1, HGW.out, HEnd.out.2.1, HEnd.out.2.2.1, HEnd.out.2.2.2⟩

end Go.Proofs.YtcelamaiebjdaaaGreat

/- The walk of IndexRestores: it returns true. -/
import Derived.Test.YtcelamaiebjdaaaGreatPlays
import Derived.Test.YtcelamaiebjdaaaGreatRefRestore
import Derived.Test.YtcelamaiebjdaaaGreatWake
import Derived.BigQuiet
import Derived.Deep.QuietTactic
namespace Go.Proofs.YtcelamaiebjdaaaGreat
open Go.RowKit Go.Maps Go.Sort Go.Shelf
attribute [local go_sem ↓] Go.wp_at_zero Go.wp_at_succ

theorem rdI_kI {w : World} {p : Option Addr} {xs : List Int} (h : Rd kI w p xs) : RdI w p xs := by
  rcases h with h | ⟨a, ha, hb, hc⟩
  · exact .inl h
  · exact .inr ⟨a, ha, hb, fun j hj => rdI_cell (w := w) (a := a) (xs := xs) (.inr ⟨a, rfl, hb, hc⟩) j hj⟩
theorem rdB_kB {w : World} {p : Option Addr} {xs : List Bool} (h : Rd kB w p xs) : RdB w p xs := by
  rcases h with h | ⟨a, ha, hb, hc⟩
  · exact .inl h
  · exact .inr ⟨a, ha, hb, fun j hj => rdB_cell (w := w) (a := a) (xs := xs) (.inr ⟨a, rfl, hb, hc⟩) j hj⟩
theorem Rd.none_of {α : Type} {K : Kind α} {w : World} {p : Option Addr} {xs : List α} (h : Rd K w p xs) (h0 : 0 < xs.length) : ∃ a, p = some a ∧ a.block < w.heap.size := by
  rcases h with rfl | ⟨a, ha, hb, -⟩
  · simp at h0
  · exact ⟨a, ha, hb⟩
theorem slI_stored {w : World} {B g n cap : Nat} {xs : List Int} (h : Sl kI w B (.slice (some ⟨g, 0, none⟩) n cap) xs) (j : Nat) (u : Int) : Sl kI (w.setCell ⟨g, j, none⟩ (.int .i64 u)) B (.slice (some ⟨g, 0, none⟩) n cap) (xs.set j u) := by
  obtain ⟨rfl, _, hg, _⟩ := h.len
  have e := (World.ownsRow.stored (g := g) (cap := cap) h j (.int .i64 u)).1
  unfold Sl
  rw [List.length_set, flatIn, List.map_set, ← flatIn]
  exact e
theorem slI_cell {w : World} {B g n cap : Nat} {xs : List Int} (h : Sl kI w B (.slice (some ⟨g, 0, none⟩) n cap) xs) (j : Nat) (hj : j < xs.length) : w.cell? ⟨g, j, none⟩ = some (.int .i64 xs[j]) := by
  have := h.cell j 0 hj (by decide)
  simpa [kI] using this

set_option maxHeartbeats 4000000 in
set_option maxRecDepth 100000 in
theorem indexRestores_any (p : Option Addr) (cx : Nat) (gens : List Int) (q : Option Addr) (cy : Nat) (tk : List Bool) (r : Option Addr) (cz : Nat) (acts : List (Int × Int × Int)) (w : World) (hx : Rd kI w p gens ∧ (p = none → cx = 0)) (hn : gens.length ≤ maxLen)
    (hy : Rd kB w q tk ∧ (q = none → cy = 0)) (hm : tk.length ≤ maxLen) (ha : Rd kA w r acts) (hk : acts.length ≤ maxLen) :
    Calls Tryz.prog 7 #[.slice p gens.length cx, .slice q tk.length cy, .slice r acts.length cz] w fun e w' => e = .returned (.bool true) ∧ Grew w w' := by
  obtain ⟨n, hn'⟩ : ∃ n, gens.length = n := ⟨_, rfl⟩
  obtain ⟨m, hm'⟩ : ∃ m, tk.length = m := ⟨_, rfl⟩
  obtain ⟨k, hk'⟩ : ∃ k, acts.length = k := ⟨_, rfl⟩
  have HX := Lib.hid hx
  have HY := Lib.hid hy
  have HA := Lib.hid ha
  have HN := Lib.hid hn'
  have HM := Lib.hid hm'
  have HK := Lib.hid hk'
  rw [hn'] at hn ⊢
  rw [hm'] at hm ⊢
  rw [hk'] at hk ⊢
  unfold maxLen at hn hm hk
  clear hx hy ha hn' hm' hk'
  by_cases hbig : 80 < n ∨ 80 < m ∨ 60 < k
  · have h3 : (80 : Int) < (n : Int) ∨ (¬ (80 : Int) < (n : Int) ∧ (80 : Int) < (m : Int)) ∨ (¬ (80 : Int) < (n : Int) ∧ ¬ (80 : Int) < (m : Int) ∧ (60 : Int) < (k : Int)) := by omega
    clear hbig
    rcases h3 with h1 | ⟨h1, h2⟩ | ⟨h1, h2, h3⟩
    all_goals
      go_enter Tryz.func7, Tryz.ntmps7
      go_wp2_with fail
      refine (awake_any _).mono ?_
      rintro e w1 ⟨rfl, hg1⟩
      go_wp2_with fail
      go_ret
      exact ⟨rfl, hg1⟩
  have z1 : ¬ (80 : Int) < (n : Int) := by omega
  have z2 : ¬ (80 : Int) < (m : Int) := by omega
  have z3 : ¬ (60 : Int) < (k : Int) := by omega
  have hb3 : n ≤ 80 ∧ m ≤ 80 ∧ k ≤ 60 := by omega
  clear hbig
  have hO1 := ownInts_any p cx gens w HX.out.1 HX.out.2 (by rw [HN.out]; omega)
  rw [HN.out] at hO1
  have HO1 := Lib.hid hO1
  clear hO1
  go_enter Tryz.func7, Tryz.ntmps7
  go_wp2_with fail
  refine HO1.out.mono ?_
  rintro e w1 ⟨v1, rfl, hs1, hg1⟩
  have hO2 := ownBools_any q cy tk w1 (HY.out.1.grew hg1) HY.out.2 (by rw [HM.out]; omega)
  rw [HM.out] at hO2
  have HO2 := Lib.hid hO2
  obtain ⟨p1, c1, rfl, hp1⟩ := hs1.shape
  rw [HN.out] at hs1 hp1 ⊢
  have S1 := Lib.hid hs1
  have P1 := Lib.hid hp1
  clear hO2 hs1 hp1
  go_wp2_with fail
  refine HO2.out.mono ?_
  rintro e w2 ⟨v2, rfl, hs2, hg2⟩
  obtain ⟨p2, c2, rfl, hp2⟩ := hs2.shape
  rw [HM.out] at hs2 hp2 ⊢
  have S2 := Lib.hid hs2
  have P2 := Lib.hid hp2
  have S1b := Lib.hid (S1.out.grew hg2)
  have hR := restore_any p1 p2 c1 c2 gens tk w2 (rdI_kI S1b.out.rd) (rdB_kB hs2.rd) (by rw [HN.out]; unfold maxLen; omega) (by rw [HM.out]; unfold maxLen; omega)
  rw [HN.out, HM.out] at hR
  have HRs := Lib.hid hR
  have G1 := Lib.hid hg1
  have G2 := Lib.hid hg2
  clear hR hs2 hp2 hg1 hg2
  go_wp2_with fail
  refine HRs.out.mono ?_
  intro e w3 h
  have hg3 : Grew w2 w3 := by
    unfold Restored at h
    split at h
    · obtain ⟨_, _, _, _, h, _⟩ := h; exact h
    · exact h.2
  have G3 := Lib.hid hg3
  have hQ := refRestore_any p q cx cy gens tk w3 (((HX.out.1.grew G1.out).grew G2.out).grew hg3) (((HY.out.1.grew G1.out).grew G2.out).grew hg3) (by rw [HN.out]; unfold maxLen; omega) (by rw [HM.out]; unfold maxLen; omega)
  rw [HN.out, HM.out] at hQ
  have HQ := Lib.hid hQ
  clear hQ hg3
  by_cases hE : restE gens tk = 0
  · have h0 := h
    unfold Restored at h0
    rw [if_pos hE] at h0
    obtain ⟨sb, gb, rfl, hs3, -, b1, b2⟩ := h0
    have HS3 := Lib.hid hs3
    clear h hs3
    go_wp2_with fail
    refine HQ.out.mono ?_
    intro e w4 h
    unfold RefRestored at h
    rw [if_pos hE] at h
    obtain ⟨rb, rg, rt, rfl, hr4, hg4, b3, b4, b5⟩ := h
    have HR4 := Lib.hid hr4
    have HS4 := Lib.hid (HS3.out.grew hg4)
    clear hE hr4
    have hSI := sameInts_any p1 p c1 cx gens gens w4 (((S1b.out.grew G3.out).grew hg4).rd |> rdI_kI) (rdI_kI ((((HX.out.1.grew G1.out).grew G2.out).grew G3.out).grew hg4)) (by rw [HN.out]; unfold maxLen; omega)
    rw [HN.out, decide_eq_true rfl] at hSI
    have HSI := Lib.hid hSI
    have G4 := Lib.hid hg4
    have hmm : ((m : Int) != (m : Int)) = false := by simp
    clear hSI hg4
    go_wp2_with fail
    refine HSI.out.mono ?_
    rintro e w5 ⟨rfl, hg5⟩
    have hw5 := G1.out.trans (G2.out.trans (G3.out.trans (G4.out.trans hg5)))
    have T5 := Lib.hid ((((S2.out.grew G3.out).grew G4.out).grew hg5).base G1.out.size)
    have I5 := Lib.hid ((((S1b.out.grew G3.out).grew G4.out).grew hg5))
    have W5 := Lib.hid hw5
    have G5 := Lib.hid hg5
    clear hg5 hw5
    go_wp2_with fail
    go_loopg [13] m (fun gg s13 wr => ∃ i : Nat, i ≤ m ∧ m - i ≤ gg ∧ s13 = .int .i64 i ∧ Aside (Kp (own (.slice p2 m c2)) w5 wr ∧ ∃ T', T'.length = m ∧ Sl kB wr w.heap.size (.slice p2 m c2) T' ∧ ∀ j, i ≤ j → T'.getD j false = tk.getD j false))
    case atStart => exact ⟨0, Nat.zero_le _, by omega, rfl, Kp.refl _ _, tk, HM.out, T5.out, fun _ _ => rfl⟩
    case round =>
      obtain ⟨i, him, hgg, rfl, A⟩ := hrel
      by_cases h1 : i < m
      · have h1z : (i : Int) < (m : Int) := by omega
        have hii : (0 : Int) ≤ (i : Int) := by omega
        obtain ⟨tg, rfl⟩ := P2.out (by omega)
        obtain ⟨hk0, T', hT1, hT2, hT3⟩ := A.out
        obtain ⟨a, rfl⟩ := rd_some HY.out.1 (by rw [HM.out]; omega)
        have hit : i < T'.length := by omega
        have him2 : i < tk.length := by rw [HM.out]; exact h1
        have ca := slB_cell hT2 i hit
        have fa := hT2.free i
        have hwr : Grew w wr := Kp.grewOf W5.out hk0 (fun x hx => (T5.out.own_ge x hx).1)
        have cb := rdB_cell (HY.out.1.grew hwr) i him2
        have he : T'[i] = tk[i] := by
          have := hT3 i (Nat.le_refl _)
          rw [List.getD_eq_getElem?_getD, List.getD_eq_getElem?_getD, List.getElem?_eq_getElem hit, List.getElem?_eq_getElem him2] at this
          exact this
        rw [he] at ca
        generalize tk[i] = u at ca cb
        have HT2 := Lib.hid hT2
        have HT3 := Lib.hid hT3
        have HT1 := Lib.hid hT1
        have HK1 := Lib.hid hk0
        clear hk0 hT1 hT2 hT3 he hit him2 hwr A
        cases u
        all_goals
          go_wp2_with fail
          go_quiet (fail)
          go_wp2_with fail
          go_roundg (m - (i + 1))
          case measure => omega
          case rel =>
            refine ⟨i + 1, by omega, by omega, by go_num, (show Aside _ from ⟨(HK1.out.trans (((Grew.refl wr).drewN _).kp _)).store (by simp [own, Value.ownBlock]) i _, _, by rw [List.length_set]; exact HT1.out, slB_stored (HT2.out.grew ((Grew.refl wr).drewN _)) i _, fun j hj => ?_⟩)⟩
            rw [← HT3.out j (by omega), List.getD_eq_getElem?_getD, List.getD_eq_getElem?_getD, List.getElem?_set_ne (by omega)]
      · have h1z : ¬ (i : Int) < (m : Int) := by omega
        obtain ⟨hk0, -⟩ := A.out
        have HK0 := Lib.hid hk0
        have hII : Sl kI wr w.heap.size (.slice p1 n c1) gens := I5.out.kp hk0 (fun g hg hm => by
          have h1 := S1.out.own_ge g hg
          have h2 := S2.out.own_ge g hm
          omega)
        have HII := Lib.hid hII
        have hwr : Grew w wr := Kp.grewOf W5.out hk0 (fun x hx => (T5.out.own_ge x hx).1)
        have HWR := Lib.hid hwr
        obtain ⟨wt, hwt⟩ : ∃ wt, wt = wr := ⟨_, rfl⟩
        subst hwt
        clear A hk0 hII hwr
        go_wp2_with fail
        go_loopg [14] n (fun gg s14 wr => ∃ i : Nat, i ≤ n ∧ n - i ≤ gg ∧ s14 = .int .i64 i ∧ Aside (Kp (own (.slice p1 n c1)) wt wr ∧ ∃ G', G'.length = n ∧ Sl kI wr w.heap.size (.slice p1 n c1) G'))
        case atStart => exact ⟨0, Nat.zero_le _, by omega, rfl, Kp.refl _ _, gens, HN.out, HII.out⟩
        case round =>
          obtain ⟨i2, hin2, hgg2, rfl, A⟩ := hrel
          by_cases h2 : i2 < n
          · have h2z : (i2 : Int) < (n : Int) := by omega
            obtain ⟨gg1, rfl⟩ := P1.out (by omega)
            obtain ⟨hk0, G', hT1, hT2⟩ := A.out
            have hit : i2 < G'.length := by omega
            have ca := slI_cell hT2 i2 hit
            have fa := hT2.free i2
            have hT4 := slI_stored hT2 i2 5
            have hk1 : Kp (own (.slice (some ⟨gg1, 0, none⟩) n c1)) wt (wr.setCell ⟨gg1, i2, none⟩ (.int .i64 5)) := hk0.store (by simp [own, Value.ownBlock]) i2 _
            have HT4 := Lib.hid hT4
            have HT1 := Lib.hid hT1
            have HK1 := Lib.hid hk1
            generalize G'[i2] = u at ca
            clear hk0 hT1 hT2 hT4 hk1 hit A
            go_wp2_with fail
            go_roundg (n - (i2 + 1))
            case measure => omega
            case rel => exact ⟨i2 + 1, by omega, by omega, by go_num, (show Aside _ from ⟨HK1.out, _, by rw [List.length_set]; exact HT1.out, HT4.out⟩)⟩
          · have h2z : ¬ (i2 : Int) < (n : Int) := by omega
            obtain ⟨hk0, -⟩ := A.out
            have hwr : Grew w wr := Kp.grewOf HWR.out hk0 (fun x hx => (HII.out.own_ge x hx).1)
            have hl3 := HS3.out.lt
            have hl4 := HR4.out.lt
            have hd1 : ∀ x ∈ own (.slice p2 m c2), x < w2.heap.size := fun x hx => (S2.out.own_ge x hx).2
            have hd2 : ∀ x ∈ own (.slice p1 n c1), x < w2.heap.size := fun x hx => (S1b.out.own_ge x hx).2
            have hz3 := G3.out.size
            have hn1 : ∀ b, w2.heap.size ≤ b → b ∉ own (.slice p2 m c2) := fun b hb hm => by have := hd1 b hm; omega
            have hn2 : ∀ b, w2.heap.size ≤ b → b ∉ own (.slice p1 n c1) := fun b hb hm => by have := hd2 b hm; omega
            have hsF : SlotsAt wr sb gb gens tk := (((HS4.out.grew G5.out).kp HK0.out (hn1 _ b1) (hn1 _ b2)).kp hk0 (hn2 _ b1) (hn2 _ b2))
            have hrF : RefAt wr rb rg rt gens tk := (((HR4.out.grew G5.out).kp HK0.out (hn1 _ (by omega)) (hn1 _ (by omega)) (hn1 _ (by omega))).kp hk0 (hn2 _ (by omega)) (hn2 _ (by omega)) (hn2 _ (by omega)))
            have hw02 : w.heap.size ≤ w2.heap.size := (G1.out.trans G2.out).size
            have HSF := Lib.hid hsF
            have HRF := Lib.hid hrF
            have HWF := Lib.hid hwr
            have HAl := Lib.hid (alike_any sb gb rb rg rt gens tk wr hsF hrF)
            clear hsF hrF hwr hk0 A hd1 hd2 hn1 hn2
            go_wp2_with fail
            refine HAl.out.mono ?_
            rintro e w6 ⟨rfl, hg6⟩
            have hpl := plays_any sb gb rb rg rt gens tk r cz acts w6 (HSF.out.grew hg6) (HRF.out.grew hg6) (fun x hx hm => by
              simp only [List.mem_cons, List.not_mem_nil, or_false] at hx hm
              omega) ((HA.out.grew HWF.out).grew hg6) (fun h0 a hpa hm => by
              obtain ⟨a', h1, h2⟩ := HA.out.none_of h0
              rw [h1] at hpa
              injection hpa with hpa
              subst hpa
              simp only [List.mem_cons, List.not_mem_nil, or_false] at hm
              omega) (by rw [HK.out]; omega)
            rw [HK.out] at hpl
            have HPl := Lib.hid hpl
            have HW6 := Lib.hid (HWF.out.trans hg6)
            clear hg6 hpl
            go_wp2_with fail
            refine HPl.out.mono ?_
            rintro e w7 ⟨rfl, hk7⟩
            have hw7 : Grew w w7 := Kp.grewOf HW6.out hk7 (fun x hx => by
              simp only [List.mem_cons, List.not_mem_nil, or_false] at hx
              omega)
            clear hk7
            go_wp2_with fail
            refine (awake_any _).mono ?_
            rintro e w8 ⟨rfl, hg8⟩
            have hw8 := hw7.trans hg8
            clear hg8
            go_wp2_with fail
            go_ret
            exact ⟨rfl, hw8⟩
  · have h0 := h
    unfold Restored at h0
    rw [if_neg hE] at h0
    obtain ⟨rfl, -⟩ := h0
    obtain ⟨E, hEE⟩ : ∃ E, restE gens tk = E := ⟨_, rfl⟩
    have hE2 : (E != E) = false := by simp
    rw [hEE]
    have HEE := Lib.hid hEE
    clear h hEE
    go_wp2_with fail
    refine HQ.out.mono ?_
    intro e w4 h
    unfold RefRestored at h
    rw [if_neg hE, HEE.out] at h
    obtain ⟨rfl, hg4⟩ := h
    clear hE
    have hSI := sameInts_any p1 p c1 cx gens gens w4 (((S1b.out.grew G3.out).grew hg4).rd |> rdI_kI) (rdI_kI ((((HX.out.1.grew G1.out).grew G2.out).grew G3.out).grew hg4)) (by rw [HN.out]; unfold maxLen; omega)
    rw [HN.out, decide_eq_true rfl] at hSI
    have HSI := Lib.hid hSI
    have G4 := Lib.hid hg4
    have hmm : ((m : Int) != (m : Int)) = false := by simp
    clear hSI hg4
    go_wp2_with fail
    refine HSI.out.mono ?_
    rintro e w5 ⟨rfl, hg5⟩
    have hw5 := G1.out.trans (G2.out.trans (G3.out.trans (G4.out.trans hg5)))
    have T5 := Lib.hid ((((S2.out.grew G3.out).grew G4.out).grew hg5).base G1.out.size)
    have I5 := Lib.hid ((((S1b.out.grew G3.out).grew G4.out).grew hg5))
    have W5 := Lib.hid hw5
    have G5 := Lib.hid hg5
    clear hg5 hw5
    go_wp2_with fail
    go_loopg [13] m (fun gg s13 wr => ∃ i : Nat, i ≤ m ∧ m - i ≤ gg ∧ s13 = .int .i64 i ∧ Aside (Kp (own (.slice p2 m c2)) w5 wr ∧ ∃ T', T'.length = m ∧ Sl kB wr w.heap.size (.slice p2 m c2) T' ∧ ∀ j, i ≤ j → T'.getD j false = tk.getD j false))
    case atStart => exact ⟨0, Nat.zero_le _, by omega, rfl, Kp.refl _ _, tk, HM.out, T5.out, fun _ _ => rfl⟩
    case round =>
      obtain ⟨i, him, hgg, rfl, A⟩ := hrel
      by_cases h1 : i < m
      · have h1z : (i : Int) < (m : Int) := by omega
        have hii : (0 : Int) ≤ (i : Int) := by omega
        obtain ⟨tg, rfl⟩ := P2.out (by omega)
        obtain ⟨hk0, T', hT1, hT2, hT3⟩ := A.out
        obtain ⟨a, rfl⟩ := rd_some HY.out.1 (by rw [HM.out]; omega)
        have hit : i < T'.length := by omega
        have him2 : i < tk.length := by rw [HM.out]; exact h1
        have ca := slB_cell hT2 i hit
        have fa := hT2.free i
        have hwr : Grew w wr := Kp.grewOf W5.out hk0 (fun x hx => (T5.out.own_ge x hx).1)
        have cb := rdB_cell (HY.out.1.grew hwr) i him2
        have he : T'[i] = tk[i] := by
          have := hT3 i (Nat.le_refl _)
          rw [List.getD_eq_getElem?_getD, List.getD_eq_getElem?_getD, List.getElem?_eq_getElem hit, List.getElem?_eq_getElem him2] at this
          exact this
        rw [he] at ca
        generalize tk[i] = u at ca cb
        have HT2 := Lib.hid hT2
        have HT3 := Lib.hid hT3
        have HT1 := Lib.hid hT1
        have HK1 := Lib.hid hk0
        clear hk0 hT1 hT2 hT3 he hit him2 hwr A
        cases u
        all_goals
          go_wp2_with fail
          go_quiet (fail)
          go_wp2_with fail
          go_roundg (m - (i + 1))
          case measure => omega
          case rel =>
            refine ⟨i + 1, by omega, by omega, by go_num, (show Aside _ from ⟨(HK1.out.trans (((Grew.refl wr).drewN _).kp _)).store (by simp [own, Value.ownBlock]) i _, _, by rw [List.length_set]; exact HT1.out, slB_stored (HT2.out.grew ((Grew.refl wr).drewN _)) i _, fun j hj => ?_⟩)⟩
            rw [← HT3.out j (by omega), List.getD_eq_getElem?_getD, List.getD_eq_getElem?_getD, List.getElem?_set_ne (by omega)]
      · have h1z : ¬ (i : Int) < (m : Int) := by omega
        obtain ⟨hk0, -⟩ := A.out
        have HK0 := Lib.hid hk0
        have hII : Sl kI wr w.heap.size (.slice p1 n c1) gens := I5.out.kp hk0 (fun g hg hm => by
          have h1 := S1.out.own_ge g hg
          have h2 := S2.out.own_ge g hm
          omega)
        have HII := Lib.hid hII
        have hwr : Grew w wr := Kp.grewOf W5.out hk0 (fun x hx => (T5.out.own_ge x hx).1)
        have HWR := Lib.hid hwr
        obtain ⟨wt, hwt⟩ : ∃ wt, wt = wr := ⟨_, rfl⟩
        subst hwt
        clear A hk0 hII hwr
        go_wp2_with fail
        go_loopg [14] n (fun gg s14 wr => ∃ i : Nat, i ≤ n ∧ n - i ≤ gg ∧ s14 = .int .i64 i ∧ Aside (Kp (own (.slice p1 n c1)) wt wr ∧ ∃ G', G'.length = n ∧ Sl kI wr w.heap.size (.slice p1 n c1) G'))
        case atStart => exact ⟨0, Nat.zero_le _, by omega, rfl, Kp.refl _ _, gens, HN.out, HII.out⟩
        case round =>
          obtain ⟨i2, hin2, hgg2, rfl, A⟩ := hrel
          by_cases h2 : i2 < n
          · have h2z : (i2 : Int) < (n : Int) := by omega
            obtain ⟨gg1, rfl⟩ := P1.out (by omega)
            obtain ⟨hk0, G', hT1, hT2⟩ := A.out
            have hit : i2 < G'.length := by omega
            have ca := slI_cell hT2 i2 hit
            have fa := hT2.free i2
            have hT4 := slI_stored hT2 i2 5
            have hk1 : Kp (own (.slice (some ⟨gg1, 0, none⟩) n c1)) wt (wr.setCell ⟨gg1, i2, none⟩ (.int .i64 5)) := hk0.store (by simp [own, Value.ownBlock]) i2 _
            have HT4 := Lib.hid hT4
            have HT1 := Lib.hid hT1
            have HK1 := Lib.hid hk1
            generalize G'[i2] = u at ca
            clear hk0 hT1 hT2 hT4 hk1 hit A
            go_wp2_with fail
            go_roundg (n - (i2 + 1))
            case measure => omega
            case rel => exact ⟨i2 + 1, by omega, by omega, by go_num, (show Aside _ from ⟨HK1.out, _, by rw [List.length_set]; exact HT1.out, HT4.out⟩)⟩
          · have h2z : ¬ (i2 : Int) < (n : Int) := by omega
            obtain ⟨hk0, -⟩ := A.out
            have hwr : Grew w wr := Kp.grewOf HWR.out hk0 (fun x hx => (HII.out.own_ge x hx).1)
            clear hk0 A
            go_wp2_with fail
            refine (awake_any _).mono ?_
            rintro e w8 ⟨rfl, hg8⟩
            have hw8 := hwr.trans hg8
            clear hg8
            go_wp2_with fail
            go_ret
            exact ⟨rfl, hw8⟩

end Go.Proofs.YtcelamaiebjdaaaGreat

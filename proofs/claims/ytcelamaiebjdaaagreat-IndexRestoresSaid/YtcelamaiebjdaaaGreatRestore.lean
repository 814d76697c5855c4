/- Contracts of Gen and RestoreSlots of tables of slots. -/
import Derived.Test.YtcelamaiebjdaaaGreatTake
import Derived.Test.YtcelamaiebjdaaaGreatKit
import Derived.Test.YtcelamaiebjdaaaGreatAppend
namespace Go.Proofs.YtcelamaiebjdaaaGreat
open Go.RowKit Go.Maps Go.Sort Go.Shelf
attribute [local go_sem ↓] Go.wp_at_zero Go.wp_at_succ

/-- The generation of slot k. -/
def genAt (gens : List Int) (k : Int) : Int := if 0 ≤ k ∧ k < gens.length then gens.getD k.toNat 0 else 0

set_option maxHeartbeats 1000000 in
set_option maxRecDepth 100000 in
theorem gen_any (sb gb : Nat) (gens : List Int) (tk : List Bool) (k : Int) (w : World) (h : SlotsAt w sb gb gens tk) :
    Calls Tryz.prog 70 #[.pointer (some ⟨sb, 0, none⟩), .int .i64 k] w fun e w' => e = .returned (.int .i64 (genAt gens k)) ∧ w = w' := by
  obtain ⟨s, cap, h⟩ := h
  have c1 := h.c1
  have hm := h.most
  obtain ⟨n, hn⟩ : ∃ n, gens.length = n := ⟨_, rfl⟩
  rw [hn] at c1 hm
  by_cases h1 : k < 0
  · rw [show genAt gens k = 0 from if_neg (by omega)]
    clear hn h
    go_enter Tryz.func70, Tryz.ntmps70
    go_wp2_with fail
    refine (slNone_any sb n cap (some ⟨gb, 0, none⟩) _ hm.1 (by first | (simp [go_sem]; done) | (simp [*, go_sem]; done) | (go_cell; done))).mono ?_
    rintro e w1 ⟨rfl, rfl⟩
    go_wp2_with fail
    go_ret
    exact ⟨rfl, rfl⟩
  by_cases h2 : (n : Int) ≤ k
  · rw [show genAt gens k = 0 from if_neg (by rw [hn]; omega)]
    clear hn h
    go_enter Tryz.func70, Tryz.ntmps70
    go_wp2_with fail
    refine (slNone_any sb n cap (some ⟨gb, 0, none⟩) _ hm.1 (by first | (simp [go_sem]; done) | (simp [*, go_sem]; done) | (go_cell; done))).mono ?_
    rintro e w1 ⟨rfl, rfl⟩
    go_wp2_with fail
    go_ret
    exact ⟨rfl, rfl⟩
  obtain ⟨i, rfl⟩ := Int.eq_ofNat_of_zero_le (show 0 ≤ k by omega)
  have hin : i < gens.length := by omega
  have ci := h.row.cell i hin
  have eg : genAt gens (i : Int) = gens[i] := by
    unfold genAt
    rw [if_pos (by omega), Int.toNat_natCast, List.getD_eq_getElem?_getD, List.getElem?_eq_getElem hin]
    rfl
  rw [eg]
  have hk2 : (i : Int) < (n : Int) := by omega
  generalize gens[i] = gv at ci
  clear eg h h1 h2 hn hin
  go_enter Tryz.func70, Tryz.ntmps70
  go_wp2_with fail
  refine (slNone_any sb n cap (some ⟨gb, 0, none⟩) _ hm.1 (by first | (simp [go_sem]; done) | (simp [*, go_sem]; done) | (go_cell; done))).mono ?_
  rintro e w1 ⟨rfl, rfl⟩
  go_wp2_with fail
  go_ret
  exact ⟨rfl, rfl⟩

/-- slices.Clone at integers. -/
theorem cloneI_any (p : Option Addr) (cx : Nat) (xs : List Int) (w : World) (hx : RdI w p xs) (h0 : 0 < xs.length) (hn : xs.length ≤ 1000000) :
    Calls Tryz.prog 81 #[.slice p xs.length cx] w (fun e w' => ∃ v, e = .returned v ∧ SlI w' w.heap.size v xs ∧ Grew w w') := by
  obtain ⟨a, rfl, hab, hca⟩ := hx.resolve_left (by rintro rfl; simp at h0)
  have hsp : a.spot = none := by
    have h1 := World.cell?_spot (hca 0 h0)
    unfold Addr.add at h1
    split at h1 <;> simp_all
  obtain ⟨b, o, sp⟩ := a
  simp only at hsp
  subst hsp
  obtain ⟨i, hi, hz, h1, h2⟩ := info_parts infoI
  have hc : ∀ j u, (xs.map zV)[j]? = some u → w.cell? ⟨b, o + j, none⟩ = some u := fun j u hj => by
    by_cases hjl : j < xs.length
    · rw [List.getElem?_map, List.getElem?_eq_getElem hjl] at hj
      have := hca j hjl
      simp only [Option.map_some, Option.some.injEq] at hj
      rw [hj] at this
      unfold Addr.add at this
      split at this
      · rename_i h; subst h; exact this
      · exact this
    · rw [List.getElem?_eq_none (by rw [List.length_map]; omega)] at hj
      cases hj
  refine (AnyE.slices_Clone Tryz.cloneI i _ 1 8 hi hz h1 h2 rfl (by decide) Tryz.sizeOf3 b o xs.length cx (xs.map zV) w (by rw [List.length_map, Nat.mul_one]) (by unfold maxLen; omega) (by omega) hc (fun u hu => by
    obtain ⟨x, _, rfl⟩ := List.mem_map.1 hu
    rfl)).mono ?_
  rintro e w' ⟨v, rfl, ho, _, hb⟩
  exact ⟨v, rfl, ho, Grew.of_below hb⟩

/-- At p lie the truth values xs, one behind the other. -/
def RdB (w : World) (p : Option Addr) (xs : List Bool) : Prop := xs = [] ∨ ∃ a, p = some a ∧ a.block < w.heap.size ∧ ∀ j (hj : j < xs.length), w.cell? (a.add j) = some (.bool xs[j])
theorem RdB.grew {w w' : World} {p : Option Addr} {xs : List Bool} (h : RdB w p xs) (g : Grew w w') : RdB w' p xs := by
  rcases h with h | ⟨a, ha, hb, hc⟩
  · exact .inl h
  · exact .inr ⟨a, ha, Nat.lt_of_lt_of_le hb g.size, fun j hj => g.cellA hb (hc j hj)⟩

/-- The first j of the truth values, the others false. -/
def tkN (tk : List Bool) (n j : Nat) : List Bool := (List.range n).map fun i => decide (i < j) && tk.getD i false
theorem tkN_len (tk : List Bool) (n j : Nat) : (tkN tk n j).length = n := by unfold tkN; rw [List.length_map, List.length_range]
theorem tkN_get {tk : List Bool} {n j i : Nat} (h : i < (tkN tk n j).length) : (tkN tk n j)[i] = (decide (i < j) && tk.getD i false) := by simp [tkN]
theorem tkN_zero (tk : List Bool) (n : Nat) : tkN tk n 0 = List.replicate n false := by
  refine List.ext_getElem (by rw [tkN_len, List.length_replicate]) fun i h1 h2 => ?_
  rw [tkN_get, List.getElem_replicate]
  simp
theorem tkN_all {tk : List Bool} {n : Nat} (h : tk.length = n) : tkN tk n n = tk := by
  refine List.ext_getElem (by rw [tkN_len, h]) fun i h1 h2 => ?_
  have : i < n := by omega
  rw [tkN_get, List.getD_eq_getElem?_getD, List.getElem?_eq_getElem h2]
  simp [this]
theorem tkN_no {tk : List Bool} {n j : Nat} (h : tk.getD j false = false) : tkN tk n (j + 1) = tkN tk n j := by
  refine List.ext_getElem (by rw [tkN_len, tkN_len]) fun i h1 h2 => ?_
  rw [tkN_get, tkN_get]
  by_cases e : i = j
  · subst e; rw [h]; simp
  · congr 1; rw [decide_eq_decide]; omega
theorem tkN_yes {tk : List Bool} {n j : Nat} (h : tk.getD j false = true) : (tkN tk n j).set j true = tkN tk n (j + 1) := by
  refine List.ext_getElem (by rw [List.length_set, tkN_len, tkN_len]) fun i h1 h2 => ?_
  rw [List.getElem_set]
  by_cases e : j = i
  · subst e
    rw [if_pos rfl, tkN_get, h]
    simp
  · rw [if_neg e, tkN_get, tkN_get]
    congr 1
    rw [decide_eq_decide]
    omega

/-- What RestoreSlots returns. -/
def restE (gens : List Int) (tk : List Bool) : Int :=
  if ¬ (1 ≤ gens.length ∧ gens.length ≤ 64) then 3
  else if ¬ (∀ i, i < gens.length → 0 ≤ gens.getD i 0 ∧ gens.getD i 0 ≤ 2147483647) then 3
  else if tk.length ≠ gens.length then 4
  else if ¬ (∀ i, i < gens.length → tk.getD i false = true → gens.getD i 0 ≠ 0) then 4 else 0
def Restored (gens : List Int) (tk : List Bool) (w : World) (e : Ending) (w' : World) : Prop :=
  if restE gens tk = 0 then ∃ sb gb, e = .returned (.tuple #[.pointer (some ⟨sb, 0, none⟩), .int .i64 0]) ∧ SlotsAt w' sb gb gens tk ∧ Grew w w' ∧ w.heap.size ≤ sb ∧ w.heap.size ≤ gb
  else e = .returned (.tuple #[.pointer none, .int .i64 (restE gens tk)]) ∧ Grew w w'
theorem Restored.bad {gens : List Int} {tk : List Bool} {w w' : World} {c : Int} (h : restE gens tk = c) (hc : c ≠ 0) (g : Grew w w') : Restored gens tk w (.returned (.tuple #[.pointer none, .int .i64 c])) w' := by
  unfold Restored
  rw [h, if_neg hc]
  exact ⟨rfl, g⟩

set_option maxHeartbeats 2000000 in
set_option maxRecDepth 100000 in
theorem restore_any (p q : Option Addr) (cx cy : Nat) (gens : List Int) (tk : List Bool) (w : World) (hx : RdI w p gens) (hy : RdB w q tk) (hn : gens.length ≤ maxLen) (hm : tk.length ≤ maxLen) :
    Calls Tryz.prog 32 #[.slice p gens.length cx, .slice q tk.length cy] w (Restored gens tk w) := by
  unfold maxLen at hn hm
  by_cases hl : 1 ≤ gens.length ∧ gens.length ≤ 64
  case neg =>
    have hE : restE gens tk = 3 := by unfold restE; rw [if_pos hl]
    have HE := Lib.hid hE
    have hh : (gens.length : Int) < 1 ∨ 64 < (gens.length : Int) := by omega
    clear hE hl hx hy
    rcases hh with hh | hh
    all_goals
      go_enter Tryz.func32, Tryz.ntmps32
      go_wp2_with fail
      go_ret2
      exact Restored.bad HE.out (by decide) (Grew.refl _)
  case pos =>
    obtain ⟨n, hn'⟩ : ∃ n, gens.length = n := ⟨_, rfl⟩
    obtain ⟨m, hm'⟩ : ∃ m, tk.length = m := ⟨_, rfl⟩
    have HX := Lib.hid hx
    have HY := Lib.hid hy
    have HN := Lib.hid hn'
    have HM := Lib.hid hm'
    have HL := Lib.hid hl
    rw [hn'] at hl hn ⊢
    rw [hm'] at hm ⊢
    have hl1 : (1 : Int) ≤ (n : Int) ∧ (n : Int) ≤ 64 := by omega
    clear hx hy hn' hm'
    go_enter Tryz.func32, Tryz.ntmps32
    go_wp2_with fail
    go_loopg [21] n (fun gg s21 wr => ∃ j : Nat, j ≤ n ∧ n - j ≤ gg ∧ s21 = .int .i64 j ∧ w = wr ∧ Aside (∀ i, i < j → 0 ≤ gens.getD i 0 ∧ gens.getD i 0 ≤ 2147483647))
    case atStart => exact ⟨0, Nat.zero_le _, by omega, rfl, rfl, fun i hi => absurd hi (Nat.not_lt_zero _)⟩
    case round =>
      obtain ⟨j, hjn, hgg, rfl, rfl, A⟩ := hrel
      by_cases hlt : j < n
      · have hjz : (j : Int) < (n : Int) := by omega
        have hjx : j < gens.length := by rw [HN.out]; exact hlt
        obtain ⟨a, rfl, hab, hca⟩ := HX.out.resolve_left (by rintro rfl; simp at hjx)
        have ca := hca j hjx
        have B : Aside (gens.getD j 0 = gens[j]) := by show _ = _; rw [List.getD_eq_getElem?_getD, List.getElem?_eq_getElem hjx]; rfl
        have hE : Aside (¬ (0 ≤ gens[j] ∧ gens[j] ≤ 2147483647) → restE gens tk = 3) := fun hb => by
          unfold restE
          rw [if_neg (by simpa using HL.out), if_pos (fun h => hb (by have := h j hjx; rw [show gens.getD j 0 = gens[j] from B.out] at this; exact this))]
        clear hca
        generalize gens[j] = u at ca B hE
        clear hjx
        by_cases hu0 : u < 0
        · go_wp2_with fail
          go_ret2
          exact Restored.bad (hE.out (by omega)) (by decide) (Grew.refl _)
        by_cases hu1 : 2147483647 < u
        · go_wp2_with fail
          go_ret2
          exact Restored.bad (hE.out (by omega)) (by decide) (Grew.refl _)
        · go_wp2_with fail
          go_roundg (n - (j + 1))
          case measure => omega
          case rel =>
            refine ⟨j + 1, by omega, by omega, by go_num, rfl, (show Aside _ from fun i hi => ?_)⟩
            by_cases e : i = j
            · subst e; rw [B.out]; omega
            · exact A.out i (by omega)
      · have hjz : ¬ (j : Int) < (n : Int) := by omega
        obtain rfl : n = j := by omega
        by_cases hmn : m = n
        case neg =>
          have hE : restE gens tk = 4 := by
            unfold restE
            rw [if_neg (by simpa using HL.out), if_neg (by rw [HN.out]; exact fun h => h A.out), if_pos (by rw [HM.out, HN.out]; exact hmn)]
          have HE := Lib.hid hE
          have hmz : ((m : Int) != (n : Int)) = true := by simp; omega
          clear hE hmn
          go_wp2_with fail
          go_ret2
          exact Restored.bad HE.out (by decide) (Grew.refl _)
        case pos =>
          subst hmn
          have hmz : ((m : Int) != (m : Int)) = false := by simp
          go_wp2_with fail
          have hC := cloneI_any p cx gens w HX.out (by rw [HN.out]; omega) (by rw [HN.out]; omega)
          rw [HN.out] at hC
          refine hC.mono ?_
          rintro e w1 ⟨v, rfl, hsl, hg1⟩
          obtain ⟨vp, cap, rfl, hvp⟩ := hsl.shape
          obtain ⟨g, rfl⟩ := hvp (by rw [HN.out]; omega)
          have hgl := hsl.len
          rw [HN.out] at hgl ⊢
          have HSL := Lib.hid hsl
          obtain ⟨sb, hsb⟩ : ∃ sb, w1.heap.size = sb := ⟨_, rfl⟩
          clear hC hsl hvp
          go_wp2_with fail
          have hR0 : SlotsR (w1.alloc (.cells #[.int .u64 0, .slice (some ⟨g, 0, none⟩) m cap] 100)) sb g 0 cap gens (tkN tk m 0) := by
            rw [tkN_zero, ← hsb]
            refine ⟨by simp, by simp, by rw [HN.out]; simp, Mask.none m, ?_, by omega, HL.out, by rw [List.length_replicate, HN.out], fun g hg => ?_⟩
            · have h := HSL.out
              exact (h.grew ((Grew.refl w1).alloc _)).base (Nat.zero_le _)
            · obtain ⟨i, hi, rfl⟩ := List.getElem_of_mem hg
              have := A.out i (by rw [← HN.out]; exact hi)
              rwa [List.getD_eq_getElem?_getD, List.getElem?_eq_getElem hi] at this
          have hgs := hg1.size
          have hws : w.heap.size ≤ sb ∧ w.heap.size ≤ g := by omega
          have HR0 := Lib.hid hR0
          have HG1 := Lib.hid hg1
          have hw2 : Grew w (w1.alloc (.cells #[.int .u64 0, .slice (some ⟨g, 0, none⟩) m cap] 100)) := hg1.alloc _
          clear hR0 hg1
          go_loopg [43] m (fun gg s43 wr => ∃ j : Nat, j ≤ m ∧ m - j ≤ gg ∧ s43 = .int .i64 j ∧ Grew w wr ∧ Aside ((∃ s, SlotsR wr sb g s cap gens (tkN tk m j)) ∧ ∀ i, i < j → tk.getD i false = true → gens.getD i 0 ≠ 0))
          case atStart => exact ⟨0, Nat.zero_le _, by omega, rfl, hw2, ⟨⟨0, HR0.out⟩, fun i hi => absurd hi (Nat.not_lt_zero _)⟩⟩
          case round =>
            obtain ⟨j, hjn2, hgg2, rfl, hgw, A2⟩ := hrel
            by_cases hlt2 : j < m
            · have hjz2 : (j : Int) < (m : Int) := by omega
              have hj64 : j < 64 := by omega
              have hjx : j < gens.length := by rw [HN.out]; exact hlt2
              have hjy : j < tk.length := by rw [HM.out]; exact hlt2
              obtain ⟨a, rfl, hab, hca⟩ := HX.out.resolve_left (by rintro rfl; simp at hjx)
              obtain ⟨b, rfl, hbb, hcb⟩ := HY.out.resolve_left (by rintro rfl; simp at hjy)
              have ca := hgw.cellA hab (hca j hjx)
              have cb := hgw.cellA hbb (hcb j hjy)
              have B : Aside (gens.getD j 0 = gens[j] ∧ tk.getD j false = tk[j]) := by
                show _ ∧ _
                rw [List.getD_eq_getElem?_getD, List.getElem?_eq_getElem hjx, List.getD_eq_getElem?_getD, List.getElem?_eq_getElem hjy]
                exact ⟨rfl, rfl⟩
              have hE : Aside (tk[j] = true → gens[j] = 0 → restE gens tk = 4) := fun ht hg => by
                unfold restE
                rw [if_neg (by simpa using HL.out), if_neg (by rw [HN.out]; exact fun h => h A.out), if_neg (by rw [HM.out, HN.out]; simp), if_pos (fun h => h j hjx (by rw [(show _ ∧ _ from B.out).2]; exact ht) (by rw [(show _ ∧ _ from B.out).1]; exact hg))]
              clear hca hcb
              generalize gens[j] = u at ca B hE
              generalize tk[j] = t at cb B hE
              clear hjx hjy
              cases t
              · go_wp2_with fail
                go_roundg (m - (j + 1))
                case measure => omega
                case rel =>
                  refine ⟨j + 1, by omega, by omega, by go_num, hgw, (show Aside _ from ⟨?_, fun i hi ht => ?_⟩)⟩
                  · rw [tkN_no B.out.2]; exact A2.out.1
                  · by_cases e : i = j
                    · subst e; rw [B.out.2] at ht; cases ht
                    · exact A2.out.2 i (by omega) ht
              · by_cases hu : u = 0
                · subst hu
                  go_wp2_with fail
                  go_ret2
                  exact Restored.bad (hE.out (by trivial) (by trivial)) (by decide) hgw
                · have hub : (u == 0) = false := beq_eq_false_iff_ne.2 hu
                  obtain ⟨s, hR⟩ := A2.out.1
                  have c0 := hR.c0
                  have f0 := hR.f0
                  have hlt := hR.mask.lt
                  have HU := Lib.hid hu
                  have HR := Lib.hid hR
                  clear hu hR
                  go_wp2_with fail
                  refine (mark_any sb s j _ hj64 hlt (by first | (simp [go_sem]; done) | (simp [*, go_sem]; done) | (go_cell; done)) (by first | (simp [go_sem]; done) | (simp [*, go_sem]; done) | (go_cell; done))).mono ?_
                  rintro e w2 ⟨rfl, rfl⟩
                  go_wp2_with fail
                  go_roundg (m - (j + 1))
                  case measure => omega
                  case rel =>
                    have M := HR.out.mask.mark hj64 (by rw [tkN_len]; exact hlt2)
                    refine ⟨j + 1, by omega, by omega, by go_num, Grew.setCell hgw hws.1 _, ?_⟩
                    show (∃ s, SlotsR _ sb g s cap gens (tkN tk m (j + 1))) ∧ _
                    refine ⟨⟨markN s j, ?_⟩, fun i hi ht => ?_⟩
                    · rw [← tkN_yes B.out.2]
                      exact HR.out.remask _ _ M (by simp)
                    · by_cases e : i = j
                      · subst e; rw [B.out.1]; exact HU.out
                      · exact A2.out.2 i (by omega) ht
            · have hjz2 : ¬ (j : Int) < (m : Int) := by omega
              obtain rfl : m = j := by omega
              have hE : restE gens tk = 0 := by
                unfold restE
                rw [if_neg (by simpa using HL.out), if_neg (by rw [HN.out]; exact fun h => h A.out), if_neg (by rw [HM.out, HN.out]; simp), if_neg (by rw [HN.out]; exact fun h => h A2.out.2)]
              have HE := Lib.hid hE
              clear hE
              go_wp2_with fail
              go_ret2
              unfold Restored
              rw [if_pos HE.out]
              obtain ⟨s, hR⟩ := A2.out.1
              rw [tkN_all HM.out] at hR
              exact ⟨sb, g, rfl, ⟨s, cap, hR⟩, hgw, hws.1, hws.2⟩

end Go.Proofs.YtcelamaiebjdaaaGreat

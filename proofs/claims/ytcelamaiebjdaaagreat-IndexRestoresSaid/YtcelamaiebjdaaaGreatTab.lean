/- Contracts of Most, All and Copy of a table of slots, and of SameHandles. -/
import Derived.Test.YtcelamaiebjdaaaGreatToldPlain
import Derived.Test.YtcelamaiebjdaaaGreatRestore
import Derived.Deep.LoopGhost
import Derived.Deep.RegionHeld3
import Derived.Deep.DrawnRows
namespace Go.Proofs.YtcelamaiebjdaaaGreat
open Go.RowKit Go.Maps Go.Sort Go.Shelf
attribute [local go_sem ↓] Go.wp_at_zero Go.wp_at_succ

set_option maxHeartbeats 1000000 in
set_option maxRecDepth 100000 in
theorem sameHandles_any (p q : Option Addr) (cx cy : Nat) (xs ys : List (Int × Int)) (w : World) (hx : RdP w p xs) (hy : RdP w q ys) (hn : xs.length ≤ maxLen) :
    Calls Tryz.prog 60 #[.slice p xs.length cx, .slice q ys.length cy] w fun e w' => e = .returned (.bool (decide (xs = ys))) ∧ Grew w w' := by
  unfold maxLen at hn
  by_cases hl : xs.length = ys.length
  · obtain ⟨n, hn'⟩ : ∃ n, xs.length = n := ⟨_, rfl⟩
    have hm' : ys.length = n := by omega
    have hX := Lib.hid hx
    have hY := Lib.hid hy
    have HN := Lib.hid hn'
    have HM := Lib.hid hm'
    rw [hn'] at hn
    rw [hn', hm']
    clear hx hy hl hn' hm'
    have NE := fun a b c d w => neHandle a b c d w
    go_enter Tryz.func60, Tryz.ntmps60
    go_wp2_with fail
    go_loopg [5] n (fun gg s5 wr => ∃ j : Nat, j ≤ n ∧ n - j ≤ gg ∧ s5 = .int .i64 j ∧ Grew w wr ∧ Aside (∀ i, i < j → xs[i]! = ys[i]!))
    case atStart => exact ⟨0, Nat.zero_le _, by omega, rfl, Grew.refl _, fun i hi => absurd hi (Nat.not_lt_zero _)⟩
    case round =>
      obtain ⟨j, hjn, hgg, rfl, hgw, A⟩ := hrel
      by_cases hlt : j < n
      · have hjz : (j : Int) < (n : Int) := by omega
        have hjx : j < xs.length := by rw [HN.out]; exact hlt
        have hjy : j < ys.length := by rw [HM.out]; exact hlt
        obtain ⟨a, rfl, hab, hca⟩ := hX.out.resolve_left (by rintro rfl; simp at hjx)
        obtain ⟨b, rfl, hbb, hcb⟩ := hY.out.resolve_left (by rintro rfl; simp at hjy)
        have ca := hgw.cell' (hca j hjx).1
        have ca' := hgw.cell' (hca j hjx).2
        have cb := hgw.cell' (hcb j hjy).1
        have cb' := hgw.cell' (hcb j hjy).2
        have B : Aside (xs[j]! = xs[j] ∧ ys[j]! = ys[j]) := (show xs[j]! = xs[j] ∧ ys[j]! = ys[j] from ⟨getElem!_pos xs j hjx, getElem!_pos ys j hjy⟩)
        clear hca hcb
        generalize xs[j] = u at ca ca' B
        generalize ys[j] = v at cb cb' B
        obtain ⟨u1, u2⟩ := u
        obtain ⟨v1, v2⟩ := v
        clear hjx hjy
        by_cases huv : (u1, u2) = (v1, v2)
        · have he : (u1 == v1 && u2 == v2) = true := by simpa using huv
          have HU := Lib.hid huv
          clear huv
          go_wp2_with fail
          go_region_held3 (fun W' => W'.cell? ⟨a, j * 2, none⟩ = some (.int .i64 u1) ∧ W'.cell? ⟨a, j * 2 + 1, none⟩ = some (.int .i64 u2) ∧ W'.cell? ⟨b, j * 2, none⟩ = some (.int .i64 v1) ∧ W'.cell? ⟨b, j * 2 + 1, none⟩ = some (.int .i64 v2)) ((simp [*, go_sem]; done)) (fail)
          all_goals go_wp2_with fail
          go_roundg (n - (j + 1))
          case measure => omega
          case rel =>
            refine ⟨j + 1, by omega, by omega, by go_num, by (repeat' (first | exact Grew.refl _ | assumption | refine Grew.alloc ?_ _ | refine Grew.drew ?_ | refine Grew.drewN ?_ _ | refine Grew.setCell ?_ ?_ _ | (simp; done) | (simp; omega))), (show Aside _ from fun i hi => ?_)⟩
            by_cases e : i = j
            · subst e; rw [B.out.1, B.out.2]; exact HU.out
            · exact A.out i (by omega)
        · have hd : decide (xs = ys) = false := decide_eq_false (fun e => huv (by have := B.out; rw [e] at this; exact this.1.symm.trans this.2))
          have he : (u1 == v1 && u2 == v2) = false := by simpa using huv
          have HD := Lib.hid hd
          clear hd huv
          go_wp2_with fail
          go_region_held3 (fun W' => W'.cell? ⟨a, j * 2, none⟩ = some (.int .i64 u1) ∧ W'.cell? ⟨a, j * 2 + 1, none⟩ = some (.int .i64 u2) ∧ W'.cell? ⟨b, j * 2, none⟩ = some (.int .i64 v1) ∧ W'.cell? ⟨b, j * 2 + 1, none⟩ = some (.int .i64 v2)) ((simp [*, go_sem]; done)) (fail)
          all_goals
            go_wp2_with fail
            go_ret
            exact ⟨ret_bool HD.out.symm, by (repeat' (first | exact Grew.refl _ | assumption | refine Grew.alloc ?_ _ | refine Grew.drew ?_ | refine Grew.drewN ?_ _ | refine Grew.setCell ?_ ?_ _ | (simp; done) | (simp; omega)))⟩
      · have hjz : ¬ (j : Int) < (n : Int) := by omega
        obtain rfl : j = n := by omega
        have hd : decide (xs = ys) = true := decide_eq_true (by
          refine List.ext_getElem (by rw [HN.out, HM.out]) fun i h1 h2 => ?_
          have := A.out i (by rw [← HN.out]; exact h1)
          rwa [getElem!_pos xs i h1, getElem!_pos ys i h2] at this)
        have HD := Lib.hid hd
        clear hd
        go_wp2_with fail
        go_ret
        exact ⟨ret_bool HD.out.symm, by (repeat' (first | exact Grew.refl _ | assumption | refine Grew.alloc ?_ _ | refine Grew.drew ?_ | refine Grew.drewN ?_ _ | refine Grew.setCell ?_ ?_ _ | (simp; done) | (simp; omega)))⟩
  · have hl' : ((xs.length : Int) == (ys.length : Int)) = false := beq_eq_false_iff_ne.2 (by omega)
    have hd : decide (xs = ys) = false := decide_eq_false (fun e => hl (by rw [e]))
    rw [hd]
    clear hl
    go_enter Tryz.func60, Tryz.ntmps60
    go_wp2_with fail
    go_ret
    exact ⟨rfl, Grew.refl _⟩

set_option maxHeartbeats 400000 in
theorem most_any (sb gb : Nat) (gens : List Int) (tk : List Bool) (w : World) (h : SlotsAt w sb gb gens tk) :
    Calls Tryz.prog 65 #[.pointer (some ⟨sb, 0, none⟩)] w fun e w' => e = .returned (.int .i64 gens.length) ∧ w = w' := by
  obtain ⟨s, cap, h⟩ := h
  have c1 := h.c1
  have hm := h.most.1
  obtain ⟨n, hn⟩ : ∃ n, gens.length = n := ⟨_, rfl⟩
  rw [hn] at c1 hm ⊢
  clear h hn
  go_enter Tryz.func65, Tryz.ntmps65
  go_wp2_with fail
  refine (slNone_any sb n cap (some ⟨gb, 0, none⟩) _ hm (by first | (simp [go_sem]; done) | (simp [*, go_sem]; done) | (go_cell; done))).mono ?_
  rintro e w1 ⟨rfl, rfl⟩
  go_wp2_with fail
  go_ret
  exact ⟨rfl, rfl⟩

/-- An append of one element that a call has just laid. -/
theorem appendOne {α : Type} (K : Kind α) {w : World} {B : Nat} {v : Value} {xs : List α} (h : Sl K w B v xs) (hB : B ≤ w.heap.size) (hl : xs.length < 900000) (x : α) (cs : Array Value) (hcs : cs.toList = K.enc x) :
    ∃ v' w1, (Builtin.append_ #[K.sl, K.sl] K.sl #[v, .slice (some ⟨w.heap.size, 0, none⟩) 1 1]).run Tryz.prog (w.alloc (.cells cs K.ty)) = .ok v' w1 ∧ Sl K w1 B v' (xs ++ [x]) ∧ Kp (own v) w w1 ∧ (∀ g ∈ own v', g ∈ own v ∨ w.heap.size ≤ g) := by
  have hg : Grew w (w.alloc (.cells cs K.ty)) := (Grew.refl w).alloc _
  have hrd : Rd K (w.alloc (.cells cs K.ty)) (some ⟨w.heap.size, 0, none⟩) [x] := by
    refine .inr ⟨_, rfl, by simp, fun j u hu => ?_⟩
    rw [Kind.flat_one, ← hcs] at hu
    rw [add_zero_off, Nat.zero_add, cell_of_row _ _ j cs K.ty (0, 0) (heap_alloc_new w _)]
    simpa using hu
  obtain ⟨v', w1, hr, h1, h2, h3, -⟩ := append_any K (h.grew hg) (by have := hg.size; omega) (some ⟨w.heap.size, 0, none⟩) 1 [x] hrd (by simp) (by simp; omega)
  exact ⟨v', w1, hr, h1, (hg.kp _).trans h2, fun g hgm => (h3 g hgm).imp id fun h => by have := hg.size; omega⟩

def takenN (G : List Int) (T : List Bool) (j : Nat) : List (Int × Int) := ((List.range j).filter fun i => T.getD i false).map fun i : Nat => ((i : Int), G.getD i 0)
theorem takenN_succ (G : List Int) (T : List Bool) (j : Nat) : takenN G T (j + 1) = takenN G T j ++ (if T.getD j false = true then [((j : Int), G.getD j 0)] else []) := by
  unfold takenN
  rw [List.range_succ, List.filter_append, List.map_append]
  congr 1
  split
  · rename_i h; rw [List.filter_cons_of_pos (by exact h)]; rfl
  · rename_i h; rw [List.filter_cons_of_neg (by exact h)]; rfl
theorem takenN_len (G : List Int) (T : List Bool) (j : Nat) : (takenN G T j).length ≤ j := by
  unfold takenN
  rw [List.length_map]
  exact Nat.le_trans (List.length_filter_le _ _) (by rw [List.length_range]; exact Nat.le_refl _)
theorem atB_in {G : List Int} {T : List Bool} {j : Nat} (h : j < G.length) : atB G T (j : Int) = T.getD j false := by
  unfold atB
  rw [decide_eq_true (by omega), Bool.true_and, Int.toNat_natCast]
theorem atG_in {G : List Int} {T : List Bool} {j : Nat} (h : j < G.length) : atG G T (j : Int) = if T.getD j false = true then ((j : Int), G.getD j 0) else (0, 0) := by
  unfold atG
  rw [atB_in h, Int.toNat_natCast]

set_option maxHeartbeats 1000000 in
set_option maxRecDepth 100000 in
theorem all_any (sb gb : Nat) (G : List Int) (T : List Bool) (w : World) (h : SlotsAt w sb gb G T) :
    Calls Tryz.prog 61 #[.pointer (some ⟨sb, 0, none⟩)] w fun e w' => ∃ v, e = .returned v ∧ Sl kH w' w.heap.size v (takenH G T) ∧ Grew w w' := by
  have HS := Lib.hid h
  have hmost : G.length ≤ 64 := by obtain ⟨s, cap, h⟩ := h; exact h.most.2
  obtain ⟨n, hn⟩ : ∃ n, G.length = n := ⟨_, rfl⟩
  have HN := Lib.hid hn
  have hM := fun w' (g : Grew w w') => most_any sb gb G T w' (h.grew g)
  rw [hn] at hM hmost
  have HM := Lib.hid hM
  clear h hn hM
  go_enter Tryz.func61, Tryz.ntmps61
  go_wp2_with fail
  refine (HM.out _ (by (repeat' (first | exact Grew.refl _ | assumption | refine Grew.alloc ?_ _ | refine Grew.drew ?_ | refine Grew.drewN ?_ _ | refine Grew.setCell ?_ ?_ _ | (simp; done) | (simp; omega))))).mono ?_
  rintro e w1 ⟨rfl, rfl⟩
  go_wp2_with fail
  go_loopg [3, 9] n (fun gg s3 s9 wr => ∃ (j : Nat) (o3 : Value), j ≤ n ∧ n - j ≤ gg ∧ o3 = s3 ∧ s9 = .int .i64 j ∧ Grew w wr ∧ Aside (Sl kH wr w.heap.size o3 (takenN G T j)))
  case atStart => exact ⟨0, _, Nat.zero_le _, by omega, rfl, rfl, Grew.refl _, Sl.nil _ _ _⟩
  case round =>
    obtain ⟨j, o3, hj, hgg, rfl, rfl, hgw, A⟩ := hrel
    by_cases h1 : j < n
    · have h1z : (j : Int) < (n : Int) := by omega
      have hjG : j < G.length := by rw [HN.out]; exact h1
      have hA := fun w' (g : Grew w w') => at_any sb gb G T (j : Int) w' (HS.out.grew g)
      rw [atG_in hjG, atB_in hjG] at hA
      have hsu := takenN_succ G T j
      have hle := takenN_len G T j
      cases hT : T.getD j false
      · rw [hT, if_neg (by simp)] at hA hsu
        rw [List.append_nil] at hsu
        have HA := Lib.hid hA
        have HSU := Lib.hid hsu
        clear hA hsu hT hjG
        go_wp2_with fail
        refine (HA.out _ (by (repeat' (first | exact Grew.refl _ | assumption | refine Grew.alloc ?_ _ | refine Grew.drew ?_ | refine Grew.drewN ?_ _ | refine Grew.setCell ?_ ?_ _ | (simp; done) | (simp; omega))))).mono ?_
        rintro e w2 ⟨rfl, hg2⟩
        have hw2 : Grew wr w2 := Grew.trans (by (repeat' (first | exact Grew.refl _ | assumption | refine Grew.alloc ?_ _ | refine Grew.drew ?_ | refine Grew.drewN ?_ _ | refine Grew.setCell ?_ ?_ _ | (simp; done) | (simp; omega)))) hg2
        have hww : Grew w w2 := hgw.trans hw2
        clear hg2
        go_wp2_with fail
        go_roundg (n - (j + 1))
        case measure => omega
        case rel => exact ⟨j + 1, _, by omega, by omega, rfl, by go_num, by (repeat' (first | exact Grew.refl _ | assumption | refine Grew.alloc ?_ _ | refine Grew.drew ?_ | refine Grew.drewN ?_ _ | refine Grew.setCell ?_ ?_ _ | (simp; done) | (simp; omega))), by rw [HSU.out]; exact A.out.grew (hw2.alloc _)⟩
      · rw [hT, if_pos rfl] at hA hsu
        obtain ⟨gj, hgj⟩ : ∃ gj, G.getD j 0 = gj := ⟨_, rfl⟩
        rw [hgj] at hA hsu
        have HA := Lib.hid hA
        have HSU := Lib.hid hsu
        clear hA hsu hT hjG hgj
        go_wp2_with fail
        refine (HA.out _ (by (repeat' (first | exact Grew.refl _ | assumption | refine Grew.alloc ?_ _ | refine Grew.drew ?_ | refine Grew.drewN ?_ _ | refine Grew.setCell ?_ ?_ _ | (simp; done) | (simp; omega))))).mono ?_
        rintro e w2 ⟨rfl, hg2⟩
        have hw2 : Grew wr w2 := Grew.trans (by (repeat' (first | exact Grew.refl _ | assumption | refine Grew.alloc ?_ _ | refine Grew.drew ?_ | refine Grew.drewN ?_ _ | refine Grew.setCell ?_ ?_ _ | (simp; done) | (simp; omega)))) hg2
        have hww : Grew w w2 := hgw.trans hw2
        obtain ⟨w3, hw3e⟩ : ∃ w3, w2.alloc (.cells #[.int .i64 j, .int .i64 gj] 74) = w3 := ⟨_, rfl⟩
        have hg3 : Grew w2 w3 := by rw [← hw3e]; exact (Grew.refl w2).alloc _
        have b0 : w3.cell? ⟨w2.heap.size, 0, none⟩ = some (.int .i64 j) := by rw [← hw3e]; simp
        have b1 : w3.cell? ⟨w2.heap.size, 1, none⟩ = some (.int .i64 gj) := by rw [← hw3e]; simp
        have hw3 : Grew w w3 := hww.trans hg3
        obtain ⟨v', w4, hr, hs, hk, ho⟩ := appendOne kH ((A.out.grew hw2).grew hg3) hw3.size (by omega) ((j : Int), gj) #[.int .i64 j, .int .i64 gj] rfl
        have hw4 : Grew w w4 := Kp.grewOf hw3 hk (fun x hx => (A.out.own_ge x hx).1)
        have HR := Lib.hid hr
        have HV := Lib.hid hs
        clear hg2 hr hs hk ho
        go_wp2_with (at_builtin; refine wpList_append_run rfl _ _ _ _ rfl rfl _ _ _ rfl rfl HR.out ?_)
        go_roundg (n - (j + 1))
        case measure => omega
        case rel => exact ⟨j + 1, _, by omega, by omega, rfl, by go_num, hw4, by rw [HSU.out]; exact HV.out⟩
    · have h1z : ¬ (j : Int) < (n : Int) := by omega
      obtain rfl : n = j := by omega
      go_wp2_with fail
      go_ret
      refine ⟨_, rfl, ?_, hgw⟩
      have h := A.out
      unfold takenN at h
      unfold takenH
      rw [HN.out]
      exact h

/-- A block of its own that bears no mark. -/
def Lone (w : World) (b : Nat) : Prop := ∃ c t, w.heap[b]? = some (.cells c t (0, 0)) ∧ c.size ≠ 0
theorem Lone.grew {w w' : World} {b : Nat} (h : Lone w b) (g : Grew w w') : Lone w' b := by
  obtain ⟨c, t, h1, h2⟩ := h
  exact ⟨c, t, (g.block b (by
    rcases Nat.lt_or_ge b w.heap.size with hb | hb
    · exact hb
    · rw [Array.getElem?_eq_none hb] at h1; cases h1)).trans h1, h2⟩
theorem Lone.other {w : World} {a b : Nat} {v : Value} (h : Lone w a) (hab : a ≠ b) (hb : w.cell? ⟨b, 0, none⟩ = some v) : (sameAddr ⟨a, 0, none⟩ ⟨b, 0, none⟩).run Tryz.prog w = .ok false w := by
  obtain ⟨c, t, h1, h2⟩ := h
  unfold World.cell? at hb
  split at hb
  · rename_i c' t' m' hb'
    obtain ⟨lo, hi⟩ := m'
    simp only at hb'
    have hk : ∃ k, c'.size = k + 1 := by
      rcases Nat.eq_zero_or_pos c'.size with h0 | h0
      · simp [h0] at hb
      · exact ⟨c'.size - 1, by omega⟩
    obtain ⟨k, hk⟩ := hk
    simp [sameAddr, hab, World.frozen?, h1, hb', noView, viewAt, World.shape?, mayBeOne, stringish, h2, hk]
  · cases hb
theorem eqSlots {w : World} {a b : Nat} {v : Value} (h : Lone w a) (hab : a ≠ b) (hb : w.cell? ⟨b, 0, none⟩ = some v) :
    (binOp .eql 48 (.pointer (some ⟨a, 0, none⟩)) (.pointer (some ⟨b, 0, none⟩))).run Tryz.prog w = .ok (.bool false) w := by
  have hS : (Tryz.prog.info? 100).map (fun i => decide (i.size ≠ 0)) = some true := by kernel_rfl
  obtain ⟨j, hj, hz⟩ := Option.map_eq_some_iff.1 hS
  have hz := of_decide_eq_true hz
  have h : ∀ d : Nat, (Op.equalIn (d + 1) 48 (.pointer (some ⟨a, 0, none⟩)) (.pointer (some ⟨b, 0, none⟩))).run Tryz.prog w = .ok false w := fun d => by
    simp [Op.equalIn, run_underlying Tryz.underlying48, sizeOf, typeInfo, hj, hz, h.other hab hb]
  simp only [binOp]
  simp [Op.equal, Op.maxDepth, h 9999]

set_option maxHeartbeats 1000000 in
set_option maxRecDepth 100000 in
theorem slCopy_any (sb gb : Nat) (G : List Int) (T : List Bool) (w : World) (h : SlotsAt w sb gb G T) :
    Calls Tryz.prog 72 #[.pointer (some ⟨sb, 0, none⟩)] w fun e w' => ∃ sb' gb', e = .returned (.pointer (some ⟨sb', 0, none⟩)) ∧ SlotsAt w' sb' gb' G T ∧ Grew w w' ∧ w.heap.size ≤ sb' ∧ w.heap.size ≤ gb' ∧ Lone w' sb' := by
  obtain ⟨s, cap, h⟩ := h
  have c0 := h.c0
  have c1 := h.c1
  have hm := h.most
  have hB := lt_of_cell c0
  have HR := Lib.hid h
  obtain ⟨n, hn⟩ : ∃ n, G.length = n := ⟨_, rfl⟩
  have hC : ∀ W, Grew w W → Calls Tryz.prog 81 #[.slice (some ⟨gb, 0, none⟩) G.length cap] W (fun e w' => ∃ g c, e = .returned (.slice (some ⟨g, 0, none⟩) G.length c) ∧ SlI w' w.heap.size (.slice (some ⟨g, 0, none⟩) G.length c) G ∧ Grew w w') := fun W g => by
    refine (cloneI_any (some ⟨gb, 0, none⟩) cap G W ((h.row.rd).grew g) (by omega) (by omega)).mono ?_
    rintro e w' ⟨v, rfl, hs, hg⟩
    obtain ⟨p, c, rfl, hp⟩ := hs.shape
    obtain ⟨g', rfl⟩ := hp (by omega)
    exact ⟨g', c, rfl, hs.base g.size, g.trans hg⟩
  rw [hn] at c1 hm hC
  have HN := Lib.hid hn
  have HC := Lib.hid hC
  clear h hn hC
  go_enter Tryz.func72, Tryz.ntmps72
  go_wp2_with fail
  refine (slNone_any sb n cap (some ⟨gb, 0, none⟩) _ hm.1 (by first | (simp [go_sem]; done) | (simp [*, go_sem]; done) | (go_cell; done))).mono ?_
  rintro e w1 ⟨rfl, rfl⟩
  go_wp2_with fail
  have HF : Aside (∀ W', Grew w W' → (W'.cell? ⟨sb, 0, none⟩ = some (.int .u64 s) ∧ W'.cell? ⟨sb, 1, none⟩ = some (.slice (some ⟨gb, 0, none⟩) n cap))) := fun W' g => ⟨g.cell' c0, g.cell' c1⟩
  go_region_held3 (fun W' => W'.cell? ⟨sb, 0, none⟩ = some (.int .u64 s) ∧ W'.cell? ⟨sb, 1, none⟩ = some (.slice (some ⟨gb, 0, none⟩) n cap)) ((refine HF.out _ ?_; (repeat' (first | exact Grew.refl _ | assumption | refine Grew.alloc ?_ _ | refine Grew.drew ?_ | refine Grew.drewN ?_ _ | refine Grew.setCell ?_ ?_ _ | (simp; done) | (simp; omega))); done))
    (first | (go_at_call 81; refine (HC.out _ ?_).mono ?_; (· (repeat' (first | exact Grew.refl _ | assumption | refine Grew.alloc ?_ _ | refine Grew.drew ?_ | refine Grew.drewN ?_ _ | refine Grew.setCell ?_ ?_ _ | (simp; done) | (simp; omega)))); rintro e w5 ⟨g5, c5, rfl, hs5, hw5⟩))
  all_goals
    go_wp2_with fail
    go_ret
    have ho := hs5.len
    have hsz := hw5.size
    have hg : Grew w (w5.alloc (.cells #[.int .u64 s, .slice (some ⟨g5, 0, none⟩) n c5] 100)) := hw5.alloc _
    refine ⟨w5.heap.size, g5, by simp, ⟨s, c5, ?_⟩, by (repeat' (first | exact Grew.refl _ | assumption | refine Grew.alloc ?_ _ | refine Grew.drew ?_ | refine Grew.drewN ?_ _ | refine Grew.setCell ?_ ?_ _ | (simp; done) | (simp; omega))), by omega, by omega, ⟨_, _, heap_alloc_new _ _, by simp⟩⟩
    have hrow := (hs5.grew ((Grew.refl w5).alloc (.cells #[.int .u64 s, .slice (some ⟨g5, 0, none⟩) n c5] 100))).base (Nat.zero_le _)
    refine ⟨by simp, by simp, by rw [HN.out]; simp, HR.out.mask, ?_, by omega, HR.out.most, HR.out.len, HR.out.gen⟩
    rw [HN.out]
    exact hrow

end Go.Proofs.YtcelamaiebjdaaaGreat

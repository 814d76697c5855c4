/- (*Sweep).Pairs: the pairs of ids whose boxes meet, ascending. -/
import Derived.Test.YtcelamaiebjdaaaGreatPairLaw
import Derived.Test.YtcelamaiebjdaaaGreatAppend
namespace Go.Proofs.YtcelamaiebjdaaaGreat
open Go.RowKit Go.Maps Go.Sort Go.Shelf
attribute [local go_sem ↓] Go.wp_at_zero Go.wp_at_succ

set_option maxHeartbeats 1000000 in
set_option maxRecDepth 100000 in
theorem closure2 (sb mb ck cb : Nat) (l : Sw) (x b0 : Int) (W : World) (h : SweepAt W sb mb l) (cc : W.cell? ⟨ck, 0, none⟩ = some (.pointer (some ⟨sb, 0, none⟩))) (cd : W.cell? ⟨cb, 0, none⟩ = some (.int .i64 b0)) (hx : I64 x) :
    Calls Tryz.prog 99 #[.int .i64 x, .pointer (some ⟨ck, 0, none⟩), .pointer (some ⟨cb, 0, none⟩)] W fun e w' => e = .returned (.bool (decide ((getL l x).2.2.1 < b0))) ∧ Grew W w' := by
  have c0 := h.cell
  have hlk := h.map.look hx
  unfold bxV at hlk
  have hf := fun (a b c d : Int) w => field_box2 a b c d w
  have HS0 : ∀ W', Grew W W' → (W'.cell? ⟨ck, 0, none⟩ = some (.pointer (some ⟨sb, 0, none⟩)) ∧ W'.cell? ⟨sb, 0, none⟩ = some (.map (some mb)) ∧ W'.cell? ⟨cb, 0, none⟩ = some (.int .i64 b0) ∧
      (Instr.lookup 84 (.map (some mb)) (.int .i64 x) false).run Tryz.prog W' = .ok (.agg #[.int .i64 (getL l x).1, .int .i64 (getL l x).2.1, .int .i64 (getL l x).2.2.1, .int .i64 (getL l x).2.2.2]) W') :=
    fun W' g => ⟨g.cell' cc, (h.grew g).cell, g.cell' cd, (h.grew g).map.look hx⟩
  have HS := Lib.hid HS0
  clear HS0 h cc cd c0 hlk
  generalize getL l x = v at *
  go_enter Tryz.func99, Tryz.ntmps99
  go_wp2_with fail
  go_region_held3 (fun W' => W'.cell? ⟨ck, 0, none⟩ = some (.pointer (some ⟨sb, 0, none⟩)) ∧ W'.cell? ⟨sb, 0, none⟩ = some (.map (some mb)) ∧ W'.cell? ⟨cb, 0, none⟩ = some (.int .i64 b0) ∧
      (Instr.lookup 84 (.map (some mb)) (.int .i64 x) false).run Tryz.prog W' = .ok (.agg #[.int .i64 v.1, .int .i64 v.2.1, .int .i64 v.2.2.1, .int .i64 v.2.2.2]) W')
    (exact HS.out _ (by (repeat' (first | exact Grew.refl _ | assumption | refine Grew.alloc ?_ _ | refine Grew.drew ?_ | refine Grew.drewN ?_ _ | refine Grew.setCell ?_ ?_ _ | (simp; done) | (simp; omega))))) (fail)
  all_goals go_wp2_with fail
  all_goals
    go_ret
    exact ⟨rfl, by (repeat' (first | exact Grew.refl _ | assumption | refine Grew.alloc ?_ _ | refine Grew.drew ?_ | refine Grew.drewN ?_ _ | refine Grew.setCell ?_ ?_ _ | (simp; done) | (simp; omega)))⟩

theorem fairB_I64 {x y : Int} (h : fairB x y = true) : I64 x ∧ I64 y := by
  unfold fairB at h
  have h := of_decide_eq_true h
  unfold I64; omega
theorem chk_I64 {a b c d : Int} (h : chk a b c d = 0) : I64 a ∧ I64 b ∧ I64 c ∧ I64 d := by
  unfold chk at h
  split at h
  · rename_i hf
    rw [Bool.and_eq_true] at hf
    exact ⟨(fairB_I64 hf.1).1, (fairB_I64 hf.1).2, (fairB_I64 hf.2).1, (fairB_I64 hf.2).2⟩
  · cases h
theorem getL_mem (l : Sw) (k : Int) : (∃ p ∈ l, p.2 = getL l k) ∨ getL l k = bx0 := by
  unfold getL
  cases h : l.find? (fun p => decide (p.1 = k)) with
  | none => exact .inr rfl
  | some p => exact .inl ⟨p, List.mem_of_find?_eq_some h, rfl⟩
theorem SwOk.getI {l : Sw} (h : SwOk l) (k : Int) : I64 (getL l k).1 ∧ I64 (getL l k).2.1 ∧ I64 (getL l k).2.2.1 ∧ I64 (getL l k).2.2.2 := by
  rcases getL_mem l k with ⟨p, hp, e⟩ | e
  · rw [← e]; exact chk_I64 (h.box p hp)
  · rw [e]; unfold I64 bx0; simp
theorem SwOk.keyI {l : Sw} (h : SwOk l) {k : Int} (hk : k ∈ l.map (·.1)) : I64 k := by
  obtain ⟨p, hp, rfl⟩ := List.mem_map.1 hk
  have := h.key p hp
  unfold I64; omega

/-- Two boxes of a sweep meet. -/
def meetL (l : Sw) (x y : Int) : Bool := meetB (getL l x).1 (getL l x).2.1 (getL l x).2.2.1 (getL l x).2.2.2 (getL l y).1 (getL l y).2.1 (getL l y).2.2.1 (getL l y).2.2.2
/-- What Pairs returns. -/
def pairsOf (l : Sw) : List (Int × Int) := allC (meetL l) (l.map (·.1))

theorem meetB_comm (a b c d e f g h : Int) : meetB a b c d e f g h = meetB e f g h a b c d := by
  unfold meetB
  rw [decide_eq_decide, Int.max_comm a e, Int.min_comm c g, Int.max_comm b f, Int.min_comm d h]
  constructor <;> (rintro ⟨h1, h2, h3, h4⟩; exact ⟨h2, h1, h3, h4⟩)
theorem meetL_comm (l : Sw) (x y : Int) : meetL l x y = meetL l y x := meetB_comm _ _ _ _ _ _ _ _
theorem meetL_left (l : Sw) (x y : Int) (h : meetL l x y = true) : (getL l y).1 ≤ (getL l x).2.2.1 := by
  unfold meetL meetB at h
  have := of_decide_eq_true h
  omega

/-- The ids by their left ends. -/
def byLeft (l : Sw) : List Int := (l.map (·.1)).mergeSort fun x y => !ltOf (cfI l) y x
theorem byLeft_perm (l : Sw) : (byLeft l).Perm (l.map (·.1)) := List.mergeSort_perm _ _
theorem byLeft_asc (l : Sw) : (byLeft l).Pairwise fun a b => (getL l a).1 ≤ (getL l b).1 := by
  have le : ∀ a b : Int, (!ltOf (cfI l) b a) = true ↔ ¬ ((getL l b).1 < (getL l a).1 ∨ (getL l b).1 = (getL l a).1 ∧ b < a) := fun a b => by rw [cfI_lt, Bool.not_eq_true', decide_eq_false_iff_not]
  have h := List.pairwise_mergeSort (le := fun x y => !ltOf (cfI l) y x) (fun a b c h1 h2 => by rw [le] at *; omega) (fun a b => by rw [Bool.or_eq_true, le, le]; omega) (l.map (·.1))
  exact h.imp fun {a b} hab => by rw [le] at hab; omega
theorem pairsOf_eq {l : Sw} (h : Asc l) : ((outN (meetL l) (fun k => (getL l k).1) (fun k => (getL l k).2.2.1) (byLeft l) (byLeft l).length).mergeSort fun x y => !ltOf cfP y x) = pairsOf l :=
  pairs_law (byLeft_asc l) (meetL_comm l) (fun x y h => meetL_left l x y h) (byLeft_perm l) (by rw [List.pairwise_map]; exact h)

/-- What holds while Pairs runs. -/
structure PR (w0 : World) (sb mb : Nat) (l : Sw) (ids lv out : Value) (L : List Int) (O : List (Int × Int)) (wr : World) : Prop where
  sw : SweepAt wr sb mb l
  cc : wr.cell? ⟨w0.heap.size, 0, none⟩ = some (.pointer (some ⟨sb, 0, none⟩))
  hi : SlI wr (w0.heap.size + 1) ids (byLeft l)
  hl : SlI wr (w0.heap.size + 1) lv L
  ho : SlP wr (w0.heap.size + 1) out O
  gw : Grew w0 wr
  hB : w0.heap.size + 1 ≤ wr.heap.size
  old : sb < w0.heap.size ∧ mb < w0.heap.size
  d1 : ∀ g ∈ own lv, g ∉ own ids ∧ g ∉ own out
  d2 : ∀ g ∈ own out, g ∉ own ids

theorem PR.grew {w0 wr w' : World} {sb mb : Nat} {l : Sw} {ids lv out : Value} {L : List Int} {O : List (Int × Int)} (h : PR w0 sb mb l ids lv out L O wr) (g : Grew wr w') : PR w0 sb mb l ids lv out L O w' :=
  ⟨h.sw.grew g, g.cell' h.cc, h.hi.grew g, h.hl.grew g, h.ho.grew g, h.gw.trans g, Nat.le_trans h.hB g.size, h.old, h.d1, h.d2⟩
/-- The living ones have been turned. -/
theorem PR.live {w0 wr w' : World} {sb mb : Nat} {l : Sw} {ids lv out lv' : Value} {L L' : List Int} {O : List (Int × Int)} (h : PR w0 sb mb l ids lv out L O wr) (k : Kp (own lv) wr w') (hl : SlI w' (w0.heap.size + 1) lv' L')
    (hn : ∀ g ∈ own lv', g ∈ own lv ∨ wr.heap.size ≤ g) : PR w0 sb mb l ids lv' out L' O w' := by
  have hge := h.hl.own_ge
  have ig := h.hi.own_ge
  have og := h.ho.own_ge
  have ho := h.old
  have nl : ∀ x, x < w0.heap.size + 1 → x ∉ own lv := fun x hx hm => by have := hge x hm; omega
  refine ⟨h.sw.kp k (nl _ (by omega)) (nl _ (by omega)), k.cell h.cc (nl _ (by omega)), h.hi.kp k (fun g hg hm => (h.d1 g hm).1 (mem_own.2 hg)), hl, h.ho.kp k (fun g hg hm => (h.d1 g hm).2 (mem_own.2 hg)), ?_, Nat.le_trans h.hB k.size, ho, fun g hg => ?_, h.d2⟩
  · exact ⟨k.os.trans h.gw.os, k.tape.trans h.gw.tape, k.output.trans h.gw.output, Nat.le_trans h.gw.size k.size, fun i hi => (k.block i (Nat.lt_of_lt_of_le hi h.gw.size) (nl i (by omega))).trans (h.gw.block i hi)⟩
  · rcases hn g hg with hg | hg
    · exact h.d1 g hg
    · exact ⟨fun hm => by have := ig g hm; omega, fun hm => by have := og g hm; omega⟩
/-- The pairs have been turned. -/
theorem PR.outs {w0 wr w' : World} {sb mb : Nat} {l : Sw} {ids lv out out' : Value} {L : List Int} {O O' : List (Int × Int)} (h : PR w0 sb mb l ids lv out L O wr) (k : Kp (own out) wr w') (hl : SlP w' (w0.heap.size + 1) out' O')
    (hn : ∀ g ∈ own out', g ∈ own out ∨ wr.heap.size ≤ g) : PR w0 sb mb l ids lv out' L O' w' := by
  have hge := h.ho.own_ge
  have ig := h.hi.own_ge
  have lg := h.hl.own_ge
  have ho := h.old
  have nl : ∀ x, x < w0.heap.size + 1 → x ∉ own out := fun x hx hm => by have := hge x hm; omega
  refine ⟨h.sw.kp k (nl _ (by omega)) (nl _ (by omega)), k.cell h.cc (nl _ (by omega)), h.hi.kp k (fun g hg hm => h.d2 g hm (mem_own.2 hg)), h.hl.kp k (fun g hg hm => (h.d1 g (mem_own.2 hg)).2 hm), hl, ?_, Nat.le_trans h.hB k.size, ho, fun g hg => ⟨(h.d1 g hg).1, fun hm => ?_⟩, fun g hg => ?_⟩
  · exact ⟨k.os.trans h.gw.os, k.tape.trans h.gw.tape, k.output.trans h.gw.output, Nat.le_trans h.gw.size k.size, fun i hi => (k.block i (Nat.lt_of_lt_of_le hi h.gw.size) (nl i (by omega))).trans (h.gw.block i hi)⟩
  · rcases hn g hm with h1 | h1
    · exact (h.d1 g hg).2 h1
    · have := lg g hg; omega
  · rcases hn g hg with h1 | h1
    · exact h.d2 g h1
    · intro hm; have := ig g hm; omega

set_option maxRecDepth 100000 in
theorem pairs_pred {w0 wr : World} {sb mb : Nat} {l : Sw} {ids lv out : Value} {L : List Int} {O : List (Int × Int)} (h : PR w0 sb mb l ids lv out L O wr) (cb : Nat) (b0 : Int) (cd : wr.cell? ⟨cb, 0, none⟩ = some (.int .i64 b0)) (hcb : cb ∉ own lv) (hL : ∀ k ∈ L, k ∈ byLeft l) :
    PredG 99 #[.pointer (some ⟨w0.heap.size, 0, none⟩), .pointer (some ⟨cb, 0, none⟩)] (fun k => decide ((getL l k).2.2.1 < b0)) (own lv) L wr := fun W k x hx => by
  have hge := h.hl.own_ge
  have ho := h.old
  have nl : ∀ x, x < w0.heap.size + 1 → x ∉ own lv := fun x hx hm => by have := hge x hm; omega
  exact closure2 sb mb w0.heap.size cb l x b0 W (h.sw.kp k (nl _ (by omega)) (nl _ (by omega))) (k.cell h.cc (nl _ (by omega))) (k.cell cd hcb) (h.sw.ok.keyI ((byLeft_perm l).mem_iff.1 (hL x hx)))

def NewPairs (w : World) (ps : List (Int × Int)) (e : Ending) (w' : World) : Prop := ∃ v, e = .returned v ∧ SlP w' w.heap.size v ps ∧ Grew w w'

set_option maxHeartbeats 1000000 in
set_option maxRecDepth 100000 in
theorem pairs_any (sb mb : Nat) (l : Sw) (w : World) (h : SweepAt w sb mb l) :
    Calls Tryz.prog 45 #[.pointer (some ⟨sb, 0, none⟩)] w (NewPairs w (pairsOf l)) := by
  have hlt := h.lt
  go_enter Tryz.func45, Tryz.ntmps45
  go_wp2_with fail
  refine (ids_any sb mb l _ (h.grew (by (repeat' (first | exact Grew.refl _ | assumption | refine Grew.alloc ?_ _ | refine Grew.drew ?_ | refine Grew.drewN ?_ _ | refine Grew.setCell ?_ ?_ _ | (simp; done) | (simp; omega)))))).mono ?_
  rintro e w1 ⟨v, rfl, hv, hg1⟩
  rw [show (w.alloc (.cells #[.pointer (some ⟨sb, 0, none⟩)] 25)).heap.size = w.heap.size + 1 from by simp] at hv
  have hw1 : Grew w w1 := Grew.trans (by (repeat' (first | exact Grew.refl _ | assumption | refine Grew.alloc ?_ _ | refine Grew.drew ?_ | refine Grew.drewN ?_ _ | refine Grew.setCell ?_ ?_ _ | (simp; done) | (simp; omega)))) hg1
  have cc := hg1.cell' (b := w.heap.size) (o := 0) (v := .pointer (some ⟨sb, 0, none⟩)) (by first | (simp [go_sem]; done) | (simp [*, go_sem]; done) | (go_cell; done))
  have hsw := h.grew hw1
  clear hg1
  go_wp2_with fail
  refine (sortIds sb mb w.heap.size l _ _ v _ hsw cc hv (fun x hx => h.ok.keyI hx) (by omega) (fun hm => by have := hv.own_ge _ hm; omega) (by rw [List.length_map]; have := h.ok.small; omega)).mono ?_
  rintro e w2 ⟨rfl, hv2, hk2⟩
  change SlI w2 (w.heap.size + 1) v (byLeft l) at hv2
  have hn256 : (byLeft l).length ≤ 256 := by rw [(byLeft_perm l).length_eq, List.length_map]; exact h.ok.small
  have vge := hv.own_ge
  have nl : ∀ x, x < w.heap.size + 1 → x ∉ own v := fun x hx hm => by have := vge x hm; omega
  have hPR : PR w sb mb l v (.slice none 0 0) (.slice none 0 0) [] [] w2 :=
    ⟨hsw.kp hk2 (nl _ (by omega)) (nl _ (by omega)), hk2.cell cc (nl _ (by omega)), hv2, SlI.nil _ _, SlP.nil _ _,
      ⟨hk2.os.trans hw1.os, hk2.tape.trans hw1.tape, hk2.output.trans hw1.output, Nat.le_trans hw1.size hk2.size, fun i hi => (hk2.block i (Nat.lt_of_lt_of_le hi hw1.size) (nl i (by omega))).trans (hw1.block i hi)⟩,
      Nat.le_trans (lt_of_cell cc) hk2.size, hlt, (fun g hg => by cases hg), (fun g hg => by cases hg)⟩
  clear hv hw1 cc hsw hk2 vge nl h
  obtain ⟨p, cap, rfl, hp⟩ := hv2.shape
  obtain ⟨n, hn⟩ : ∃ n, (byLeft l).length = n := ⟨_, rfl⟩
  rw [hn] at hPR hp hn256 ⊢
  have HN := Lib.hid hn
  have A0 : Aside (PR w sb mb l (.slice p n cap) (.slice none 0 0) (.slice none 0 0) [] [] w2) := hPR
  clear hn hPR hv2
  go_wp2_with fail
  go_loopg [4, 5, 18] n (fun gg s4 s5 s18 wr => ∃ (j : Nat) (o0 v0 : Value), j ≤ n ∧ n - j ≤ gg ∧ o0 = s4 ∧ v0 = s5 ∧ s18 = .int .i64 j ∧ Aside (PR w sb mb l (.slice p n cap) v0 o0 (liveN (fun k => (getL l k).1) (fun k => (getL l k).2.2.1) (byLeft l) j) (outN (meetL l) (fun k => (getL l k).1) (fun k => (getL l k).2.2.1) (byLeft l) j) wr))
  case atStart => exact ⟨0, _, _, Nat.zero_le _, by omega, rfl, rfl, rfl, A0.out⟩
  case round =>
    obtain ⟨j, o0, v0, hj, hgg, rfl, rfl, rfl, A⟩ := hrel
    clear A0
    obtain ⟨L, hL⟩ : ∃ L, liveN (fun k => (getL l k).1) (fun k => (getL l k).2.2.1) (byLeft l) j = L := ⟨_, rfl⟩
    obtain ⟨O, hO⟩ : ∃ O, outN (meetL l) (fun k => (getL l k).1) (fun k => (getL l k).2.2.1) (byLeft l) j = O := ⟨_, rfl⟩
    rw [hL, hO] at A
    have HL := Lib.hid hL
    have HO := Lib.hid hO
    clear hL hO
    by_cases hjn : j < n
    · have hltz : (j : Int) < (n : Int) := by omega
      obtain ⟨gi, rfl⟩ := hp (by omega)
      have hjx : j < (byLeft l).length := by rw [HN.out]; exact hjn
      have cj := A.out.hi.cell j hjx
      obtain ⟨x, hx⟩ : ∃ x, (byLeft l)[j] = x := ⟨_, rfl⟩
      have HX : Hid ((byLeft l)[j]! = x) := by show (byLeft l)[j]! = x; rw [getElem!_pos _ j hjx, hx]
      have hxm : x ∈ byLeft l := by rw [← hx]; exact List.getElem_mem hjx
      rw [hx] at cj
      have hxI := A.out.sw.ok.keyI ((byLeft_perm l).mem_iff.1 hxm)
      have cc := A.out.cc
      have c0 := A.out.sw.cell
      have hlk := A.out.sw.map.look hxI
      unfold bxV at hlk
      have bI := A.out.sw.ok.getI x
      obtain ⟨b, hb⟩ : ∃ b, getL l x = b := ⟨_, rfl⟩
      rw [hb] at hlk bI
      have HB := Lib.hid hb
      have HM := Lib.hid hxm
      clear hx hjx hb hxm
      go_wp2_with fail
      generalize hW3 : wr.alloc (.cells #[.int .i64 b.1, .int .i64 b.2.1, .int .i64 b.2.2.1, .int .i64 b.2.2.2] 32) = W3
      obtain ⟨cb, hcb⟩ : ∃ cb, wr.heap.size = cb := ⟨_, rfl⟩
      have hg3 : Grew wr W3 := by rw [← hW3]; (repeat' (first | exact Grew.refl _ | assumption | refine Grew.alloc ?_ _ | refine Grew.drew ?_ | refine Grew.drewN ?_ _ | refine Grew.setCell ?_ ?_ _ | (simp; done) | (simp; omega)))
      have d0 : W3.cell? ⟨cb, 0, none⟩ = some (.int .i64 b.1) := by rw [← hW3, ← hcb]; simp
      have d1 : W3.cell? ⟨cb, 1, none⟩ = some (.int .i64 b.2.1) := by rw [← hW3, ← hcb]; simp
      have d2 : W3.cell? ⟨cb, 2, none⟩ = some (.int .i64 b.2.2.1) := by rw [← hW3, ← hcb]; simp
      have d3 : W3.cell? ⟨cb, 3, none⟩ = some (.int .i64 b.2.2.2) := by rw [← hW3, ← hcb]; simp
      have hcbo : cb ∉ own v0 := fun hm => by have := A.out.hl.own_ge _ hm; omega
      have hob : Aside (∀ g ∈ own o0, g ≠ cb) := fun g hm => by have := A.out.ho.own_ge _ hm; omega
      have A3 : Aside (PR w sb mb l (.slice (some ⟨gi, 0, none⟩) n cap) v0 o0 L O W3) := A.out.grew hg3
      rw [hcb]
      have hLm : ∀ k ∈ L, k ∈ byLeft l := fun k hk => by rw [← HL.out] at hk; exact liveN_mem j (by rw [HN.out]; exact hj) k hk
      have hpred := pairs_pred A3.out cb b.1 d0 hcbo hLm
      have eg : ∀ args w, (callFunc 99 args).run Tryz.prog w = .ok (.enter 99 args) w := enters_of Tryz.func99 (by kernel_rfl) rfl
      refine (deleteFunc_any _ _ eg _ L (w.heap.size + 1) v0 W3 A3.out.hl hpred).mono ?_
      clear hpred eg hcb hW3 hg3 A
      rintro e w4 ⟨lv, rfl, hl4, ho4, hk4⟩
      have A4 : Aside (PR w sb mb l (.slice (some ⟨gi, 0, none⟩) n cap) lv o0 (L.filter fun k => !decide ((getL l k).2.2.1 < b.1)) O w4) := A3.out.live hk4 hl4 (fun g hg => .inl (by rw [mem_own] at *; rw [← ho4]; exact hg))
      replace d0 := hk4.cell d0 hcbo
      replace d1 := hk4.cell d1 hcbo
      replace d2 := hk4.cell d2 hcbo
      replace d3 := hk4.cell d3 hcbo
      clear A3 hk4 ho4 hl4 hcbo
      obtain ⟨L', hL'⟩ : ∃ L', (L.filter fun k => !decide ((getL l k).2.2.1 < b.1)) = L' := ⟨_, rfl⟩
      rw [hL'] at A4
      have HL' := Lib.hid hL'
      have hLm' : Aside (∀ k ∈ L', k ∈ byLeft l) := fun k hk => by rw [← hL'] at hk; exact hLm k (List.mem_filter.1 hk).1
      clear hL' hLm
      obtain ⟨p', cap', rfl, hp'⟩ := A4.out.hl.shape
      obtain ⟨n', hn'⟩ : ∃ n', L'.length = n' := ⟨_, rfl⟩
      rw [hn'] at A4 hp' ⊢
      have hn2 : n' ≤ 256 := by
        rw [← hn', ← HL'.out]
        refine Nat.le_trans (List.length_filter_le _ _) ?_
        rw [← HL.out]
        exact Nat.le_trans (liveN_len j) (by omega)
      have HN' := Lib.hid hn'
      clear hn' cj hlk cc c0
      go_wp2_with fail
      go_loopg [4, 33] n' (fun gg s4 s33 wi => ∃ (q : Nat) (o1 : Value), q ≤ n' ∧ n' - q ≤ gg ∧ o1 = s4 ∧ s33 = .int .i64 q ∧ Aside (PR w sb mb l (.slice (some ⟨gi, 0, none⟩) n cap) (.slice p' n' cap') o1 L' (O ++ ((L'.take q).filter fun k => meetL l k x).map (mkP x)) wi ∧
        wi.cell? ⟨cb, 0, none⟩ = some (.int .i64 b.1) ∧ wi.cell? ⟨cb, 1, none⟩ = some (.int .i64 b.2.1) ∧ wi.cell? ⟨cb, 2, none⟩ = some (.int .i64 b.2.2.1) ∧ wi.cell? ⟨cb, 3, none⟩ = some (.int .i64 b.2.2.2) ∧ ∀ g ∈ own o1, g ≠ cb))
      case atStart =>
        exact ⟨0, _, Nat.zero_le _, by omega, rfl, rfl, by rw [List.take_zero, List.filter_nil, List.map_nil, List.append_nil]; exact A4.out, d0, d1, d2, d3, hob.out⟩
      case round =>
        obtain ⟨q, o1, hq, hgg', rfl, rfl, A⟩ := hrel
        clear A4 d0 d1 d2 d3 hob
        obtain ⟨A, e0, e1, e2, e3, hob⟩ := A.out
        replace A := Lib.hid A
        replace hob := Lib.hid hob
        obtain ⟨O1, hO1⟩ : ∃ O1, O ++ ((L'.take q).filter fun k => meetL l k x).map (mkP x) = O1 := ⟨_, rfl⟩
        rw [hO1] at A
        have HO1 := Lib.hid hO1
        clear hO1
        by_cases hqn : q < n'
        · have hqz : (q : Int) < (n' : Int) := by omega
          obtain ⟨gl, rfl⟩ := hp' (by omega)
          have hqx : q < L'.length := by rw [HN'.out]; exact hqn
          have cq := A.out.hl.cell q hqx
          obtain ⟨y, hy⟩ : ∃ y, L'[q] = y := ⟨_, rfl⟩
          have HY : Hid (L'[q]! = y) := by show L'[q]! = y; rw [getElem!_pos _ q hqx, hy]
          have hym : y ∈ L' := by rw [← hy]; exact List.getElem_mem hqx
          rw [hy] at cq
          have hyI := A.out.sw.ok.keyI ((byLeft_perm l).mem_iff.1 (hLm'.out y hym))
          have HS0 : ∀ W', Grew wr W' → (W'.cell? ⟨w.heap.size, 0, none⟩ = some (.pointer (some ⟨sb, 0, none⟩)) ∧ W'.cell? ⟨sb, 0, none⟩ = some (.map (some mb)) ∧
              (Instr.lookup 84 (.map (some mb)) (.int .i64 y) false).run Tryz.prog W' = .ok (.agg #[.int .i64 (getL l y).1, .int .i64 (getL l y).2.1, .int .i64 (getL l y).2.2.1, .int .i64 (getL l y).2.2.2]) W' ∧
              W'.cell? ⟨cb, 0, none⟩ = some (.int .i64 b.1) ∧ W'.cell? ⟨cb, 1, none⟩ = some (.int .i64 b.2.1) ∧ W'.cell? ⟨cb, 2, none⟩ = some (.int .i64 b.2.2.1) ∧ W'.cell? ⟨cb, 3, none⟩ = some (.int .i64 b.2.2.2)) :=
            fun W' g => ⟨g.cell' A.out.cc, (A.out.sw.grew g).cell, (A.out.sw.grew g).map.look hyI, g.cell' e0, g.cell' e1, g.cell' e2, g.cell' e3⟩
          have yI := A.out.sw.ok.getI y
          have hmt : meetL l y x = meetB (getL l y).1 (getL l y).2.1 (getL l y).2.2.1 (getL l y).2.2.2 b.1 b.2.1 b.2.2.1 b.2.2.2 := by rw [← HB.out]; rfl
          have HS := Lib.hid HS0
          have HT := Lib.hid hmt
          clear hy hqx hym HS0 e0 e1 e2 e3 hmt hyI
          generalize getL l y = vb at yI HS HT
          cases hm : meetL l y x
          · rw [hm] at HT
            go_wp2_with fail
            go_region_held3 (fun W' => W'.cell? ⟨w.heap.size, 0, none⟩ = some (.pointer (some ⟨sb, 0, none⟩)) ∧ W'.cell? ⟨sb, 0, none⟩ = some (.map (some mb)) ∧
              (Instr.lookup 84 (.map (some mb)) (.int .i64 y) false).run Tryz.prog W' = .ok (.agg #[.int .i64 vb.1, .int .i64 vb.2.1, .int .i64 vb.2.2.1, .int .i64 vb.2.2.2]) W' ∧
              W'.cell? ⟨cb, 0, none⟩ = some (.int .i64 b.1) ∧ W'.cell? ⟨cb, 1, none⟩ = some (.int .i64 b.2.1) ∧ W'.cell? ⟨cb, 2, none⟩ = some (.int .i64 b.2.2.1) ∧ W'.cell? ⟨cb, 3, none⟩ = some (.int .i64 b.2.2.2))
              (first | (refine HS.out _ ?_; (repeat' (first | exact Grew.refl _ | assumption | refine Grew.alloc ?_ _ | refine Grew.drew ?_ | refine Grew.drewN ?_ _ | refine Grew.setCell ?_ ?_ _ | (simp; done) | (simp; omega))); done) | (refine HS.out _ (Grew.trans ?_ (by assumption)); (repeat' (first | exact Grew.refl _ | assumption | refine Grew.alloc ?_ _ | refine Grew.drew ?_ | refine Grew.drewN ?_ _ | refine Grew.setCell ?_ ?_ _ | (simp; done) | (simp; omega))); done))
              (first | (go_at_call 77; refine (meets_any _ _ _ _ _ _ _ _ _ yI.1 yI.2.1 yI.2.2.1 yI.2.2.2 bI.1 bI.2.1 bI.2.2.1 bI.2.2.2).mono ?_; rintro e w5 ⟨rfl, hg5⟩; rw [← HT.out]))
            all_goals
              have hg6 : Grew wr w5 := Grew.trans (by (repeat' (first | exact Grew.refl _ | assumption | refine Grew.alloc ?_ _ | refine Grew.drew ?_ | refine Grew.drewN ?_ _ | refine Grew.setCell ?_ ?_ _ | (simp; done) | (simp; omega)))) hg5
              go_wp2_with fail
              go_roundg (n' - (q + 1))
              case measure => omega
              case rel =>
                obtain ⟨_, _, _, e0, e1, e2, e3⟩ := HS.out _ hg6
                refine ⟨q + 1, _, by omega, by omega, rfl, by go_num, (show Aside _ from ⟨?_, e0, e1, e2, e3, hob.out⟩)⟩
                have eO : O ++ ((L'.take (q + 1)).filter fun k => meetL l k x).map (mkP x) = O1 := by
                  rw [take_succ! _ _ (by rw [HN'.out]; exact hqn), HY.out, List.filter_append, List.map_append, show List.filter (fun k => meetL l k x) [y] = [] from by simp [hm], List.map_nil, List.append_nil, HO1.out]
                rw [eO]
                exact A.out.grew hg6
          · rw [hm] at HT
            have hOl : O1.length < 1000000 := by
              rw [← HO1.out, List.length_append, List.length_map, ← HO.out]
              have h1 := outN_len (m := meetL l) (X0 := fun k => (getL l k).1) (X1 := fun k => (getL l k).2.2.1) (xs := byLeft l) j
              have h2 := List.length_filter_le (fun k => meetL l k x) (L'.take q)
              have h3 : j * j ≤ 256 * 256 := Nat.mul_le_mul (by omega) (by omega)
              rw [List.length_take] at h2
              omega
            go_wp2_with fail
            go_region_held3 (fun W' => W'.cell? ⟨w.heap.size, 0, none⟩ = some (.pointer (some ⟨sb, 0, none⟩)) ∧ W'.cell? ⟨sb, 0, none⟩ = some (.map (some mb)) ∧
              (Instr.lookup 84 (.map (some mb)) (.int .i64 y) false).run Tryz.prog W' = .ok (.agg #[.int .i64 vb.1, .int .i64 vb.2.1, .int .i64 vb.2.2.1, .int .i64 vb.2.2.2]) W' ∧
              W'.cell? ⟨cb, 0, none⟩ = some (.int .i64 b.1) ∧ W'.cell? ⟨cb, 1, none⟩ = some (.int .i64 b.2.1) ∧ W'.cell? ⟨cb, 2, none⟩ = some (.int .i64 b.2.2.1) ∧ W'.cell? ⟨cb, 3, none⟩ = some (.int .i64 b.2.2.2))
              (first | (refine HS.out _ ?_; (repeat' (first | exact Grew.refl _ | assumption | refine Grew.alloc ?_ _ | refine Grew.drew ?_ | refine Grew.drewN ?_ _ | refine Grew.setCell ?_ ?_ _ | (simp; done) | (simp; omega))); done) | (refine HS.out _ (Grew.trans ?_ (by assumption)); (repeat' (first | exact Grew.refl _ | assumption | refine Grew.alloc ?_ _ | refine Grew.drew ?_ | refine Grew.drewN ?_ _ | refine Grew.setCell ?_ ?_ _ | (simp; done) | (simp; omega))); done))
              (first | (go_at_call 77; refine (meets_any _ _ _ _ _ _ _ _ _ yI.1 yI.2.1 yI.2.2.1 yI.2.2.2 bI.1 bI.2.1 bI.2.2.1 bI.2.2.2).mono ?_; rintro e w5 ⟨rfl, hg5⟩; rw [← HT.out]))
            all_goals
              have hg6 : Grew wr w5 := Grew.trans (by (repeat' (first | exact Grew.refl _ | assumption | refine Grew.alloc ?_ _ | refine Grew.drew ?_ | refine Grew.drewN ?_ _ | refine Grew.setCell ?_ ?_ _ | (simp; done) | (simp; omega)))) hg5
              have A6 := A.out.grew hg6
              obtain ⟨g, cap2, w6, hr, hP, hkp, hat, hlt2⟩ := appendP A6.ho A6.hB hOl (mkP x y)
              have A7 := Lib.hid (A6.outs hkp hP (fun g' hg' => by rw [mem_own] at hg' ⊢; injection hg' with e; subst e; exact hat))
              have hgo : Hid (g ≠ cb) := by
                rcases hat with e | e
                · exact hob.out g (mem_own.2 e)
                · have := lt_of_cell (HS.out _ hg6).2.2.2.1; show g ≠ cb; omega
              have HD : Hid (w6.cell? ⟨cb, 0, none⟩ = some (.int .i64 b.1) ∧ w6.cell? ⟨cb, 1, none⟩ = some (.int .i64 b.2.1) ∧ w6.cell? ⟨cb, 2, none⟩ = some (.int .i64 b.2.2.1) ∧ w6.cell? ⟨cb, 3, none⟩ = some (.int .i64 b.2.2.2)) := by
                obtain ⟨_, _, _, e0, e1, e2, e3⟩ := HS.out _ hg6
                have no : cb ∉ own o1 := fun hm => hob.out cb hm rfl
                exact ⟨hkp.cell e0 no, hkp.cell e1 no, hkp.cell e2 no, hkp.cell e3 no⟩
              clear hP hkp hat hlt2 A6
              unfold mkP at hr
              have HR := Lib.hid hr
              clear hr
              go_wp2_with (at_builtin; refine wpList_append_run rfl _ _ _ _ rfl rfl _ _ _ rfl rfl HR.out ?_)
              go_roundg (n' - (q + 1))
              case measure => omega
              case rel =>
                refine ⟨q + 1, _, by omega, by omega, rfl, by go_num, (show Aside _ from ⟨?_, HD.out.1, HD.out.2.1, HD.out.2.2.1, HD.out.2.2.2, fun g' hg' => by rw [mem_own] at hg'; injection hg' with e; subst e; exact hgo.out⟩)⟩
                have eO : O ++ ((L'.take (q + 1)).filter fun k => meetL l k x).map (mkP x) = O1 ++ [mkP x y] := by
                  rw [take_succ! _ _ (by rw [HN'.out]; exact hqn), HY.out, List.filter_append, List.map_append, show List.filter (fun k => meetL l k x) [y] = [y] from by simp [hm], ← List.append_assoc, HO1.out]; rfl
                rw [eO]
                exact A7.out
        · have hqz : ¬ (q : Int) < (n' : Int) := by omega
          obtain rfl : q = n' := by omega
          have hLl : L'.length < 1000000 := by rw [HN'.out]; omega
          obtain ⟨g, cap2, w6, hr, hP, hkp, hat, hlt2⟩ := appendI A.out.hl A.out.hB hLl x
          have A7 := Lib.hid (A.out.live hkp hP (fun g' hg' => by rw [mem_own] at hg' ⊢; injection hg' with e; subst e; exact hat))
          rw [HN'.out] at hr A7
          have HR := Lib.hid hr
          clear hP hkp hat hlt2 hr e0 e1 e2 e3
          go_wp2_with (at_builtin; refine wpList_append_run rfl _ _ _ _ rfl rfl _ _ _ rfl rfl HR.out ?_)
          go_roundg (n - (j + 1))
          case measure => omega
          case rel =>
            refine ⟨j + 1, _, _, by omega, by omega, rfl, rfl, by go_num, (show Aside _ from ?_)⟩
            have eL : liveN (fun k => (getL l k).1) (fun k => (getL l k).2.2.1) (byLeft l) (j + 1) = L' ++ [x] := by
              rw [liveN, HX.out, HL.out, HB.out, HL'.out]
            have eO : outN (meetL l) (fun k => (getL l k).1) (fun k => (getL l k).2.2.1) (byLeft l) (j + 1) = O1 := by
              rw [outN, HX.out, HL.out, HO.out, HB.out, HL'.out, ← HO1.out, List.take_of_length_le (by rw [HN'.out]; omega)]
            rw [eL, eO]
            exact A7.out
    · have hltz : ¬ (j : Int) < (n : Int) := by omega
      obtain rfl : j = n := by omega
      have hOl : O.length < 1000000 := by
        rw [← HO.out]
        have h1 := outN_len (m := meetL l) (X0 := fun k => (getL l k).1) (X1 := fun k => (getL l k).2.2.1) (xs := byLeft l) j
        have h3 : j * j ≤ 256 * 256 := Nat.mul_le_mul (by omega) (by omega)
        omega
      go_wp2_with fail
      refine (sortPairs O (w.heap.size + 1) o0 wr A.out.ho hOl).mono ?_
      rintro e w6 ⟨rfl, hs6, hk6⟩
      go_wp2_with fail
      go_ret
      have eO : (O.mergeSort fun x y => !ltOf cfP y x) = pairsOf l := by
        rw [← pairsOf_eq A.out.sw.ok.asc, HN.out, ← HO.out]
      rw [eO] at hs6
      have hge := A.out.ho.own_ge
      refine ⟨_, rfl, ?_, ?_⟩
      · obtain ⟨h1, h2⟩ := hs6
        refine ⟨h1, ?_⟩
        rcases h2 with h2 | ⟨g', cap', cur, hv', hg', r⟩
        · exact .inl h2
        · exact .inr ⟨g', cap', cur, hv', by omega, r⟩
      · exact ⟨hk6.os.trans A.out.gw.os, hk6.tape.trans A.out.gw.tape, hk6.output.trans A.out.gw.output, Nat.le_trans A.out.gw.size hk6.size, fun i hi => (hk6.block i (Nat.lt_of_lt_of_le hi A.out.gw.size) (fun hm => by have := hge i hm; omega)).trans (A.out.gw.block i hi)⟩

#print axioms pairs_any
end Go.Proofs.YtcelamaiebjdaaaGreat

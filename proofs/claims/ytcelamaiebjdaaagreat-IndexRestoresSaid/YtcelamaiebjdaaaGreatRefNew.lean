/- The reference's tables: Copy, NewSlots. -/
import Derived.Test.YtcelamaiebjdaaaGreatRefAll
import Derived.ArgAppend
import Derived.Deep.RegionLaw
namespace Go.Proofs.YtcelamaiebjdaaaGreat
open Go.RowKit Go.Maps Go.Sort Go.Shelf
attribute [local go_sem ↓] Go.wp_at_zero Go.wp_at_succ

/-- append([]T{}, xs...): a new slice. -/
theorem append0 {α : Type} (K : Kind α) {w : World} (b : Addr) (p : Option Addr) (c : Nat) (ys : List α) (hy : Rd K w p ys) (h0 : 0 < ys.length) (hl : ys.length < 1000000) :
    ∃ g cap w', (Builtin.append_ #[K.sl, K.sl] K.sl #[.slice (some b) 0 0, .slice p ys.length c]).run Tryz.prog w = .ok (.slice (some ⟨g, 0, none⟩) ys.length cap) w' ∧ Sl K w' w.heap.size (.slice (some ⟨g, 0, none⟩) ys.length cap) ys ∧ Grew w w' := by
  obtain ⟨i, hi, hz, h1, h2⟩ := info_parts K.info
  have hb := K.small
  obtain ⟨a, rfl, hab, hca⟩ := hy.resolve_left (by rintro rfl; simp at h0)
  have hbig : (0 + ys.length) * K.bytes ≤ 140737488355328 := by
    have : (0 + ys.length) * K.bytes ≤ 1000000 * 1000 := Nat.mul_le_mul (by omega) hb
    omega
  obtain ⟨v', w', hr, ho, hg⟩ := run_append_arg_grows (P := Tryz.prog) w K.sl K.sl K.ty i _ K.size K.bytes K.under hi hz h1 h2 K.zsz K.pos b 0 0 [] (by simp) (by simp) a ys.length c (K.flat ys) (Kind.flat_length ys) hca (by omega) (by unfold maxLen; omega) hbig
  rw [Nat.zero_add, List.nil_append] at ho
  have hs : Sl K w' w.heap.size v' ys := ho
  obtain ⟨q, cap, rfl, hq⟩ := hs.shape
  obtain ⟨g, rfl⟩ := hq h0
  exact ⟨g, cap, w', hr, hs, ⟨hg.os, hg.tape, hg.output, hg.size, fun k hk => hg.block k hk (by simp)⟩⟩
theorem stepAppend0 {α : Type} (K : Kind α) {w : World} {ops : Array Oper} {o : Oper} {a : Act} {Q : Act → World → Prop} {R : Exit → Act → World → Prop} {E : Prop} (hgd : o.guard = none) (s x : Operand)
    (ho : o.op = .call { callee := .builtin .append, args := #[s, x], argTypes := #[K.sl, K.sl] }) (hty : o.type = K.sl) (b : Addr) (hs : a.eval s = .slice (some b) 0 0)
    (p : Option Addr) (n c : Nat) (ys : List α) (hn : ys.length = n) (hx : a.eval x = .slice p n c) (hy : Rd K w p ys) (h0 : 0 < n) (hl : n < 1000000)
    (h6 : ∀ g cap w', Sl K w' w.heap.size (.slice (some ⟨g, 0, none⟩) n cap) ys → Grew w w' → Q (a.put o.dst (.slice (some ⟨g, 0, none⟩) n cap)) w') :
    if Region.wanted o (yielded ops a.tmps) = true then Oper.wp Tryz.prog o a w Q R else E := by
  subst hn
  obtain ⟨g, cap, w', hr, h1, h2⟩ := append0 K b p c ys hy h0 hl
  have hw : Region.wanted o (yielded ops a.tmps) = true := by simp [Region.wanted, hgd]
  rw [if_pos hw]
  unfold Oper.wp execOp
  simp only [ho, resolve, invoke, builtin, Sem.run_bind, Sem.run_pure, Result.andThen_ok, List.map_toArray, List.map_cons, List.map_nil, hs, hx, hty, hr]
  exact h6 g cap w' h1 h2

theorem rdI_of {w : World} {B g n cap : Nat} {xs : List Int} (h : SlI w B (.slice (some ⟨g, 0, none⟩) n cap) xs) : Rd kI w (some ⟨g, 0, none⟩) xs := (slI_iff.2 h).rd

theorem refCopy_end {rb rg rt gc tc : Nat} {G : List Int} {T : List Bool} {w w5 w6 w7 : World} {n g5 cp5 g6 cp6 : Nat} (h : RefR w rb rg rt gc tc G T) (hn : G.length = n) (h5 : Sl kI w5 w.heap.size (.slice (some ⟨g5, 0, none⟩) n cp5) G) (h6 : Sl kB w6 w.heap.size (.slice (some ⟨g6, 0, none⟩) n cp6) T)
    (k5 : Grew w5 w7) (k6 : Grew w6 w7) (hg : Grew w w7) (hne : g5 ≠ g6) (l5 : g5 < w5.heap.size) (l6 : g6 < w6.heap.size) :
    ∃ rb' rg' rt', Ending.returned (.pointer (some ⟨w7.heap.size, 0, none⟩)) = .returned (.pointer (some ⟨rb', 0, none⟩)) ∧ RefAt (w7.alloc (.cells #[.slice (some ⟨g5, 0, none⟩) n cp5, .slice (some ⟨g6, 0, none⟩) n cp6] 102)) rb' rg' rt' G T ∧
      Grew w (w7.alloc (.cells #[.slice (some ⟨g5, 0, none⟩) n cp5, .slice (some ⟨g6, 0, none⟩) n cp6] 102)) ∧ w.heap.size ≤ rb' ∧ w.heap.size ≤ rg' ∧ w.heap.size ≤ rt' := by
  have m5 := Nat.lt_of_lt_of_le l5 k5.size
  have m6 := Nat.lt_of_lt_of_le l6 k6.size
  have ga := (Grew.refl w7).alloc (.cells #[.slice (some ⟨g5, 0, none⟩) n cp5, .slice (some ⟨g6, 0, none⟩) n cp6] 102)
  refine ⟨w7.heap.size, g5, g6, rfl, ⟨cp5, cp6, ?_⟩, hg.trans ga, hg.size, h5.len.2.1, h6.len.2.1⟩
  subst hn
  exact ⟨by simp, by simp, (slI_iff.1 ((h5.grew k5).grew ga)).base (Nat.zero_le _), ((h6.grew k6).grew ga).base (Nat.zero_le _), ⟨by omega, by omega, hne⟩, h.most, h.len, h.gen⟩

set_option maxHeartbeats 4000000 in
set_option maxRecDepth 100000 in
theorem refCopy_any (rb rg rt : Nat) (G : List Int) (T : List Bool) (w : World) (h : RefAt w rb rg rt G T) :
    Calls Tryz.prog 73 #[.pointer (some ⟨rb, 0, none⟩)] w fun e w' => ∃ rb' rg' rt', e = .returned (.pointer (some ⟨rb', 0, none⟩)) ∧ RefAt w' rb' rg' rt' G T ∧ Grew w w' ∧ w.heap.size ≤ rb' ∧ w.heap.size ≤ rg' ∧ w.heap.size ≤ rt' := by
  obtain ⟨gc, tc, h⟩ := h
  have c0 := h.c0
  have c1 := h.c1
  have hm := h.most
  have hB := lt_of_cell c0
  have HR := Lib.hid h
  obtain ⟨n, hn⟩ : ∃ n, G.length = n := ⟨_, rfl⟩
  have hg := rdI_of h.g
  have ht := h.t.rd
  rw [hn] at c0 c1 hm
  have HG : Aside (∀ W, Grew w W → Rd kI W (some ⟨rg, 0, none⟩) G) := fun W g => hg.grew g
  have HT : Aside (∀ W, Grew w W → Rd kB W (some ⟨rt, 0, none⟩) T) := fun W g => ht.grew g
  have HN := Lib.hid hn
  have HTl := Lib.hid (h.len.trans hn)
  clear h hn hg ht
  go_enter Tryz.func73, Tryz.ntmps73
  go_wp2_with fail
  refine (valid_any rb n gc (some ⟨rg, 0, none⟩) _ hm.1 (by first | (simp [go_sem]; done) | (simp [*, go_sem]; done) | (go_cell; done))).mono ?_
  rintro e w1 ⟨rfl, rfl⟩
  go_wp2_with fail
  have HF : Aside (∀ W', Grew w W' → (W'.cell? ⟨rb, 0, none⟩ = some (.slice (some ⟨rg, 0, none⟩) n gc) ∧ W'.cell? ⟨rb, 1, none⟩ = some (.slice (some ⟨rt, 0, none⟩) n tc))) := fun W' g => ⟨g.cell' c0, g.cell' c1⟩
  go_region_held3 (fun W' => W'.cell? ⟨rb, 0, none⟩ = some (.slice (some ⟨rg, 0, none⟩) n gc) ∧ W'.cell? ⟨rb, 1, none⟩ = some (.slice (some ⟨rt, 0, none⟩) n tc)) ((refine HF.out _ ?_; (repeat' (first | exact Grew.refl _ | assumption | refine Grew.alloc ?_ _ | refine Grew.drew ?_ | refine Grew.drewN ?_ _ | refine Grew.setCell ?_ ?_ _ | (simp; done) | (simp; omega))); done))
    (first | (refine stepAppend0 kI rfl _ _ rfl rfl _ rfl (some ⟨rg, 0, none⟩) n gc G HN.out rfl (HG.out _ ?_) ?_ ?_ ?_; (· (repeat' (first | exact Grew.refl _ | assumption | refine Grew.alloc ?_ _ | refine Grew.drew ?_ | refine Grew.drewN ?_ _ | refine Grew.setCell ?_ ?_ _ | (simp; done) | (simp; omega)))); (· omega); (· omega); intro g5 cp5 w5 hs5 hg5; have ho5 := hs5.len.2.1; have hl5 := hs5.len.2.2.1; have hh5 := hg5; replace hs5 := hs5.base (Grew.size (w := w) (by (repeat' (first | exact Grew.refl _ | assumption | refine Grew.alloc ?_ _ | refine Grew.drew ?_ | refine Grew.drewN ?_ _ | refine Grew.setCell ?_ ?_ _ | (simp; done) | (simp; omega))))); replace hg5 := Grew.trans (show Grew w _ by (repeat' (first | exact Grew.refl _ | assumption | refine Grew.alloc ?_ _ | refine Grew.drew ?_ | refine Grew.drewN ?_ _ | refine Grew.setCell ?_ ?_ _ | (simp; done) | (simp; omega)))) hg5)
           | (refine stepAppend0 kB rfl _ _ rfl rfl _ rfl (some ⟨rt, 0, none⟩) n tc T HTl.out rfl (HT.out _ ?_) ?_ ?_ ?_; (· (repeat' (first | exact Grew.refl _ | assumption | refine Grew.alloc ?_ _ | refine Grew.drew ?_ | refine Grew.drewN ?_ _ | refine Grew.setCell ?_ ?_ _ | (simp; done) | (simp; omega)))); (· omega); (· omega); intro g6 cp6 w6 hs6 hg6; have ho6 := hs6.len.2.1; have hl6 := hs6.len.2.2.1; have hh6 := hg6; replace hs6 := hs6.base (Grew.size (w := w) (by (repeat' (first | exact Grew.refl _ | assumption | refine Grew.alloc ?_ _ | refine Grew.drew ?_ | refine Grew.drewN ?_ _ | refine Grew.setCell ?_ ?_ _ | (simp; done) | (simp; omega))))); replace hg6 := Grew.trans (show Grew w _ by (repeat' (first | exact Grew.refl _ | assumption | refine Grew.alloc ?_ _ | refine Grew.drew ?_ | refine Grew.drewN ?_ _ | refine Grew.setCell ?_ ?_ _ | (simp; done) | (simp; omega)))) hg6))
  all_goals
    go_wp2_with fail
    go_ret
  all_goals
    try simp at ho5
    try simp at ho6
    first
      | exact refCopy_end HR.out HN.out hs5 hs6 (Grew.trans (by (repeat' (first | exact Grew.refl _ | assumption | refine Grew.alloc ?_ _ | refine Grew.drew ?_ | refine Grew.drewN ?_ _ | refine Grew.setCell ?_ ?_ _ | (simp; done) | (simp; omega)))) hh6) (Grew.refl _) hg6 (by omega) hl5 hl6
      | exact refCopy_end HR.out HN.out hs5 hs6 (Grew.refl _) (Grew.trans (by (repeat' (first | exact Grew.refl _ | assumption | refine Grew.alloc ?_ _ | refine Grew.drew ?_ | refine Grew.drewN ?_ _ | refine Grew.setCell ?_ ?_ _ | (simp; done) | (simp; omega)))) hh5) hg5 (by omega) hl5 hl6

end Go.Proofs.YtcelamaiebjdaaaGreat

/- Slices of boxes of the call's own; the boxes that are made of integers. -/
import Derived.Test.YtcelamaiebjdaaaGreatKit
import Derived.Test.YtcelamaiebjdaaaGreatAppend
import Derived.Deep.AppendLies
namespace Go.Proofs.YtcelamaiebjdaaaGreat
open Go.RowKit Go.Maps Go.Sort Go.Shelf
attribute [local go_sem ↓] Go.wp_at_zero Go.wp_at_succ

/-- A box's four cells. -/
def encB (x : Bx) : List Value := [.int .i64 x.1, .int .i64 x.2.1, .int .i64 x.2.2.1, .int .i64 x.2.2.2]
def flatB (ps : List Bx) : List Value := ps.flatMap encB
/-- v is a slice of the boxes ps in memory from block B on, nil if there is none. -/
def SlB (w : World) (B : Nat) (v : Value) (ps : List Bx) : Prop := w.ownsRow B 32 4 v ps.length (flatB ps)

theorem flatB_length (ps : List Bx) : (flatB ps).length = ps.length * 4 := by
  induction ps with
  | nil => rfl
  | cons p r ih => simp [flatB, encB] at *; omega
theorem flatB_at (ps : List Bx) (j : Nat) (hj : j < ps.length * 4) : (flatB ps)[j]? = some ((encB ps[j / 4]!)[j % 4]!) := by
  induction ps generalizing j with
  | nil => simp at hj
  | cons p r ih =>
    match j with
    | 0 => simp [flatB, encB]
    | 1 => simp [flatB, encB]
    | 2 => simp [flatB, encB]
    | 3 => simp [flatB, encB]
    | j + 4 =>
      have := ih j (by simp at hj; omega)
      have e : flatB (p :: r) = .int .i64 p.1 :: .int .i64 p.2.1 :: .int .i64 p.2.2.1 :: .int .i64 p.2.2.2 :: flatB r := rfl
      rw [e, List.getElem?_cons_succ, List.getElem?_cons_succ, List.getElem?_cons_succ, List.getElem?_cons_succ, this, show (j + 4) / 4 = j / 4 + 1 by omega, show (j + 4) % 4 = j % 4 by omega]
      simp

theorem SlB.nil (w : World) (B : Nat) : SlB w B (.slice none 0 0) [] := World.ownsRow_nil _ _ _ _
theorem SlB.form {w : World} {B : Nat} {v : Value} {xs : List Bx} (h : SlB w B v xs) :
    (v = .slice none 0 0 ∧ xs = []) ∨ ∃ g cap, v = .slice (some ⟨g, 0, none⟩) xs.length cap ∧ B ≤ g ∧ g < w.heap.size ∧ xs.length ≤ cap ∧ cap ≤ maxLen := by
  have hlt := World.ownsRow.lt h
  obtain ⟨_, h2⟩ := h
  rcases h2 with ⟨h2, h3⟩ | ⟨g, cap, cur, hv, hg, hh, hn, hm, _⟩
  · exact .inl ⟨h2, List.length_eq_zero_iff.1 h3⟩
  · exact .inr ⟨g, cap, hv, hg, (hlt g (by rw [hv]; rfl)).2, hn, hm⟩
theorem SlB.kp {bs : List Nat} {w w' : World} {B : Nat} {v : Value} {xs : List Bx} (h : SlB w B v xs) (k : Kp bs w w') (hn : ∀ g, v.ownBlock = some g → g ∉ bs) : SlB w' B v xs := by
  have hlt := World.ownsRow.lt h
  obtain ⟨h1, h2⟩ := h
  refine ⟨h1, ?_⟩
  rcases h2 with h2 | ⟨g, cap, cur, hv, hg, hh, r⟩
  · exact .inl h2
  · have e : v.ownBlock = some g := by rw [hv]; rfl
    exact .inr ⟨g, cap, cur, hv, hg, (k.block g (hlt g e).2 (hn g e)).trans hh, r⟩
theorem SlB.grew {w w' : World} {B : Nat} {v : Value} {xs : List Bx} (h : SlB w B v xs) (k : Grew w w') : SlB w' B v xs := h.kp (k.kp []) (by simp)
theorem SlB.len {w : World} {B g n cap : Nat} {xs : List Bx} (h : SlB w B (.slice (some ⟨g, 0, none⟩) n cap) xs) : n = xs.length ∧ B ≤ g ∧ g < w.heap.size ∧ xs.length ≤ cap ∧ cap ≤ maxLen := by
  rcases h.form with ⟨h2, _⟩ | ⟨g', cap', hv, r⟩
  · cases h2
  · simp at hv; obtain ⟨rfl, rfl, rfl⟩ := hv; exact ⟨rfl, r⟩
theorem SlB.cell {w : World} {B g n cap : Nat} {xs : List Bx} (h : SlB w B (.slice (some ⟨g, 0, none⟩) n cap) xs) (j : Nat) (hj : j < xs.length * 4) : w.cell? ⟨g, j, none⟩ = some ((encB xs[j / 4]!)[j % 4]!) := by
  obtain ⟨rfl, _⟩ := h.len
  rw [World.ownsRow.cellAt (g := g) (cap := cap) h j hj, flatB_at xs j hj]
theorem SlB.free {w : World} {B g n cap : Nat} {xs : List Bx} (h : SlB w B (.slice (some ⟨g, 0, none⟩) n cap) xs) (j : Nat) : w.frozen? ⟨g, j, none⟩ = false := by
  obtain ⟨rfl, _⟩ := h.len
  exact World.ownsRow.frozenAt (g := g) (cap := cap) h j
theorem SlB.cells {w : World} {B g n cap : Nat} {xs : List Bx} (h : SlB w B (.slice (some ⟨g, 0, none⟩) n cap) xs) (j : Nat) (hj : j < xs.length) :
    w.cell? ⟨g, j * 4, none⟩ = some (.int .i64 xs[j].1) ∧ w.cell? ⟨g, j * 4 + 1, none⟩ = some (.int .i64 xs[j].2.1) ∧ w.cell? ⟨g, j * 4 + 2, none⟩ = some (.int .i64 xs[j].2.2.1) ∧ w.cell? ⟨g, j * 4 + 3, none⟩ = some (.int .i64 xs[j].2.2.2) := by
  have h0 := h.cell (j * 4) (by omega)
  have h1 := h.cell (j * 4 + 1) (by omega)
  have h2 := h.cell (j * 4 + 2) (by omega)
  have h3 := h.cell (j * 4 + 3) (by omega)
  rw [show j * 4 / 4 = j by omega, show j * 4 % 4 = 0 by omega, getElem!_pos xs j hj] at h0
  rw [show (j * 4 + 1) / 4 = j by omega, show (j * 4 + 1) % 4 = 1 by omega, getElem!_pos xs j hj] at h1
  rw [show (j * 4 + 2) / 4 = j by omega, show (j * 4 + 2) % 4 = 2 by omega, getElem!_pos xs j hj] at h2
  rw [show (j * 4 + 3) / 4 = j by omega, show (j * 4 + 3) % 4 = 3 by omega, getElem!_pos xs j hj] at h3
  exact ⟨h0, h1, h2, h3⟩
theorem SlB.shape {w : World} {B : Nat} {v : Value} {xs : List Bx} (h : SlB w B v xs) : ∃ p cap, v = .slice p xs.length cap ∧ (0 < xs.length → ∃ g, p = some ⟨g, 0, none⟩) := by
  rcases h.form with ⟨rfl, rfl⟩ | ⟨g, cap, rfl, _⟩
  · exact ⟨none, 0, rfl, fun h => absurd h (Nat.lt_irrefl 0)⟩
  · exact ⟨_, cap, rfl, fun _ => ⟨g, rfl⟩⟩
theorem SlB.own_ge {w : World} {B : Nat} {v : Value} {xs : List Bx} (h : SlB w B v xs) : ∀ g ∈ own v, B ≤ g ∧ g < w.heap.size := fun g hg => World.ownsRow.lt h g (by simpa [own] using hg)

theorem infoB : (Tryz.prog.info? 32).map (fun i => (i.zero, i.size, i.bytes)) = some (some (.agg #[.int .i64 0, .int .i64 0, .int .i64 0, .int .i64 0]), 4, 32) := by kernel_rfl
theorem appendB {w : World} {B : Nat} {v : Value} {xs : List Bx} (h : SlB w B v xs) (hB : B ≤ w.heap.size) (hl : xs.length < 1000000) (x : Bx) :
    ∃ g cap w1, (Builtin.append_ #[23, 23] 23 #[v, .slice (some ⟨w.heap.size, 0, none⟩) 1 1]).run Tryz.prog (w.alloc (.cells #[.int .i64 x.1, .int .i64 x.2.1, .int .i64 x.2.2.1, .int .i64 x.2.2.2] 32)) = .ok (.slice (some ⟨g, 0, none⟩) (xs.length + 1) cap) w1 ∧
      SlB w1 B (.slice (some ⟨g, 0, none⟩) (xs.length + 1) cap) (xs ++ [x]) ∧ Kp (own v) w w1 ∧ (v.ownBlock = some g ∨ w.heap.size ≤ g) ∧ g < w1.heap.size := by
  obtain ⟨i, hi, hz, h1, h2⟩ := info_parts infoB
  have hc : ∀ j u, [Value.int .i64 x.1, .int .i64 x.2.1, .int .i64 x.2.2.1, .int .i64 x.2.2.2][j]? = some u → (w.alloc (.cells #[.int .i64 x.1, .int .i64 x.2.1, .int .i64 x.2.2.1, .int .i64 x.2.2.2] 32)).cell? ((⟨w.heap.size, 0, none⟩ : Addr).add j) = some u := fun j u hj => by
    match j with
    | 0 => simp at hj; subst hj; simp [Addr.add]
    | 1 => simp at hj; subst hj; simp [Addr.add]
    | 2 => simp at hj; subst hj; simp [Addr.add]
    | 3 => simp at hj; subst hj; simp [Addr.add]
    | j + 4 => simp at hj
  obtain ⟨g, cap, w1, hr, ho, hg, hat, hlt⟩ := run_append_lies (P := Tryz.prog) (w.alloc (.cells #[.int .i64 x.1, .int .i64 x.2.1, .int .i64 x.2.2.1, .int .i64 x.2.2.2] 32)) 23 23 B 32 i _ 4 32 Tryz.underlying23 hi hz h1 h2 rfl (by decide) v xs.length (flatB xs)
    (h.grew (grewOf w _)) ⟨w.heap.size, 0, none⟩ 1 1 [.int .i64 x.1, .int .i64 x.2.1, .int .i64 x.2.2.1, .int .i64 x.2.2.2] rfl hc (fun u hu => by simp at hu; rcases hu with rfl | rfl | rfl | rfl <;> rfl) (by decide) (by unfold maxLen; omega) (by omega) (by simp; omega) _ rfl
  refine ⟨g, cap, w1, hr, ?_, ((grewOf w _).kp _).trans (kp_of_grownBy hg), hat.imp id (fun e => by rw [e]; simp), hlt⟩
  unfold SlB
  rw [List.length_append, show flatB (xs ++ [x]) = flatB xs ++ [.int .i64 x.1, .int .i64 x.2.1, .int .i64 x.2.2.1, .int .i64 x.2.2.2] from by simp [flatB, encB]]
  exact ho


/-- The box that five integers say. -/
def boxOf (x y w h span size : Int) : Bx := (x % (2 * span + 1) - span, y % (2 * span + 1) - span, min (x % (2 * span + 1) - span + w % (size + 1)) 2097152, min (y % (2 * span + 1) - span + h % (size + 1)) 2097152)

set_option maxHeartbeats 1000000 in
set_option maxRecDepth 100000 in
theorem boxOf_any (x y a b span size : Int) (w : World) (hs : 0 ≤ span ∧ span ≤ 2097152) (hz : 0 ≤ size ∧ size ≤ 2097152) :
    Calls Tryz.prog 35 #[.int .i64 x, .int .i64 y, .int .i64 a, .int .i64 b, .int .i64 span, .int .i64 size] w fun e w' => e = .returned (.agg #[.int .i64 (boxOf x y a b span size).1, .int .i64 (boxOf x y a b span size).2.1, .int .i64 (boxOf x y a b span size).2.2.1, .int .i64 (boxOf x y a b span size).2.2.2]) ∧ Grew w w' := by
  unfold boxOf
  have hm1 := Int.emod_nonneg x (show 2 * span + 1 ≠ 0 by omega)
  have hm2 := Int.emod_lt_of_pos x (show 0 < 2 * span + 1 by omega)
  have hm3 := Int.emod_nonneg y (show 2 * span + 1 ≠ 0 by omega)
  have hm4 := Int.emod_lt_of_pos y (show 0 < 2 * span + 1 by omega)
  have hm5 := Int.emod_nonneg a (show size + 1 ≠ 0 by omega)
  have hm6 := Int.emod_lt_of_pos a (show 0 < size + 1 by omega)
  have hm7 := Int.emod_nonneg b (show size + 1 ≠ 0 by omega)
  have hm8 := Int.emod_lt_of_pos b (show 0 < size + 1 by omega)
  have M1 := fun w => mod_any x (2 * span + 1) w (by omega)
  have M2 := fun w => mod_any y (2 * span + 1) w (by omega)
  have M3 := fun w => mod_any a (size + 1) w (by omega)
  have M4 := fun w => mod_any b (size + 1) w (by omega)
  generalize x % (2 * span + 1) = p at *
  generalize y % (2 * span + 1) = q at *
  generalize a % (size + 1) = r at *
  generalize b % (size + 1) = t at *
  go_enter Tryz.func35, Tryz.ntmps35
  go_wp2_with fail
  refine (M1 _).mono ?_
  rintro e w1 ⟨rfl, rfl⟩
  go_wp2_with fail
  refine (M2 _).mono ?_
  rintro e w1 ⟨rfl, rfl⟩
  go_wp2_with fail
  have hX : -2097152 ≤ p - span ∧ p - span ≤ 2097152 := by omega
  have hY : -2097152 ≤ q - span ∧ q - span ≤ 2097152 := by omega
  have hr : 0 ≤ r ∧ r ≤ 2097152 := by omega
  have ht : 0 ≤ t ∧ t ≤ 2097152 := by omega
  have hgw : Grew w ((w.alloc (.cells #[.int .i64 0, .int .i64 0, .int .i64 0, .int .i64 0] 32)).alloc (.cells #[.int .i64 (p - span), .int .i64 (q - span), .int .i64 0, .int .i64 0] 32)) := by (repeat' (first | exact Grew.refl _ | assumption | refine Grew.alloc ?_ _ | refine Grew.drew ?_ | refine Grew.drewN ?_ _ | refine Grew.setCell ?_ ?_ _ | (simp; done) | (simp; omega)))
  have HGW := Lib.hid hgw
  clear hgw hm1 hm2 hm3 hm4 hm5 hm6 hm7 hm8 M1 M2
  generalize eX : p - span = X at *
  generalize eY : q - span = Y at *
  have EX := Lib.hid eX
  have EY := Lib.hid eY
  clear eX eY
  obtain ⟨N, hN⟩ : ∃ N, w.heap.size + 1 = N := ⟨_, rfl⟩
  obtain ⟨W, hW⟩ : ∃ W, ((w.alloc (.cells #[.int .i64 0, .int .i64 0, .int .i64 0, .int .i64 0] 32)).alloc (.cells #[.int .i64 X, .int .i64 Y, .int .i64 0, .int .i64 0] 32)) = W := ⟨_, rfl⟩
  have k0 : W.cell? ⟨N, 0, none⟩ = some (.int .i64 X) := by rw [← hW, ← hN]; simp
  have k1 : W.cell? ⟨N, 1, none⟩ = some (.int .i64 Y) := by rw [← hW, ← hN]; simp
  have k2 : W.cell? ⟨N, 2, none⟩ = some (.int .i64 0) := by rw [← hW, ← hN]; simp
  have k3 : W.cell? ⟨N, 3, none⟩ = some (.int .i64 0) := by rw [← hW, ← hN]; simp
  have f2 : W.frozen? ⟨N, 2, none⟩ = false := by rw [← hW, ← hN]; simp
  have f3 : W.frozen? ⟨N, 3, none⟩ = false := by rw [← hW, ← hN]; simp
  have q0 : W.cell? ⟨w.heap.size, 0, none⟩ = some (.int .i64 0) := by rw [← hW]; simp
  have g0 : W.frozen? ⟨w.heap.size, 0, none⟩ = false := by rw [← hW]; simp
  have q1 : W.cell? ⟨w.heap.size, 1, none⟩ = some (.int .i64 0) := by rw [← hW]; simp
  have g1 : W.frozen? ⟨w.heap.size, 1, none⟩ = false := by rw [← hW]; simp
  have q2 : W.cell? ⟨w.heap.size, 2, none⟩ = some (.int .i64 0) := by rw [← hW]; simp
  have g2 : W.frozen? ⟨w.heap.size, 2, none⟩ = false := by rw [← hW]; simp
  have q3 : W.cell? ⟨w.heap.size, 3, none⟩ = some (.int .i64 0) := by rw [← hW]; simp
  have g3 : W.frozen? ⟨w.heap.size, 3, none⟩ = false := by rw [← hW]; simp
  have hRN : w.heap.size ≠ N := by omega
  rw [hW] at HGW ⊢
  rw [hN]
  have HN := Lib.hid hN
  clear hW hN hs
  have w1 : IntKind.i64.wrap (size + 1) = size + 1 := IntWalk.i64_in _ (by omega)
  have w2 : IntKind.i64.wrap (X + r) = X + r := IntWalk.i64_in _ (by omega)
  have w3 : IntKind.i64.wrap (Y + t) = Y + t := IntWalk.i64_in _ (by omega)
  go_region_held3 (fun W' => W'.cell? ⟨N, 0, none⟩ = some (.int .i64 X)) ((simp [*, go_sem]; done))
    (first | (go_at_call 10; refine (M3 _).mono ?_; rintro e w5 ⟨rfl, rfl⟩))
  all_goals go_wp2_with fail
  all_goals
    go_region_held3 (fun W' => W'.cell? ⟨N, 1, none⟩ = some (.int .i64 Y)) ((simp [*, go_sem]; done))
      (first | (go_at_call 10; refine (M4 _).mono ?_; rintro e w5 ⟨rfl, rfl⟩))
  all_goals go_wp2_with fail
  all_goals
    (try simp only [Exit.inBlock, Exit.then])
    refine bodyPost_ret (by simp [results, Tryz.results35, go_sem, q0, q1, q2, q3]; try rfl) rfl ?_
    refine ⟨by rw [EX.out, EY.out], ?_⟩
    have hn := HN.out
    have hg := HGW.out
    clear k0 k1 k2 k3 f2 f3 q0 q1 q2 q3 g0 g1 g2 g3 M3 M4
    repeat (first | with_reducible exact hg | with_reducible refine Grew.drew ?_ | with_reducible refine Grew.setCell ?_ (by first | (simp; done) | (simp; omega)) _)

end Go.Proofs.YtcelamaiebjdaaaGreat

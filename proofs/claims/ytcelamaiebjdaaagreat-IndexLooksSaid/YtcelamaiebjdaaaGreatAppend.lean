/- append of one element onto a slice of the call's own, as an equation on the operation's run: integers, pairs. -/
import Derived.Test.YtcelamaiebjdaaaGreatSort
import Derived.Deep.AppendLies
namespace Go.Proofs.YtcelamaiebjdaaaGreat
open Go.RowKit Go.Maps Go.Sort Go.Shelf

/-- An append whose run is known, at the operation. -/
theorem wpList_append_run {P : Program} {w w' : World} {ops : Array Oper} {rest : List Oper} {o : Oper} {a : Act} {Q : Exit → Act → World → Prop} (hgd : o.guard = none) (s x : Operand) (t ty : TypeId)
    (ho : o.op = .call { callee := .builtin .append, args := #[s, x], argTypes := #[t, t] }) (hty : o.type = ty) (v u r : Value) (hs : a.eval s = v) (hx : a.eval x = u)
    (hr : (Builtin.append_ #[t, t] ty #[v, u]).run P w = .ok r w') (h : wpList P ops Q rest (a.put o.dst r) w') : wpList P ops Q (o :: rest) a w :=
  wpList_plain hgd fun _ hK => by
    unfold Oper.wp execOp
    simp only [ho, resolve, invoke, builtin, Sem.run_bind, Sem.run_pure, Result.andThen_ok, List.map_toArray, List.map_cons, List.map_nil, hs, hx, hty, hr]
    exact hK _ _ h

theorem infoI : (Tryz.prog.info? 3).map (fun i => (i.zero, i.size, i.bytes)) = some (some (.int .i64 0), 1, 8) := by kernel_rfl
theorem infoP : (Tryz.prog.info? 83).map (fun i => (i.zero, i.size, i.bytes)) = some (some (.agg #[.int .i64 0, .int .i64 0]), 2, 16) := by kernel_rfl

theorem kp_of_grownBy {w w' : World} {v : Value} (h : w.grownBy w' v.ownBlock) : Kp (own v) w w' :=
  ⟨h.os, h.tape, h.output, h.size, fun k hk hn => h.block k hk fun e => hn (by unfold own; rw [← e]; simp)⟩
theorem grewOf (w : World) (o : Obj) : Grew w (w.alloc o) := (Grew.refl w).alloc o

theorem appendI {w : World} {B : Nat} {v : Value} {xs : List Int} (h : SlI w B v xs) (hB : B ≤ w.heap.size) (hl : xs.length < 1000000) (x : Int) :
    ∃ g cap w1, (Builtin.append_ #[22, 22] 22 #[v, .slice (some ⟨w.heap.size, 0, none⟩) 1 1]).run Tryz.prog (w.alloc (.cells #[.int .i64 x] 3)) = .ok (.slice (some ⟨g, 0, none⟩) (xs.length + 1) cap) w1 ∧
      SlI w1 B (.slice (some ⟨g, 0, none⟩) (xs.length + 1) cap) (xs ++ [x]) ∧ Kp (own v) w w1 ∧ (v.ownBlock = some g ∨ w.heap.size ≤ g) ∧ g < w1.heap.size := by
  obtain ⟨i, hi, hz, h1, h2⟩ := info_parts infoI
  have hc : (w.alloc (.cells #[.int .i64 x] 3)).cell? ⟨w.heap.size, 0, none⟩ = some (.int .i64 x) := by simp
  obtain ⟨g, cap, w1, hr, ho, hg, hat, hlt⟩ := run_append_lies (P := Tryz.prog) (w.alloc (.cells #[.int .i64 x] 3)) 22 22 B 3 i _ 1 8 Tryz.underlying22 hi hz h1 h2 rfl (by decide) v xs.length (xs.map zV)
    (h.grew (grewOf w _)) ⟨w.heap.size, 0, none⟩ 1 1 [.int .i64 x] rfl (fun j u hj => by
      cases j with
      | zero => simp at hj; subst hj; exact hc
      | succ j => simp at hj) (fun u hu => by simp at hu; subst hu; rfl) (by decide) (by unfold maxLen; omega) (by omega) (by simp; omega) _ rfl
  refine ⟨g, cap, w1, hr, ?_, ((grewOf w _).kp _).trans (kp_of_grownBy hg), hat.imp id (fun e => by rw [e]; simp), hlt⟩
  unfold SlI
  rw [List.length_append, List.map_append]
  exact ho

theorem appendP {w : World} {B : Nat} {v : Value} {xs : List (Int × Int)} (h : SlP w B v xs) (hB : B ≤ w.heap.size) (hl : xs.length < 1000000) (x : Int × Int) :
    ∃ g cap w1, (Builtin.append_ #[80, 80] 80 #[v, .slice (some ⟨w.heap.size, 0, none⟩) 1 1]).run Tryz.prog (w.alloc (.cells #[.int .i64 x.1, .int .i64 x.2] 83)) = .ok (.slice (some ⟨g, 0, none⟩) (xs.length + 1) cap) w1 ∧
      SlP w1 B (.slice (some ⟨g, 0, none⟩) (xs.length + 1) cap) (xs ++ [x]) ∧ Kp (own v) w w1 ∧ (v.ownBlock = some g ∨ w.heap.size ≤ g) ∧ g < w1.heap.size := by
  obtain ⟨i, hi, hz, h1, h2⟩ := info_parts infoP
  have hc : ∀ j u, [Value.int .i64 x.1, .int .i64 x.2][j]? = some u → (w.alloc (.cells #[.int .i64 x.1, .int .i64 x.2] 83)).cell? ((⟨w.heap.size, 0, none⟩ : Addr).add j) = some u := fun j u hj => by
    match j with
    | 0 => simp at hj; subst hj; simp [Addr.add]
    | 1 => simp at hj; subst hj; simp [Addr.add]
    | j + 2 => simp at hj
  obtain ⟨g, cap, w1, hr, ho, hg, hat, hlt⟩ := run_append_lies (P := Tryz.prog) (w.alloc (.cells #[.int .i64 x.1, .int .i64 x.2] 83)) 80 80 B 83 i _ 2 16 Tryz.underlying80 hi hz h1 h2 rfl (by decide) v xs.length (flatP xs)
    (h.grew (grewOf w _)) ⟨w.heap.size, 0, none⟩ 1 1 [.int .i64 x.1, .int .i64 x.2] rfl hc (fun u hu => by simp at hu; rcases hu with rfl | rfl <;> rfl) (by decide) (by unfold maxLen; omega) (by omega) (by simp; omega) _ rfl
  refine ⟨g, cap, w1, hr, ?_, ((grewOf w _).kp _).trans (kp_of_grownBy hg), hat.imp id (fun e => by rw [e]; simp), hlt⟩
  unfold SlP
  rw [List.length_append, show flatP (xs ++ [x]) = flatP xs ++ [.int .i64 x.1, .int .i64 x.2] from by simp [flatP, encP]]
  exact ho

/-- What such a slice looks like, nil or not. -/
theorem SlI.shape {w : World} {B : Nat} {v : Value} {xs : List Int} (h : SlI w B v xs) : ∃ p cap, v = .slice p xs.length cap ∧ (0 < xs.length → ∃ g, p = some ⟨g, 0, none⟩) := by
  rcases h.form with ⟨rfl, rfl⟩ | ⟨g, cap, rfl, _⟩
  · exact ⟨none, 0, rfl, fun h => absurd h (Nat.lt_irrefl 0)⟩
  · exact ⟨_, cap, rfl, fun _ => ⟨g, rfl⟩⟩
theorem SlP.shape {w : World} {B : Nat} {v : Value} {xs : List (Int × Int)} (h : SlP w B v xs) : ∃ p cap, v = .slice p xs.length cap ∧ (0 < xs.length → ∃ g, p = some ⟨g, 0, none⟩) := by
  rcases h.form with ⟨rfl, rfl⟩ | ⟨g, cap, rfl, _⟩
  · exact ⟨none, 0, rfl, fun h => absurd h (Nat.lt_irrefl 0)⟩
  · exact ⟨_, cap, rfl, fun _ => ⟨g, rfl⟩⟩
theorem SlI.own_ge {w : World} {B : Nat} {v : Value} {xs : List Int} (h : SlI w B v xs) : ∀ g ∈ own v, B ≤ g ∧ g < w.heap.size := fun g hg => World.ownsRow.lt h g (by simpa [own] using hg)
theorem SlP.own_ge {w : World} {B : Nat} {v : Value} {xs : List (Int × Int)} (h : SlP w B v xs) : ∀ g ∈ own v, B ≤ g ∧ g < w.heap.size := fun g hg => World.ownsRow.lt h g (by simpa [own] using hg)
theorem mem_own {v : Value} {g : Nat} : g ∈ own v ↔ v.ownBlock = some g := by simp [own]

#print axioms appendP
end Go.Proofs.YtcelamaiebjdaaaGreat

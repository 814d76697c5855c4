/- (*Sweep).Ids: a new slice of the ids, ascending. -/
import Derived.Test.YtcelamaiebjdaaaGreatRow
import Derived.Test.YtcelamaiebjdaaaGreatShelf
namespace Go.Proofs.YtcelamaiebjdaaaGreat
open Go.RowKit Go.Maps Go.Sort Go.Shelf

theorem sortsA (m : Nat) : AnyZI.SortsIn Tryz.prog Tryz.sortedA_ren Fence.wide m :=
  ⟨fun blk off cap ss W hH hblk hsz => callsIn_wide.2 (AnyM.slices_Sort_int Tryz.sortA blk off cap ss W hH hblk hsz),
   fun p cap W => callsIn_wide.2 (AnyM.slices_Sort_int_none Tryz.sortA p cap W)⟩

theorem intKeys_dOf (l : Sw) : intKeys (dOf l) = l.map (·.1) := by
  unfold intKeys dOf
  simp only [List.map_map]
  rfl
theorem asc_sorted {l : Sw} (h : Asc l) {ss : List Int} (hp : ss.Perm (intKeys (dOf l))) : ss.mergeSort (fun x y => decide (x ≤ y)) = l.map (·.1) := by
  rw [intKeys_dOf] at hp
  have e := mergeSort_of_perm_i hp
  have e2 : (l.map (·.1)).mergeSort leI = l.map (·.1) := List.mergeSort_of_pairwise (by
    rw [List.pairwise_map]
    exact h.imp fun hab => by simp only [leI, decide_eq_true_eq]; exact Int.le_of_lt hab)
  exact e.trans e2

def NewInts (w : World) (xs : List Int) (e : Ending) (w' : World) : Prop := ∃ v, e = .returned v ∧ SlI w' w.heap.size v xs ∧ Grew w w'

set_option maxHeartbeats 1000000 in
theorem ids_any (sb mb : Nat) (l : Sw) (w : World) (h : SweepAt w sb mb l) :
    Calls Tryz.prog 55 #[.pointer (some ⟨sb, 0, none⟩)] w (NewInts w (l.map (·.1))) := by
  refine (callsIn_wide (n := 6)).1 ?_
  have c0 := h.cell
  have hown := h.map.size
  have hsm := h.ok.small
  have hasc := Lib.hid h.ok.asc
  have hbl := hown.lt
  have hmax : Maps.size (dOf l) ≤ maxLen := by rw [dOf_size]; unfold maxLen; omega
  have hbytes : Maps.size (dOf l) * 8 ≤ 140737488355328 := by rw [dOf_size]; omega
  have hseq : SeqGives Fence.wide 2 Tryz.prog 123 #[.pointer (some ⟨w.heap.size, 0, none⟩)] encZ (fun ss => ss.Perm (intKeys (dOf l))) (Maps.size (dOf l)) (w.alloc (.cells #[.map (some mb)] 84)) :=
    AnyZI.keys_gives (ρ := Tryz.keysA_ren) { Tryz.keysA with } Fence.wide _ trivial rfl (by omega) w.heap.size mb l.length (dOf l) _ (by simp) (by simp) (by
      obtain ⟨es, clock, hb, Ft, hs, hD⟩ := hown
      exact ⟨es, clock, (Below.heap_alloc _ _ mb hbl).trans hb, Ft, hs, hD⟩)
  have cK : ∀ mb W, CallsIn Fence.wide 5 Tryz.prog 106 #[.map mb] W fun e w' => e = .returned (.func (.func 123) #[] #[.pointer (some ⟨W.heap.size, 0, none⟩)]) ∧ w' = W.alloc (.cells #[.map mb] 84) := fun mb W => AnyZI.keys_in Tryz.keysA Fence.wide 5 trivial rfl mb W
  have cS := AnyZI.sorted_in Tryz.sortedA Fence.wide 5 trivial trivial trivial trivial rfl (by omega) (sortsA _) (enters_of Tryz.func122 (by kernel_rfl) rfl) 123 #[.pointer (some ⟨w.heap.size, 0, none⟩)] trivial (enters_of Tryz.func123 (by kernel_rfl) rfl) _ _ hmax hbytes _ hseq
  change CallsIn _ _ Tryz.prog 105 _ _ _ at cS
  have cN : CallsIn Fence.wide 5 Tryz.prog 46 #[.pointer (some ⟨sb, 0, none⟩)] w fun e w' => e = .returned (.bool false) ∧ w = w' := callsIn_wide.2 (none_any sb mb w c0)
  have hfK : Fence.wide.fn 106 := trivial
  have hfS : Fence.wide.fn 105 := trivial
  have hfN : Fence.wide.fn 46 := trivial
  clear hmax hbytes hown h
  refine callsIn_of_wp Tryz.func55 rfl trivial ?_ rfl
  simp only [Tryz.ntmps55, List.size_toArray, List.length_cons, List.length_nil, Nat.reduceAdd, Nat.reduceSub, Array.replicate_succ, Array.replicate_zero, List.push_toArray, List.append_toArray, List.nil_append, List.cons_append]
  gi_wp2_with (first
    | (gi_at_call 46; refine cN.mono ?_; rintro e w' ⟨rfl, rfl⟩)
    | (gi_at_call 106; refine (cK _ _).mono ?_; rintro e w' ⟨rfl, rfl⟩)
    | (gi_at_call 105; refine cS.mono ?_; rintro e w' ⟨v, ss, rfl, hS, hrow, hnil, hb⟩))
  go_ret
  have hg : Grew w _ := ((Grew.refl w).alloc _).trans (Grew.of_below hb)
  refine ⟨v, rfl, ?_, hg⟩
  have hl : ss.length = l.length := by rw [hS.length_eq, intKeys_dOf, List.length_map]
  rw [asc_sorted hasc.out hS] at hrow
  unfold SlI
  rw [List.length_map, ← hl]
  exact ownsRow_base_a hrow (by simp)

#print axioms ids_any
end Go.Proofs.YtcelamaiebjdaaaGreat

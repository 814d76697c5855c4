/- slices.IndexFunc and slices.DeleteFunc at integers, for a predicate that may make memory. -/
import Derived.Test.YtcelamaiebjdaaaGreatRow
import Derived.Shelf.SlicesE.DeleteFunc
import Derived.Deep.LoopGhost
namespace Go.Proofs.YtcelamaiebjdaaaGreat
open Go.RowKit Go.Sort Go.Lib Go.Shelf

/-- What is asked of a predicate: in every world in which of what lay in w at most the blocks bs have turned, it answers p x for each x of the list, and only makes memory. -/
def PredG (g : Nat) (lb : Array Value) (p : Int → Bool) (bs : List Nat) (xs : List Int) (w : World) : Prop :=
  ∀ W, Kp bs w W → ∀ x ∈ xs, Calls Tryz.prog g (#[.int .i64 x] ++ lb) W fun e w' => e = .returned (.bool (p x)) ∧ Grew W w'

/-- The place of the first hit, or -1. -/
def idxP (p : Int → Bool) (xs : List Int) : Int := Lib.idxBy (fun _ y => p y) xs default

set_option maxHeartbeats 1000000 in
set_option maxRecDepth 100000 in
theorem indexFunc_any (g : Nat) (lb : Array Value) (eg : ∀ args w, (callFunc g args).run Tryz.prog w = .ok (.enter g args) w) (p : Int → Bool) (xs : List Int) (b n c : Nat) (w : World)
    (hp : PredG g lb p [] xs w) (hn : n = xs.length) (hbig : n ≤ 9223372036854775807) (hc : ∀ j, (hj : j < xs.length) → w.cell? ⟨b, j, none⟩ = some (zV (xs[j]'hj))) :
    Calls Tryz.prog 113 #[.slice (some ⟨b, 0, none⟩) n c, .func (.func g) #[] lb] w fun e w' => e = .returned (.int .i64 (idxP p xs)) ∧ Grew w w' := by
  have Hn := Lib.hid hn
  clear hn
  go_enter Tryz.func113, Tryz.ntmps113
  go_wp2_with fail
  go_loopg [5, 8] n (fun gg _ s8 wr => ∃ kk : Nat, kk ≤ n ∧ n - kk ≤ gg ∧ s8 = .int .i64 kk ∧ Grew w wr ∧ Aside (∀ j, j < kk → p xs[j]! = false))
  case atStart => exact ⟨0, Nat.zero_le _, by omega, rfl, Grew.refl _, fun j hj => absurd hj (Nat.not_lt_zero _)⟩
  case round =>
    obtain ⟨kk, hkk, hg, rfl, hgw, A⟩ := hrel
    by_cases hlt : kk < n
    · have hltz : (kk : Int) < (n : Int) := by omega
      have hkx : kk < xs.length := by rw [← Hn.out]; exact hlt
      have hcell := hgw.cell' (hc kk hkx)
      have hcall := hp wr (hgw.kp []) xs[kk] (List.getElem_mem hkx)
      have hB := lt_of_cell hcell
      obtain ⟨y, hy⟩ : ∃ y, xs[kk] = y := ⟨_, rfl⟩
      rw [hy] at hcell hcall
      have B : Aside (xs[kk]! = y) := by show xs[kk]! = y; rw [getElem!_pos xs kk hkx, hy]
      clear hy hc hp hkx
      cases hq : p y with
      | true =>
        rw [hq] at hcall
        go_wp2_with (go_at_fn g; refine hcall.mono ?_; rintro e w' ⟨rfl, hw'⟩)
        go_ret
        refine ⟨?_, hgw.trans hw'⟩
        have hz : n ≤ xs.length := by rw [Hn.out]; exact Nat.le_refl _
        have e := Lib.idxBy_hit (fun _ y => p y) xs n kk default hlt hz (by show p xs[kk]! = true; rw [B.out]; exact hq) A.out
        rw [Hn.out, List.take_length] at e
        show _ = Ending.returned (.int .i64 (Lib.idxBy (fun _ y => p y) xs default))
        rw [e]
        rfl
      | false =>
        rw [hq] at hcall
        go_wp2_with (go_at_fn g; refine hcall.mono ?_; rintro e w' ⟨rfl, hw'⟩)
        go_roundg (n - (kk + 1))
        case measure => omega
        case rel =>
          refine ⟨kk + 1, by omega, by omega, by go_num, hgw.trans hw', (show Aside _ from fun j hj => ?_)⟩
          by_cases e : j = kk
          · subst e
            rw [B.out]; exact hq
          · exact A.out j (by omega)
    · have hltz : ¬ (kk : Int) < (n : Int) := by omega
      have : kk = n := by omega
      subst this
      go_wp2_with fail
      go_ret
      refine ⟨?_, hgw⟩
      have e := Lib.idxBy_miss (fun _ y => p y) xs kk default A.out
      rw [Hn.out, List.take_length] at e
      show _ = Ending.returned (.int .i64 (Lib.idxBy (fun _ y => p y) xs default))
      rw [e]
      rfl

set_option maxHeartbeats 1000000 in
set_option maxRecDepth 100000 in
theorem indexFunc_none (a : Option Addr) (c : Nat) (fv : Value) (w : World) :
    Calls Tryz.prog 113 #[.slice a 0 c, fv] w fun e w' => e = .returned (.int .i64 (-1)) ∧ w = w' := by
  go_enter Tryz.func113, Tryz.ntmps113
  go_wp2_with fail
  refine wp_loop_rounds 1 ?_
  rw [rounds_succ]
  go_wp2_with fail
  go_ret
  exact ⟨rfl, rfl⟩

/-- The block of a slice. -/
def own (v : Value) : List Nat := v.ownBlock.toList

theorem PredG.none {g : Nat} {lb : Array Value} {p : Int → Bool} {bs : List Nat} {xs : List Int} {w : World} (h : PredG g lb p bs xs w) : PredG g lb p [] xs w :=
  fun W k x hx => h W (k.mono (by simp)) x hx

set_option maxHeartbeats 4000000 in
set_option maxRecDepth 100000 in
/-- slices.DeleteFunc: of a slice of the caller's own what the predicate does not strike, in its order. -/
theorem deleteFunc_any (g : Nat) (lb : Array Value) (eg : ∀ args w, (callFunc g args).run Tryz.prog w = .ok (.enter g args) w) (p : Int → Bool) (xs : List Int) (B : Nat) (v : Value) (w : World)
    (hs : SlI w B v xs) (hp : PredG g lb p (own v) xs w) :
    Calls Tryz.prog 85 #[v, .func (.func g) #[] lb] w fun e w' => ∃ v', e = .returned v' ∧ SlI w' B v' (xs.filter fun x => !p x) ∧ v'.ownBlock = v.ownBlock ∧ Kp (own v) w w' := by
  rcases hs.form with ⟨rfl, rfl⟩ | ⟨blk, cap, rfl, hB, hblk, hcap, hmax⟩
  · clear hp
    go_enter Tryz.func85, Tryz.ntmps85
    go_wp2_with (go_at_call 113; refine (indexFunc_none _ _ _ _).mono ?_; rintro e w' ⟨rfl, rfl⟩)
    go_ret
    exact ⟨_, rfl, SlI.nil _ _, rfl, Kp.refl _ _⟩
  have hp' : PredG g lb p [blk] xs w := hp
  clear hp
  show Calls _ _ _ _ fun e w' => ∃ v', e = .returned v' ∧ SlI w' B v' (xs.filter fun x => !p x) ∧ v'.ownBlock = some blk ∧ Kp [blk] w w'
  unfold maxLen at hmax
  have hIF := indexFunc_any g lb eg p xs blk xs.length cap w hp'.none rfl (by omega) (fun j hj => hs.cell j hj)
  obtain ⟨n, hn⟩ : ∃ n, xs.length = n := ⟨_, rfl⟩
  rw [hn] at hIF hs hcap ⊢
  obtain ⟨d, hd⟩ : ∃ d : Array Int, d = xs.toArray := ⟨_, rfl⟩
  have hdl : d.toList = xs := by rw [hd]
  have hds : d.size = n := by rw [hd, ← hn]; simp
  obtain ⟨kp, HK⟩ : ∃ kp : Nat → Bool, Hid (kp = fun j => !p d[j]!) := ⟨_, rfl⟩
  have hfil : (xs.filter fun x => !p x) = keptUpTo kp d d.size := by rw [HK.out, ← hdl]; exact (keptUpTo_filter (fun x => !p x) d).symm
  have gx : ∀ j, (hj : j < n) → d[j]! = xs[j]'(by omega) := fun j hj => by simp [hd, hn, hj]
  rw [hfil]
  rcases idxByFrom_spec (fun _ y => p y) default xs 0 with ⟨e1, hall⟩ | ⟨k0, hk0, e1, ht, hall⟩
  · have e2 : idxP p xs = -1 := e1
    rw [e2] at hIF
    have hkeep : ∀ j, j < d.size → kp j = true := fun j hj => by
      rw [HK.out]; show (!p d[j]!) = true
      have h5 : p xs[j]! = false := hall j (by omega)
      rw [gx j (by omega), ← getElem!_pos xs j (by omega), h5]; rfl
    have e3 : keptUpTo kp d d.size = xs := by rw [keptUpTo_all kp d _ hkeep, range_map_get, hdl]
    rw [e3]
    have Hs := Lib.hid hs
    have HI := Lib.hid hIF
    clear e1 e2 hall hkeep e3 hfil hdl hds hd gx hp' hs hIF
    go_enter Tryz.func85, Tryz.ntmps85
    go_wp2_with (go_at_call 113; refine (HI.out).mono ?_; rintro e w' ⟨rfl, hg⟩)
    go_ret
    exact ⟨_, rfl, Hs.out.grew hg, rfl, hg.kp _⟩
  · have hk0' : k0 < n := by omega
    have e2 : idxP p xs = (k0 : Int) := by unfold idxP Lib.idxBy; rw [e1]; simp
    rw [e2] at hIF
    have hkeep : ∀ j, j < k0 → kp j = true := fun j hj => by
      have h5 : p xs[j]! = false := hall j hj
      rw [HK.out]; show (!p d[j]!) = true
      rw [gx j (by omega), ← getElem!_pos xs j (by omega), h5]; rfl
    have hdrop : kp k0 = false := by
      have h5 : p xs[k0]! = true := ht
      rw [HK.out]; show (!p d[k0]!) = false
      rw [gx k0 (by omega), ← getElem!_pos xs k0 (by omega), h5]; rfl
    have hne1 : ((k0 : Int) == -1) = false := beq_eq_false_iff_ne.2 (by omega)
    have hs0 : SlI w B (.slice (some ⟨blk, 0, none⟩) n cap) d.toList := by rw [hdl]; exact hs
    have HC : Aside (PredG g lb p [blk] xs w) := hp'
    have gx' : ∀ j, j < n → d[j]! = xs[j]! := fun j hj => by rw [gx j hj, ← getElem!_pos xs j (by omega)]
    have HX : Aside (∀ j, j < n → d[j]! = xs[j]!) := gx'
    have HS := Lib.hid hs0
    have HI := Lib.hid hIF
    have HD := Lib.hid hds
    clear hp' hs hs0 hall ht e1 e2 gx gx' hIF hfil hdl hd hds
    go_enter Tryz.func85, Tryz.ntmps85
    go_wp2_with (go_at_call 113; refine (HI.out).mono ?_; rintro e w' ⟨rfl, hg⟩)
    go_loopg [5, 6, 7] n (fun gg s5 s6 _ wr => ∃ (i j : Nat) (dk : Array Int), s5 = .int .i64 i ∧ s6 = .int .i64 j ∧ j ≤ n ∧ n - j ≤ gg ∧ Aside (KeptInv kp d j i dk) ∧ Aside (SlI wr B (.slice (some ⟨blk, 0, none⟩) n cap) dk.toList) ∧ Kp [blk] w wr)
    case atStart => exact ⟨k0, k0 + 1, d, rfl, by go_num, by omega, by omega, KeptInv.start hkeep hdrop, HS.out.grew hg, hg.kp _⟩
    case round =>
      obtain ⟨i, j, dk, rfl, rfl, hjd, hgg, I2, S2, hkw⟩ := hrel
      have hI := I2.out
      have hij := hI.lt
      have hdk : dk.toList.length = n := by rw [Array.length_toList, hI.size, HD.out]
      by_cases hlt : j < n
      · have hltz : (j : Int) < (n : Int) := by omega
        have hjx : j < xs.length := by omega
        have cj := S2.out.cell j (by omega)
        obtain ⟨old, ci⟩ : ∃ old : Int, _ = some (Value.int .i64 old) := ⟨_, S2.out.cell i (by omega)⟩
        have fi := S2.out.free i
        have ej : dk.toList[j]'(by omega) = xs[j] := by
          have h1 := hI.high j (by omega)
          rw [HX.out j hlt, getElem!_pos xs j hjx] at h1
          rw [← h1, getElem!_pos dk j (by have := hdk; simp at this; omega)]
          simp
        rw [ej] at cj
        have hcall := HC.out _ hkw xs[j] (List.getElem_mem hjx)
        have C0 : d[j]! = xs[j] := by rw [HX.out j hlt, getElem!_pos xs j hjx]
        generalize hu : xs[j] = u at cj hcall C0
        have C : Aside (d[j]! = u) := C0
        clear hI hdk ej hu C0 hjx
        cases hq : p u with
        | false =>
          rw [hq] at hcall
          go_wp2_with (go_at_fn g; refine hcall.mono ?_; rintro e w' ⟨rfl, hg'⟩; replace ci := hg'.cell' ci; replace fi := (hg'.frozen (p := ⟨blk, i, none⟩) (by exact Nat.lt_of_lt_of_le hblk hkw.size)).trans fi)
          go_roundg (n - (j + 1))
          case measure => omega
          case rel =>
            obtain ⟨t1, t2⟩ := (S2.out.grew hg').stored i u
            refine ⟨i + 1, j + 1, dk.setIfInBounds i u, by go_num, by go_num, by omega, Nat.le_refl _, (show Aside _ from ?_), (show Aside _ from ?_), (hkw.trans (hg'.kp _)).trans t2⟩
            · have := I2.out.keep (by rw [HD.out]; exact hlt) (by rw [HK.out]; show (!p d[j]!) = true; rw [C.out, hq]; rfl)
              rwa [C.out] at this
            · rw [Array.toList_setIfInBounds]
              exact t1
        | true =>
          rw [hq] at hcall
          go_wp2_with (go_at_fn g; refine hcall.mono ?_; rintro e w' ⟨rfl, hg'⟩)
          go_roundg (n - (j + 1))
          case measure => omega
          case rel =>
            exact ⟨i, j + 1, dk, rfl, by go_num, by omega, Nat.le_refl _, I2.out.skip (by rw [HK.out]; show (!p d[j]!) = false; rw [C.out, hq]; rfl), S2.out.grew hg', hkw.trans (hg'.kp _)⟩
      · obtain rfl : j = n := by omega
        have hltz : ¬ (j : Int) < (j : Int) := by omega
        have hfin := SlI.setCells i (List.replicate (j - i) 0) i _ _ (Nat.le_refl _) S2.out
        rw [List.map_replicate] at hfin
        obtain ⟨xs', t1, t2, t3⟩ := hfin
        have t4 := t1.cut i (by have := t1.len; omega)
        have ek : keptUpTo kp d d.size = xs'.take i := by
          rw [t2, HD.out]
          apply List.ext_getElem?
          intro q
          rw [List.getElem?_take]
          by_cases hq : q < i
          · rw [if_pos hq, hI.low q hq, getElem!_pos dk q (by have := hI.size; have := HD.out; omega)]
            simp
          · rw [if_neg hq, List.getElem?_eq_none (by rw [hI.len]; omega)]
        have hcl : ∀ ty, (Builtin.clear_ #[22] ty #[.slice (some ⟨blk, i, none⟩) (j - i) (cap - i)]).run Tryz.prog _ = .ok (.tuple #[]) _ :=
          fun ty => Lib.run_clear_slice _ _ _ ty _ Tryz.underlying22 Tryz.zeroValue3 rfl rfl blk i _ (cap - i) (by omega) (fun t ht => by rw [S2.out.cell (i + t) (by omega)]; rfl) (fun t ht => S2.out.free (i + t))
        have hic : (i : Int) ≤ (cap : Int) := by omega
        have hij' : (i : Int) ≤ (j : Int) := by omega
        have E := Lib.hid ek
        have T3 := Lib.hid t3
        have T4 := Lib.hid t4
        clear hI ek t1 t2 t3 t4
        go_wp2_with fail
        go_ret
        refine ⟨_, rfl, ?_, rfl, hkw.trans T3.out⟩
        rw [E.out]
        exact T4.out

end Go.Proofs.YtcelamaiebjdaaaGreat

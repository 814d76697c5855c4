/- Contract of the statements' told: a table to which something was done. -/
import Derived.Test.YtmoaefcpbphgmaaGreatToldPlain
import Derived.Deep.LoopGhost
import Derived.Deep.RegionHeld3
import Derived.Deep.RegionLaw
import Derived.Test.YtmoaefcpbphgmaaGreatToldStep
import Derived.Deep.DrawnRows
namespace Go.Proofs.YtmoaefcpbphgmaaGreat
open Go.RowKit Go.Maps Go.Sort Go.Shelf
attribute [local go_sem ↓] Go.wp_at_zero Go.wp_at_succ

/-- What holds while told runs: the table, the story's four cells in block tb, its two lists. -/
structure TS (w0 wr : World) (sb gb tb n c : Nat) (G : List Int) (T : List Bool) (L V : List (Int × Int)) (vl vg : Value) : Prop where
  st : SlotsAt wr sb gb G T
  c0 : wr.cell? ⟨tb, 0, none⟩ = some (.pointer (some ⟨sb, 0, none⟩))
  c1 : wr.cell? ⟨tb, 1, none⟩ = some vl
  c2 : wr.cell? ⟨tb, 2, none⟩ = some vg
  c3 : wr.cell? ⟨tb, 3, none⟩ = some (.bool true)
  f : ∀ j, wr.frozen? ⟨tb, j, none⟩ = false
  l : Sl kH wr (tb + 1) vl L
  v : Sl kH wr (tb + 1) vg V
  inv : Inv n c G T L V
  gw : Grew w0 wr
  d : ∀ g ∈ own vl, g ∉ own vg
  r0 : wr.cell? ⟨w0.heap.size, 0, none⟩ = some (.pointer none)
  r1 : wr.cell? ⟨w0.heap.size, 1, none⟩ = some (.slice none 0 0)
  r2 : wr.cell? ⟨w0.heap.size, 2, none⟩ = some (.slice none 0 0)
  r3 : wr.cell? ⟨w0.heap.size, 3, none⟩ = some (.bool false)
  rf : ∀ j, wr.frozen? ⟨w0.heap.size, j, none⟩ = false
  ord : w0.heap.size < sb ∧ w0.heap.size < gb ∧ sb < tb ∧ gb < tb

/-- The table and the story's first list have turned. -/
theorem TS.freed {w0 wr : World} {sb gb tb n c : Nat} {G : List Int} {T : List Bool} {L V : List (Int × Int)} {vl vg : Value} (h : TS w0 wr sb gb tb n c G T L V vl vg)
    {w6 w8 W : World} {T' : List Bool} {L1 L2 : List (Int × Int)} {v8 : Value} (k6 : Kp [sb, tb] wr w6) (e : w6.cell? ⟨tb, 0, none⟩ = some (.pointer (some ⟨sb, 0, none⟩)) ∧ w6.cell? ⟨tb, 2, none⟩ = some vg ∧ w6.cell? ⟨tb, 3, none⟩ = some (.bool true) ∧ ∀ j, w6.frozen? ⟨tb, j, none⟩ = false)
    (hs : SlotsAt w6 sb gb G T') (g8 : Grew w6 w8) (hl : Sl kH w8 (tb + 1) v8 ([] ++ L1 ++ L2)) (hd : ∀ g ∈ own v8, w6.heap.size ≤ g) (kW : Kp [tb] w8 W) (c0 : ∀ v, w8.cell? ⟨tb, 0, none⟩ = some v → W.cell? ⟨tb, 0, none⟩ = some v) (c1 : W.cell? ⟨tb, 1, none⟩ = some v8) (c2 : ∀ v, w8.cell? ⟨tb, 2, none⟩ = some v → W.cell? ⟨tb, 2, none⟩ = some v)
    (c3 : ∀ v, w8.cell? ⟨tb, 3, none⟩ = some v → W.cell? ⟨tb, 3, none⟩ = some v) (f : ∀ j, w8.frozen? ⟨tb, j, none⟩ = false → W.frozen? ⟨tb, j, none⟩ = false) {L' : List (Int × Int)} (hL : L' = L1 ++ L2) (inv : Inv n (c + 1) G T' L' V) :
    TS w0 W sb gb tb n (c + 1) G T' L' V v8 vg := by
  have ho := h.ord
  have ht := lt_of_cell h.c0
  have ht6 : tb < w6.heap.size := lt_of_cell e.1
  have hK : Kp [sb, tb] wr W := (k6.trans (g8.kp _)).trans (kW.mono (by simp))
  have h0 : w0.heap.size ∉ [sb, tb] := by simp; omega
  have hst := hs.lt
  have hs6 := g8.size
  subst hL
  refine ⟨(hs.grew g8).kp kW (by simp; omega) (by simp; omega), c0 _ (g8.cell' e.1), c1, c2 _ (g8.cell' e.2.1), c3 _ (g8.cell' e.2.2.1), fun j => f j ((g8.frozen (p := ⟨tb, j, none⟩) ht6).trans (e.2.2.2 j)), ?_, ?_, inv, Kp.grewOf h.gw hK (fun x hx => by simp at hx; omega), ?_, hK.cell h.r0 h0, hK.cell h.r1 h0, hK.cell h.r2 h0, hK.cell h.r3 h0, fun j => ?_, ho⟩
  · have := hl.kp kW (fun g hg => by have := hl.own_ge g hg; simp; omega)
    rwa [List.nil_append] at this
  · exact h.v.kp hK (fun g hg => by have := h.v.own_ge g hg; simp; omega)
  · intro g hg hm
    have h1 := hd g hg
    have h2 := h.v.own_ge g hm
    have := k6.size
    omega
  · exact (World.frozen?_of_block (w := wr) (a := ⟨w0.heap.size, j, none⟩) (hK.block _ (lt_of_cell h.r0) h0)).trans (h.rf j)

/-- The table has turned, the story's lists have not. -/
theorem TS.same {w0 wr : World} {sb gb tb n c : Nat} {G : List Int} {T : List Bool} {L V : List (Int × Int)} {vl vg : Value} (h : TS w0 wr sb gb tb n c G T L V vl vg)
    {W : World} {G' : List Int} {T' : List Bool} (hK : Kp [sb, gb, tb] wr W) (st : SlotsAt W sb gb G' T') (c0 : W.cell? ⟨tb, 0, none⟩ = some (.pointer (some ⟨sb, 0, none⟩))) (c1 : W.cell? ⟨tb, 1, none⟩ = some vl) (c2 : W.cell? ⟨tb, 2, none⟩ = some vg)
    (c3 : W.cell? ⟨tb, 3, none⟩ = some (.bool true)) (f : ∀ j, W.frozen? ⟨tb, j, none⟩ = false) (inv : Inv n (c + 1) G' T' L V) : TS w0 W sb gb tb n (c + 1) G' T' L V vl vg := by
  have ho := h.ord
  have h0 : w0.heap.size ∉ [sb, gb, tb] := by simp; omega
  refine ⟨st, c0, c1, c2, c3, f, ?_, ?_, inv, Kp.grewOf h.gw hK (fun x hx => by simp at hx; omega), h.d, hK.cell h.r0 h0, hK.cell h.r1 h0, hK.cell h.r2 h0, hK.cell h.r3 h0, fun j => ?_, ho⟩
  · exact h.l.kp hK (fun g hg => by have := h.l.own_ge g hg; simp; omega)
  · exact h.v.kp hK (fun g hg => by have := h.v.own_ge g hg; simp; omega)
  · exact (World.frozen?_of_block (w := wr) (a := ⟨w0.heap.size, j, none⟩) (hK.block _ (lt_of_cell h.r0) h0)).trans (h.rf j)

/-- The table has turned, and the handle hh has come to both lists. -/
theorem TS.taken {w0 wr : World} {sb gb tb n c : Nat} {G : List Int} {T : List Bool} {L V : List (Int × Int)} {vl vg : Value} (h : TS w0 wr sb gb tb n c G T L V vl vg)
    {w7 W : World} {G' : List Int} {T' : List Bool} {hh : Int × Int} {l : Nat → Bool} {x : Nat → Value} (k7 : Kp [sb, gb, tb] wr w7) (st : SlotsAt w7 sb gb G' T') (R : R16 w7 tb (.pointer (some ⟨sb, 0, none⟩)) vl vg L V hh l x W)
    (l4 : l 4 = true) (l9 : l 9 = true) (l11 : l 11 = true) (l13 : l 13 = true) (inv : Inv n (c + 1) G' T' (L ++ [hh]) (V ++ [hh])) : TS w0 W sb gb tb n (c + 1) G' T' (L ++ [hh]) (V ++ [hh]) (x 114) (x 119) := by
  have ho := h.ord
  have o1 := h.l.own_ge
  have o2 := h.v.own_ge
  have a1 := R.a1
  have a2 := R.a2
  have d := R.d
  have c1 := R.c1
  have c2 := R.c2
  rw [l4, if_pos rfl, if_pos rfl] at a1
  rw [l9, if_pos rfl, if_pos rfl] at a2
  rw [l4, l9, if_pos rfl, if_pos rfl] at d
  rw [l11, if_pos rfl] at c1
  rw [l13, if_pos rfl] at c2
  have hb : ∀ b ∈ tb :: (own vl ++ own vg), tb ≤ b := fun b hb => by
    rcases List.mem_cons.1 hb with rfl | hb
    · exact Nat.le_refl _
    · rcases List.mem_append.1 hb with hb | hb
      · have := o1 b hb; omega
      · have := o2 b hb; omega
  have hK : Kp ([sb, gb] ++ (tb :: (own vl ++ own vg))) wr W := (k7.mono (by simp)).trans (R.kp.mono fun y hy => List.mem_append_right _ hy)
  have h0 : w0.heap.size ∉ [sb, gb] ++ (tb :: (own vl ++ own vg)) := fun hm => by
    rcases List.mem_append.1 hm with hm | hm
    · simp at hm; omega
    · have := hb _ hm; omega
  refine ⟨st.kp R.kp (fun hm => by have := hb _ hm; omega) (fun hm => by have := hb _ hm; omega), R.c0, c1, c2, R.c3, R.f, a1, a2, inv, Kp.grewOf h.gw hK (fun y hy => ?_), d, hK.cell h.r0 h0, hK.cell h.r1 h0, hK.cell h.r2 h0, hK.cell h.r3 h0, fun j => ?_, ho⟩
  · rcases List.mem_append.1 hy with hy | hy
    · simp at hy; omega
    · have := hb _ hy; omega
  · exact (World.frozen?_of_block (w := wr) (a := ⟨w0.heap.size, j, none⟩) (hK.block _ (lt_of_cell h.r0) h0)).trans (h.rf j)

/-- What told returns. -/
def Told (n : Nat) (c : Nat) (w : World) (e : Ending) (w' : World) : Prop :=
  ∃ sb gb G T L V vl vg, e = .returned (.agg #[.pointer (some ⟨sb, 0, none⟩), vl, vg, .bool true]) ∧ SlotsAt w' sb gb G T ∧ Sl kH w' w.heap.size vl L ∧ Sl kH w' w.heap.size vg V ∧ Inv n c G T L V ∧ Grew w w' ∧ w.heap.size ≤ sb ∧ w.heap.size ≤ gb ∧
    (∀ g ∈ own vl, sb < g ∧ gb < g) ∧ ∀ g ∈ own vg, sb < g ∧ gb < g

set_option maxHeartbeats 4000000 in
set_option maxRecDepth 100000 in
theorem told_any (p : Option Addr) (cap : Nat) (most : Int) (xs : List Int) (w : World) (hx : RdI w p xs) (hn : xs.length ≤ 200) :
    Calls Tryz.prog 34 #[.int .i64 most, .slice p xs.length cap] w (Told (1 + most % 64).toNat xs.length w) := by
  obtain ⟨m, hm⟩ : ∃ m, xs.length = m := ⟨_, rfl⟩
  have HX := Lib.hid hx
  have HM := Lib.hid hm
  rw [hm] at hn ⊢
  have M := fun w => mod_any most 64 w (by omega)
  obtain ⟨n, hn1⟩ : ∃ n : Nat, most % 64 = n - 1 ∧ 1 ≤ n ∧ n ≤ 64 := ⟨(most % 64).toNat + 1, by omega, by omega, by omega⟩
  rw [show (1 + most % 64).toNat = n by omega]
  rw [hn1.1] at M
  have hn64 : 1 ≤ (n : Int) ∧ (n : Int) ≤ 64 := by omega
  have hn64' := hn1.2
  clear hx hm hn1
  obtain ⟨R0, hR0⟩ : ∃ R0, w.heap.size = R0 := ⟨_, rfl⟩
  go_enter Tryz.func34, Tryz.ntmps34
  go_wp2_with fail
  refine (M _).mono ?_
  rintro e w0 ⟨rfl, rfl⟩
  go_wp2_with fail
  rw [show (1 : Int) + ((n : Int) - 1) = (n : Int) by omega]
  refine (newSlots_any (n : Int) _).mono ?_
  intro e w1 h
  unfold NewSl at h
  rw [if_pos hn64] at h
  obtain ⟨sb, gb, rfl, hs, hg1, hsb, hgb⟩ := h
  rw [Int.toNat_natCast] at hs
  have hlt := hs.lt
  have hw1 : Grew w w1 := Grew.trans (by (repeat' (first | exact Grew.refl _ | assumption | refine Grew.alloc ?_ _ | refine Grew.drew ?_ | refine Grew.drewN ?_ _ | refine Grew.setCell ?_ ?_ _ | (simp; done) | (simp; omega)))) hg1
  have HS1 := Lib.hid hs
  have r0 : w1.cell? ⟨R0, 0, none⟩ = some (.pointer none) := by rw [← hR0]; exact hg1.cell' (by simp)
  have r1 : w1.cell? ⟨R0, 1, none⟩ = some (.slice none 0 0) := by rw [← hR0]; exact hg1.cell' (by simp)
  have r2 : w1.cell? ⟨R0, 2, none⟩ = some (.slice none 0 0) := by rw [← hR0]; exact hg1.cell' (by simp)
  have r3 : w1.cell? ⟨R0, 3, none⟩ = some (.bool false) := by rw [← hR0]; exact hg1.cell' (by simp)
  have rf : ∀ j, w1.frozen? ⟨R0, j, none⟩ = false := fun j => by rw [← hR0]; exact (hg1.frozen (p := ⟨w.heap.size, j, none⟩) (by simp)).trans (by simp)
  have hb1 : R0 < sb ∧ R0 < gb := by rw [← hR0]; simp at hsb hgb; omega
  have RR := Lib.hid (And.intro r0 (And.intro r1 (And.intro r2 (And.intro r3 rf))))
  obtain ⟨tb, htb⟩ : ∃ tb, w1.heap.size = tb := ⟨_, rfl⟩
  clear hs hg1 hsb hgb r0 r1 r2 r3 rf M
  go_wp2_with fail
  have hT0 : TS w (w1.alloc (.cells #[.pointer (some ⟨sb, 0, none⟩), .slice none 0 0, .slice none 0 0, .bool true] 60)) sb gb tb n 0 (List.replicate n 0) (List.replicate n false) [] [] (.slice none 0 0) (.slice none 0 0) := by
    obtain ⟨r0, r1, r2, r3, rf⟩ := RR.out
    have gg : Grew w1 (w1.alloc (.cells #[.pointer (some ⟨sb, 0, none⟩), .slice none 0 0, .slice none 0 0, .bool true] 60)) := (Grew.refl w1).alloc _
    have hR1 : R0 < w1.heap.size := lt_of_cell r0
    subst hR0 htb
    exact ⟨HS1.out.grew gg, by simp, by simp, by simp, by simp, by simp, Sl.nil _ _ _, Sl.nil _ _ _, inv_init n, hw1.trans gg, by simp [own, Value.ownBlock], gg.cell' r0, gg.cell' r1, gg.cell' r2, gg.cell' r3, fun j => (gg.frozen (p := ⟨w.heap.size, j, none⟩) hR1).trans (rf j), by omega⟩
  have HT0 := Lib.hid hT0
  clear hT0
  go_loopg [9] m (fun gg s9 wr => ∃ i : Nat, i ≤ m ∧ m - i ≤ gg ∧ s9 = .int .i64 i ∧ Aside (∃ G T L V vl vg, TS w wr sb gb tb n i G T L V vl vg))
  case atStart => exact ⟨0, Nat.zero_le _, by omega, rfl, _, _, _, _, _, _, HT0.out⟩
  case round =>
    obtain ⟨i, him, hgg, rfl, A⟩ := hrel
    obtain ⟨G, T, L, V, vl, vg, hT⟩ := A.out
    have HT := Lib.hid hT
    have c0 := hT.c0
    have c1 := hT.c1
    have c2 := hT.c2
    have c3 := hT.c3
    have f1 := hT.f 1
    have f2 := hT.f 2
    have f3 := hT.f 3
    have hgw := hT.gw
    have hlL := hT.inv.lenL
    have hlV := hT.inv.cv
    obtain ⟨lp, lcap, hvl, hlp⟩ := hT.l.shape
    obtain ⟨vp, vcap, hvg, hvp⟩ := hT.v.shape
    obtain ⟨ll, hll⟩ : ∃ ll, L.length = ll := ⟨_, rfl⟩
    obtain ⟨vv, hvv⟩ : ∃ vv, V.length = vv := ⟨_, rfl⟩
    rw [hll] at hvl hlL
    rw [hvv] at hvg hlV
    have HVL := Lib.hid hvl
    have HVG := Lib.hid hvg
    have HLL := Lib.hid hll
    have HVV := Lib.hid hvv
    have HLP := Lib.hid hlp
    have HVP := Lib.hid hvp
    rw [hvl] at c1
    rw [hvg] at c2
    clear A hT hvl hvg hll hvv hlp hvp
    by_cases h1 : i < m
    · have h1z : (i : Int) < (m : Int) := by omega
      have hix : i < xs.length := by rw [HM.out]; exact h1
      obtain ⟨a, rfl, hab, hca⟩ := HX.out.resolve_left (by rintro rfl; simp at hix)
      have ca := hgw.cellA hab (hca i hix)
      have M := fun w => mod_any xs[i] 1048576 w (by omega)
      have hk : 0 ≤ xs[i] % 1048576 ∧ xs[i] % 1048576 < 1048576 := by omega
      clear hca
      generalize xs[i] % 1048576 = k at M hk
      generalize xs[i] = u at ca M
      obtain ⟨k, rfl⟩ := Int.eq_ofNat_of_zero_le hk.1
      clear hix
      by_cases hF : (k : Int) % 3 = 2 ∧ 0 < ll
      · obtain ⟨hF1, hF2⟩ := hF
        have hF2z : (0 : Int) < (ll : Int) := by omega
        obtain ⟨j, hj⟩ : ∃ j, k / 3 % ll = j := ⟨_, rfl⟩
        have hjl : j < ll := by rw [← hj]; exact Nat.mod_lt _ hF2
        have hjz : (k : Int) / 3 % (ll : Int) = (j : Int) := by rw [← hj]; simp
        have hjL : j < L.length := by rw [HLL.out]; exact hjl
        obtain ⟨lg, rfl⟩ := HLP.out (by rw [HLL.out]; exact hF2)
        have hh : Sl kH wr (tb + 1) (.slice (some ⟨lg, 0, none⟩) ll lcap) L := by rw [← HVL.out]; exact HT.out.l
        have k0 : wr.cell? ⟨lg, j * 2, none⟩ = some (.int .i64 L[j].1) := hh.cell j 0 hjL (by decide)
        have k1 : wr.cell? ⟨lg, j * 2 + 1, none⟩ = some (.int .i64 L[j].2) := hh.cell j 1 hjL (by decide)
        have hcap := hh.len
        have HFr := Lib.hid (HT.out.inv.free hjL)
        have hlgb := (hh.own_ge lg (by simp [own, Value.ownBlock])).1
        have hst := HT.out.st.lt
        generalize L[j] = hd at k0 k1 HFr
        obtain ⟨hd1, hd2⟩ := hd
        have hcz : (0 : Int) ≤ (j : Int) ∧ (j : Int) < (ll : Int) ∧ (j : Int) + 1 ≤ (ll : Int) ∧ (ll : Int) ≤ (lcap : Int) ∧ (j : Int) ≤ (lcap : Int) := by rw [HLL.out] at hcap; omega
        have HH := Lib.hid hh
        clear hh hjL hcap hj
        go_wp2_with (first | (go_at_call 16; refine (M _).mono ?_; rintro e w5 ⟨rfl, rfl⟩))
        refine (free_any sb gb G T hd1 hd2 _ HT.out.st).mono ?_
        rintro e w5 ⟨rfl, hs5, hk5⟩
        rw [HFr.out.1]
        have htb5 : tb ∉ [sb] := by simp; omega
        have d1 := hk5.cell c1 htb5
        have d3 := hk5.cell c3 htb5
        have d0 := hk5.cell c0 htb5
        have d2 := hk5.cell c2 htb5
        have f5 : ∀ j, w5.frozen? ⟨tb, j, none⟩ = false := fun j => (World.frozen?_of_block (w := wr) (a := ⟨tb, j, none⟩) (hk5.block tb (lt_of_cell c1) htb5)).trans (HT.out.f j)
        have g1 := f5 1
        have g3 := f5 3
        have HS5 := Lib.hid hs5
        have HH5 := Lib.hid (HH.out.kp hk5 (fun g hg => by have := HH.out.own_ge g hg; simp; omega))
        have HF5 := Lib.hid f5
        have HK5 := Lib.hid hk5
        clear hs5 hk5 f5 k0 k1
        have u1 : IntKind.i64.wrap ((j : Int) + 1) = (j : Int) + 1 := IntWalk.i64_in _ (by omega)
        have z1 : (0 : Int) ≤ (j : Int) + 1 := by omega
        have z2 : (j : Int) + 1 ≤ (ll : Int) := by omega
        have z3 : (ll : Int) ≤ (lcap : Int) := by omega
        have z4 : (j : Int) ≤ (lcap : Int) := by omega
        have z5 : (0 : Int) ≤ (j : Int) := by omega
        go_wp2_with fail
        obtain ⟨w6, hw6⟩ : ∃ w6, w5.setCell ⟨tb, 3, none⟩ (.bool true) = w6 := ⟨_, rfl⟩
        have hk6 : Kp [sb, tb] wr w6 := by rw [← hw6]; exact (HK5.out.mono (by simp)).store (by simp) 3 _
        have e1 : w6.cell? ⟨tb, 1, none⟩ = some (.slice (some ⟨lg, 0, none⟩) ll lcap) := by rw [← hw6]; simp [d1, go_sem]
        have e3 : w6.cell? ⟨tb, 3, none⟩ = some (.bool true) := by rw [← hw6]; simp [d3, go_sem]
        have e0 : w6.cell? ⟨tb, 0, none⟩ = some (.pointer (some ⟨sb, 0, none⟩)) := by rw [← hw6]; simp [d0, go_sem]
        have e2 : w6.cell? ⟨tb, 2, none⟩ = some (.slice vp vv vcap) := by rw [← hw6]; simp [d2, go_sem]
        have s6 : SlotsAt w6 sb gb G (freeS G T hd1 hd2) := by rw [← hw6]; exact HS5.out.kp ((Kp.refl [tb] w5).store (by simp) 3 _) (by simp; omega) (by simp; omega)
        have g1' : ∀ j, w6.frozen? ⟨tb, j, none⟩ = false := fun j => by rw [← hw6]; simp [HF5.out j, go_sem]
        rw [hw6]
        have HK6 := Lib.hid hk6
        have htw6 : tb < w6.heap.size := lt_of_cell e1
        have HH6 : Sl kH w6 (tb + 1) (.slice (some ⟨lg, 0, none⟩) ll lcap) L := HH.out.kp hk6 (fun g hg => by have := HH.out.own_ge g hg; simp; omega)
        have HE1 : Aside (∀ W', Grew w6 W' → (W'.cell? ⟨tb, 1, none⟩ = some (.slice (some ⟨lg, 0, none⟩) ll lcap) ∧ W'.frozen? ⟨tb, 1, none⟩ = false)) := fun W' g => ⟨g.cell' e1, (g.frozen (p := ⟨tb, 1, none⟩) htw6).trans (g1' 1)⟩
        have HEm : Aside (Sl kH ((w6.alloc (.cells #[] 64)).drew) (tb + 1) (.slice (some ⟨w6.heap.size, 0, none⟩) 0 0) []) := Sl.empty kH w6 _ (by omega)
        have HR1 : Aside (∀ W', Grew w6 W' → Rd kH W' (some ⟨lg, 0, none⟩) (L.take j)) := fun W' g => by
          have h := (HH6.rdMid 0 j).grew g
          rwa [Nat.zero_mul, List.drop_zero] at h
        have HR2 : Aside (∀ W', Grew w6 W' → Rd kH W' (if lcap = j + 1 then some ⟨lg, 0, none⟩ else some ⟨lg, (j + 1) * 2, none⟩) (L.drop (j + 1))) := fun W' g => by
          by_cases e : lcap = j + 1
          · exact .inl (List.drop_eq_nil_of_le (by rw [HLL.out]; omega))
          · rw [if_neg e]
            have h := (HH6.rdMid (j + 1) (L.length - (j + 1))).grew g
            rwa [List.take_of_length_le (by rw [List.length_drop]; exact Nat.le_refl _)] at h
        have hlt1 : (L.take j).length = j := by rw [List.length_take, HLL.out]; omega
        have hlt2 : (L.drop (j + 1)).length = ll - (j + 1) := by rw [List.length_drop, HLL.out]
        have HLT := Lib.hid (And.intro hlt1 hlt2)
        have HE6 := Lib.hid (And.intro e1 (And.intro e3 g1'))
        have HE7 := Lib.hid (And.intro e0 (And.intro (show w6.cell? ⟨tb, 2, none⟩ = some vg by rw [HVG.out]; exact e2) (And.intro e3 g1')))
        have HS7 := Lib.hid s6
        have HS6 := Lib.hid HH6
        clear hw6 d1 d3 d0 d2 g1 g3 HF5 HK5 hk6 e1 e3 e0 e2 s6 g1' HH6 hlt1 hlt2
        have e1 := HE6.out.1
        have q1 := HE6.out.2.2 1
        go_region_law (first
          | (refine stepAppend kH rfl _ _ rfl rfl (tb + 1) (.slice (some ⟨w6.heap.size, 0, none⟩) 0 0) [] rfl HEm.out ?_ (some ⟨lg, 0, none⟩) j lcap (L.take j) HLT.out.1 rfl (HR1.out _ ?_) ?_ ?_ ?_; (· simp; omega); (· (repeat' (first | exact Grew.refl _ | assumption | refine Grew.alloc ?_ _ | refine Grew.drew ?_ | refine Grew.drewN ?_ _ | refine Grew.setCell ?_ ?_ _ | (simp; done) | (simp; omega)))); (· intro h; cases h); (· rw [HLT.out.1]; simp; omega); intro v7 w7 hs7 hk7 ho7 hv7; have hg7 : Grew w6 w7 := Kp.grewOf (by (repeat' (first | exact Grew.refl _ | assumption | refine Grew.alloc ?_ _ | refine Grew.drew ?_ | refine Grew.drewN ?_ _ | refine Grew.setCell ?_ ?_ _ | (simp; done) | (simp; omega)))) hk7 (fun x hx => by simp [own, Value.ownBlock] at hx; omega); have e7 := HE1.out _ hg7; have q7 := hg7.size)
          | (refine stepAppend kH rfl _ _ rfl rfl (tb + 1) v7 _ rfl (hs7.grew (by (repeat' (first | exact Grew.refl _ | assumption | refine Grew.alloc ?_ _ | refine Grew.drew ?_ | refine Grew.drewN ?_ _ | refine Grew.setCell ?_ ?_ _ | (simp; done) | (simp; omega))))) ?_ _ (ll - (j + 1)) (lcap - (j + 1)) (L.drop (j + 1)) HLT.out.2 rfl (HR2.out _ ?_) ?_ ?_ ?_; (· have := hg7.size; simp; omega); (· (repeat' (first | exact Grew.refl _ | assumption | refine Grew.alloc ?_ _ | refine Grew.drew ?_ | refine Grew.drewN ?_ _ | refine Grew.setCell ?_ ?_ _ | (simp; done) | (simp; omega)))); (· intro h; split at h <;> cases h); (· rw [HLT.out.2, List.length_append, HLT.out.1]; simp; omega); intro v8 w8 hs8 hk8 ho8 hv8; have hg8 : Grew w6 w8 := Kp.grewOf (by (repeat' (first | exact Grew.refl _ | assumption | refine Grew.alloc ?_ _ | refine Grew.drew ?_ | refine Grew.drewN ?_ _ | refine Grew.setCell ?_ ?_ _ | (simp; done) | (simp; omega)))) hk8 (fun x hx => by have h7 := ho7 x hx; simp [own, Value.ownBlock] at h7; omega); have hd8 : ∀ g ∈ own v8, w6.heap.size ≤ g := (fun g hg => (ho8 g hg).elim (fun h => by have h7 := ho7 g h; simp [own, Value.ownBlock] at h7; omega) (fun h => by (try simp at h); omega)); obtain ⟨p8, cap8, rfl, hp8⟩ := hs8.shape; have e8 := HE1.out _ hg8))
        all_goals go_wp2_with fail
        all_goals
          go_roundg (m - (i + 1))
          case measure => omega
          case rel =>
            refine ⟨i + 1, by omega, by omega, by go_num, (show Aside _ from ?_)⟩
            exact ⟨_, _, _, _, _, _, HT.out.freed HK6.out HE7.out HS7.out hg8 hs8 hd8 (Kp.store (Kp.refl _ _) (by simp) _ _) (fun v hv => by simp [hv, go_sem]) (by simp [e8.1, go_sem]) (fun v hv => by simp [hv, go_sem]) (fun v hv => by simp [hv, go_sem]) (fun j hj => by simp [hj, go_sem]) (List.eraseIdx_eq_take_drop_succ _ _) HFr.out.2.mono⟩
      · have hT3 : ((k : Int) % 3 = 2 ∧ ¬ (0 : Int) < (ll : Int)) ∨ ¬ (k : Int) % 3 = 2 := by omega
        have hst := HT.out.st.lt
        have ho := HT.out.ord
        have htb5 : tb ∉ [sb, gb] := by simp; omega
        have E0 := fun w => eqHandle 0 0 0 0 w
        clear hF
        by_cases hfull : ll = n
        · have FL := Lib.hid (HT.out.inv.full (by rw [HLL.out]; exact hfull))
          have hfb : ((ll : Int) == (n : Int)) = true := beq_iff_eq.2 (by omega)
          have HFu := Lib.hid hfull
          clear hfull
          rcases hT3 with ⟨h3, h0⟩ | h3
          all_goals
            go_wp2_with (first | (go_at_call 16; refine (M _).mono ?_; rintro e w5 ⟨rfl, rfl⟩))
            refine (take_any sb gb G T _ HT.out.st).mono ?_
            rintro e w5 ⟨rfl, hs, hk⟩
            rw [FL.out.1]
            rw [FL.out.2.1, FL.out.2.2] at hs
            have d0 := hk.cell c0 htb5
            have d1 := hk.cell c1 htb5
            have d2 := hk.cell c2 htb5
            have d3 := hk.cell c3 htb5
            have f5 : ∀ j, w5.frozen? ⟨tb, j, none⟩ = false := fun j => (World.frozen?_of_block (w := wr) (a := ⟨tb, j, none⟩) (hk.block tb (lt_of_cell c1) htb5)).trans (HT.out.f j)
            have g3 := f5 3
            have HS5 := Lib.hid hs
            have HK5 := Lib.hid hk
            have HF5 := Lib.hid f5
            have htw := lt_of_cell d0
            clear hs hk f5
            go_wp2_with fail
            go_roundg (m - (i + 1))
            case measure => omega
            case rel =>
              refine ⟨i + 1, by omega, by omega, by go_num, (show Aside _ from ?_)⟩
              refine ⟨_, _, _, _, _, _, HT.out.same (Kp.alloc (bs := [sb, gb, tb]) (Kp.store (bs := [sb, gb, tb]) (Kp.mono (bs := [sb, gb, tb]) HK5.out (by simp)) (b := tb) (by simp) 3 _) _) ((HS5.out.kp (Kp.store (bs := [tb]) (Kp.refl [tb] _) (b := tb) (by simp) 3 _) (by simp; omega) (by simp; omega)).grew ((Grew.refl _).alloc _)) (by simp [*, go_sem]) (by rw [HVL.out]; simp [*, go_sem]) (by rw [HVG.out]; simp [*, go_sem]) (by simp [*, go_sem]) (fun j => by have := HF5.out j; simp [*, go_sem]) HT.out.inv.mono⟩
        · obtain ⟨si, sg, hsi, t1, t2, -, -, -, t6⟩ := HT.out.inv.take (by omega) (by rw [HLL.out]; exact hfull)
          have TL := Lib.hid (And.intro t1 (And.intro t2 t6))
          have hfb : ((ll : Int) == (n : Int)) = false := beq_eq_false_iff_ne.2 (by omega)
          have hrd : RdP wr vp V := by have h := HT.out.v; rw [HVG.out] at h; exact h.rdP
          have HRD := Lib.hid hrd
          clear t1 t2 t6 hfull hrd
          rcases hT3 with ⟨h3, h0⟩ | h3
          all_goals
            go_wp2_with (first | (go_at_call 16; refine (M _).mono ?_; rintro e w5 ⟨rfl, rfl⟩))
            refine (take_any sb gb G T _ HT.out.st).mono ?_
            rintro e w5 ⟨rfl, hs, hk⟩
            rw [TL.out.1]
            have d0 := hk.cell c0 htb5
            have d1 := hk.cell c1 htb5
            have d2 := hk.cell c2 htb5
            have d3 := hk.cell c3 htb5
            have f5 : ∀ j, w5.frozen? ⟨tb, j, none⟩ = false := fun j => (World.frozen?_of_block (w := wr) (a := ⟨tb, j, none⟩) (hk.block tb (lt_of_cell c1) htb5)).trans (HT.out.f j)
            have hvp5 : Sl kH w5 (tb + 1) vl L ∧ Sl kH w5 (tb + 1) vg V := ⟨HT.out.l.kp hk (fun g hg => by have := HT.out.l.own_ge g hg; simp; omega), HT.out.v.kp hk (fun g hg => by have := HT.out.v.own_ge g hg; simp; omega)⟩
            have HS5 := Lib.hid hs
            have HK5 := Lib.hid hk
            have HF5 := Lib.hid f5
            have HV5 := Lib.hid hvp5
            have htw := lt_of_cell d0
            have hrd5 : RdP w5 vp V := by have h := hvp5.2; rw [HVG.out] at h; exact h.rdP
            have HRD5 := Lib.hid hrd5
            have hHH := hasHandle_any vp vcap V (si : Int) sg (w5.alloc (.cells #[.int .i64 si, .int .i64 sg] 64)) (HRD5.out.grew (by (repeat' (first | exact Grew.refl _ | assumption | refine Grew.alloc ?_ _ | refine Grew.drew ?_ | refine Grew.drewN ?_ _ | refine Grew.setCell ?_ ?_ _ | (simp; done) | (simp; omega))))) (by rw [HVV.out]; unfold maxLen; omega)
            rw [HVV.out] at hHH
            have HHH := Lib.hid hHH
            clear hs hk f5 hvp5 hrd5 hHH
            go_wp2_with fail
            refine HHH.out.mono ?_
            rintro e w6 ⟨rfl, hg6⟩
            rw [show decide (((si : Int), sg) ∈ V) = false from decide_eq_false TL.out.2.1]
            have hg5 : Grew w5 w6 := Grew.trans (by (repeat' (first | exact Grew.refl _ | assumption | refine Grew.alloc ?_ _ | refine Grew.drew ?_ | refine Grew.drewN ?_ _ | refine Grew.setCell ?_ ?_ _ | (simp; done) | (simp; omega)))) hg6
            have b0 : w6.cell? ⟨w5.heap.size, 0, none⟩ = some (.int .i64 si) := hg6.cell' (by simp)
            have b1 : w6.cell? ⟨w5.heap.size, 1, none⟩ = some (.int .i64 sg) := hg6.cell' (by simp)
            have d0 := hg5.cell' d0
            have d1 := hg5.cell' d1
            have d2 := hg5.cell' d2
            have d3 := hg5.cell' d3
            have g3 : w6.frozen? ⟨tb, 3, none⟩ = false := (hg5.frozen (p := ⟨tb, 3, none⟩) htw).trans (HF5.out 3)
            have HG5 := Lib.hid hg5
            obtain ⟨hb, hhb⟩ : ∃ hb, w5.heap.size = hb := ⟨_, rfl⟩
            rw [hhb] at b0 b1
            have hne : tb ≠ hb := by omega
            clear hg6 hg5
            go_wp2_with fail
            obtain ⟨w7, hw7⟩ : ∃ w7, w6.setCell ⟨tb, 3, none⟩ (.bool true) = w7 := ⟨_, rfl⟩
            have hk67 : Kp [tb] w6 w7 := by rw [← hw7]; exact (Kp.refl [tb] w6).store (by simp) 3 _
            have q0 : w7.cell? ⟨tb, 0, none⟩ = some (.pointer (some ⟨sb, 0, none⟩)) := by rw [← hw7]; simp [d0, go_sem]
            have q1 : w7.cell? ⟨tb, 1, none⟩ = some (.slice lp ll lcap) := by rw [← hw7]; simp [d1, go_sem]
            have q2 : w7.cell? ⟨tb, 2, none⟩ = some (.slice vp vv vcap) := by rw [← hw7]; simp [d2, go_sem]
            have q3 : w7.cell? ⟨tb, 3, none⟩ = some (.bool true) := by rw [← hw7]; simp [d3, go_sem]
            have qb0 : w7.cell? ⟨hb, 0, none⟩ = some (.int .i64 si) := hk67.cell b0 (by simp; omega)
            have qb1 : w7.cell? ⟨hb, 1, none⟩ = some (.int .i64 sg) := hk67.cell b1 (by simp; omega)
            have qf : ∀ j, w7.frozen? ⟨tb, j, none⟩ = false := fun j => by
              have h1 : w6.frozen? ⟨tb, j, none⟩ = false := (HG5.out.frozen (p := ⟨tb, j, none⟩) htw).trans (HF5.out j)
              rw [← hw7]; simp [h1, go_sem]
            have ql : Sl kH w7 (tb + 1) (.slice lp ll lcap) L := by
              have h := (HV5.out.1.grew HG5.out).kp hk67 (fun g hg => by have := HV5.out.1.own_ge g hg; simp; omega)
              rwa [HVL.out] at h
            have qv : Sl kH w7 (tb + 1) (.slice vp vv vcap) V := by
              have h := (HV5.out.2.grew HG5.out).kp hk67 (fun g hg => by have := HV5.out.2.own_ge g hg; simp; omega)
              rwa [HVG.out] at h
            have qd : ∀ g ∈ own (.slice lp ll lcap), g ∉ own (.slice vp vv vcap) := by have := HT.out.d; rwa [HVL.out, HVG.out] at this
            have hR0 := fun x => (R16.start q0 q1 q2 q3 qf ql qv qd ((si : Int), sg) x).grew (Grew.refl w7).drew
            have qbs : ∀ b ∈ tb :: (own (.slice lp ll lcap) ++ own (.slice vp vv vcap)), b < w7.heap.size := by
              intro b hb
              rcases List.mem_cons.1 hb with rfl | hb
              · exact lt_of_cell q0
              · rcases List.mem_append.1 hb with hb | hb
                · exact (ql.own_ge b hb).2
                · exact (qv.own_ge b hb).2
            have hhb7 : hb < w7.heap.size := lt_of_cell qb0
            have hhbn : hb ∉ tb :: (own (.slice lp ll lcap) ++ own (.slice vp vv vcap)) := by
              have h1 := HV5.out.1.own_ge
              have h2 := HV5.out.2.own_ge
              rw [HVL.out] at h1
              rw [HVG.out] at h2
              intro hm
              rcases List.mem_cons.1 hm with h | hm
              · omega
              · rcases List.mem_append.1 hm with hm | hm
                · have := h1 _ hm; omega
                · have := h2 _ hm; omega
            have HR0 := Lib.hid hR0
            have HBS := Lib.hid qbs
            have HQ := Lib.hid (And.intro hk67 (And.intro qb0 (And.intro qb1 hhbn)))
            rw [hw7]
            clear hw7 hk67 q0 q1 q2 q3 qb0 qb1 qf ql qv qd hR0 qbs hhbn b0 b1 d0 d1 d2 d3 g3 c0 c1 c2 c3 f1 f2 f3 ca E0
            refine wp_region_facts (by kernel_rfl) (tb :: (own (.slice lp ll lcap) ++ own (.slice vp vv vcap))) [110, 111, 112, 113, 114, 115, 116, 117, 118, 119, 120, 121] (by kernel_rfl) (V16 tb (.slice lp ll lcap) (.slice vp vv vcap) ((si : Int), sg) w7.heap.size) (V16.mono HBS.out) (R16 w7 tb (.pointer (some ⟨sb, 0, none⟩)) (.slice lp ll lcap) (.slice vp vv vcap) L V ((si : Int), sg)) HR0.out ?_ ?_
            · refine StepsAt.cons ?_ ?_
              · intro ρ l x W hρ hc hR hl hd
                have t8 : ρ (.tmp 8) = .pointer (some ⟨tb, 0, none⟩) := by rw [hρ]; rfl
                clear hρ
                refine .inl ⟨rfl, fun R' hR' => ?_⟩
                unfold OpDoes
                go_simp
                exact hR' _ _ (Kp.refl _ _) (fun _ _ => rfl) (hR.same 0 _ _ (by decide) (by decide))
              refine StepsAt.cons ?_ ?_
              · intro ρ l x W hρ hc hR hl hd
                have t110 : ρ (.tmp 110) = .pointer (some ⟨tb, 1, none⟩) := (show ρ (.tmp 110) = x 110 by rw [hρ]; rfl).trans ((hd.1 rfl).2 110 rfl)
                have r1 := hR.open1 hl
                clear hρ
                refine .inl ⟨rfl, fun R' hR' => ?_⟩
                unfold OpDoes
                go_simp
                exact hR' _ _ (Kp.refl _ _) (fun _ _ => rfl) (hR.same 1 _ _ (by decide) (by decide))
              refine StepsAt.cons ?_ ?_
              · intro ρ l x W hρ hc hR hl hd
                have t12 : ρ (.tmp 12) = .pointer (some ⟨hb, 0, none⟩) := by rw [hρ, ← hhb]; rfl
                have r0 : W.cell? ⟨hb, 0, none⟩ = some (.int .i64 si) := hR.kp.cell HQ.out.2.1 HQ.out.2.2.2
                have r1 : W.cell? ⟨hb, 1, none⟩ = some (.int .i64 sg) := hR.kp.cell HQ.out.2.2.1 HQ.out.2.2.2
                clear hρ
                refine .inl ⟨rfl, fun R' hR' => ?_⟩
                unfold OpDoes
                go_simp
                exact hR' _ _ (Kp.refl _ _) (fun _ _ => rfl) (hR.same 2 _ _ (by decide) (by decide))
              refine StepsAt.cons ?_ ?_
              · intro ρ l x W hρ hc hR hl hd
                have t112 : ρ (.tmp 112) = .agg #[.int .i64 si, .int .i64 sg] := (show ρ (.tmp 112) = x 112 by rw [hρ]; rfl).trans ((hd.1 rfl).2 112 rfl)
                clear hρ
                refine .inl ⟨rfl, fun R' hR' => ?_⟩
                unfold OpDoes
                go_simp
                exact hR' _ _ (((Grew.refl W).alloc _).kp _) (fun _ _ => ⟨W.heap.size, rfl, hR.kp.size, by simp, by simp, by simp⟩) ((hR.same 3 _ _ (by decide) (by decide)).grew ((Grew.refl W).alloc _))
              refine StepsAt.cons ?_ ?_
              · intro ρ l x W hρ hc hR hl hd
                have t111 : ρ (.tmp 111) = (.slice lp ll lcap) := (show ρ (.tmp 111) = x 111 by rw [hρ]; rfl).trans ((hd.1 rfl).2 111 rfl)
                have t113 : ρ (.tmp 113) = x 113 := by rw [hρ]; rfl
                obtain ⟨eb, heb, h1, h2, h3, h4⟩ := (show OneH ((si : Int), sg) w7.heap.size (x 113) W from (hd.2.1 rfl).2 113 rfl)
                have l1 := (hd.1 rfl).1
                have a1 := hR.a1
                rw [hl, if_neg (by simp), if_neg (by simp)] at a1
                clear hρ
                refine .inl ⟨rfl, fun R' hR' => ?_⟩
                obtain ⟨v', w', hr, hs, hk, ho, -⟩ := append_any kH a1 (Nat.succ_le_of_lt hR.lt) (some ⟨eb, 0, none⟩) 1 [((si : Int), sg)] (OneH.rd h2 h3 h4) (by simp) (by rw [HLL.out]; simp; omega)
                refine OpDoes.append _ _ _ _ rfl rfl t111 (t113.trans heb) hr ?_
                exact hR' _ _ (hk.mono fun y hy => by simp [hy]) (fun _ _ => trivial) (hR.app1 l1 hl hs hk ho)
              refine StepsAt.cons ?_ ?_
              · intro ρ l x W hρ hc hR hl hd
                have t8 : ρ (.tmp 8) = .pointer (some ⟨tb, 0, none⟩) := by rw [hρ]; rfl
                clear hρ
                refine .inl ⟨rfl, fun R' hR' => ?_⟩
                unfold OpDoes
                go_simp
                exact hR' _ _ (Kp.refl _ _) (fun _ _ => rfl) (hR.same 5 _ _ (by decide) (by decide))
              refine StepsAt.cons ?_ ?_
              · intro ρ l x W hρ hc hR hl hd
                have t115 : ρ (.tmp 115) = .pointer (some ⟨tb, 2, none⟩) := (show ρ (.tmp 115) = x 115 by rw [hρ]; rfl).trans ((hd.1 rfl).2 115 rfl)
                have r1 := hR.open2 hl
                clear hρ
                refine .inl ⟨rfl, fun R' hR' => ?_⟩
                unfold OpDoes
                go_simp
                exact hR' _ _ (Kp.refl _ _) (fun _ _ => rfl) (hR.same 6 _ _ (by decide) (by decide))
              refine StepsAt.cons ?_ ?_
              · intro ρ l x W hρ hc hR hl hd
                have t12 : ρ (.tmp 12) = .pointer (some ⟨hb, 0, none⟩) := by rw [hρ, ← hhb]; rfl
                have r0 : W.cell? ⟨hb, 0, none⟩ = some (.int .i64 si) := hR.kp.cell HQ.out.2.1 HQ.out.2.2.2
                have r1 : W.cell? ⟨hb, 1, none⟩ = some (.int .i64 sg) := hR.kp.cell HQ.out.2.2.1 HQ.out.2.2.2
                clear hρ
                refine .inl ⟨rfl, fun R' hR' => ?_⟩
                unfold OpDoes
                go_simp
                exact hR' _ _ (Kp.refl _ _) (fun _ _ => rfl) (hR.same 7 _ _ (by decide) (by decide))
              refine StepsAt.cons ?_ ?_
              · intro ρ l x W hρ hc hR hl hd
                have t117 : ρ (.tmp 117) = .agg #[.int .i64 si, .int .i64 sg] := (show ρ (.tmp 117) = x 117 by rw [hρ]; rfl).trans ((hd.1 rfl).2 117 rfl)
                clear hρ
                refine .inl ⟨rfl, fun R' hR' => ?_⟩
                unfold OpDoes
                go_simp
                exact hR' _ _ (((Grew.refl W).alloc _).kp _) (fun _ _ => ⟨W.heap.size, rfl, hR.kp.size, by simp, by simp, by simp⟩) ((hR.same 8 _ _ (by decide) (by decide)).grew ((Grew.refl W).alloc _))
              refine StepsAt.cons ?_ ?_
              · intro ρ l x W hρ hc hR hl hd
                have t116 : ρ (.tmp 116) = (.slice vp vv vcap) := (show ρ (.tmp 116) = x 116 by rw [hρ]; rfl).trans ((hd.1 rfl).2 116 rfl)
                have t118 : ρ (.tmp 118) = x 118 := by rw [hρ]; rfl
                obtain ⟨eb, heb, h1, h2, h3, h4⟩ := (show OneH ((si : Int), sg) w7.heap.size (x 118) W from (hd.2.1 rfl).2 118 rfl)
                have l1 := (hd.1 rfl).1
                have l4 := (hd.2.2.1 rfl).1
                have a1 := hR.a2
                rw [hl, if_neg (by simp), if_neg (by simp)] at a1
                clear hρ
                refine .inl ⟨rfl, fun R' hR' => ?_⟩
                obtain ⟨v', w', hr, hs, hk, ho, -⟩ := append_any kH a1 (Nat.succ_le_of_lt hR.lt) (some ⟨eb, 0, none⟩) 1 [((si : Int), sg)] (OneH.rd h2 h3 h4) (by simp) (by rw [HVV.out]; simp; omega)
                refine OpDoes.append _ _ _ _ rfl rfl t116 (t118.trans heb) hr ?_
                exact hR' _ _ (hk.mono fun y hy => by simp [hy]) (fun _ _ => trivial) (hR.app2 l1 l4 hl hs hk ho)
              refine StepsAt.cons ?_ ?_
              · intro ρ l x W hρ hc hR hl hd
                have t8 : ρ (.tmp 8) = .pointer (some ⟨tb, 0, none⟩) := by rw [hρ]; rfl
                clear hρ
                refine .inl ⟨rfl, fun R' hR' => ?_⟩
                unfold OpDoes
                go_simp
                exact hR' _ _ (Kp.refl _ _) (fun _ _ => rfl) (hR.same 10 _ _ (by decide) (by decide))
              refine StepsAt.cons ?_ ?_
              · intro ρ l x W hρ hc hR hl hd
                have t120 : ρ (.tmp 120) = .pointer (some ⟨tb, 1, none⟩) := (show ρ (.tmp 120) = x 120 by rw [hρ]; rfl).trans ((hd.1 rfl).2 120 rfl)
                have l4 := (hd.2.1 rfl).1
                have l9 := (hd.2.2.1 rfl).1
                have a1 := hR.a1
                rw [l4, if_pos rfl, if_pos rfl] at a1
                obtain ⟨p8, cap8, hv8, -⟩ := a1.shape
                obtain ⟨n8, hn8⟩ : ∃ n8, n8 = (L ++ [((si : Int), sg)]).length := ⟨_, rfl⟩
                rw [← hn8] at hv8
                have t114 : ρ (.tmp 114) = _ := (show ρ (.tmp 114) = x 114 by rw [hρ]; rfl).trans hv8
                have r1 := hR.c1
                have r2 := hR.f 1
                have hS := hR.st1 l9 undef
                rw [hv8] at hS
                have HS := Lib.hid hS
                clear hρ hS hv8 hn8
                refine .inl ⟨rfl, fun R' hR' => ?_⟩
                unfold OpDoes
                go_simp
                exact hR' _ _ (Kp.store (Kp.refl _ _) (by simp) _ _) (fun d hd => by cases hd) HS.out
              refine StepsAt.cons ?_ ?_
              · intro ρ l x W hρ hc hR hl hd
                have t8 : ρ (.tmp 8) = .pointer (some ⟨tb, 0, none⟩) := by rw [hρ]; rfl
                clear hρ
                refine .inl ⟨rfl, fun R' hR' => ?_⟩
                unfold OpDoes
                go_simp
                exact hR' _ _ (Kp.refl _ _) (fun _ _ => rfl) (hR.same 12 _ _ (by decide) (by decide))
              refine StepsAt.cons ?_ ?_
              · intro ρ l x W hρ hc hR hl hd
                have t121 : ρ (.tmp 121) = .pointer (some ⟨tb, 2, none⟩) := (show ρ (.tmp 121) = x 121 by rw [hρ]; rfl).trans ((hd.1 rfl).2 121 rfl)
                have l9 := (hd.2.1 rfl).1
                have a1 := hR.a2
                rw [l9, if_pos rfl, if_pos rfl] at a1
                obtain ⟨p8, cap8, hv8, -⟩ := a1.shape
                obtain ⟨n8, hn8⟩ : ∃ n8, n8 = (V ++ [((si : Int), sg)]).length := ⟨_, rfl⟩
                rw [← hn8] at hv8
                have t119 : ρ (.tmp 119) = _ := (show ρ (.tmp 119) = x 119 by rw [hρ]; rfl).trans hv8
                have r1 := hR.c2
                have r2 := hR.f 2
                have hS := hR.st2 l9 undef
                rw [hv8] at hS
                have HS := Lib.hid hS
                clear hρ hS hv8 hn8
                refine .inl ⟨rfl, fun R' hR' => ?_⟩
                unfold OpDoes
                go_simp
                exact hR' _ _ (Kp.store (Kp.refl _ _) (by simp) _ _) (fun d hd => by cases hd) HS.out
              exact trivial
            · intro l x W hR hall _
              have HRR := Lib.hid hR
              have HALL := Lib.hid hall
              clear hR hall
              simp only [Fr, mapFrom, List.mem_cons, List.not_mem_nil, or_false, Nat.reduceAdd]
              simp only [Nat.reduceEqDiff, reduceIte, or_false, or_self, or_true]
              go_wp2_with fail
              go_roundg (m - (i + 1))
              case measure => omega
              case rel =>
                refine ⟨i + 1, by omega, by omega, by go_num, (show Aside _ from ?_)⟩
                have hall := HALL.out
                have R := HRR.out
                rw [← HVL.out, ← HVG.out] at R
                exact ⟨_, _, _, _, _, _, HT.out.taken (((HK5.out.mono (by simp)).trans (HG5.out.kp _)).trans (HQ.out.1.mono (by simp))) ((HS5.out.grew HG5.out).kp HQ.out.1 (by simp; omega) (by simp; omega)) R (hall 4 (by decide)) (hall 9 (by decide)) (hall 11 (by decide)) (hall 13 (by decide)) TL.out.2.2⟩
    · have h1z : ¬ (i : Int) < (m : Int) := by omega
      obtain rfl : m = i := by omega
      have r0 := HT.out.r0
      have r1 := HT.out.r1
      have r2 := HT.out.r2
      have r3 := HT.out.r3
      have rf0 := HT.out.rf 0
      have rf1 := HT.out.rf 1
      have rf2 := HT.out.rf 2
      have rf3 := HT.out.rf 3
      have ho := HT.out.ord
      rw [hR0] at r0 r1 r2 r3 rf0 rf1 rf2 rf3
      go_wp2_with fail
      have kk : Kp [R0] wr ((((wr.setCell ⟨R0, 0, none⟩ (.pointer (some ⟨sb, 0, none⟩))).setCell ⟨R0, 1, none⟩ (.slice lp ll lcap)).setCell ⟨R0, 2, none⟩ (.slice vp vv vcap)).setCell ⟨R0, 3, none⟩ (.bool true)) := ((((Kp.refl [R0] wr).store (by simp) 0 _).store (by simp) 1 _).store (by simp) 2 _).store (by simp) 3 _
      have y0 : ((((wr.setCell ⟨R0, 0, none⟩ (.pointer (some ⟨sb, 0, none⟩))).setCell ⟨R0, 1, none⟩ (.slice lp ll lcap)).setCell ⟨R0, 2, none⟩ (.slice vp vv vcap)).setCell ⟨R0, 3, none⟩ (.bool true)).cell? ⟨R0, 0, none⟩ = some (.pointer (some ⟨sb, 0, none⟩)) := by simp [r0, go_sem]
      have y1 : ((((wr.setCell ⟨R0, 0, none⟩ (.pointer (some ⟨sb, 0, none⟩))).setCell ⟨R0, 1, none⟩ (.slice lp ll lcap)).setCell ⟨R0, 2, none⟩ (.slice vp vv vcap)).setCell ⟨R0, 3, none⟩ (.bool true)).cell? ⟨R0, 1, none⟩ = some (.slice lp ll lcap) := by simp [r1, go_sem]
      have y2 : ((((wr.setCell ⟨R0, 0, none⟩ (.pointer (some ⟨sb, 0, none⟩))).setCell ⟨R0, 1, none⟩ (.slice lp ll lcap)).setCell ⟨R0, 2, none⟩ (.slice vp vv vcap)).setCell ⟨R0, 3, none⟩ (.bool true)).cell? ⟨R0, 2, none⟩ = some (.slice vp vv vcap) := by simp [r2, go_sem]
      have y3 : ((((wr.setCell ⟨R0, 0, none⟩ (.pointer (some ⟨sb, 0, none⟩))).setCell ⟨R0, 1, none⟩ (.slice lp ll lcap)).setCell ⟨R0, 2, none⟩ (.slice vp vv vcap)).setCell ⟨R0, 3, none⟩ (.bool true)).cell? ⟨R0, 3, none⟩ = some (.bool true) := by simp [r3, go_sem]
      generalize ((((wr.setCell ⟨R0, 0, none⟩ (.pointer (some ⟨sb, 0, none⟩))).setCell ⟨R0, 1, none⟩ (.slice lp ll lcap)).setCell ⟨R0, 2, none⟩ (.slice vp vv vcap)).setCell ⟨R0, 3, none⟩ (.bool true)) = W4 at kk y0 y1 y2 y3 ⊢
      (try simp only [Exit.inBlock, Exit.then])
      refine bodyPost_ret (by simp [results, Tryz.results34, y0, y1, y2, y3, go_sem]; try rfl) rfl ?_
      have hl := HT.out.l
      have hv := HT.out.v
      rw [HVL.out] at hl
      rw [HVG.out] at hv
      have hK : ∀ W, Kp [R0] wr W → SlotsAt W sb gb G T ∧ Sl kH W w.heap.size (.slice lp ll lcap) L ∧ Sl kH W w.heap.size (.slice vp vv vcap) V ∧ Grew w W := fun W k => by
        refine ⟨HT.out.st.kp k (by simp; omega) (by simp; omega), (hl.kp k (fun g hg => by have := hl.own_ge g hg; simp; omega)).base (by omega), (hv.kp k (fun g hg => by have := hv.own_ge g hg; simp; omega)).base (by omega), Kp.grewOf HT.out.gw k (fun y hy => by simp at hy; omega)⟩
      obtain ⟨k1, k2, k3, k4⟩ := hK _ kk
      exact ⟨sb, gb, G, T, L, V, _, _, rfl, k1, k2, k3, HT.out.inv, k4, by omega, by omega, fun g hg => by have := hl.own_ge g hg; omega, fun g hg => by have := hv.own_ge g hg; omega⟩

end Go.Proofs.YtmoaefcpbphgmaaGreat

/- The walk of IndexWorn: it returns true. -/
import Derived.Test.YtmoaefcpbphgmaaWornPlain
import Derived.Test.YtmoaefcpbphgmaaWake
import Derived.Deep.LoopGhost
import Derived.Deep.RegionHeld3
import Derived.Deep.DrawnRows
namespace Go.Proofs.Ytmoaefcpbphgmaa
open Go.RowKit Go.Maps Go.Sort Go.Shelf
attribute [local go_sem ↓] Go.wp_at_zero Go.wp_at_succ

set_option maxHeartbeats 4000000 in
set_option maxRecDepth 100000 in
theorem indexWorn_any (p : Option Addr) (cap : Nat) (xs : List Int) (w : World) (hx : RdI w p xs) (hn : xs.length ≤ maxLen) :
    Calls Try.prog 6 #[.slice p xs.length cap] w fun e w' => e = .returned (.bool true) ∧ Grew w w' := by
  obtain ⟨n, hn'⟩ : ∃ n, xs.length = n := ⟨_, rfl⟩
  have HX := Lib.hid hx
  have HN := Lib.hid hn'
  rw [hn'] at hn ⊢
  unfold maxLen at hn
  clear hx hn'
  by_cases h8 : 8 < n
  · have h8z : (8 : Int) < (n : Int) := by omega
    go_enter Try.func6, Try.ntmps6
    go_wp2_with fail
    refine (awake_any _).mono ?_
    rintro e w1 ⟨rfl, hg1⟩
    go_wp2_with fail
    go_ret
    exact ⟨rfl, hg1⟩
  by_cases h0 : n = 0
  · subst h0
    go_enter Try.func6, Try.ntmps6
    go_wp2_with fail
    refine (awake_any _).mono ?_
    rintro e w1 ⟨rfl, hg1⟩
    go_wp2_with fail
    go_ret
    exact ⟨rfl, hg1⟩
  have hz1 : ((n : Int) == 0) = false := beq_eq_false_iff_ne.2 (by omega)
  have hz8 : ¬ (8 : Int) < (n : Int) := by omega
  have hn8 : 1 ≤ n ∧ n ≤ 8 := by omega
  clear h8 h0 hn
  go_enter Try.func6, Try.ntmps6
  go_wp2_with fail
  go_loopg [3, 4, 5] n (fun gg s3 s4 s5 wr => ∃ (i : Nat) (o3 : Value) (l : Int), i ≤ n ∧ n - i ≤ gg ∧ o3 = s3 ∧ s4 = .int .i64 l ∧ s5 = .int .i64 i ∧ (0 ≤ l ∧ l ≤ 3 * (i : Int)) ∧ Grew w wr ∧ Aside (SlI wr w.heap.size o3 (wornG (xs.take i)) ∧ restS (wornG (xs.take i)) = l))
  case atStart => exact ⟨0, _, 0, by omega, by omega, rfl, rfl, rfl, by omega, by (repeat' (first | exact Grew.refl _ | assumption | refine Grew.alloc ?_ _ | refine Grew.drew ?_ | refine Grew.drewN ?_ _ | refine Grew.setCell ?_ ?_ _ | (simp; done) | (simp; omega))), SlI.nil _ _, rfl⟩
  case round =>
    obtain ⟨i, o3, l, hin, hgg, rfl, rfl, rfl, hl, hgw, A⟩ := hrel
    by_cases h1 : i < n
    · have h1z : (i : Int) < (n : Int) := by omega
      have hix : i < xs.length := by rw [HN.out]; exact h1
      obtain ⟨a, rfl, hab, hca⟩ := HX.out.resolve_left (by rintro rfl; simp at hix)
      have ca := hgw.cellA hab (hca i hix)
      have htk : xs.take (i + 1) = xs.take i ++ [xs[i]] := List.take_succ_eq_append_getElem hix
      have M := fun w => mod_any xs[i] 4 w (by omega)
      have hk : 0 ≤ xs[i] % 4 ∧ xs[i] % 4 < 4 := by omega
      have B : Aside (wornG (xs.take (i + 1)) = wornG (xs.take i) ++ [2147483647 - xs[i] % 4]) := by
        show _ = _
        rw [htk]; unfold wornG; rw [List.map_append]; rfl
      have hll : (wornG (xs.take i)).length < 1000000 := by unfold wornG; rw [List.length_map, List.length_take]; omega
      clear hca htk
      generalize xs[i] % 4 = k at M hk B
      generalize xs[i] = u at ca M
      clear hix
      obtain ⟨g2, cap2, w6, hr, hP, hkp, hat, hlt2⟩ := appendI A.out.1 hgw.size hll (2147483647 - k)
      have hw6 : Grew w w6 := Kp.grewOf hgw hkp (fun x hx => (A.out.1.own_ge x hx).1)
      have HP := Lib.hid hP
      have HR := Lib.hid hr
      clear hP hkp hat hlt2 hr hll
      go_wp2_with (first | (go_at_call 16; refine (M _).mono ?_; rintro e w5 ⟨rfl, rfl⟩) | (at_builtin; refine wpList_append_run rfl _ _ _ _ rfl rfl _ _ _ rfl rfl HR.out ?_))
      go_roundg (n - (i + 1))
      case measure => omega
      case rel =>
        refine ⟨i + 1, _, l + k, by omega, by omega, rfl, rfl, by go_num, by omega, hw6, ?_⟩
        show SlI _ _ _ _ ∧ _
        rw [show wornG (xs.take (i + 1)) = _ from B.out, restS_append, show restS (wornG (xs.take i)) = l from A.out.2]
        refine ⟨?_, by simp [restS]; omega⟩
        exact HP.out
    · have h1z : ¬ (i : Int) < (n : Int) := by omega
      obtain rfl : n = i := by omega
      obtain ⟨G0, hG0⟩ : ∃ G0, wornG (xs.take n) = G0 := ⟨_, rfl⟩
      have hin0 : inG G0 := by rw [← hG0]; exact inG_wornG _
      have hlen0 : G0.length = n := by rw [← hG0]; unfold wornG; rw [List.length_map, List.length_take, HN.out]; omega
      obtain ⟨A1, A2⟩ := A.out
      rw [hG0] at A1 A2
      obtain ⟨gp, gc, rfl, _⟩ := A1.shape
      have HG1 := Lib.hid A1
      have HR0 := Lib.hid A2
      have HI0 := Lib.hid hin0
      have HL0 := Lib.hid hlen0
      rw [hlen0]
      obtain ⟨k0, rfl⟩ := Int.eq_ofNat_of_zero_le hl.1
      obtain ⟨w5, hr5, hb5, hg5⟩ := makeB n wr (by omega)
      have HB5 := Lib.hid hb5
      clear A A1 A2 hG0 hin0 hlen0 hb5
      go_wp2_with fail
      have hC := restore_any gp (some ⟨wr.heap.size, 0, none⟩) gc n G0 (freeN n) w5 (HG1.out.rd.grew hg5) HB5.out (by rw [HL0.out]; unfold maxLen; omega) (by unfold freeN; rw [List.length_replicate]; unfold maxLen; omega)
      rw [HL0.out, show (freeN n).length = n from List.length_replicate] at hC
      refine hC.mono ?_
      intro e w6 h
      unfold Restored at h
      rw [if_pos (rest_ok HL0.out (by omega) HI0.out)] at h
      obtain ⟨sb, gb, rfl, hs, hg6, hsb, hgb⟩ := h
      have hw6 : Grew w w6 := hgw.trans (hg5.trans hg6)
      have HS6 := Lib.hid hs
      have hsz : w.heap.size ≤ sb ∧ w.heap.size ≤ gb := by have := hgw.size; have := hg5.size; omega
      clear hC hs hg6 hsb hgb hg5 hr5
      go_wp2_with fail
      go_loopg [4] k0 (fun gg s4 wq => ∃ k : Nat, k ≤ gg ∧ s4 = .int .i64 k ∧ k ≤ 24 ∧ Grew w wq ∧ Aside (∃ G, SlotsAt wq sb gb G (freeN n) ∧ G.length = n ∧ inG G ∧ restS G = k))
      case atStart => exact ⟨k0, by omega, rfl, by omega, hw6, G0, HS6.out, HL0.out, HI0.out, HR0.out⟩
      case round =>
        obtain ⟨wq, hwq⟩ : ∃ wq, wq = wr := ⟨_, rfl⟩
        subst hwq
        obtain ⟨k, hgk, rfl, hk24, hgq, A⟩ := hrel
        obtain ⟨G, hS, hGl, hGi, hGr⟩ := A.out
        have HSq := Lib.hid hS
        have HGl := Lib.hid hGl
        have hlq := hS.lt
        cases k with
        | succ k =>
          obtain ⟨L, g, G', T, hLn, hg, e1, e2, e3, e4, e5, e6, e7, e8, e9⟩ := worn_step hGl hGi (by rw [hGr]; omega)
          have W := Lib.hid (And.intro e1 (And.intro e2 (And.intro e3 (And.intro e4 (And.intro e5 (And.intro e6 hGi))))))
          have V := Lib.hid (And.intro e7 (And.intro e8 (show restS G' = k by rw [e9, hGr]; omega)))
          clear A hS hGl hGi hGr e1 e2 e3 e4 e5 e6 e7 e8 e9
          go_wp2_with fail
          go_loopg [9, 10] n (fun gg s9 s10 wz => ∃ (j : Nat) (o9 : Value), j ≤ n ∧ n - j ≤ gg ∧ o9 = s9 ∧ s10 = .int .i64 j ∧ Grew wq wz ∧ Aside (SlI wz wq.heap.size o9 (G.take j)))
          case atStart => exact ⟨0, _, Nat.zero_le _, by omega, rfl, rfl, Grew.refl _, SlI.nil _ _⟩
          case round =>
            obtain ⟨wz, hwz⟩ : ∃ wz, wz = wr := ⟨_, rfl⟩
            subst hwz
            obtain ⟨j, o9, hjn, hgj, rfl, rfl, hgz, A3⟩ := hrel
            by_cases h3 : j < n
            · have h3z : (j : Int) < (n : Int) := by omega
              have hjG : j < G.length := by rw [HGl.out]; exact h3
              have hge := genAt_get hjG
              have htk : G.take (j + 1) = G.take j ++ [G[j]] := List.take_succ_eq_append_getElem hjG
              have hGen := fun w' (g : Grew wq w') => gen_any sb gb G (freeN n) j w' (HSq.out.grew g)
              rw [hge] at hGen
              have hlj : (G.take j).length = j := by rw [List.length_take]; omega
              have HTK := Lib.hid htk
              generalize G[j] = u at hGen HTK
              obtain ⟨g2, cap2, w7, hr, hP, hkp, hat, hlt2⟩ := appendI A3.out hgz.size (by omega) u
              rw [hlj] at hr hP
              have hw7 : Grew wq w7 := Kp.grewOf hgz hkp (fun x hx => (A3.out.own_ge x hx).1)
              have HP := Lib.hid hP
              have HR := Lib.hid hr
              clear hP hkp hat hlt2 hr hlj hge htk hjG
              go_wp2_with (first | (go_at_call 24; refine (hGen _ ?_).mono ?_; (· (repeat' (first | exact Grew.refl _ | assumption | refine Grew.alloc ?_ _ | refine Grew.drew ?_ | refine Grew.drewN ?_ _ | refine Grew.setCell ?_ ?_ _ | (simp; done) | (simp; omega)))); rintro e w5 ⟨rfl, rfl⟩) | (at_builtin; refine wpList_append_run rfl _ _ _ _ rfl rfl _ _ _ rfl rfl HR.out ?_))
              go_roundg (n - (j + 1))
              case measure => omega
              case rel =>
                refine ⟨j + 1, _, by omega, by omega, rfl, by go_num, hw7, ?_⟩
                show SlI _ _ _ _
                rw [HTK.out]
                exact HP.out
            · have h3z : ¬ (j : Int) < (n : Int) := by omega
              obtain rfl : n = j := by omega
              have hz : SlI wz wq.heap.size o9 G := by have := A3.out; rwa [List.take_of_length_le (by rw [HGl.out]; omega)] at this
              obtain ⟨np, nc, rfl, _⟩ := hz.shape
              have HZ := Lib.hid hz
              rw [HGl.out]
              obtain ⟨w5, hr5, hb5, hg5⟩ := makeB n wz (by omega)
              have HB5 := Lib.hid hb5
              clear A3 hz hb5
              go_wp2_with fail
              have hC := restore_any np (some ⟨wz.heap.size, 0, none⟩) nc n G (freeN n) w5 (HZ.out.rd.grew hg5) HB5.out (by rw [HGl.out]; unfold maxLen; omega) (by unfold freeN; rw [List.length_replicate]; unfold maxLen; omega)
              rw [HGl.out, show (freeN n).length = n from List.length_replicate] at hC
              refine hC.mono ?_
              intro e w6 h
              unfold Restored at h
              rw [if_pos (rest_ok HGl.out (by omega) W.out.2.2.2.2.2.2)] at h
              obtain ⟨tb, hb, rfl, ht, hg6, htb, hhb⟩ := h
              have hz6 : Grew wq w6 := hgz.trans (hg5.trans hg6)
              have hw6 : Grew w w6 := hgq.trans hz6
              have HS6 := Lib.hid (HSq.out.grew hz6)
              have HT6 := Lib.hid ht
              have hlt6 := ht.lt
              have hq6 := hz6.size
              have hsz6 := hgz.size
              have hsz7 := hg5.size
              have hd : tb ≠ sb ∧ tb ≠ gb ∧ hb ≠ sb ∧ hb ≠ gb := by omega
              have hsw : w.heap.size ≤ tb ∧ w.heap.size ≤ hb := by have := hgq.size; omega
              clear hC ht hg6 htb hhb hg5 hr5 hz6 hgz hsz6 hsz7
              go_wp2_with fail
              refine (take_any sb gb G (freeN n) _ (HS6.out.grew (by (repeat' (first | exact Grew.refl _ | assumption | refine Grew.alloc ?_ _ | refine Grew.drew ?_ | refine Grew.drewN ?_ _ | refine Grew.setCell ?_ ?_ _ | (simp; done) | (simp; omega)))))).mono ?_
              rintro e w7 ⟨rfl, hs, hk⟩
              rw [W.out.1]
              rw [W.out.2.1, W.out.2.2.1] at hs
              have hw7 : Grew w w7 := Kp.grewOf hw6 hk (fun x hx => by simp at hx; omega)
              have HS7 := Lib.hid hs
              have HT7 := Lib.hid (HT6.out.kp hk (by simp; omega) (by simp; omega))
              have hlt7 := hk.size
              clear hs hk
              go_wp2_with fail
              refine (take_any tb hb G (freeN n) _ (HT7.out.grew (by (repeat' (first | exact Grew.refl _ | assumption | refine Grew.alloc ?_ _ | refine Grew.drew ?_ | refine Grew.drewN ?_ _ | refine Grew.setCell ?_ ?_ _ | (simp; done) | (simp; omega)))))).mono ?_
              rintro e w8 ⟨rfl, ht, hk⟩
              rw [W.out.1]
              have hA : w7.heap.size ∉ [tb, hb] := by simp; omega
              have a0 : w8.cell? ⟨w7.heap.size, 0, none⟩ = some (.int .i64 L) := hk.cell (by first | (simp [go_sem]; done) | (simp [*, go_sem]; done) | (go_cell; done)) hA
              have a1 : w8.cell? ⟨w7.heap.size, 1, none⟩ = some (.int .i64 g) := hk.cell (by first | (simp [go_sem]; done) | (simp [*, go_sem]; done) | (go_cell; done)) hA
              have hw8 : Grew w w8 := Kp.grewOf (by (repeat' (first | exact Grew.refl _ | assumption | refine Grew.alloc ?_ _ | refine Grew.drew ?_ | refine Grew.drewN ?_ _ | refine Grew.setCell ?_ ?_ _ | (simp; done) | (simp; omega)))) hk (fun x hx => by simp at hx; omega)
              have HS8 := Lib.hid ((HS7.out.grew (by (repeat' (first | exact Grew.refl _ | assumption | refine Grew.alloc ?_ _ | refine Grew.drew ?_ | refine Grew.drewN ?_ _ | refine Grew.setCell ?_ ?_ _ | (simp; done) | (simp; omega))))).kp hk (by simp; omega) (by simp; omega))
              have hlt8 : w7.heap.size < w8.heap.size := lt_of_cell a0
              have E := fun w => neHandle L g L g w
              clear ht hk hA
              go_wp2_with fail
              refine (free_any sb gb G' T L g _ (HS8.out.grew (by (repeat' (first | exact Grew.refl _ | assumption | refine Grew.alloc ?_ _ | refine Grew.drew ?_ | refine Grew.drewN ?_ _ | refine Grew.setCell ?_ ?_ _ | (simp; done) | (simp; omega)))))).mono ?_
              rintro e w9 ⟨rfl, hs, hk⟩
              rw [W.out.2.2.2.1]
              rw [W.out.2.2.2.2.1] at hs
              have hA : w7.heap.size ∉ [sb] := by simp; omega
              have b0 : w9.cell? ⟨w7.heap.size, 0, none⟩ = some (.int .i64 L) := hk.cell (by first | (simp [go_sem]; done) | (simp [*, go_sem]; done) | (go_cell; done)) hA
              have b1 : w9.cell? ⟨w7.heap.size, 1, none⟩ = some (.int .i64 g) := hk.cell (by first | (simp [go_sem]; done) | (simp [*, go_sem]; done) | (go_cell; done)) hA
              have hw9 : Grew w w9 := Kp.grewOf (by (repeat' (first | exact Grew.refl _ | assumption | refine Grew.alloc ?_ _ | refine Grew.drew ?_ | refine Grew.drewN ?_ _ | refine Grew.setCell ?_ ?_ _ | (simp; done) | (simp; omega)))) hk (fun x hx => by simp at hx; omega)
              have HS9 := Lib.hid hs
              clear hs hk hA a0 a1
              go_wp2_with fail
              refine (has_any sb gb G' (freeN n) L g _ (HS9.out.grew (by (repeat' (first | exact Grew.refl _ | assumption | refine Grew.alloc ?_ _ | refine Grew.drew ?_ | refine Grew.drewN ?_ _ | refine Grew.setCell ?_ ?_ _ | (simp; done) | (simp; omega)))))).mono ?_
              rintro e w10 ⟨rfl, hg10⟩
              rw [W.out.2.2.2.2.2.1]
              have hw10 : Grew w w10 := Grew.trans (by (repeat' (first | exact Grew.refl _ | assumption | refine Grew.alloc ?_ _ | refine Grew.drew ?_ | refine Grew.drewN ?_ _ | refine Grew.setCell ?_ ?_ _ | (simp; done) | (simp; omega)))) hg10
              have HS10 := Lib.hid ((HS9.out.grew (by (repeat' (first | exact Grew.refl _ | assumption | refine Grew.alloc ?_ _ | refine Grew.drew ?_ | refine Grew.drewN ?_ _ | refine Grew.setCell ?_ ?_ _ | (simp; done) | (simp; omega))))).grew hg10)
              clear hg10 b0 b1
              go_wp2_with fail
              go_roundg k
              case measure => omega
              case rel => exact ⟨k, by omega, by go_num, by omega, hw10, G', HS10.out, V.out.1, V.out.2.1, V.out.2.2⟩
        | zero =>
          obtain ⟨e1, e2, e3, e4⟩ := worn_end hGl hGi hGr
          have W := Lib.hid (And.intro e1 (And.intro e2 (And.intro e3 e4)))
          clear A hS hGl hGi hGr e1 e2 e3 e4
          go_wp2_with fail
          go_loopg [17] n (fun gg s17 wz => ∃ j : Nat, j ≤ n ∧ n - j ≤ gg ∧ s17 = .int .i64 j ∧ wq = wz)
          case atStart => exact ⟨0, Nat.zero_le _, by omega, rfl, rfl⟩
          case round =>
            obtain ⟨j, hjn, hgj, rfl, rfl⟩ := hrel
            by_cases h3 : j < n
            · have h3z : (j : Int) < (n : Int) := by omega
              have hGen := gen_any sb gb G (freeN n) j wq HSq.out
              rw [W.out.2.2.2 j h3] at hGen
              go_wp2_with (first | (go_at_call 24; refine hGen.mono ?_; rintro e w5 ⟨rfl, rfl⟩))
              go_roundg (n - (j + 1))
              case measure => omega
              case rel => exact ⟨j + 1, by omega, by omega, by go_num, rfl⟩
            · have h3z : ¬ (j : Int) < (n : Int) := by omega
              go_wp2_with fail
              refine (take_any sb gb G (freeN n) _ HSq.out).mono ?_
              rintro e w7 ⟨rfl, hs, hk⟩
              rw [W.out.1]
              have hsq : w.heap.size ≤ wq.heap.size := hgq.size
              have hw7 : Grew w w7 := Kp.grewOf hgq hk (fun x hx => by simp at hx; omega)
              clear hs hk
              go_wp2_with fail
              refine (awake_any _).mono ?_
              rintro e w8 ⟨rfl, hg8⟩
              have hw8 : Grew w w8 := Grew.trans (by (repeat' (first | exact Grew.refl _ | assumption | refine Grew.alloc ?_ _ | refine Grew.drew ?_ | refine Grew.drewN ?_ _ | refine Grew.setCell ?_ ?_ _ | (simp; done) | (simp; omega)))) hg8
              go_wp2_with fail
              go_ret
              exact ⟨rfl, by (repeat' (first | exact Grew.refl _ | assumption | refine Grew.alloc ?_ _ | refine Grew.drew ?_ | refine Grew.drewN ?_ _ | refine Grew.setCell ?_ ?_ _ | (simp; done) | (simp; omega)))⟩

end Go.Proofs.Ytmoaefcpbphgmaa

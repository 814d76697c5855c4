/- The walk of IndexAlong: it returns true. -/
import Derived.Test.YtcelamaiebjdaaaGreatAlongAny
import Derived.Test.YtcelamaiebjdaaaGreatHasInt
import Derived.Test.YtcelamaiebjdaaaGreatRegUse
import Derived.Deep.LoopGhost
import Derived.Deep.RegionHeld3
import Derived.Deep.DrawnRows
namespace Go.Proofs.YtcelamaiebjdaaaGreat
open Go.RowKit Go.Maps Go.Sort Go.Shelf
attribute [local go_sem ↓] Go.wp_at_zero Go.wp_at_succ

set_option maxHeartbeats 4000000 in
set_option maxRecDepth 100000 in
theorem indexAlong_any (p : Option Addr) (cap : Nat) (xs : List Int) (x y dx dy : Int) (w : World) (hx : RdI w p xs) (hn : xs.length ≤ maxLen) :
    Calls Tryz.prog 3 #[.slice p xs.length cap, .int .i64 x, .int .i64 y, .int .i64 dx, .int .i64 dy] w fun e w' => e = .returned (.bool true) ∧ Grew w w' := by
  have hx0 : 0 ≤ x % 121 ∧ x % 121 ≤ 120 := by omega
  have hy0 : 0 ≤ y % 121 ∧ y % 121 ≤ 120 := by omega
  have hdx0 : 0 ≤ dx % 121 ∧ dx % 121 ≤ 120 := by omega
  have hdy0 : 0 ≤ dy % 121 ∧ dy % 121 ≤ 120 := by omega
  have Mx := fun w => mod_any x 121 w (by omega)
  have My := fun w => mod_any y 121 w (by omega)
  have Mdx := fun w => mod_any dx 121 w (by omega)
  have Mdy := fun w => mod_any dy 121 w (by omega)
  obtain ⟨mdx, hmdx⟩ : ∃ m, dx % 121 = m := ⟨_, rfl⟩
  obtain ⟨mdy, hmdy⟩ : ∃ m, dy % 121 = m := ⟨_, rfl⟩
  have HDX := Lib.hid hmdx
  have HDY := Lib.hid hmdy
  rw [hmdx] at hdx0 Mdx
  rw [hmdy] at hdy0 Mdy
  clear hmdx hmdy
  obtain ⟨fx, hfx⟩ : ∃ f, x % 121 - 60 = f := ⟨_, rfl⟩
  obtain ⟨fy, hfy⟩ : ∃ f, y % 121 - 60 = f := ⟨_, rfl⟩
  have exx : x % 121 = fx + 60 := by omega
  have eyy : y % 121 = fy + 60 := by omega
  rw [exx] at Mx
  rw [eyy] at My
  have hfb : -60 ≤ fx ∧ fx ≤ 60 ∧ -60 ≤ fy ∧ fy ≤ 60 := by omega
  have es1 : fx + 60 - 60 = fx := by omega
  have es2 : fy + 60 - 60 = fy := by omega
  clear hfx hfy exx eyy hx0 hy0
  obtain ⟨tx, htx⟩ : ∃ t, fx + (mdx - 60) = t := ⟨_, rfl⟩
  obtain ⟨ty, hty⟩ : ∃ t, fy + (mdy - 60) = t := ⟨_, rfl⟩
  have htb : -120 ≤ tx ∧ tx ≤ 120 ∧ -120 ≤ ty ∧ ty ≤ 120 := by omega
  have HFx : fairB fx fy = true := fairB_mk (by omega)
  have HTx : fairB tx ty = true := fairB_mk (by omega)
  have wb1 : IntKind.i64.wrap (mdx - 60) = mdx - 60 := IntWalk.i64_in _ (by omega)
  have wb2 : IntKind.i64.wrap (mdy - 60) = mdy - 60 := IntWalk.i64_in _ (by omega)
  have wb3 : IntKind.i64.wrap (fx + (mdx - 60)) = tx := by rw [← htx]; exact IntWalk.i64_in _ (by omega)
  have wb4 : IntKind.i64.wrap (fy + (mdy - 60)) = ty := by rw [← hty]; exact IntWalk.i64_in _ (by omega)
  have HF := Lib.hid HFx
  have HT := Lib.hid HTx
  clear htx hty HFx HTx
  go_enter Tryz.func3, Tryz.ntmps3
  go_wp2_with fail
  refine (boxes_any p cap 20 xs _ (hx.grew (by (repeat' (first | (with_reducible assumption) | (with_reducible exact Grew.refl _) | (with_reducible refine Grew.alloc ?_ _) | (with_reducible refine Grew.drew ?_) | (with_reducible refine Grew.drewN ?_ _) | (with_reducible refine Grew.setCell ?_ ?_ _) | (simp; done) | (simp; omega))))) hn (by decide)).mono ?_
  rintro e w1 ⟨v1, rfl, hsl, hg1⟩
  have hw1 : Grew w w1 := Grew.trans (by (repeat' (first | (with_reducible assumption) | (with_reducible exact Grew.refl _) | (with_reducible refine Grew.alloc ?_ _) | (with_reducible refine Grew.drew ?_) | (with_reducible refine Grew.drewN ?_ _) | (with_reducible refine Grew.setCell ?_ ?_ _) | (simp; done) | (simp; omega)))) hg1
  have hok : ∀ b ∈ boxesL xs 20, okB b := okB_boxes _ _
  have hlen : (boxesL xs 20).length ≤ 20 := by unfold boxesL boxesN; rw [List.length_map, List.length_range]; omega
  generalize boxesL xs 20 = l at *
  have HL := Lib.hid hsl
  have HO := Lib.hid hok
  clear hsl hok hg1 hx hn
  go_wp2_with fail
  refine (putFirst_any _ v1 l _ (HL.out.grew (by (repeat' (first | (with_reducible assumption) | (with_reducible exact Grew.refl _) | (with_reducible refine Grew.alloc ?_ _) | (with_reducible refine Grew.drew ?_) | (with_reducible refine Grew.drewN ?_ _) | (with_reducible refine Grew.setCell ?_ ?_ _) | (simp; done) | (simp; omega))))) HO.out (by omega)).mono ?_
  rintro e w3 ⟨sb, mb, rfl, hsw, hg3, hsb, hmb⟩
  have hv3 : Grew w w3 := hw1.trans (Grew.trans (by (repeat' (first | (with_reducible assumption) | (with_reducible exact Grew.refl _) | (with_reducible refine Grew.alloc ?_ _) | (with_reducible refine Grew.drew ?_) | (with_reducible refine Grew.drewN ?_ _) | (with_reducible refine Grew.setCell ?_ ?_ _) | (simp; done) | (simp; omega)))) hg3)
  have HL3 := Lib.hid ((HL.out.grew (by (repeat' (first | (with_reducible assumption) | (with_reducible exact Grew.refl _) | (with_reducible refine Grew.alloc ?_ _) | (with_reducible refine Grew.drew ?_) | (with_reducible refine Grew.drewN ?_ _) | (with_reducible refine Grew.setCell ?_ ?_ _) | (simp; done) | (simp; omega))))).grew hg3)
  have HS3 := Lib.hid hsw
  obtain ⟨lp, lc, rfl, hlp⟩ := HL3.out.shape
  have HLP := Lib.hid hlp
  obtain ⟨m, hm⟩ : ∃ m, l.length = m := ⟨_, rfl⟩
  have HM := Lib.hid hm
  have HV3 := Lib.hid hv3
  rw [hm] at hlen ⊢
  clear hg3 hsw hm hlp hsb hmb hw1 hv3
  go_wp2_with fail
  refine (Mx _).mono ?_
  rintro e w4 ⟨rfl, rfl⟩
  go_wp2_with fail
  refine (My _).mono ?_
  rintro e w4 ⟨rfl, rfl⟩
  clear Mx My
  obtain ⟨fb, hfb2⟩ : ∃ fb, w3.heap.size = fb := ⟨_, rfl⟩
  obtain ⟨w5, hw5e⟩ : ∃ w5, w3.alloc (.cells #[.int .i64 fx, .int .i64 fy] 29) = w5 := ⟨_, rfl⟩
  have hw35 : Grew w3 w5 := by rw [← hw5e]; (repeat' (first | (with_reducible assumption) | (with_reducible exact Grew.refl _) | (with_reducible refine Grew.alloc ?_ _) | (with_reducible refine Grew.drew ?_) | (with_reducible refine Grew.drewN ?_ _) | (with_reducible refine Grew.setCell ?_ ?_ _) | (simp; done) | (simp; omega)))
  have d0 : w5.cell? ⟨fb, 0, none⟩ = some (.int .i64 fx) := by rw [← hw5e, ← hfb2]; simp
  have d1 : w5.cell? ⟨fb, 1, none⟩ = some (.int .i64 fy) := by rw [← hw5e, ← hfb2]; simp
  go_wp2_with fail
  clear hw5e hfb2
  have HFk : Aside (∀ W, Grew w5 W → (W.cell? ⟨fb, 0, none⟩ = some (.int .i64 fx) ∧ W.cell? ⟨fb, 1, none⟩ = some (.int .i64 fy))) := fun W g => ⟨g.cell' d0, g.cell' d1⟩
  go_cut [14] from 32 to 44 (fun s14 wx => ∃ tb, s14 = .pointer (some ⟨tb, 0, none⟩) ∧ Grew w5 wx ∧ wx.cell? ⟨tb, 0, none⟩ = some (.int .i64 tx) ∧ wx.cell? ⟨tb, 1, none⟩ = some (.int .i64 ty))
  case first =>
    go_region_held3 (fun W => W.cell? ⟨fb, 0, none⟩ = some (.int .i64 fx) ∧ W.cell? ⟨fb, 1, none⟩ = some (.int .i64 fy)) ((refine HFk.out _ ?_; (repeat' (first | (with_reducible assumption) | (with_reducible exact Grew.refl _) | (with_reducible refine Grew.alloc ?_ _) | (with_reducible refine Grew.drew ?_) | (with_reducible refine Grew.drewN ?_ _) | (with_reducible refine Grew.setCell ?_ ?_ _) | (simp; done) | (simp; omega))); done))
      (first | (go_at_call 10; refine (mod_any _ 121 _ (by omega)).mono ?_; rintro e w6 ⟨rfl, rfl⟩; first | rw [HDX.out] | rw [HDY.out]))
    all_goals
      go_wp2_with fail
      go_meet
      exact ⟨_, rfl, by (repeat' (first | (with_reducible assumption) | (with_reducible exact Grew.refl _) | (with_reducible refine Grew.alloc ?_ _) | (with_reducible refine Grew.drew ?_) | (with_reducible refine Grew.drewN ?_ _) | (with_reducible refine Grew.setCell ?_ ?_ _) | (simp; done) | (simp; omega))), by simp [go_sem], by simp [go_sem]⟩
  obtain ⟨tb, hs14, hg6, e0, e1⟩ := hcut
  subst hs14
  have hw36 := hw35.trans hg6
  replace d0 := hg6.cell' d0
  replace d1 := hg6.cell' d1
  clear hw35 hg6 wb1 wb2 wb3 wb4 HFk Mdx Mdy es1 es2 hdx0 hdy0
  go_wp2_with fail
  refine (along_any sb mb (entN l 0 l.length) fx fy tx ty _ (HS3.out.grew hw36) (by unfold I64; omega) (by unfold I64; omega) (by unfold I64; omega) (by unfold I64; omega)).mono ?_
  rintro e w7 ⟨vA, rfl, hsA, hg7⟩
  rw [ids_along, HM.out] at hsA
  have hasc := along_asc l fx fy tx ty m
  have hmem : ∀ x ∈ alongN l fx fy tx ty m, ∃ i : Nat, i < m ∧ x = (i : Int) ∧ alongB (l.getD i bx0) fx fy tx ty = true := fun x hx => along_mem hx
  have hhas : ∀ i, i < m → alongB (l.getD i bx0) fx fy tx ty = true → (i : Int) ∈ alongN l fx fy tx ty m := fun i hi h => along_has hi h
  have hal := along_len l fx fy tx ty m
  generalize alongN l fx fy tx ty m = A at *
  have HAsc := Lib.hid hasc
  have HMem := Lib.hid hmem
  have HHas := Lib.hid hhas
  obtain ⟨ap, ac, rfl, hap⟩ := hsA.shape
  have HAP := Lib.hid hap
  obtain ⟨n, hn⟩ : ∃ n, A.length = n := ⟨_, rfl⟩
  have HN := Lib.hid hn
  rw [hn] at hal ⊢
  have hw37 := hw36.trans hg7
  replace d0 := hg7.cell' d0
  replace d1 := hg7.cell' d1
  replace e0 := hg7.cell' e0
  replace e1 := hg7.cell' e1
  have HSA := Lib.hid hsA
  clear hg7 hsA hap hn hasc hmem hhas hw36
  go_wp2_with fail
  refine (box_any (min fx tx) (min fy ty) (max fx tx) (max fy ty) _).mono ?_
  rintro e w8 ⟨rfl, hg8⟩
  obtain ⟨ab, hab⟩ : ∃ ab, w8.heap.size = ab := ⟨_, rfl⟩
  obtain ⟨w9, hw9e⟩ : ∃ w9, w8.alloc (.cells #[.int .i64 (min fx tx), .int .i64 (min fy ty), .int .i64 (max fx tx), .int .i64 (max fy ty)] 32) = w9 := ⟨_, rfl⟩
  have hg9 : Grew w7 w9 := by rw [← hw9e]; (repeat' (first | (with_reducible assumption) | (with_reducible exact Grew.refl _) | (with_reducible refine Grew.alloc ?_ _) | (with_reducible refine Grew.drew ?_) | (with_reducible refine Grew.drewN ?_ _) | (with_reducible refine Grew.setCell ?_ ?_ _) | (simp; done) | (simp; omega)))
  have r0 : w9.cell? ⟨ab, 0, none⟩ = some (.int .i64 (roundB fx fy tx ty).1) := by rw [← hw9e, ← hab]; simp [roundB]
  have r1 : w9.cell? ⟨ab, 1, none⟩ = some (.int .i64 (roundB fx fy tx ty).2.1) := by rw [← hw9e, ← hab]; simp [roundB]
  have r2 : w9.cell? ⟨ab, 2, none⟩ = some (.int .i64 (roundB fx fy tx ty).2.2.1) := by rw [← hw9e, ← hab]; simp [roundB]
  have r3 : w9.cell? ⟨ab, 3, none⟩ = some (.int .i64 (roundB fx fy tx ty).2.2.2) := by rw [← hw9e, ← hab]; simp [roundB]
  have hw9 := hw37.trans hg9
  have HL9 := Lib.hid (HL3.out.grew hw9)
  have HSA9 := Lib.hid ((HSA.out.grew hg9).base (Nat.zero_le _))
  have HD9 : Aside (w9.cell? ⟨fb, 0, none⟩ = some (.int .i64 fx) ∧ w9.cell? ⟨fb, 1, none⟩ = some (.int .i64 fy)) := ⟨hg9.cell' d0, hg9.cell' d1⟩
  have HR9 : Aside (w9.cell? ⟨ab, 0, none⟩ = some (.int .i64 (roundB fx fy tx ty).1) ∧ w9.cell? ⟨ab, 1, none⟩ = some (.int .i64 (roundB fx fy tx ty).2.1) ∧ w9.cell? ⟨ab, 2, none⟩ = some (.int .i64 (roundB fx fy tx ty).2.2.1) ∧ w9.cell? ⟨ab, 3, none⟩ = some (.int .i64 (roundB fx fy tx ty).2.2.2)) := ⟨r0, r1, r2, r3⟩
  have HW9 := Lib.hid (HV3.out.trans hw9)
  clear hg8 hg9 hw37 hw9 d0 d1 e0 e1 r0 r1 r2 r3
  go_wp2_with fail
  clear hw9e hab
  go_loopg [17] m (fun gg s17 wr => ∃ i : Nat, i ≤ m ∧ m - i ≤ gg ∧ s17 = .int .i64 i ∧ Grew w9 wr)
  case atStart => exact ⟨0, by omega, by omega, rfl, by (repeat' (first | (with_reducible assumption) | (with_reducible exact Grew.refl _) | (with_reducible refine Grew.alloc ?_ _) | (with_reducible refine Grew.drew ?_) | (with_reducible refine Grew.drewN ?_ _) | (with_reducible refine Grew.setCell ?_ ?_ _) | (simp; done) | (simp; omega)))⟩
  case round =>
    obtain ⟨i, hi, hgg, rfl, hgw⟩ := hrel
    by_cases h1 : i < m
    · have h1z : (i : Int) < (m : Int) := by omega
      have h1z0 : (0 : Int) ≤ (i : Int) := by omega
      have hil : i < l.length := by rw [HM.out]; exact h1
      obtain ⟨lg, rfl⟩ := HLP.out (by omega)
      obtain ⟨c0, c1, c2, c3⟩ := HL9.out.cells i hil
      rw [← (show l.getD i bx0 = l[i] by rw [List.getD_eq_getElem?_getD, List.getElem?_eq_getElem hil]; rfl)] at c0 c1 c2 c3
      have hob := HO.out (l.getD i bx0) (by rw [List.getD_eq_getElem?_getD, List.getElem?_eq_getElem hil]; exact List.getElem_mem hil)
      have hhas := HHas.out i h1
      have hin := fun h => hhas (along_in hob HF.out HT.out h)
      generalize l.getD i bx0 = b at c0 c1 c2 c3 hin
      obtain ⟨b0, b1, b2, b3⟩ := b
      simp only at c0 c1 c2 c3
      have HC : Aside (w9.cell? ⟨lg, i * 4, none⟩ = some (.int .i64 b0) ∧ w9.cell? ⟨lg, i * 4 + 1, none⟩ = some (.int .i64 b1) ∧ w9.cell? ⟨lg, i * 4 + 2, none⟩ = some (.int .i64 b2) ∧ w9.cell? ⟨lg, i * 4 + 3, none⟩ = some (.int .i64 b3)) := ⟨c0, c1, c2, c3⟩
      obtain ⟨r, hr⟩ : ∃ r, meetsL (b0, b1, b2, b3) (fx, fy, fx, fy) = r := ⟨_, rfl⟩
      rw [hr] at hin
      have Mm := fun W => meet_any (b0, b1, b2, b3) (fx, fy, fx, fy) W
      rw [hr] at Mm
      simp only at Mm
      have HMm := Lib.hid Mm
      have Bm := fun W => box_any fx fy fx fy W
      have HBm := Lib.hid Bm
      have Hm := fun W (g : Grew w9 W) => hasInt_same ap ac A (i : Int) W ((HSA9.out.grew g).rd) (by rw [HN.out]; unfold maxLen; omega)
      rw [HN.out] at Hm
      have HHm := Lib.hid Hm
      have HIn := Lib.hid hin
      clear hr hin Mm Bm Hm hhas hob hil c0 c1 c2 c3
      go_wp2_with fail
      cases r
      · refine wp_region_facts (by kernel_rfl) [] [76, 77, 78, 79, 80, 81, 82, 83, 84, 85, 86, 87, 88, 89, 90, 91, 92, 93, 94, 95] (by kernel_rfl) (fun j v _ => v = ([(.slice (some ⟨lg, 0, none⟩) m lc), (.int .i64 (i : Int)), (.pointer (some ⟨lg, i * 4, none⟩)), (.agg #[.int .i64 b0, .int .i64 b1, .int .i64 b2, .int .i64 b3]), (.pointer (some ⟨fb, 0, none⟩)), (.int .i64 fx), (.pointer (some ⟨fb, 1, none⟩)), (.int .i64 fy), (.pointer (some ⟨fb, 0, none⟩)), (.int .i64 fx), (.pointer (some ⟨fb, 1, none⟩)), (.int .i64 fy), (.agg #[.int .i64 fx, .int .i64 fy, .int .i64 fx, .int .i64 fy]), (.bool false), (.bool false), undef, undef, undef, undef, (.bool false)] : List Value).getD j undef) (fun _ _ _ _ _ h => h) (fun _ _ W => Grew wr W) (fun _ => (Grew.refl _).drew) ?_ ?_
        · refine StepsAt.next ?_ ?_
          · intro ρ l x W hρ hc hR hl hd
            have t11 : ρ (.tmp 11) = (.slice (some ⟨lg, 0, none⟩) m lc) := by rw [hρ]; rfl
            clear hρ
            refine .inl ⟨rfl, fun R' hR' => ?_⟩
            unfold OpDoes
            go_simp
            exact hR' _ _ (Kp.refl _ _) (fun _ _ => rfl) hR
          refine StepsAt.next ?_ ?_
          · intro ρ l x W hρ hc hR hl hd
            have t17 : ρ (.tmp 17) = (.int .i64 (i : Int)) := by rw [hρ]; rfl
            clear hρ
            refine .inl ⟨rfl, fun R' hR' => ?_⟩
            unfold OpDoes
            go_simp
            exact hR' _ _ (Kp.refl _ _) (fun _ _ => rfl) hR
          refine StepsAt.next ?_ ?_
          · intro ρ l x W hρ hc hR hl hd
            have t76 : ρ (.tmp 76) = (.slice (some ⟨lg, 0, none⟩) m lc) := (show ρ (.tmp 76) = x 76 by rw [hρ]; rfl).trans ((hd.1 rfl).2 76 rfl)
            have t77 : ρ (.tmp 77) = (.int .i64 (i : Int)) := (show ρ (.tmp 77) = x 77 by rw [hρ]; rfl).trans ((hd.2.1 rfl).2 77 rfl)
            clear hρ
            refine .inl ⟨rfl, fun R' hR' => ?_⟩
            unfold OpDoes
            go_simp
            exact hR' _ _ (Kp.refl _ _) (fun _ _ => rfl) hR
          refine StepsAt.next ?_ ?_
          · intro ρ l x W hρ hc hR hl hd
            have t78 : ρ (.tmp 78) = (.pointer (some ⟨lg, i * 4, none⟩)) := (show ρ (.tmp 78) = x 78 by rw [hρ]; rfl).trans ((hd.1 rfl).2 78 rfl)
            have c0 := (hgw.trans hR).cell' HC.out.1
            have c1 := (hgw.trans hR).cell' HC.out.2.1
            have c2 := (hgw.trans hR).cell' HC.out.2.2.1
            have c3 := (hgw.trans hR).cell' HC.out.2.2.2
            clear hρ
            refine .inl ⟨rfl, fun R' hR' => ?_⟩
            unfold OpDoes
            go_simp
            exact hR' _ _ (Kp.refl _ _) (fun _ _ => rfl) hR
          refine StepsAt.next ?_ ?_
          · intro ρ l x W hρ hc hR hl hd
            have t13 : ρ (.tmp 13) = (.pointer (some ⟨fb, 0, none⟩)) := by rw [hρ]; rfl
            clear hρ
            refine .inl ⟨rfl, fun R' hR' => ?_⟩
            unfold OpDoes
            go_simp
            exact hR' _ _ (Kp.refl _ _) (fun _ _ => rfl) hR
          refine StepsAt.next ?_ ?_
          · intro ρ l x W hρ hc hR hl hd
            have t80 : ρ (.tmp 80) = (.pointer (some ⟨fb, 0, none⟩)) := (show ρ (.tmp 80) = x 80 by rw [hρ]; rfl).trans ((hd.1 rfl).2 80 rfl)
            have k0 := (hgw.trans hR).cell' HD9.out.1
            have k1 := (hgw.trans hR).cell' HD9.out.2
            clear hρ
            refine .inl ⟨rfl, fun R' hR' => ?_⟩
            unfold OpDoes
            go_simp
            exact hR' _ _ (Kp.refl _ _) (fun _ _ => rfl) hR
          refine StepsAt.next ?_ ?_
          · intro ρ l x W hρ hc hR hl hd
            have t13 : ρ (.tmp 13) = (.pointer (some ⟨fb, 0, none⟩)) := by rw [hρ]; rfl
            clear hρ
            refine .inl ⟨rfl, fun R' hR' => ?_⟩
            unfold OpDoes
            go_simp
            exact hR' _ _ (Kp.refl _ _) (fun _ _ => rfl) hR
          refine StepsAt.next ?_ ?_
          · intro ρ l x W hρ hc hR hl hd
            have t82 : ρ (.tmp 82) = (.pointer (some ⟨fb, 1, none⟩)) := (show ρ (.tmp 82) = x 82 by rw [hρ]; rfl).trans ((hd.1 rfl).2 82 rfl)
            have k0 := (hgw.trans hR).cell' HD9.out.1
            have k1 := (hgw.trans hR).cell' HD9.out.2
            clear hρ
            refine .inl ⟨rfl, fun R' hR' => ?_⟩
            unfold OpDoes
            go_simp
            exact hR' _ _ (Kp.refl _ _) (fun _ _ => rfl) hR
          refine StepsAt.next ?_ ?_
          · intro ρ l x W hρ hc hR hl hd
            have t13 : ρ (.tmp 13) = (.pointer (some ⟨fb, 0, none⟩)) := by rw [hρ]; rfl
            clear hρ
            refine .inl ⟨rfl, fun R' hR' => ?_⟩
            unfold OpDoes
            go_simp
            exact hR' _ _ (Kp.refl _ _) (fun _ _ => rfl) hR
          refine StepsAt.next ?_ ?_
          · intro ρ l x W hρ hc hR hl hd
            have t84 : ρ (.tmp 84) = (.pointer (some ⟨fb, 0, none⟩)) := (show ρ (.tmp 84) = x 84 by rw [hρ]; rfl).trans ((hd.1 rfl).2 84 rfl)
            have k0 := (hgw.trans hR).cell' HD9.out.1
            have k1 := (hgw.trans hR).cell' HD9.out.2
            clear hρ
            refine .inl ⟨rfl, fun R' hR' => ?_⟩
            unfold OpDoes
            go_simp
            exact hR' _ _ (Kp.refl _ _) (fun _ _ => rfl) hR
          refine StepsAt.next ?_ ?_
          · intro ρ l x W hρ hc hR hl hd
            have t13 : ρ (.tmp 13) = (.pointer (some ⟨fb, 0, none⟩)) := by rw [hρ]; rfl
            clear hρ
            refine .inl ⟨rfl, fun R' hR' => ?_⟩
            unfold OpDoes
            go_simp
            exact hR' _ _ (Kp.refl _ _) (fun _ _ => rfl) hR
          refine StepsAt.next ?_ ?_
          · intro ρ l x W hρ hc hR hl hd
            have t86 : ρ (.tmp 86) = (.pointer (some ⟨fb, 1, none⟩)) := (show ρ (.tmp 86) = x 86 by rw [hρ]; rfl).trans ((hd.1 rfl).2 86 rfl)
            have k0 := (hgw.trans hR).cell' HD9.out.1
            have k1 := (hgw.trans hR).cell' HD9.out.2
            clear hρ
            refine .inl ⟨rfl, fun R' hR' => ?_⟩
            unfold OpDoes
            go_simp
            exact hR' _ _ (Kp.refl _ _) (fun _ _ => rfl) hR
          refine StepsAt.next ?_ ?_
          · intro ρ l x W hρ hc hR hl hd
            have t81 : ρ (.tmp 81) = (.int .i64 fx) := (show ρ (.tmp 81) = x 81 by rw [hρ]; rfl).trans ((hd.1 rfl).2 81 rfl)
            have t83 : ρ (.tmp 83) = (.int .i64 fy) := (show ρ (.tmp 83) = x 83 by rw [hρ]; rfl).trans ((hd.2.1 rfl).2 83 rfl)
            have t85 : ρ (.tmp 85) = (.int .i64 fx) := (show ρ (.tmp 85) = x 85 by rw [hρ]; rfl).trans ((hd.2.2.1 rfl).2 85 rfl)
            have t87 : ρ (.tmp 87) = (.int .i64 fy) := (show ρ (.tmp 87) = x 87 by rw [hρ]; rfl).trans ((hd.2.2.2.1 rfl).2 87 rfl)
            have tf : ρ (.func 12) = .func (.func 12) #[] #[] := by rw [hρ]; rfl
            clear hρ
            refine .inl ⟨rfl, fun R' hR' => ?_⟩
            unfold OpDoes
            go_simp
            refine (HBm.out W).mono ?_
            rintro e w' ⟨rfl, hg⟩
            exact ⟨_, rfl, hR' _ _ (hg.kp _) (fun _ _ => rfl) (hR.trans hg)⟩
          refine StepsAt.next ?_ ?_
          · intro ρ l x W hρ hc hR hl hd
            have t79 : ρ (.tmp 79) = (.agg #[.int .i64 b0, .int .i64 b1, .int .i64 b2, .int .i64 b3]) := (show ρ (.tmp 79) = x 79 by rw [hρ]; rfl).trans ((hd.1 rfl).2 79 rfl)
            have t88 : ρ (.tmp 88) = (.agg #[.int .i64 fx, .int .i64 fy, .int .i64 fx, .int .i64 fy]) := (show ρ (.tmp 88) = x 88 by rw [hρ]; rfl).trans ((hd.2.1 rfl).2 88 rfl)
            have tf : ρ (.func 13) = .func (.func 13) #[] #[] := by rw [hρ]; rfl
            clear hρ
            refine .inl ⟨rfl, fun R' hR' => ?_⟩
            unfold OpDoes
            go_simp
            refine (HMm.out W).mono ?_
            rintro e w' ⟨rfl, hg⟩
            exact ⟨_, rfl, hR' _ _ (hg.kp _) (fun _ _ => rfl) (hR.trans hg)⟩
          refine StepsAt.next ?_ ?_
          · intro ρ l x W hρ hc hR hl hd
            have t89 : ρ (.tmp 89) = (.bool false) := (show ρ (.tmp 89) = x 89 by rw [hρ]; rfl).trans ((hd.1 rfl).2 89 rfl)
            clear hρ
            refine .inl ⟨rfl, fun R' hR' => ?_⟩
            unfold OpDoes
            go_simp
            exact hR' _ _ (Kp.refl _ _) (fun _ _ => rfl) hR
          refine StepsAt.next ?_ ?_
          · intro ρ l x W hρ hc hR hl hd
            have gx : x 90 = (.bool false) := ((hd.1 rfl).2 90 rfl)
            clear hρ
            exact .inr ⟨wanted_is (ops := _) (g := 14) (d := 90) (b := false) (want := true) rfl rfl (by decide) (Nat.le_of_ble_eq_true rfl) gx false rfl, fun _ _ => rfl, hR⟩
          refine StepsAt.next ?_ ?_
          · intro ρ l x W hρ hc hR hl hd
            have gx : x 90 = (.bool false) := ((hd.1 rfl).2 90 rfl)
            clear hρ
            exact .inr ⟨wanted_is (ops := _) (g := 14) (d := 90) (b := false) (want := true) rfl rfl (by decide) (Nat.le_of_ble_eq_true rfl) gx false rfl, fun _ _ => rfl, hR⟩
          refine StepsAt.next ?_ ?_
          · intro ρ l x W hρ hc hR hl hd
            have gx : x 90 = (.bool false) := ((hd.2.2.1 rfl).2 90 rfl)
            clear hρ
            exact .inr ⟨wanted_is (ops := _) (g := 14) (d := 90) (b := false) (want := true) rfl rfl (by decide) (Nat.le_of_ble_eq_true rfl) gx false rfl, fun _ _ => rfl, hR⟩
          refine StepsAt.next ?_ ?_
          · intro ρ l x W hρ hc hR hl hd
            have gx : x 90 = (.bool false) := ((hd.2.1 rfl).2 90 rfl)
            clear hρ
            exact .inr ⟨wanted_is (ops := _) (g := 14) (d := 90) (b := false) (want := true) rfl rfl (by decide) (Nat.le_of_ble_eq_true rfl) gx false rfl, fun _ _ => rfl, hR⟩
          refine StepsAt.next ?_ ?_
          · intro ρ l x W hρ hc hR hl hd
            have t90 : ρ (.tmp 90) = (.bool false) := (show ρ (.tmp 90) = x 90 by rw [hρ]; rfl).trans ((hd.1 rfl).2 90 rfl)
            clear hρ
            refine .inl ⟨rfl, fun R' hR' => ?_⟩
            unfold OpDoes
            go_simp
            exact hR' _ _ (Kp.refl _ _) (fun _ _ => rfl) hR
          exact trivial
        · intro l x W hR hall hV
          have h95 : x 95 = .bool false := hV 19 95 rfl
          clear hall hV
          simp only [Fr, mapFrom, List.mem_cons, List.not_mem_nil, or_false, Nat.reduceAdd]
          simp only [Nat.reduceEqDiff, reduceIte, or_false, or_self, or_true]
          rw [h95]
          have hgw2 := hgw.trans hR
          go_wp2_with fail
          go_roundg (m - (i + 1))
          case measure => omega
          case rel => exact ⟨i + 1, by omega, by omega, by go_num, by (repeat' (first | (with_reducible assumption) | (with_reducible exact Grew.refl _) | (with_reducible refine Grew.alloc ?_ _) | (with_reducible refine Grew.drew ?_) | (with_reducible refine Grew.drewN ?_ _) | (with_reducible refine Grew.setCell ?_ ?_ _) | (simp; done) | (simp; omega)))⟩
      · refine wp_region_facts (by kernel_rfl) [] [76, 77, 78, 79, 80, 81, 82, 83, 84, 85, 86, 87, 88, 89, 90, 91, 92, 93, 94, 95] (by kernel_rfl) (fun j v _ => v = ([(.slice (some ⟨lg, 0, none⟩) m lc), (.int .i64 (i : Int)), (.pointer (some ⟨lg, i * 4, none⟩)), (.agg #[.int .i64 b0, .int .i64 b1, .int .i64 b2, .int .i64 b3]), (.pointer (some ⟨fb, 0, none⟩)), (.int .i64 fx), (.pointer (some ⟨fb, 1, none⟩)), (.int .i64 fy), (.pointer (some ⟨fb, 0, none⟩)), (.int .i64 fx), (.pointer (some ⟨fb, 1, none⟩)), (.int .i64 fy), (.agg #[.int .i64 fx, .int .i64 fy, .int .i64 fx, .int .i64 fy]), (.bool true), (.bool true), (.slice ap n ac), (.int .i64 (i : Int)), (.bool true), (.bool false), (.bool false)] : List Value).getD j undef) (fun _ _ _ _ _ h => h) (fun _ _ W => Grew wr W) (fun _ => (Grew.refl _).drew) ?_ ?_
        · refine StepsAt.next ?_ ?_
          · intro ρ l x W hρ hc hR hl hd
            have t11 : ρ (.tmp 11) = (.slice (some ⟨lg, 0, none⟩) m lc) := by rw [hρ]; rfl
            clear hρ
            refine .inl ⟨rfl, fun R' hR' => ?_⟩
            unfold OpDoes
            go_simp
            exact hR' _ _ (Kp.refl _ _) (fun _ _ => rfl) hR
          refine StepsAt.next ?_ ?_
          · intro ρ l x W hρ hc hR hl hd
            have t17 : ρ (.tmp 17) = (.int .i64 (i : Int)) := by rw [hρ]; rfl
            clear hρ
            refine .inl ⟨rfl, fun R' hR' => ?_⟩
            unfold OpDoes
            go_simp
            exact hR' _ _ (Kp.refl _ _) (fun _ _ => rfl) hR
          refine StepsAt.next ?_ ?_
          · intro ρ l x W hρ hc hR hl hd
            have t76 : ρ (.tmp 76) = (.slice (some ⟨lg, 0, none⟩) m lc) := (show ρ (.tmp 76) = x 76 by rw [hρ]; rfl).trans ((hd.1 rfl).2 76 rfl)
            have t77 : ρ (.tmp 77) = (.int .i64 (i : Int)) := (show ρ (.tmp 77) = x 77 by rw [hρ]; rfl).trans ((hd.2.1 rfl).2 77 rfl)
            clear hρ
            refine .inl ⟨rfl, fun R' hR' => ?_⟩
            unfold OpDoes
            go_simp
            exact hR' _ _ (Kp.refl _ _) (fun _ _ => rfl) hR
          refine StepsAt.next ?_ ?_
          · intro ρ l x W hρ hc hR hl hd
            have t78 : ρ (.tmp 78) = (.pointer (some ⟨lg, i * 4, none⟩)) := (show ρ (.tmp 78) = x 78 by rw [hρ]; rfl).trans ((hd.1 rfl).2 78 rfl)
            have c0 := (hgw.trans hR).cell' HC.out.1
            have c1 := (hgw.trans hR).cell' HC.out.2.1
            have c2 := (hgw.trans hR).cell' HC.out.2.2.1
            have c3 := (hgw.trans hR).cell' HC.out.2.2.2
            clear hρ
            refine .inl ⟨rfl, fun R' hR' => ?_⟩
            unfold OpDoes
            go_simp
            exact hR' _ _ (Kp.refl _ _) (fun _ _ => rfl) hR
          refine StepsAt.next ?_ ?_
          · intro ρ l x W hρ hc hR hl hd
            have t13 : ρ (.tmp 13) = (.pointer (some ⟨fb, 0, none⟩)) := by rw [hρ]; rfl
            clear hρ
            refine .inl ⟨rfl, fun R' hR' => ?_⟩
            unfold OpDoes
            go_simp
            exact hR' _ _ (Kp.refl _ _) (fun _ _ => rfl) hR
          refine StepsAt.next ?_ ?_
          · intro ρ l x W hρ hc hR hl hd
            have t80 : ρ (.tmp 80) = (.pointer (some ⟨fb, 0, none⟩)) := (show ρ (.tmp 80) = x 80 by rw [hρ]; rfl).trans ((hd.1 rfl).2 80 rfl)
            have k0 := (hgw.trans hR).cell' HD9.out.1
            have k1 := (hgw.trans hR).cell' HD9.out.2
            clear hρ
            refine .inl ⟨rfl, fun R' hR' => ?_⟩
            unfold OpDoes
            go_simp
            exact hR' _ _ (Kp.refl _ _) (fun _ _ => rfl) hR
          refine StepsAt.next ?_ ?_
          · intro ρ l x W hρ hc hR hl hd
            have t13 : ρ (.tmp 13) = (.pointer (some ⟨fb, 0, none⟩)) := by rw [hρ]; rfl
            clear hρ
            refine .inl ⟨rfl, fun R' hR' => ?_⟩
            unfold OpDoes
            go_simp
            exact hR' _ _ (Kp.refl _ _) (fun _ _ => rfl) hR
          refine StepsAt.next ?_ ?_
          · intro ρ l x W hρ hc hR hl hd
            have t82 : ρ (.tmp 82) = (.pointer (some ⟨fb, 1, none⟩)) := (show ρ (.tmp 82) = x 82 by rw [hρ]; rfl).trans ((hd.1 rfl).2 82 rfl)
            have k0 := (hgw.trans hR).cell' HD9.out.1
            have k1 := (hgw.trans hR).cell' HD9.out.2
            clear hρ
            refine .inl ⟨rfl, fun R' hR' => ?_⟩
            unfold OpDoes
            go_simp
            exact hR' _ _ (Kp.refl _ _) (fun _ _ => rfl) hR
          refine StepsAt.next ?_ ?_
          · intro ρ l x W hρ hc hR hl hd
            have t13 : ρ (.tmp 13) = (.pointer (some ⟨fb, 0, none⟩)) := by rw [hρ]; rfl
            clear hρ
            refine .inl ⟨rfl, fun R' hR' => ?_⟩
            unfold OpDoes
            go_simp
            exact hR' _ _ (Kp.refl _ _) (fun _ _ => rfl) hR
          refine StepsAt.next ?_ ?_
          · intro ρ l x W hρ hc hR hl hd
            have t84 : ρ (.tmp 84) = (.pointer (some ⟨fb, 0, none⟩)) := (show ρ (.tmp 84) = x 84 by rw [hρ]; rfl).trans ((hd.1 rfl).2 84 rfl)
            have k0 := (hgw.trans hR).cell' HD9.out.1
            have k1 := (hgw.trans hR).cell' HD9.out.2
            clear hρ
            refine .inl ⟨rfl, fun R' hR' => ?_⟩
            unfold OpDoes
            go_simp
            exact hR' _ _ (Kp.refl _ _) (fun _ _ => rfl) hR
          refine StepsAt.next ?_ ?_
          · intro ρ l x W hρ hc hR hl hd
            have t13 : ρ (.tmp 13) = (.pointer (some ⟨fb, 0, none⟩)) := by rw [hρ]; rfl
            clear hρ
            refine .inl ⟨rfl, fun R' hR' => ?_⟩
            unfold OpDoes
            go_simp
            exact hR' _ _ (Kp.refl _ _) (fun _ _ => rfl) hR
          refine StepsAt.next ?_ ?_
          · intro ρ l x W hρ hc hR hl hd
            have t86 : ρ (.tmp 86) = (.pointer (some ⟨fb, 1, none⟩)) := (show ρ (.tmp 86) = x 86 by rw [hρ]; rfl).trans ((hd.1 rfl).2 86 rfl)
            have k0 := (hgw.trans hR).cell' HD9.out.1
            have k1 := (hgw.trans hR).cell' HD9.out.2
            clear hρ
            refine .inl ⟨rfl, fun R' hR' => ?_⟩
            unfold OpDoes
            go_simp
            exact hR' _ _ (Kp.refl _ _) (fun _ _ => rfl) hR
          refine StepsAt.next ?_ ?_
          · intro ρ l x W hρ hc hR hl hd
            have t81 : ρ (.tmp 81) = (.int .i64 fx) := (show ρ (.tmp 81) = x 81 by rw [hρ]; rfl).trans ((hd.1 rfl).2 81 rfl)
            have t83 : ρ (.tmp 83) = (.int .i64 fy) := (show ρ (.tmp 83) = x 83 by rw [hρ]; rfl).trans ((hd.2.1 rfl).2 83 rfl)
            have t85 : ρ (.tmp 85) = (.int .i64 fx) := (show ρ (.tmp 85) = x 85 by rw [hρ]; rfl).trans ((hd.2.2.1 rfl).2 85 rfl)
            have t87 : ρ (.tmp 87) = (.int .i64 fy) := (show ρ (.tmp 87) = x 87 by rw [hρ]; rfl).trans ((hd.2.2.2.1 rfl).2 87 rfl)
            have tf : ρ (.func 12) = .func (.func 12) #[] #[] := by rw [hρ]; rfl
            clear hρ
            refine .inl ⟨rfl, fun R' hR' => ?_⟩
            unfold OpDoes
            go_simp
            refine (HBm.out W).mono ?_
            rintro e w' ⟨rfl, hg⟩
            exact ⟨_, rfl, hR' _ _ (hg.kp _) (fun _ _ => rfl) (hR.trans hg)⟩
          refine StepsAt.next ?_ ?_
          · intro ρ l x W hρ hc hR hl hd
            have t79 : ρ (.tmp 79) = (.agg #[.int .i64 b0, .int .i64 b1, .int .i64 b2, .int .i64 b3]) := (show ρ (.tmp 79) = x 79 by rw [hρ]; rfl).trans ((hd.1 rfl).2 79 rfl)
            have t88 : ρ (.tmp 88) = (.agg #[.int .i64 fx, .int .i64 fy, .int .i64 fx, .int .i64 fy]) := (show ρ (.tmp 88) = x 88 by rw [hρ]; rfl).trans ((hd.2.1 rfl).2 88 rfl)
            have tf : ρ (.func 13) = .func (.func 13) #[] #[] := by rw [hρ]; rfl
            clear hρ
            refine .inl ⟨rfl, fun R' hR' => ?_⟩
            unfold OpDoes
            go_simp
            refine (HMm.out W).mono ?_
            rintro e w' ⟨rfl, hg⟩
            exact ⟨_, rfl, hR' _ _ (hg.kp _) (fun _ _ => rfl) (hR.trans hg)⟩
          refine StepsAt.next ?_ ?_
          · intro ρ l x W hρ hc hR hl hd
            have t89 : ρ (.tmp 89) = (.bool true) := (show ρ (.tmp 89) = x 89 by rw [hρ]; rfl).trans ((hd.1 rfl).2 89 rfl)
            clear hρ
            refine .inl ⟨rfl, fun R' hR' => ?_⟩
            unfold OpDoes
            go_simp
            exact hR' _ _ (Kp.refl _ _) (fun _ _ => rfl) hR
          refine StepsAt.next ?_ ?_
          · intro ρ l x W hρ hc hR hl hd
            have gx : x 90 = (.bool true) := ((hd.1 rfl).2 90 rfl)
            have t15 : ρ (.tmp 15) = (.slice ap n ac) := by rw [hρ]; rfl
            clear hρ
            refine .inl ⟨wanted_is (ops := _) (g := 14) (d := 90) (b := true) (want := true) rfl rfl (by decide) (Nat.le_of_ble_eq_true rfl) gx true rfl, fun R' hR' => ?_⟩
            unfold OpDoes
            go_simp
            exact hR' _ _ (Kp.refl _ _) (fun _ _ => rfl) hR
          refine StepsAt.next ?_ ?_
          · intro ρ l x W hρ hc hR hl hd
            have gx : x 90 = (.bool true) := ((hd.1 rfl).2 90 rfl)
            have t17 : ρ (.tmp 17) = (.int .i64 (i : Int)) := by rw [hρ]; rfl
            clear hρ
            refine .inl ⟨wanted_is (ops := _) (g := 14) (d := 90) (b := true) (want := true) rfl rfl (by decide) (Nat.le_of_ble_eq_true rfl) gx true rfl, fun R' hR' => ?_⟩
            unfold OpDoes
            go_simp
            exact hR' _ _ (Kp.refl _ _) (fun _ _ => rfl) hR
          refine StepsAt.next ?_ ?_
          · intro ρ l x W hρ hc hR hl hd
            have gx : x 90 = (.bool true) := ((hd.2.2.1 rfl).2 90 rfl)
            have t91 : ρ (.tmp 91) = (.slice ap n ac) := (show ρ (.tmp 91) = x 91 by rw [hρ]; rfl).trans ((hd.1 rfl).2 91 rfl)
            have t92 : ρ (.tmp 92) = (.int .i64 (i : Int)) := (show ρ (.tmp 92) = x 92 by rw [hρ]; rfl).trans ((hd.2.1 rfl).2 92 rfl)
            have tf : ρ (.func 14) = .func (.func 14) #[] #[] := by rw [hρ]; rfl
            clear hρ
            refine .inl ⟨wanted_is (ops := _) (g := 14) (d := 90) (b := true) (want := true) rfl rfl (by decide) (Nat.le_of_ble_eq_true rfl) gx true rfl, fun R' hR' => ?_⟩
            unfold OpDoes
            go_simp
            refine (HHm.out W (hgw.trans hR)).mono ?_
            rintro e w' ⟨rfl, rfl⟩
            rw [decide_eq_true (HIn.out rfl)]
            exact ⟨_, rfl, hR' _ _ (Kp.refl _ _) (fun _ _ => rfl) hR⟩
          refine StepsAt.next ?_ ?_
          · intro ρ l x W hρ hc hR hl hd
            have gx : x 90 = (.bool true) := ((hd.2.1 rfl).2 90 rfl)
            have t93 : ρ (.tmp 93) = (.bool true) := (show ρ (.tmp 93) = x 93 by rw [hρ]; rfl).trans ((hd.1 rfl).2 93 rfl)
            clear hρ
            refine .inl ⟨wanted_is (ops := _) (g := 14) (d := 90) (b := true) (want := true) rfl rfl (by decide) (Nat.le_of_ble_eq_true rfl) gx true rfl, fun R' hR' => ?_⟩
            unfold OpDoes
            go_simp
            exact hR' _ _ (Kp.refl _ _) (fun _ _ => rfl) hR
          refine StepsAt.next ?_ ?_
          · intro ρ l x W hρ hc hR hl hd
            have t90 : ρ (.tmp 90) = (.bool true) := (show ρ (.tmp 90) = x 90 by rw [hρ]; rfl).trans ((hd.1 rfl).2 90 rfl)
            have t94 : ρ (.tmp 94) = (.bool false) := (show ρ (.tmp 94) = x 94 by rw [hρ]; rfl).trans ((hd.2.1 rfl).2 94 rfl)
            clear hρ
            refine .inl ⟨rfl, fun R' hR' => ?_⟩
            unfold OpDoes
            go_simp
            exact hR' _ _ (Kp.refl _ _) (fun _ _ => rfl) hR
          exact trivial
        · intro l x W hR hall hV
          have h95 : x 95 = .bool false := hV 19 95 rfl
          clear hall hV
          simp only [Fr, mapFrom, List.mem_cons, List.not_mem_nil, or_false, Nat.reduceAdd]
          simp only [Nat.reduceEqDiff, reduceIte, or_false, or_self, or_true]
          rw [h95]
          have hgw2 := hgw.trans hR
          go_wp2_with fail
          go_roundg (m - (i + 1))
          case measure => omega
          case rel => exact ⟨i + 1, by omega, by omega, by go_num, by (repeat' (first | (with_reducible assumption) | (with_reducible exact Grew.refl _) | (with_reducible refine Grew.alloc ?_ _) | (with_reducible refine Grew.drew ?_) | (with_reducible refine Grew.drewN ?_ _) | (with_reducible refine Grew.setCell ?_ ?_ _) | (simp; done) | (simp; omega)))⟩
    · have h1z : ¬ (i : Int) < (m : Int) := by omega
      have hal2 := hal
      obtain ⟨wt, hwt⟩ : ∃ wt, wt = wr := ⟨_, rfl⟩
      subst hwt
      go_wp2_with fail
      go_loopg [18] n (fun gg s18 wr => ∃ j : Nat, j ≤ n ∧ n - j ≤ gg ∧ s18 = .int .i64 j ∧ Grew w9 wr)
      case atStart => exact ⟨0, by omega, by omega, rfl, hgw⟩
      case round =>
        obtain ⟨j, hj, hgg2, rfl, hgw2⟩ := hrel
        by_cases h2 : j < n
        · have h2z : (j : Int) < (n : Int) := by omega
          have h2z0 : (0 : Int) ≤ (j : Int) := by omega
          have hjA : j < A.length := by rw [HN.out]; exact h2
          obtain ⟨ag, rfl⟩ := HAP.out (by omega)
          obtain ⟨q, hq, hqe, hqb⟩ := HMem.out A[j] (List.getElem_mem hjA)
          have hql : q < l.length := by rw [HM.out]; exact hq
          have hqz : (q : Int) < (m : Int) := by omega
          have hqz0 : (0 : Int) ≤ (q : Int) := by omega
          obtain ⟨lg, rfl⟩ := HLP.out (by omega)
          have ca := HSA9.out.cell j hjA
          rw [hqe] at ca
          have HCa : Aside (w9.cell? ⟨ag, j, none⟩ = some (.int .i64 (q : Int))) := ca
          obtain ⟨c0, c1, c2, c3⟩ := HL9.out.cells q hql
          rw [← (show l.getD q bx0 = l[q] by rw [List.getD_eq_getElem?_getD, List.getElem?_eq_getElem hql]; rfl)] at c0 c1 c2 c3
          have hob := HO.out (l.getD q bx0) (by rw [List.getD_eq_getElem?_getD, List.getElem?_eq_getElem hql]; exact List.getElem_mem hql)
          have hmt := along_meets hob HF.out HT.out hqb
          generalize l.getD q bx0 = b at c0 c1 c2 c3 hmt
          obtain ⟨b0, b1, b2, b3⟩ := b
          simp only at c0 c1 c2 c3
          have HC : Aside (w9.cell? ⟨lg, q * 4, none⟩ = some (.int .i64 b0) ∧ w9.cell? ⟨lg, q * 4 + 1, none⟩ = some (.int .i64 b1) ∧ w9.cell? ⟨lg, q * 4 + 2, none⟩ = some (.int .i64 b2) ∧ w9.cell? ⟨lg, q * 4 + 3, none⟩ = some (.int .i64 b3)) := ⟨c0, c1, c2, c3⟩
          have Mm := fun W => meet_any (b0, b1, b2, b3) (roundB fx fy tx ty) W
          rw [hmt] at Mm
          have HRR := HR9.out
          generalize roundB fx fy tx ty = rr at Mm HRR
          obtain ⟨q0, q1, q2, q3⟩ := rr
          simp only at Mm HRR
          have HMm := Lib.hid Mm
          have HRr := Lib.hid HRR
          clear Mm HRR hmt hob hqb c0 c1 c2 c3 ca hql
          by_cases hj0 : j = 0
          · subst hj0
            have hng : ¬ (0 : Int) < ((0 : Nat) : Int) := by omega
            clear hjA hqe
            go_wp2_with fail
            refine wp_region_facts (by kernel_rfl) [] [102, 103, 104, 105, 106, 107, 108, 109, 110, 111, 112, 113, 114, 115, 116, 117, 118, 119, 120, 121, 122, 123, 124, 125, 126, 127, 128, 129, 130, 131, 132, 133, 134, 135, 136, 137, 138, 139, 140, 141, 142, 143] (by kernel_rfl) (fun j v _ => v = ([(.slice (some ⟨ag, 0, none⟩) n ac), (.int .i64 0), (.pointer (some ⟨ag, 0, none⟩)), (.int .i64 (q : Int)), (.bool false), (.bool false), (.slice (some ⟨ag, 0, none⟩) n ac), (.int .i64 0), (.pointer (some ⟨ag, 0, none⟩)), (.int .i64 (q : Int)), (.slice (some ⟨lg, 0, none⟩) m lc), (.int .i64 (m : Int)), (.bool false), (.bool false), (.bool false), (.int .i64 0), (.bool false), (.bool false), undef, undef, undef, undef, undef, undef, undef, undef, undef, undef, (.bool false), (.bool false), (.bool false), (.slice (some ⟨lg, 0, none⟩) m lc), (.slice (some ⟨ag, 0, none⟩) n ac), (.int .i64 0), (.pointer (some ⟨ag, 0, none⟩)), (.int .i64 (q : Int)), (.pointer (some ⟨lg, q * 4, none⟩)), (.agg #[.int .i64 b0, .int .i64 b1, .int .i64 b2, .int .i64 b3]), (.agg #[.int .i64 q0, .int .i64 q1, .int .i64 q2, .int .i64 q3]), (.bool true), (.bool false), (.bool false)] : List Value).getD j undef) (fun _ _ _ _ _ h => h) (fun _ _ W => Grew wr W) (fun _ => (Grew.refl _).drew) ?_ ?_
            · refine StepsAt.next ?_ ?_
              · intro ρ l x W hρ hc hR hl hd
                have t15 : ρ (.tmp 15) = (.slice (some ⟨ag, 0, none⟩) n ac) := by rw [hρ]; rfl
                clear hρ
                refine .inl ⟨rfl, fun R' hR' => ?_⟩
                unfold OpDoes
                go_simp
                exact hR' _ _ (Kp.refl _ _) (fun _ _ => rfl) hR
              refine StepsAt.next ?_ ?_
              · intro ρ l x W hρ hc hR hl hd
                have t18 : ρ (.tmp 18) = (.int .i64 0) := by rw [hρ]; rfl
                clear hρ
                refine .inl ⟨rfl, fun R' hR' => ?_⟩
                unfold OpDoes
                go_simp
                exact hR' _ _ (Kp.refl _ _) (fun _ _ => rfl) hR
              refine StepsAt.next ?_ ?_
              · intro ρ l x W hρ hc hR hl hd
                have t102 : ρ (.tmp 102) = (.slice (some ⟨ag, 0, none⟩) n ac) := (show ρ (.tmp 102) = x 102 by rw [hρ]; rfl).trans ((hd.1 rfl).2 102 rfl)
                have t103 : ρ (.tmp 103) = (.int .i64 0) := (show ρ (.tmp 103) = x 103 by rw [hρ]; rfl).trans ((hd.2.1 rfl).2 103 rfl)
                clear hρ
                refine .inl ⟨rfl, fun R' hR' => ?_⟩
                unfold OpDoes
                go_simp
                exact hR' _ _ (Kp.refl _ _) (fun _ _ => rfl) hR
              refine StepsAt.next ?_ ?_
              · intro ρ l x W hρ hc hR hl hd
                have t104 : ρ (.tmp 104) = (.pointer (some ⟨ag, 0, none⟩)) := (show ρ (.tmp 104) = x 104 by rw [hρ]; rfl).trans ((hd.1 rfl).2 104 rfl)
                have ca := (hgw2.trans hR).cell' HCa.out
                clear hρ
                refine .inl ⟨rfl, fun R' hR' => ?_⟩
                unfold OpDoes
                go_simp
                exact hR' _ _ (Kp.refl _ _) (fun _ _ => rfl) hR
              refine StepsAt.next ?_ ?_
              · intro ρ l x W hρ hc hR hl hd
                have t105 : ρ (.tmp 105) = (.int .i64 (q : Int)) := (show ρ (.tmp 105) = x 105 by rw [hρ]; rfl).trans ((hd.1 rfl).2 105 rfl)
                clear hρ
                refine .inl ⟨rfl, fun R' hR' => ?_⟩
                unfold OpDoes
                go_simp
                exact hR' _ _ (Kp.refl _ _) (fun _ _ => (by first | rfl | (simp; done) | (simp; omega))) hR
              refine StepsAt.next ?_ ?_
              · intro ρ l x W hρ hc hR hl hd
                have t106 : ρ (.tmp 106) = (.bool false) := (show ρ (.tmp 106) = x 106 by rw [hρ]; rfl).trans ((hd.1 rfl).2 106 rfl)
                clear hρ
                refine .inl ⟨rfl, fun R' hR' => ?_⟩
                unfold OpDoes
                go_simp
                exact hR' _ _ (Kp.refl _ _) (fun _ _ => rfl) hR
              refine StepsAt.next ?_ ?_
              · intro ρ l x W hρ hc hR hl hd
                have gx : x 107 = (.bool false) := ((hd.1 rfl).2 107 rfl)
                have t15 : ρ (.tmp 15) = (.slice (some ⟨ag, 0, none⟩) n ac) := by rw [hρ]; rfl
                clear hρ
                refine .inl ⟨wanted_is (ops := _) (g := 5) (d := 107) (b := false) (want := false) rfl rfl (by decide) (Nat.le_of_ble_eq_true rfl) gx true rfl, fun R' hR' => ?_⟩
                unfold OpDoes
                go_simp
                exact hR' _ _ (Kp.refl _ _) (fun _ _ => rfl) hR
              refine StepsAt.next ?_ ?_
              · intro ρ l x W hρ hc hR hl hd
                have gx : x 107 = (.bool false) := ((hd.1 rfl).2 107 rfl)
                have t18 : ρ (.tmp 18) = (.int .i64 0) := by rw [hρ]; rfl
                clear hρ
                refine .inl ⟨wanted_is (ops := _) (g := 5) (d := 107) (b := false) (want := false) rfl rfl (by decide) (Nat.le_of_ble_eq_true rfl) gx true rfl, fun R' hR' => ?_⟩
                unfold OpDoes
                go_simp
                exact hR' _ _ (Kp.refl _ _) (fun _ _ => rfl) hR
              refine StepsAt.next ?_ ?_
              · intro ρ l x W hρ hc hR hl hd
                have gx : x 107 = (.bool false) := ((hd.2.2.1 rfl).2 107 rfl)
                have t108 : ρ (.tmp 108) = (.slice (some ⟨ag, 0, none⟩) n ac) := (show ρ (.tmp 108) = x 108 by rw [hρ]; rfl).trans ((hd.1 rfl).2 108 rfl)
                have t109 : ρ (.tmp 109) = (.int .i64 0) := (show ρ (.tmp 109) = x 109 by rw [hρ]; rfl).trans ((hd.2.1 rfl).2 109 rfl)
                clear hρ
                refine .inl ⟨wanted_is (ops := _) (g := 5) (d := 107) (b := false) (want := false) rfl rfl (by decide) (Nat.le_of_ble_eq_true rfl) gx true rfl, fun R' hR' => ?_⟩
                unfold OpDoes
                go_simp
                exact hR' _ _ (Kp.refl _ _) (fun _ _ => rfl) hR
              refine StepsAt.next ?_ ?_
              · intro ρ l x W hρ hc hR hl hd
                have gx : x 107 = (.bool false) := ((hd.2.1 rfl).2 107 rfl)
                have t110 : ρ (.tmp 110) = (.pointer (some ⟨ag, 0, none⟩)) := (show ρ (.tmp 110) = x 110 by rw [hρ]; rfl).trans ((hd.1 rfl).2 110 rfl)
                have ca := (hgw2.trans hR).cell' HCa.out
                clear hρ
                refine .inl ⟨wanted_is (ops := _) (g := 5) (d := 107) (b := false) (want := false) rfl rfl (by decide) (Nat.le_of_ble_eq_true rfl) gx true rfl, fun R' hR' => ?_⟩
                unfold OpDoes
                go_simp
                exact hR' _ _ (Kp.refl _ _) (fun _ _ => rfl) hR
              refine StepsAt.next ?_ ?_
              · intro ρ l x W hρ hc hR hl hd
                have gx : x 107 = (.bool false) := ((hd.1 rfl).2 107 rfl)
                have t11 : ρ (.tmp 11) = (.slice (some ⟨lg, 0, none⟩) m lc) := by rw [hρ]; rfl
                clear hρ
                refine .inl ⟨wanted_is (ops := _) (g := 5) (d := 107) (b := false) (want := false) rfl rfl (by decide) (Nat.le_of_ble_eq_true rfl) gx true rfl, fun R' hR' => ?_⟩
                unfold OpDoes
                go_simp
                exact hR' _ _ (Kp.refl _ _) (fun _ _ => rfl) hR
              refine StepsAt.next ?_ ?_
              · intro ρ l x W hρ hc hR hl hd
                have gx : x 107 = (.bool false) := ((hd.2.1 rfl).2 107 rfl)
                have t112 : ρ (.tmp 112) = (.slice (some ⟨lg, 0, none⟩) m lc) := (show ρ (.tmp 112) = x 112 by rw [hρ]; rfl).trans ((hd.1 rfl).2 112 rfl)
                clear hρ
                refine .inl ⟨wanted_is (ops := _) (g := 5) (d := 107) (b := false) (want := false) rfl rfl (by decide) (Nat.le_of_ble_eq_true rfl) gx true rfl, fun R' hR' => ?_⟩
                unfold OpDoes
                go_simp
                exact hR' _ _ (Kp.refl _ _) (fun _ _ => rfl) hR
              refine StepsAt.next ?_ ?_
              · intro ρ l x W hρ hc hR hl hd
                have gx : x 107 = (.bool false) := ((hd.2.2.1 rfl).2 107 rfl)
                have t111 : ρ (.tmp 111) = (.int .i64 (q : Int)) := (show ρ (.tmp 111) = x 111 by rw [hρ]; rfl).trans ((hd.1 rfl).2 111 rfl)
                have t113 : ρ (.tmp 113) = (.int .i64 (m : Int)) := (show ρ (.tmp 113) = x 113 by rw [hρ]; rfl).trans ((hd.2.1 rfl).2 113 rfl)
                clear hρ
                refine .inl ⟨wanted_is (ops := _) (g := 5) (d := 107) (b := false) (want := false) rfl rfl (by decide) (Nat.le_of_ble_eq_true rfl) gx true rfl, fun R' hR' => ?_⟩
                unfold OpDoes
                go_simp
                exact hR' _ _ (Kp.refl _ _) (fun _ _ => (by first | rfl | (simp; done) | (simp; omega))) hR
              refine StepsAt.next ?_ ?_
              · intro ρ l x W hρ hc hR hl hd
                have t107 : ρ (.tmp 107) = (.bool false) := (show ρ (.tmp 107) = x 107 by rw [hρ]; rfl).trans ((hd.1 rfl).2 107 rfl)
                have t114 : ρ (.tmp 114) = (.bool false) := (show ρ (.tmp 114) = x 114 by rw [hρ]; rfl).trans ((hd.2.1 rfl).2 114 rfl)
                clear hρ
                refine .inl ⟨rfl, fun R' hR' => ?_⟩
                unfold OpDoes
                go_simp
                exact hR' _ _ (Kp.refl _ _) (fun _ _ => rfl) hR
              refine StepsAt.next ?_ ?_
              · intro ρ l x W hρ hc hR hl hd
                have t115 : ρ (.tmp 115) = (.bool false) := (show ρ (.tmp 115) = x 115 by rw [hρ]; rfl).trans ((hd.1 rfl).2 115 rfl)
                clear hρ
                refine .inl ⟨rfl, fun R' hR' => ?_⟩
                unfold OpDoes
                go_simp
                exact hR' _ _ (Kp.refl _ _) (fun _ _ => rfl) hR
              refine StepsAt.next ?_ ?_
              · intro ρ l x W hρ hc hR hl hd
                have gx : x 116 = (.bool false) := ((hd.1 rfl).2 116 rfl)
                have t18 : ρ (.tmp 18) = (.int .i64 0) := by rw [hρ]; rfl
                clear hρ
                refine .inl ⟨wanted_is (ops := _) (g := 14) (d := 116) (b := false) (want := false) rfl rfl (by decide) (Nat.le_of_ble_eq_true rfl) gx true rfl, fun R' hR' => ?_⟩
                unfold OpDoes
                go_simp
                exact hR' _ _ (Kp.refl _ _) (fun _ _ => rfl) hR
              refine StepsAt.next ?_ ?_
              · intro ρ l x W hρ hc hR hl hd
                have gx : x 116 = (.bool false) := ((hd.2.1 rfl).2 116 rfl)
                have t117 : ρ (.tmp 117) = (.int .i64 0) := (show ρ (.tmp 117) = x 117 by rw [hρ]; rfl).trans ((hd.1 rfl).2 117 rfl)
                clear hρ
                refine .inl ⟨wanted_is (ops := _) (g := 14) (d := 116) (b := false) (want := false) rfl rfl (by decide) (Nat.le_of_ble_eq_true rfl) gx true rfl, fun R' hR' => ?_⟩
                unfold OpDoes
                go_simp
                exact hR' _ _ (Kp.refl _ _) (fun _ _ => (by first | rfl | (simp; done) | (simp; omega))) hR
              refine StepsAt.next ?_ ?_
              · intro ρ l x W hρ hc hR hl hd
                have gx : x 116 = (.bool false) := ((hd.2.1 rfl).2 116 rfl)
                have t118 : ρ (.tmp 118) = (.bool false) := (show ρ (.tmp 118) = x 118 by rw [hρ]; rfl).trans ((hd.1 rfl).2 118 rfl)
                clear hρ
                refine .inl ⟨wanted_is (ops := _) (g := 14) (d := 116) (b := false) (want := false) rfl rfl (by decide) (Nat.le_of_ble_eq_true rfl) gx true rfl, fun R' hR' => ?_⟩
                unfold OpDoes
                go_simp
                exact hR' _ _ (Kp.refl _ _) (fun _ _ => rfl) hR
              refine StepsAt.next ?_ ?_
              · intro ρ l x W hρ hc hR hl hd
                have gx : x 119 = (.bool false) := ((hd.1 rfl).2 119 rfl)
                clear hρ
                exact .inr ⟨wanted_is (ops := _) (g := 17) (d := 119) (b := false) (want := true) rfl rfl (by decide) (Nat.le_of_ble_eq_true rfl) gx false rfl, fun _ _ => rfl, hR⟩
              refine StepsAt.next ?_ ?_
              · intro ρ l x W hρ hc hR hl hd
                have gx : x 119 = (.bool false) := ((hd.1 rfl).2 119 rfl)
                clear hρ
                exact .inr ⟨wanted_is (ops := _) (g := 17) (d := 119) (b := false) (want := true) rfl rfl (by decide) (Nat.le_of_ble_eq_true rfl) gx false rfl, fun _ _ => rfl, hR⟩
              refine StepsAt.next ?_ ?_
              · intro ρ l x W hρ hc hR hl hd
                have gx : x 119 = (.bool false) := ((hd.2.2.1 rfl).2 119 rfl)
                clear hρ
                exact .inr ⟨wanted_is (ops := _) (g := 17) (d := 119) (b := false) (want := true) rfl rfl (by decide) (Nat.le_of_ble_eq_true rfl) gx false rfl, fun _ _ => rfl, hR⟩
              refine StepsAt.next ?_ ?_
              · intro ρ l x W hρ hc hR hl hd
                have gx : x 119 = (.bool false) := ((hd.2.1 rfl).2 119 rfl)
                clear hρ
                exact .inr ⟨wanted_is (ops := _) (g := 17) (d := 119) (b := false) (want := true) rfl rfl (by decide) (Nat.le_of_ble_eq_true rfl) gx false rfl, fun _ _ => rfl, hR⟩
              refine StepsAt.next ?_ ?_
              · intro ρ l x W hρ hc hR hl hd
                have gx : x 119 = (.bool false) := ((hd.1 rfl).2 119 rfl)
                clear hρ
                exact .inr ⟨wanted_is (ops := _) (g := 17) (d := 119) (b := false) (want := true) rfl rfl (by decide) (Nat.le_of_ble_eq_true rfl) gx false rfl, fun _ _ => rfl, hR⟩
              refine StepsAt.next ?_ ?_
              · intro ρ l x W hρ hc hR hl hd
                have gx : x 119 = (.bool false) := ((hd.1 rfl).2 119 rfl)
                clear hρ
                exact .inr ⟨wanted_is (ops := _) (g := 17) (d := 119) (b := false) (want := true) rfl rfl (by decide) (Nat.le_of_ble_eq_true rfl) gx false rfl, fun _ _ => rfl, hR⟩
              refine StepsAt.next ?_ ?_
              · intro ρ l x W hρ hc hR hl hd
                have gx : x 119 = (.bool false) := ((hd.2.1 rfl).2 119 rfl)
                clear hρ
                exact .inr ⟨wanted_is (ops := _) (g := 17) (d := 119) (b := false) (want := true) rfl rfl (by decide) (Nat.le_of_ble_eq_true rfl) gx false rfl, fun _ _ => rfl, hR⟩
              refine StepsAt.next ?_ ?_
              · intro ρ l x W hρ hc hR hl hd
                have gx : x 119 = (.bool false) := ((hd.2.2.1 rfl).2 119 rfl)
                clear hρ
                exact .inr ⟨wanted_is (ops := _) (g := 17) (d := 119) (b := false) (want := true) rfl rfl (by decide) (Nat.le_of_ble_eq_true rfl) gx false rfl, fun _ _ => rfl, hR⟩
              refine StepsAt.next ?_ ?_
              · intro ρ l x W hρ hc hR hl hd
                have gx : x 119 = (.bool false) := ((hd.2.1 rfl).2 119 rfl)
                clear hρ
                exact .inr ⟨wanted_is (ops := _) (g := 17) (d := 119) (b := false) (want := true) rfl rfl (by decide) (Nat.le_of_ble_eq_true rfl) gx false rfl, fun _ _ => rfl, hR⟩
              refine StepsAt.next ?_ ?_
              · intro ρ l x W hρ hc hR hl hd
                have gx : x 119 = (.bool false) := ((hd.2.2.1 rfl).2 119 rfl)
                clear hρ
                exact .inr ⟨wanted_is (ops := _) (g := 17) (d := 119) (b := false) (want := true) rfl rfl (by decide) (Nat.le_of_ble_eq_true rfl) gx false rfl, fun _ _ => rfl, hR⟩
              refine StepsAt.next ?_ ?_
              · intro ρ l x W hρ hc hR hl hd
                have gx : x 116 = (.bool false) := ((hd.2.2.1 rfl).2 116 rfl)
                have t119 : ρ (.tmp 119) = (.bool false) := (show ρ (.tmp 119) = x 119 by rw [hρ]; rfl).trans ((hd.1 rfl).2 119 rfl)
                clear hρ
                refine .inl ⟨wanted_is (ops := _) (g := 14) (d := 116) (b := false) (want := false) rfl rfl (by decide) (Nat.le_of_ble_eq_true rfl) gx true rfl, fun R' hR' => ?_⟩
                unfold OpDoes
                go_simp
                exact hR' _ _ (Kp.refl _ _) (fun _ _ => rfl) hR
              refine StepsAt.next ?_ ?_
              · intro ρ l x W hρ hc hR hl hd
                have t116 : ρ (.tmp 116) = (.bool false) := (show ρ (.tmp 116) = x 116 by rw [hρ]; rfl).trans ((hd.1 rfl).2 116 rfl)
                have t130 : ρ (.tmp 130) = (.bool false) := (show ρ (.tmp 130) = x 130 by rw [hρ]; rfl).trans ((hd.2.1 rfl).2 130 rfl)
                clear hρ
                refine .inl ⟨rfl, fun R' hR' => ?_⟩
                unfold OpDoes
                go_simp
                exact hR' _ _ (Kp.refl _ _) (fun _ _ => rfl) hR
              refine StepsAt.next ?_ ?_
              · intro ρ l x W hρ hc hR hl hd
                have t131 : ρ (.tmp 131) = (.bool false) := (show ρ (.tmp 131) = x 131 by rw [hρ]; rfl).trans ((hd.1 rfl).2 131 rfl)
                clear hρ
                refine .inl ⟨rfl, fun R' hR' => ?_⟩
                unfold OpDoes
                go_simp
                exact hR' _ _ (Kp.refl _ _) (fun _ _ => rfl) hR
              refine StepsAt.next ?_ ?_
              · intro ρ l x W hρ hc hR hl hd
                have gx : x 132 = (.bool false) := ((hd.1 rfl).2 132 rfl)
                have t11 : ρ (.tmp 11) = (.slice (some ⟨lg, 0, none⟩) m lc) := by rw [hρ]; rfl
                clear hρ
                refine .inl ⟨wanted_is (ops := _) (g := 30) (d := 132) (b := false) (want := false) rfl rfl (by decide) (Nat.le_of_ble_eq_true rfl) gx true rfl, fun R' hR' => ?_⟩
                unfold OpDoes
                go_simp
                exact hR' _ _ (Kp.refl _ _) (fun _ _ => rfl) hR
              refine StepsAt.next ?_ ?_
              · intro ρ l x W hρ hc hR hl hd
                have gx : x 132 = (.bool false) := ((hd.1 rfl).2 132 rfl)
                have t15 : ρ (.tmp 15) = (.slice (some ⟨ag, 0, none⟩) n ac) := by rw [hρ]; rfl
                clear hρ
                refine .inl ⟨wanted_is (ops := _) (g := 30) (d := 132) (b := false) (want := false) rfl rfl (by decide) (Nat.le_of_ble_eq_true rfl) gx true rfl, fun R' hR' => ?_⟩
                unfold OpDoes
                go_simp
                exact hR' _ _ (Kp.refl _ _) (fun _ _ => rfl) hR
              refine StepsAt.next ?_ ?_
              · intro ρ l x W hρ hc hR hl hd
                have gx : x 132 = (.bool false) := ((hd.1 rfl).2 132 rfl)
                have t18 : ρ (.tmp 18) = (.int .i64 0) := by rw [hρ]; rfl
                clear hρ
                refine .inl ⟨wanted_is (ops := _) (g := 30) (d := 132) (b := false) (want := false) rfl rfl (by decide) (Nat.le_of_ble_eq_true rfl) gx true rfl, fun R' hR' => ?_⟩
                unfold OpDoes
                go_simp
                exact hR' _ _ (Kp.refl _ _) (fun _ _ => rfl) hR
              refine StepsAt.next ?_ ?_
              · intro ρ l x W hρ hc hR hl hd
                have gx : x 132 = (.bool false) := ((hd.2.2.1 rfl).2 132 rfl)
                have t134 : ρ (.tmp 134) = (.slice (some ⟨ag, 0, none⟩) n ac) := (show ρ (.tmp 134) = x 134 by rw [hρ]; rfl).trans ((hd.1 rfl).2 134 rfl)
                have t135 : ρ (.tmp 135) = (.int .i64 0) := (show ρ (.tmp 135) = x 135 by rw [hρ]; rfl).trans ((hd.2.1 rfl).2 135 rfl)
                clear hρ
                refine .inl ⟨wanted_is (ops := _) (g := 30) (d := 132) (b := false) (want := false) rfl rfl (by decide) (Nat.le_of_ble_eq_true rfl) gx true rfl, fun R' hR' => ?_⟩
                unfold OpDoes
                go_simp
                exact hR' _ _ (Kp.refl _ _) (fun _ _ => rfl) hR
              refine StepsAt.next ?_ ?_
              · intro ρ l x W hρ hc hR hl hd
                have gx : x 132 = (.bool false) := ((hd.2.1 rfl).2 132 rfl)
                have t136 : ρ (.tmp 136) = (.pointer (some ⟨ag, 0, none⟩)) := (show ρ (.tmp 136) = x 136 by rw [hρ]; rfl).trans ((hd.1 rfl).2 136 rfl)
                have ca := (hgw2.trans hR).cell' HCa.out
                clear hρ
                refine .inl ⟨wanted_is (ops := _) (g := 30) (d := 132) (b := false) (want := false) rfl rfl (by decide) (Nat.le_of_ble_eq_true rfl) gx true rfl, fun R' hR' => ?_⟩
                unfold OpDoes
                go_simp
                exact hR' _ _ (Kp.refl _ _) (fun _ _ => rfl) hR
              refine StepsAt.next ?_ ?_
              · intro ρ l x W hρ hc hR hl hd
                have gx : x 132 = (.bool false) := ((hd.2.2.1 rfl).2 132 rfl)
                have t133 : ρ (.tmp 133) = (.slice (some ⟨lg, 0, none⟩) m lc) := (show ρ (.tmp 133) = x 133 by rw [hρ]; rfl).trans ((hd.1 rfl).2 133 rfl)
                have t137 : ρ (.tmp 137) = (.int .i64 (q : Int)) := (show ρ (.tmp 137) = x 137 by rw [hρ]; rfl).trans ((hd.2.1 rfl).2 137 rfl)
                clear hρ
                refine .inl ⟨wanted_is (ops := _) (g := 30) (d := 132) (b := false) (want := false) rfl rfl (by decide) (Nat.le_of_ble_eq_true rfl) gx true rfl, fun R' hR' => ?_⟩
                unfold OpDoes
                go_simp
                exact hR' _ _ (Kp.refl _ _) (fun _ _ => rfl) hR
              refine StepsAt.next ?_ ?_
              · intro ρ l x W hρ hc hR hl hd
                have gx : x 132 = (.bool false) := ((hd.2.1 rfl).2 132 rfl)
                have t138 : ρ (.tmp 138) = (.pointer (some ⟨lg, q * 4, none⟩)) := (show ρ (.tmp 138) = x 138 by rw [hρ]; rfl).trans ((hd.1 rfl).2 138 rfl)
                have c0 := (hgw2.trans hR).cell' HC.out.1
                have c1 := (hgw2.trans hR).cell' HC.out.2.1
                have c2 := (hgw2.trans hR).cell' HC.out.2.2.1
                have c3 := (hgw2.trans hR).cell' HC.out.2.2.2
                clear hρ
                refine .inl ⟨wanted_is (ops := _) (g := 30) (d := 132) (b := false) (want := false) rfl rfl (by decide) (Nat.le_of_ble_eq_true rfl) gx true rfl, fun R' hR' => ?_⟩
                unfold OpDoes
                go_simp
                exact hR' _ _ (Kp.refl _ _) (fun _ _ => rfl) hR
              refine StepsAt.next ?_ ?_
              · intro ρ l x W hρ hc hR hl hd
                have gx : x 132 = (.bool false) := ((hd.1 rfl).2 132 rfl)
                have t16 : ρ (.tmp 16) = (.pointer (some ⟨ab, 0, none⟩)) := by rw [hρ]; rfl
                have c0 := (hgw2.trans hR).cell' HRr.out.1
                have c1 := (hgw2.trans hR).cell' HRr.out.2.1
                have c2 := (hgw2.trans hR).cell' HRr.out.2.2.1
                have c3 := (hgw2.trans hR).cell' HRr.out.2.2.2
                clear hρ
                refine .inl ⟨wanted_is (ops := _) (g := 30) (d := 132) (b := false) (want := false) rfl rfl (by decide) (Nat.le_of_ble_eq_true rfl) gx true rfl, fun R' hR' => ?_⟩
                unfold OpDoes
                go_simp
                exact hR' _ _ (Kp.refl _ _) (fun _ _ => rfl) hR
              refine StepsAt.next ?_ ?_
              · intro ρ l x W hρ hc hR hl hd
                have gx : x 132 = (.bool false) := ((hd.2.2.1 rfl).2 132 rfl)
                have t139 : ρ (.tmp 139) = (.agg #[.int .i64 b0, .int .i64 b1, .int .i64 b2, .int .i64 b3]) := (show ρ (.tmp 139) = x 139 by rw [hρ]; rfl).trans ((hd.1 rfl).2 139 rfl)
                have t140 : ρ (.tmp 140) = (.agg #[.int .i64 q0, .int .i64 q1, .int .i64 q2, .int .i64 q3]) := (show ρ (.tmp 140) = x 140 by rw [hρ]; rfl).trans ((hd.2.1 rfl).2 140 rfl)
                have tf : ρ (.func 13) = .func (.func 13) #[] #[] := by rw [hρ]; rfl
                clear hρ
                refine .inl ⟨wanted_is (ops := _) (g := 30) (d := 132) (b := false) (want := false) rfl rfl (by decide) (Nat.le_of_ble_eq_true rfl) gx true rfl, fun R' hR' => ?_⟩
                unfold OpDoes
                go_simp
                refine (HMm.out W).mono ?_
                rintro e w' ⟨rfl, hg⟩
                exact ⟨_, rfl, hR' _ _ (hg.kp _) (fun _ _ => rfl) (hR.trans hg)⟩
              refine StepsAt.next ?_ ?_
              · intro ρ l x W hρ hc hR hl hd
                have gx : x 132 = (.bool false) := ((hd.2.1 rfl).2 132 rfl)
                have t141 : ρ (.tmp 141) = (.bool true) := (show ρ (.tmp 141) = x 141 by rw [hρ]; rfl).trans ((hd.1 rfl).2 141 rfl)
                clear hρ
                refine .inl ⟨wanted_is (ops := _) (g := 30) (d := 132) (b := false) (want := false) rfl rfl (by decide) (Nat.le_of_ble_eq_true rfl) gx true rfl, fun R' hR' => ?_⟩
                unfold OpDoes
                go_simp
                exact hR' _ _ (Kp.refl _ _) (fun _ _ => rfl) hR
              refine StepsAt.next ?_ ?_
              · intro ρ l x W hρ hc hR hl hd
                have t132 : ρ (.tmp 132) = (.bool false) := (show ρ (.tmp 132) = x 132 by rw [hρ]; rfl).trans ((hd.1 rfl).2 132 rfl)
                have t142 : ρ (.tmp 142) = (.bool false) := (show ρ (.tmp 142) = x 142 by rw [hρ]; rfl).trans ((hd.2.1 rfl).2 142 rfl)
                clear hρ
                refine .inl ⟨rfl, fun R' hR' => ?_⟩
                unfold OpDoes
                go_simp
                exact hR' _ _ (Kp.refl _ _) (fun _ _ => rfl) hR
              exact trivial
            · intro l x W hR hall hV
              have h143 : x 143 = .bool false := hV 41 143 rfl
              clear hall hV
              simp only [Fr, mapFrom, List.mem_cons, List.not_mem_nil, or_false, Nat.reduceAdd]
              simp only [Nat.reduceEqDiff, reduceIte, or_false, or_self, or_true]
              rw [h143]
              have hgw3 := hgw2.trans hR
              go_wp2_with fail
              go_roundg (n - (0 + 1))
              case measure => omega
              case rel => exact ⟨0 + 1, by omega, by omega, by go_num, by (repeat' (first | (with_reducible assumption) | (with_reducible exact Grew.refl _) | (with_reducible refine Grew.alloc ?_ _) | (with_reducible refine Grew.drew ?_) | (with_reducible refine Grew.drewN ?_ _) | (with_reducible refine Grew.setCell ?_ ?_ _) | (simp; done) | (simp; omega)))⟩
          · obtain ⟨jj, rfl⟩ : ∃ jj, j = jj + 1 := ⟨j - 1, by omega⟩
            have hjz : (0 : Int) < (jj : Int) + 1 := by omega
            have hjz2 : (jj : Int) + 1 < (n : Int) := by omega
            have hjz3 : (0 : Int) ≤ (jj : Int) := by omega
            have hjz4 : (jj : Int) < (n : Int) := by omega
            have hjj : jj < A.length := by have := HN.out; omega
            have cb0 := HSA9.out.cell jj hjj
            have hlt := List.pairwise_iff_getElem.1 HAsc.out jj (jj + 1) hjj hjA (by omega)
            rw [hqe] at hlt
            obtain ⟨vv, hvv⟩ : ∃ vv, A[jj] = vv := ⟨_, rfl⟩
            rw [hvv] at cb0 hlt
            have HCb : Aside (w9.cell? ⟨ag, jj, none⟩ = some (.int .i64 vv)) := cb0
            have hle : ¬ (q : Int) ≤ vv := by omega
            have wbj1 : IntKind.i64.wrap (jj : Int) = (jj : Int) := IntWalk.i64_in _ (by omega)
            have wbj2 : IntKind.i64.wrap ((jj : Int) + 1 - 1) = (jj : Int) := by rw [Int.add_sub_cancel]; exact wbj1
            clear hjA hqe cb0 hvv hjj hj0
            go_wp2_with fail
            refine wp_region_facts (by kernel_rfl) [] [102, 103, 104, 105, 106, 107, 108, 109, 110, 111, 112, 113, 114, 115, 116, 117, 118, 119, 120, 121, 122, 123, 124, 125, 126, 127, 128, 129, 130, 131, 132, 133, 134, 135, 136, 137, 138, 139, 140, 141, 142, 143] (by kernel_rfl) (fun j v _ => v = ([(.slice (some ⟨ag, 0, none⟩) n ac), (.int .i64 ((jj : Int) + 1)), (.pointer (some ⟨ag, jj + 1, none⟩)), (.int .i64 (q : Int)), (.bool false), (.bool false), (.slice (some ⟨ag, 0, none⟩) n ac), (.int .i64 ((jj : Int) + 1)), (.pointer (some ⟨ag, jj + 1, none⟩)), (.int .i64 (q : Int)), (.slice (some ⟨lg, 0, none⟩) m lc), (.int .i64 (m : Int)), (.bool false), (.bool false), (.bool false), (.int .i64 ((jj : Int) + 1)), (.bool true), (.bool true), (.slice (some ⟨ag, 0, none⟩) n ac), (.int .i64 ((jj : Int) + 1)), (.pointer (some ⟨ag, jj + 1, none⟩)), (.int .i64 (q : Int)), (.slice (some ⟨ag, 0, none⟩) n ac), (.int .i64 ((jj : Int) + 1)), (.int .i64 (jj : Int)), (.pointer (some ⟨ag, jj, none⟩)), (.int .i64 vv), (.bool false), (.bool false), (.bool false), (.bool false), (.slice (some ⟨lg, 0, none⟩) m lc), (.slice (some ⟨ag, 0, none⟩) n ac), (.int .i64 ((jj : Int) + 1)), (.pointer (some ⟨ag, jj + 1, none⟩)), (.int .i64 (q : Int)), (.pointer (some ⟨lg, q * 4, none⟩)), (.agg #[.int .i64 b0, .int .i64 b1, .int .i64 b2, .int .i64 b3]), (.agg #[.int .i64 q0, .int .i64 q1, .int .i64 q2, .int .i64 q3]), (.bool true), (.bool false), (.bool false)] : List Value).getD j undef) (fun _ _ _ _ _ h => h) (fun _ _ W => Grew wr W) (fun _ => (Grew.refl _).drew) ?_ ?_
            · refine StepsAt.next ?_ ?_
              · intro ρ l x W hρ hc hR hl hd
                have t15 : ρ (.tmp 15) = (.slice (some ⟨ag, 0, none⟩) n ac) := by rw [hρ]; rfl
                clear hρ
                refine .inl ⟨rfl, fun R' hR' => ?_⟩
                unfold OpDoes
                go_simp
                exact hR' _ _ (Kp.refl _ _) (fun _ _ => rfl) hR
              refine StepsAt.next ?_ ?_
              · intro ρ l x W hρ hc hR hl hd
                have t18 : ρ (.tmp 18) = (.int .i64 ((jj : Int) + 1)) := by rw [hρ]; rfl
                clear hρ
                refine .inl ⟨rfl, fun R' hR' => ?_⟩
                unfold OpDoes
                go_simp
                exact hR' _ _ (Kp.refl _ _) (fun _ _ => rfl) hR
              refine StepsAt.next ?_ ?_
              · intro ρ l x W hρ hc hR hl hd
                have t102 : ρ (.tmp 102) = (.slice (some ⟨ag, 0, none⟩) n ac) := (show ρ (.tmp 102) = x 102 by rw [hρ]; rfl).trans ((hd.1 rfl).2 102 rfl)
                have t103 : ρ (.tmp 103) = (.int .i64 ((jj : Int) + 1)) := (show ρ (.tmp 103) = x 103 by rw [hρ]; rfl).trans ((hd.2.1 rfl).2 103 rfl)
                clear hρ
                refine .inl ⟨rfl, fun R' hR' => ?_⟩
                unfold OpDoes
                go_simp
                exact hR' _ _ (Kp.refl _ _) (fun _ _ => rfl) hR
              refine StepsAt.next ?_ ?_
              · intro ρ l x W hρ hc hR hl hd
                have t104 : ρ (.tmp 104) = (.pointer (some ⟨ag, jj + 1, none⟩)) := (show ρ (.tmp 104) = x 104 by rw [hρ]; rfl).trans ((hd.1 rfl).2 104 rfl)
                have ca := (hgw2.trans hR).cell' HCa.out
                clear hρ
                refine .inl ⟨rfl, fun R' hR' => ?_⟩
                unfold OpDoes
                go_simp
                exact hR' _ _ (Kp.refl _ _) (fun _ _ => rfl) hR
              refine StepsAt.next ?_ ?_
              · intro ρ l x W hρ hc hR hl hd
                have t105 : ρ (.tmp 105) = (.int .i64 (q : Int)) := (show ρ (.tmp 105) = x 105 by rw [hρ]; rfl).trans ((hd.1 rfl).2 105 rfl)
                clear hρ
                refine .inl ⟨rfl, fun R' hR' => ?_⟩
                unfold OpDoes
                go_simp
                exact hR' _ _ (Kp.refl _ _) (fun _ _ => (by first | rfl | (simp; done) | (simp; omega))) hR
              refine StepsAt.next ?_ ?_
              · intro ρ l x W hρ hc hR hl hd
                have t106 : ρ (.tmp 106) = (.bool false) := (show ρ (.tmp 106) = x 106 by rw [hρ]; rfl).trans ((hd.1 rfl).2 106 rfl)
                clear hρ
                refine .inl ⟨rfl, fun R' hR' => ?_⟩
                unfold OpDoes
                go_simp
                exact hR' _ _ (Kp.refl _ _) (fun _ _ => rfl) hR
              refine StepsAt.next ?_ ?_
              · intro ρ l x W hρ hc hR hl hd
                have gx : x 107 = (.bool false) := ((hd.1 rfl).2 107 rfl)
                have t15 : ρ (.tmp 15) = (.slice (some ⟨ag, 0, none⟩) n ac) := by rw [hρ]; rfl
                clear hρ
                refine .inl ⟨wanted_is (ops := _) (g := 5) (d := 107) (b := false) (want := false) rfl rfl (by decide) (Nat.le_of_ble_eq_true rfl) gx true rfl, fun R' hR' => ?_⟩
                unfold OpDoes
                go_simp
                exact hR' _ _ (Kp.refl _ _) (fun _ _ => rfl) hR
              refine StepsAt.next ?_ ?_
              · intro ρ l x W hρ hc hR hl hd
                have gx : x 107 = (.bool false) := ((hd.1 rfl).2 107 rfl)
                have t18 : ρ (.tmp 18) = (.int .i64 ((jj : Int) + 1)) := by rw [hρ]; rfl
                clear hρ
                refine .inl ⟨wanted_is (ops := _) (g := 5) (d := 107) (b := false) (want := false) rfl rfl (by decide) (Nat.le_of_ble_eq_true rfl) gx true rfl, fun R' hR' => ?_⟩
                unfold OpDoes
                go_simp
                exact hR' _ _ (Kp.refl _ _) (fun _ _ => rfl) hR
              refine StepsAt.next ?_ ?_
              · intro ρ l x W hρ hc hR hl hd
                have gx : x 107 = (.bool false) := ((hd.2.2.1 rfl).2 107 rfl)
                have t108 : ρ (.tmp 108) = (.slice (some ⟨ag, 0, none⟩) n ac) := (show ρ (.tmp 108) = x 108 by rw [hρ]; rfl).trans ((hd.1 rfl).2 108 rfl)
                have t109 : ρ (.tmp 109) = (.int .i64 ((jj : Int) + 1)) := (show ρ (.tmp 109) = x 109 by rw [hρ]; rfl).trans ((hd.2.1 rfl).2 109 rfl)
                clear hρ
                refine .inl ⟨wanted_is (ops := _) (g := 5) (d := 107) (b := false) (want := false) rfl rfl (by decide) (Nat.le_of_ble_eq_true rfl) gx true rfl, fun R' hR' => ?_⟩
                unfold OpDoes
                go_simp
                exact hR' _ _ (Kp.refl _ _) (fun _ _ => rfl) hR
              refine StepsAt.next ?_ ?_
              · intro ρ l x W hρ hc hR hl hd
                have gx : x 107 = (.bool false) := ((hd.2.1 rfl).2 107 rfl)
                have t110 : ρ (.tmp 110) = (.pointer (some ⟨ag, jj + 1, none⟩)) := (show ρ (.tmp 110) = x 110 by rw [hρ]; rfl).trans ((hd.1 rfl).2 110 rfl)
                have ca := (hgw2.trans hR).cell' HCa.out
                clear hρ
                refine .inl ⟨wanted_is (ops := _) (g := 5) (d := 107) (b := false) (want := false) rfl rfl (by decide) (Nat.le_of_ble_eq_true rfl) gx true rfl, fun R' hR' => ?_⟩
                unfold OpDoes
                go_simp
                exact hR' _ _ (Kp.refl _ _) (fun _ _ => rfl) hR
              refine StepsAt.next ?_ ?_
              · intro ρ l x W hρ hc hR hl hd
                have gx : x 107 = (.bool false) := ((hd.1 rfl).2 107 rfl)
                have t11 : ρ (.tmp 11) = (.slice (some ⟨lg, 0, none⟩) m lc) := by rw [hρ]; rfl
                clear hρ
                refine .inl ⟨wanted_is (ops := _) (g := 5) (d := 107) (b := false) (want := false) rfl rfl (by decide) (Nat.le_of_ble_eq_true rfl) gx true rfl, fun R' hR' => ?_⟩
                unfold OpDoes
                go_simp
                exact hR' _ _ (Kp.refl _ _) (fun _ _ => rfl) hR
              refine StepsAt.next ?_ ?_
              · intro ρ l x W hρ hc hR hl hd
                have gx : x 107 = (.bool false) := ((hd.2.1 rfl).2 107 rfl)
                have t112 : ρ (.tmp 112) = (.slice (some ⟨lg, 0, none⟩) m lc) := (show ρ (.tmp 112) = x 112 by rw [hρ]; rfl).trans ((hd.1 rfl).2 112 rfl)
                clear hρ
                refine .inl ⟨wanted_is (ops := _) (g := 5) (d := 107) (b := false) (want := false) rfl rfl (by decide) (Nat.le_of_ble_eq_true rfl) gx true rfl, fun R' hR' => ?_⟩
                unfold OpDoes
                go_simp
                exact hR' _ _ (Kp.refl _ _) (fun _ _ => rfl) hR
              refine StepsAt.next ?_ ?_
              · intro ρ l x W hρ hc hR hl hd
                have gx : x 107 = (.bool false) := ((hd.2.2.1 rfl).2 107 rfl)
                have t111 : ρ (.tmp 111) = (.int .i64 (q : Int)) := (show ρ (.tmp 111) = x 111 by rw [hρ]; rfl).trans ((hd.1 rfl).2 111 rfl)
                have t113 : ρ (.tmp 113) = (.int .i64 (m : Int)) := (show ρ (.tmp 113) = x 113 by rw [hρ]; rfl).trans ((hd.2.1 rfl).2 113 rfl)
                clear hρ
                refine .inl ⟨wanted_is (ops := _) (g := 5) (d := 107) (b := false) (want := false) rfl rfl (by decide) (Nat.le_of_ble_eq_true rfl) gx true rfl, fun R' hR' => ?_⟩
                unfold OpDoes
                go_simp
                exact hR' _ _ (Kp.refl _ _) (fun _ _ => (by first | rfl | (simp; done) | (simp; omega))) hR
              refine StepsAt.next ?_ ?_
              · intro ρ l x W hρ hc hR hl hd
                have t107 : ρ (.tmp 107) = (.bool false) := (show ρ (.tmp 107) = x 107 by rw [hρ]; rfl).trans ((hd.1 rfl).2 107 rfl)
                have t114 : ρ (.tmp 114) = (.bool false) := (show ρ (.tmp 114) = x 114 by rw [hρ]; rfl).trans ((hd.2.1 rfl).2 114 rfl)
                clear hρ
                refine .inl ⟨rfl, fun R' hR' => ?_⟩
                unfold OpDoes
                go_simp
                exact hR' _ _ (Kp.refl _ _) (fun _ _ => rfl) hR
              refine StepsAt.next ?_ ?_
              · intro ρ l x W hρ hc hR hl hd
                have t115 : ρ (.tmp 115) = (.bool false) := (show ρ (.tmp 115) = x 115 by rw [hρ]; rfl).trans ((hd.1 rfl).2 115 rfl)
                clear hρ
                refine .inl ⟨rfl, fun R' hR' => ?_⟩
                unfold OpDoes
                go_simp
                exact hR' _ _ (Kp.refl _ _) (fun _ _ => rfl) hR
              refine StepsAt.next ?_ ?_
              · intro ρ l x W hρ hc hR hl hd
                have gx : x 116 = (.bool false) := ((hd.1 rfl).2 116 rfl)
                have t18 : ρ (.tmp 18) = (.int .i64 ((jj : Int) + 1)) := by rw [hρ]; rfl
                clear hρ
                refine .inl ⟨wanted_is (ops := _) (g := 14) (d := 116) (b := false) (want := false) rfl rfl (by decide) (Nat.le_of_ble_eq_true rfl) gx true rfl, fun R' hR' => ?_⟩
                unfold OpDoes
                go_simp
                exact hR' _ _ (Kp.refl _ _) (fun _ _ => rfl) hR
              refine StepsAt.next ?_ ?_
              · intro ρ l x W hρ hc hR hl hd
                have gx : x 116 = (.bool false) := ((hd.2.1 rfl).2 116 rfl)
                have t117 : ρ (.tmp 117) = (.int .i64 ((jj : Int) + 1)) := (show ρ (.tmp 117) = x 117 by rw [hρ]; rfl).trans ((hd.1 rfl).2 117 rfl)
                clear hρ
                refine .inl ⟨wanted_is (ops := _) (g := 14) (d := 116) (b := false) (want := false) rfl rfl (by decide) (Nat.le_of_ble_eq_true rfl) gx true rfl, fun R' hR' => ?_⟩
                unfold OpDoes
                go_simp
                exact hR' _ _ (Kp.refl _ _) (fun _ _ => (by first | rfl | (simp; done) | (simp; omega))) hR
              refine StepsAt.next ?_ ?_
              · intro ρ l x W hρ hc hR hl hd
                have gx : x 116 = (.bool false) := ((hd.2.1 rfl).2 116 rfl)
                have t118 : ρ (.tmp 118) = (.bool true) := (show ρ (.tmp 118) = x 118 by rw [hρ]; rfl).trans ((hd.1 rfl).2 118 rfl)
                clear hρ
                refine .inl ⟨wanted_is (ops := _) (g := 14) (d := 116) (b := false) (want := false) rfl rfl (by decide) (Nat.le_of_ble_eq_true rfl) gx true rfl, fun R' hR' => ?_⟩
                unfold OpDoes
                go_simp
                exact hR' _ _ (Kp.refl _ _) (fun _ _ => rfl) hR
              refine StepsAt.next ?_ ?_
              · intro ρ l x W hρ hc hR hl hd
                have gx : x 119 = (.bool true) := ((hd.1 rfl).2 119 rfl)
                have t15 : ρ (.tmp 15) = (.slice (some ⟨ag, 0, none⟩) n ac) := by rw [hρ]; rfl
                clear hρ
                refine .inl ⟨wanted_is (ops := _) (g := 17) (d := 119) (b := true) (want := true) rfl rfl (by decide) (Nat.le_of_ble_eq_true rfl) gx true rfl, fun R' hR' => ?_⟩
                unfold OpDoes
                go_simp
                exact hR' _ _ (Kp.refl _ _) (fun _ _ => rfl) hR
              refine StepsAt.next ?_ ?_
              · intro ρ l x W hρ hc hR hl hd
                have gx : x 119 = (.bool true) := ((hd.1 rfl).2 119 rfl)
                have t18 : ρ (.tmp 18) = (.int .i64 ((jj : Int) + 1)) := by rw [hρ]; rfl
                clear hρ
                refine .inl ⟨wanted_is (ops := _) (g := 17) (d := 119) (b := true) (want := true) rfl rfl (by decide) (Nat.le_of_ble_eq_true rfl) gx true rfl, fun R' hR' => ?_⟩
                unfold OpDoes
                go_simp
                exact hR' _ _ (Kp.refl _ _) (fun _ _ => rfl) hR
              refine StepsAt.next ?_ ?_
              · intro ρ l x W hρ hc hR hl hd
                have gx : x 119 = (.bool true) := ((hd.2.2.1 rfl).2 119 rfl)
                have t120 : ρ (.tmp 120) = (.slice (some ⟨ag, 0, none⟩) n ac) := (show ρ (.tmp 120) = x 120 by rw [hρ]; rfl).trans ((hd.1 rfl).2 120 rfl)
                have t121 : ρ (.tmp 121) = (.int .i64 ((jj : Int) + 1)) := (show ρ (.tmp 121) = x 121 by rw [hρ]; rfl).trans ((hd.2.1 rfl).2 121 rfl)
                clear hρ
                refine .inl ⟨wanted_is (ops := _) (g := 17) (d := 119) (b := true) (want := true) rfl rfl (by decide) (Nat.le_of_ble_eq_true rfl) gx true rfl, fun R' hR' => ?_⟩
                unfold OpDoes
                go_simp
                exact hR' _ _ (Kp.refl _ _) (fun _ _ => rfl) hR
              refine StepsAt.next ?_ ?_
              · intro ρ l x W hρ hc hR hl hd
                have gx : x 119 = (.bool true) := ((hd.2.1 rfl).2 119 rfl)
                have t122 : ρ (.tmp 122) = (.pointer (some ⟨ag, jj + 1, none⟩)) := (show ρ (.tmp 122) = x 122 by rw [hρ]; rfl).trans ((hd.1 rfl).2 122 rfl)
                have ca := (hgw2.trans hR).cell' HCa.out
                clear hρ
                refine .inl ⟨wanted_is (ops := _) (g := 17) (d := 119) (b := true) (want := true) rfl rfl (by decide) (Nat.le_of_ble_eq_true rfl) gx true rfl, fun R' hR' => ?_⟩
                unfold OpDoes
                go_simp
                exact hR' _ _ (Kp.refl _ _) (fun _ _ => rfl) hR
              refine StepsAt.next ?_ ?_
              · intro ρ l x W hρ hc hR hl hd
                have gx : x 119 = (.bool true) := ((hd.1 rfl).2 119 rfl)
                have t15 : ρ (.tmp 15) = (.slice (some ⟨ag, 0, none⟩) n ac) := by rw [hρ]; rfl
                clear hρ
                refine .inl ⟨wanted_is (ops := _) (g := 17) (d := 119) (b := true) (want := true) rfl rfl (by decide) (Nat.le_of_ble_eq_true rfl) gx true rfl, fun R' hR' => ?_⟩
                unfold OpDoes
                go_simp
                exact hR' _ _ (Kp.refl _ _) (fun _ _ => rfl) hR
              refine StepsAt.next ?_ ?_
              · intro ρ l x W hρ hc hR hl hd
                have gx : x 119 = (.bool true) := ((hd.1 rfl).2 119 rfl)
                have t18 : ρ (.tmp 18) = (.int .i64 ((jj : Int) + 1)) := by rw [hρ]; rfl
                clear hρ
                refine .inl ⟨wanted_is (ops := _) (g := 17) (d := 119) (b := true) (want := true) rfl rfl (by decide) (Nat.le_of_ble_eq_true rfl) gx true rfl, fun R' hR' => ?_⟩
                unfold OpDoes
                go_simp
                exact hR' _ _ (Kp.refl _ _) (fun _ _ => rfl) hR
              refine StepsAt.next ?_ ?_
              · intro ρ l x W hρ hc hR hl hd
                have gx : x 119 = (.bool true) := ((hd.2.1 rfl).2 119 rfl)
                have t125 : ρ (.tmp 125) = (.int .i64 ((jj : Int) + 1)) := (show ρ (.tmp 125) = x 125 by rw [hρ]; rfl).trans ((hd.1 rfl).2 125 rfl)
                clear hρ
                refine .inl ⟨wanted_is (ops := _) (g := 17) (d := 119) (b := true) (want := true) rfl rfl (by decide) (Nat.le_of_ble_eq_true rfl) gx true rfl, fun R' hR' => ?_⟩
                unfold OpDoes
                go_simp
                exact hR' _ _ (Kp.refl _ _) (fun _ _ => (by first | rfl | (simp; done) | (simp; omega))) hR
              refine StepsAt.next ?_ ?_
              · intro ρ l x W hρ hc hR hl hd
                have gx : x 119 = (.bool true) := ((hd.2.2.1 rfl).2 119 rfl)
                have t124 : ρ (.tmp 124) = (.slice (some ⟨ag, 0, none⟩) n ac) := (show ρ (.tmp 124) = x 124 by rw [hρ]; rfl).trans ((hd.1 rfl).2 124 rfl)
                have t126 : ρ (.tmp 126) = (.int .i64 (jj : Int)) := (show ρ (.tmp 126) = x 126 by rw [hρ]; rfl).trans ((hd.2.1 rfl).2 126 rfl)
                clear hρ
                refine .inl ⟨wanted_is (ops := _) (g := 17) (d := 119) (b := true) (want := true) rfl rfl (by decide) (Nat.le_of_ble_eq_true rfl) gx true rfl, fun R' hR' => ?_⟩
                unfold OpDoes
                go_simp
                exact hR' _ _ (Kp.refl _ _) (fun _ _ => rfl) hR
              refine StepsAt.next ?_ ?_
              · intro ρ l x W hρ hc hR hl hd
                have gx : x 119 = (.bool true) := ((hd.2.1 rfl).2 119 rfl)
                have t127 : ρ (.tmp 127) = (.pointer (some ⟨ag, jj, none⟩)) := (show ρ (.tmp 127) = x 127 by rw [hρ]; rfl).trans ((hd.1 rfl).2 127 rfl)
                have cb := (hgw2.trans hR).cell' HCb.out
                clear hρ
                refine .inl ⟨wanted_is (ops := _) (g := 17) (d := 119) (b := true) (want := true) rfl rfl (by decide) (Nat.le_of_ble_eq_true rfl) gx true rfl, fun R' hR' => ?_⟩
                unfold OpDoes
                go_simp
                exact hR' _ _ (Kp.refl _ _) (fun _ _ => rfl) hR
              refine StepsAt.next ?_ ?_
              · intro ρ l x W hρ hc hR hl hd
                have gx : x 119 = (.bool true) := ((hd.2.2.1 rfl).2 119 rfl)
                have t123 : ρ (.tmp 123) = (.int .i64 (q : Int)) := (show ρ (.tmp 123) = x 123 by rw [hρ]; rfl).trans ((hd.1 rfl).2 123 rfl)
                have t128 : ρ (.tmp 128) = (.int .i64 vv) := (show ρ (.tmp 128) = x 128 by rw [hρ]; rfl).trans ((hd.2.1 rfl).2 128 rfl)
                clear hρ
                refine .inl ⟨wanted_is (ops := _) (g := 17) (d := 119) (b := true) (want := true) rfl rfl (by decide) (Nat.le_of_ble_eq_true rfl) gx true rfl, fun R' hR' => ?_⟩
                unfold OpDoes
                go_simp
                exact hR' _ _ (Kp.refl _ _) (fun _ _ => (by first | rfl | (simp; done) | (simp; omega))) hR
              refine StepsAt.next ?_ ?_
              · intro ρ l x W hρ hc hR hl hd
                have gx : x 116 = (.bool false) := ((hd.2.2.1 rfl).2 116 rfl)
                have t119 : ρ (.tmp 119) = (.bool true) := (show ρ (.tmp 119) = x 119 by rw [hρ]; rfl).trans ((hd.1 rfl).2 119 rfl)
                have t129 : ρ (.tmp 129) = (.bool false) := (show ρ (.tmp 129) = x 129 by rw [hρ]; rfl).trans ((hd.2.1 rfl).2 129 rfl)
                clear hρ
                refine .inl ⟨wanted_is (ops := _) (g := 14) (d := 116) (b := false) (want := false) rfl rfl (by decide) (Nat.le_of_ble_eq_true rfl) gx true rfl, fun R' hR' => ?_⟩
                unfold OpDoes
                go_simp
                exact hR' _ _ (Kp.refl _ _) (fun _ _ => rfl) hR
              refine StepsAt.next ?_ ?_
              · intro ρ l x W hρ hc hR hl hd
                have t116 : ρ (.tmp 116) = (.bool false) := (show ρ (.tmp 116) = x 116 by rw [hρ]; rfl).trans ((hd.1 rfl).2 116 rfl)
                have t130 : ρ (.tmp 130) = (.bool false) := (show ρ (.tmp 130) = x 130 by rw [hρ]; rfl).trans ((hd.2.1 rfl).2 130 rfl)
                clear hρ
                refine .inl ⟨rfl, fun R' hR' => ?_⟩
                unfold OpDoes
                go_simp
                exact hR' _ _ (Kp.refl _ _) (fun _ _ => rfl) hR
              refine StepsAt.next ?_ ?_
              · intro ρ l x W hρ hc hR hl hd
                have t131 : ρ (.tmp 131) = (.bool false) := (show ρ (.tmp 131) = x 131 by rw [hρ]; rfl).trans ((hd.1 rfl).2 131 rfl)
                clear hρ
                refine .inl ⟨rfl, fun R' hR' => ?_⟩
                unfold OpDoes
                go_simp
                exact hR' _ _ (Kp.refl _ _) (fun _ _ => rfl) hR
              refine StepsAt.next ?_ ?_
              · intro ρ l x W hρ hc hR hl hd
                have gx : x 132 = (.bool false) := ((hd.1 rfl).2 132 rfl)
                have t11 : ρ (.tmp 11) = (.slice (some ⟨lg, 0, none⟩) m lc) := by rw [hρ]; rfl
                clear hρ
                refine .inl ⟨wanted_is (ops := _) (g := 30) (d := 132) (b := false) (want := false) rfl rfl (by decide) (Nat.le_of_ble_eq_true rfl) gx true rfl, fun R' hR' => ?_⟩
                unfold OpDoes
                go_simp
                exact hR' _ _ (Kp.refl _ _) (fun _ _ => rfl) hR
              refine StepsAt.next ?_ ?_
              · intro ρ l x W hρ hc hR hl hd
                have gx : x 132 = (.bool false) := ((hd.1 rfl).2 132 rfl)
                have t15 : ρ (.tmp 15) = (.slice (some ⟨ag, 0, none⟩) n ac) := by rw [hρ]; rfl
                clear hρ
                refine .inl ⟨wanted_is (ops := _) (g := 30) (d := 132) (b := false) (want := false) rfl rfl (by decide) (Nat.le_of_ble_eq_true rfl) gx true rfl, fun R' hR' => ?_⟩
                unfold OpDoes
                go_simp
                exact hR' _ _ (Kp.refl _ _) (fun _ _ => rfl) hR
              refine StepsAt.next ?_ ?_
              · intro ρ l x W hρ hc hR hl hd
                have gx : x 132 = (.bool false) := ((hd.1 rfl).2 132 rfl)
                have t18 : ρ (.tmp 18) = (.int .i64 ((jj : Int) + 1)) := by rw [hρ]; rfl
                clear hρ
                refine .inl ⟨wanted_is (ops := _) (g := 30) (d := 132) (b := false) (want := false) rfl rfl (by decide) (Nat.le_of_ble_eq_true rfl) gx true rfl, fun R' hR' => ?_⟩
                unfold OpDoes
                go_simp
                exact hR' _ _ (Kp.refl _ _) (fun _ _ => rfl) hR
              refine StepsAt.next ?_ ?_
              · intro ρ l x W hρ hc hR hl hd
                have gx : x 132 = (.bool false) := ((hd.2.2.1 rfl).2 132 rfl)
                have t134 : ρ (.tmp 134) = (.slice (some ⟨ag, 0, none⟩) n ac) := (show ρ (.tmp 134) = x 134 by rw [hρ]; rfl).trans ((hd.1 rfl).2 134 rfl)
                have t135 : ρ (.tmp 135) = (.int .i64 ((jj : Int) + 1)) := (show ρ (.tmp 135) = x 135 by rw [hρ]; rfl).trans ((hd.2.1 rfl).2 135 rfl)
                clear hρ
                refine .inl ⟨wanted_is (ops := _) (g := 30) (d := 132) (b := false) (want := false) rfl rfl (by decide) (Nat.le_of_ble_eq_true rfl) gx true rfl, fun R' hR' => ?_⟩
                unfold OpDoes
                go_simp
                exact hR' _ _ (Kp.refl _ _) (fun _ _ => rfl) hR
              refine StepsAt.next ?_ ?_
              · intro ρ l x W hρ hc hR hl hd
                have gx : x 132 = (.bool false) := ((hd.2.1 rfl).2 132 rfl)
                have t136 : ρ (.tmp 136) = (.pointer (some ⟨ag, jj + 1, none⟩)) := (show ρ (.tmp 136) = x 136 by rw [hρ]; rfl).trans ((hd.1 rfl).2 136 rfl)
                have ca := (hgw2.trans hR).cell' HCa.out
                clear hρ
                refine .inl ⟨wanted_is (ops := _) (g := 30) (d := 132) (b := false) (want := false) rfl rfl (by decide) (Nat.le_of_ble_eq_true rfl) gx true rfl, fun R' hR' => ?_⟩
                unfold OpDoes
                go_simp
                exact hR' _ _ (Kp.refl _ _) (fun _ _ => rfl) hR
              refine StepsAt.next ?_ ?_
              · intro ρ l x W hρ hc hR hl hd
                have gx : x 132 = (.bool false) := ((hd.2.2.1 rfl).2 132 rfl)
                have t133 : ρ (.tmp 133) = (.slice (some ⟨lg, 0, none⟩) m lc) := (show ρ (.tmp 133) = x 133 by rw [hρ]; rfl).trans ((hd.1 rfl).2 133 rfl)
                have t137 : ρ (.tmp 137) = (.int .i64 (q : Int)) := (show ρ (.tmp 137) = x 137 by rw [hρ]; rfl).trans ((hd.2.1 rfl).2 137 rfl)
                clear hρ
                refine .inl ⟨wanted_is (ops := _) (g := 30) (d := 132) (b := false) (want := false) rfl rfl (by decide) (Nat.le_of_ble_eq_true rfl) gx true rfl, fun R' hR' => ?_⟩
                unfold OpDoes
                go_simp
                exact hR' _ _ (Kp.refl _ _) (fun _ _ => rfl) hR
              refine StepsAt.next ?_ ?_
              · intro ρ l x W hρ hc hR hl hd
                have gx : x 132 = (.bool false) := ((hd.2.1 rfl).2 132 rfl)
                have t138 : ρ (.tmp 138) = (.pointer (some ⟨lg, q * 4, none⟩)) := (show ρ (.tmp 138) = x 138 by rw [hρ]; rfl).trans ((hd.1 rfl).2 138 rfl)
                have c0 := (hgw2.trans hR).cell' HC.out.1
                have c1 := (hgw2.trans hR).cell' HC.out.2.1
                have c2 := (hgw2.trans hR).cell' HC.out.2.2.1
                have c3 := (hgw2.trans hR).cell' HC.out.2.2.2
                clear hρ
                refine .inl ⟨wanted_is (ops := _) (g := 30) (d := 132) (b := false) (want := false) rfl rfl (by decide) (Nat.le_of_ble_eq_true rfl) gx true rfl, fun R' hR' => ?_⟩
                unfold OpDoes
                go_simp
                exact hR' _ _ (Kp.refl _ _) (fun _ _ => rfl) hR
              refine StepsAt.next ?_ ?_
              · intro ρ l x W hρ hc hR hl hd
                have gx : x 132 = (.bool false) := ((hd.1 rfl).2 132 rfl)
                have t16 : ρ (.tmp 16) = (.pointer (some ⟨ab, 0, none⟩)) := by rw [hρ]; rfl
                have c0 := (hgw2.trans hR).cell' HRr.out.1
                have c1 := (hgw2.trans hR).cell' HRr.out.2.1
                have c2 := (hgw2.trans hR).cell' HRr.out.2.2.1
                have c3 := (hgw2.trans hR).cell' HRr.out.2.2.2
                clear hρ
                refine .inl ⟨wanted_is (ops := _) (g := 30) (d := 132) (b := false) (want := false) rfl rfl (by decide) (Nat.le_of_ble_eq_true rfl) gx true rfl, fun R' hR' => ?_⟩
                unfold OpDoes
                go_simp
                exact hR' _ _ (Kp.refl _ _) (fun _ _ => rfl) hR
              refine StepsAt.next ?_ ?_
              · intro ρ l x W hρ hc hR hl hd
                have gx : x 132 = (.bool false) := ((hd.2.2.1 rfl).2 132 rfl)
                have t139 : ρ (.tmp 139) = (.agg #[.int .i64 b0, .int .i64 b1, .int .i64 b2, .int .i64 b3]) := (show ρ (.tmp 139) = x 139 by rw [hρ]; rfl).trans ((hd.1 rfl).2 139 rfl)
                have t140 : ρ (.tmp 140) = (.agg #[.int .i64 q0, .int .i64 q1, .int .i64 q2, .int .i64 q3]) := (show ρ (.tmp 140) = x 140 by rw [hρ]; rfl).trans ((hd.2.1 rfl).2 140 rfl)
                have tf : ρ (.func 13) = .func (.func 13) #[] #[] := by rw [hρ]; rfl
                clear hρ
                refine .inl ⟨wanted_is (ops := _) (g := 30) (d := 132) (b := false) (want := false) rfl rfl (by decide) (Nat.le_of_ble_eq_true rfl) gx true rfl, fun R' hR' => ?_⟩
                unfold OpDoes
                go_simp
                refine (HMm.out W).mono ?_
                rintro e w' ⟨rfl, hg⟩
                exact ⟨_, rfl, hR' _ _ (hg.kp _) (fun _ _ => rfl) (hR.trans hg)⟩
              refine StepsAt.next ?_ ?_
              · intro ρ l x W hρ hc hR hl hd
                have gx : x 132 = (.bool false) := ((hd.2.1 rfl).2 132 rfl)
                have t141 : ρ (.tmp 141) = (.bool true) := (show ρ (.tmp 141) = x 141 by rw [hρ]; rfl).trans ((hd.1 rfl).2 141 rfl)
                clear hρ
                refine .inl ⟨wanted_is (ops := _) (g := 30) (d := 132) (b := false) (want := false) rfl rfl (by decide) (Nat.le_of_ble_eq_true rfl) gx true rfl, fun R' hR' => ?_⟩
                unfold OpDoes
                go_simp
                exact hR' _ _ (Kp.refl _ _) (fun _ _ => rfl) hR
              refine StepsAt.next ?_ ?_
              · intro ρ l x W hρ hc hR hl hd
                have t132 : ρ (.tmp 132) = (.bool false) := (show ρ (.tmp 132) = x 132 by rw [hρ]; rfl).trans ((hd.1 rfl).2 132 rfl)
                have t142 : ρ (.tmp 142) = (.bool false) := (show ρ (.tmp 142) = x 142 by rw [hρ]; rfl).trans ((hd.2.1 rfl).2 142 rfl)
                clear hρ
                refine .inl ⟨rfl, fun R' hR' => ?_⟩
                unfold OpDoes
                go_simp
                exact hR' _ _ (Kp.refl _ _) (fun _ _ => rfl) hR
              exact trivial
            · intro l x W hR hall hV
              have h143 : x 143 = .bool false := hV 41 143 rfl
              clear hall hV
              simp only [Fr, mapFrom, List.mem_cons, List.not_mem_nil, or_false, Nat.reduceAdd]
              simp only [Nat.reduceEqDiff, reduceIte, or_false, or_self, or_true]
              rw [h143]
              have hgw3 := hgw2.trans hR
              go_wp2_with fail
              go_roundg (n - (jj + 1 + 1))
              case measure => omega
              case rel => exact ⟨jj + 1 + 1, by omega, by omega, by go_num, by (repeat' (first | (with_reducible assumption) | (with_reducible exact Grew.refl _) | (with_reducible refine Grew.alloc ?_ _) | (with_reducible refine Grew.drew ?_) | (with_reducible refine Grew.drewN ?_ _) | (with_reducible refine Grew.setCell ?_ ?_ _) | (simp; done) | (simp; omega)))⟩
        · have h2z : ¬ (j : Int) < (n : Int) := by omega
          have hwf : Grew w wr := HW9.out.trans hgw2
          go_wp2_with fail
          refine (awake_any _).mono ?_
          rintro e w10 ⟨rfl, hg10⟩
          have hwg := hwf.trans hg10
          clear hg10
          go_wp2_with fail
          go_ret
          exact ⟨rfl, hwg⟩

end Go.Proofs.YtcelamaiebjdaaaGreat

/- math/bits.OnesCount64 counts the bits. -/
import Derived.Test.YtcelamaiebjdaaaGreatHas
namespace Go.Proofs.YtcelamaiebjdaaaGreat
open Go.RowKit

theorem land_split (k a b c d : Nat) (ha : a < 2 ^ k) (hc : c < 2 ^ k) : (a + 2 ^ k * b) &&& (c + 2 ^ k * d) = (a &&& c) + 2 ^ k * (b &&& d) := by
  have h := Nat.mod_add_div ((a + 2 ^ k * b) &&& (c + 2 ^ k * d)) (2 ^ k)
  rw [Nat.and_mod_two_pow, Nat.and_div_two_pow, Nat.add_mul_mod_self_left, Nat.add_mul_mod_self_left, Nat.mod_eq_of_lt ha, Nat.mod_eq_of_lt hc,
    Nat.add_mul_div_left _ _ (Nat.two_pow_pos k), Nat.add_mul_div_left _ _ (Nat.two_pow_pos k), Nat.div_eq_of_lt ha, Nat.div_eq_of_lt hc, Nat.zero_add, Nat.zero_add] at h
  exact h.symm

/-- Digits, in pairs; the lower of each pair; the masks. -/
def vp (b : Nat) : List (Nat × Nat) → Nat
  | [] => 0
  | p :: r => p.1 + b * p.2 + b * b * vp b r
def vs (b : Nat) : List Nat → Nat
  | [] => 0
  | d :: r => d + b * vs b r
def mk (b : Nat) : Nat → Nat
  | 0 => 0
  | n + 1 => (b - 1) + b * b * mk b n
def pairUp : List Nat → List (Nat × Nat)
  | a :: b :: r => (a, b) :: pairUp r
  | _ => []
def ltP (b : Nat) (ps : List (Nat × Nat)) : Prop := ∀ p ∈ ps, p.1 < b ∧ p.2 < b

theorem pow_two_mul (k : Nat) : 2 ^ k * 2 ^ k = 2 ^ (k + k) := (Nat.pow_add 2 k k).symm
theorem vp_low (k : Nat) : ∀ (ps : List (Nat × Nat)), ltP (2 ^ k) ps → vp (2 ^ k) ps &&& mk (2 ^ k) ps.length = vs (2 ^ k * 2 ^ k) (ps.map (·.1))
  | [], _ => by simp [vp, mk, vs]
  | p :: r, h => by
    have hp := h p (by simp)
    have hr : ltP (2 ^ k) r := fun q hq => h q (by simp [hq])
    have h0 := Nat.two_pow_pos k
    show (p.1 + 2 ^ k * p.2 + 2 ^ k * 2 ^ k * vp (2 ^ k) r) &&& ((2 ^ k - 1) + 2 ^ k * 2 ^ k * mk (2 ^ k) r.length) = p.1 + 2 ^ k * 2 ^ k * vs (2 ^ k * 2 ^ k) (r.map (·.1))
    have hb : p.1 + 2 ^ k * p.2 < 2 ^ (k + k) := by
      rw [← pow_two_mul]
      have h1 : 2 ^ k * p.2 ≤ 2 ^ k * (2 ^ k - 1) := Nat.mul_le_mul_left _ (by omega)
      rw [Nat.mul_sub, Nat.mul_one] at h1
      have h2 : 2 ^ k ≤ 2 ^ k * 2 ^ k := Nat.le_mul_of_pos_left _ h0
      omega
    have hm : 2 ^ k - 1 < 2 ^ (k + k) := by
      have : 2 ^ k ≤ 2 ^ (k + k) := Nat.pow_le_pow_right (by decide) (by omega)
      omega
    rw [pow_two_mul, land_split (k + k) _ _ _ _ hb hm, vp_low k r hr, Nat.and_two_pow_sub_one_eq_mod, Nat.add_mul_mod_self_left, Nat.mod_eq_of_lt hp.1, pow_two_mul]
theorem vp_high (k : Nat) : ∀ (ps : List (Nat × Nat)), ltP (2 ^ k) ps → (vp (2 ^ k) ps / 2 ^ k) &&& mk (2 ^ k) ps.length = vs (2 ^ k * 2 ^ k) (ps.map (·.2))
  | [], _ => by simp [mk, vs]
  | p :: r, h => by
    have hp := h p (by simp)
    have hr : ltP (2 ^ k) r := fun q hq => h q (by simp [hq])
    have h0 := Nat.two_pow_pos k
    show ((p.1 + 2 ^ k * p.2 + 2 ^ k * 2 ^ k * vp (2 ^ k) r) / 2 ^ k) &&& ((2 ^ k - 1) + 2 ^ k * 2 ^ k * mk (2 ^ k) r.length) = p.2 + 2 ^ k * 2 ^ k * vs (2 ^ k * 2 ^ k) (r.map (·.2))
    have e1 : (p.1 + 2 ^ k * p.2 + 2 ^ k * 2 ^ k * vp (2 ^ k) r) / 2 ^ k = p.2 + 2 ^ k * vp (2 ^ k) r := by
      rw [show p.1 + 2 ^ k * p.2 + 2 ^ k * 2 ^ k * vp (2 ^ k) r = p.1 + 2 ^ k * (p.2 + 2 ^ k * vp (2 ^ k) r) by rw [Nat.mul_add, Nat.mul_assoc]; omega, Nat.add_mul_div_left _ _ h0, Nat.div_eq_of_lt hp.1, Nat.zero_add]
    obtain ⟨V, hV⟩ : ∃ V, vp (2 ^ k) r = V := ⟨_, rfl⟩
    have e2 : p.2 + 2 ^ k * V = (p.2 + 2 ^ k * (V % 2 ^ k)) + 2 ^ (k + k) * (V / 2 ^ k) := by
      rw [← pow_two_mul, Nat.mul_assoc, Nat.add_assoc, ← Nat.mul_add, Nat.mod_add_div]
    have hb : p.2 + 2 ^ k * (V % 2 ^ k) < 2 ^ (k + k) := by
      rw [← pow_two_mul]
      have h3 := Nat.mod_lt V h0
      have h1 : 2 ^ k * (V % 2 ^ k) ≤ 2 ^ k * (2 ^ k - 1) := Nat.mul_le_mul_left _ (by omega)
      rw [Nat.mul_sub, Nat.mul_one] at h1
      have h2 : 2 ^ k ≤ 2 ^ k * 2 ^ k := Nat.le_mul_of_pos_left _ h0
      omega
    have hm : 2 ^ k - 1 < 2 ^ (k + k) := by
      have : 2 ^ k ≤ 2 ^ (k + k) := Nat.pow_le_pow_right (by decide) (by omega)
      omega
    have ih := vp_high k r hr
    rw [hV] at ih
    rw [e1, hV, e2, pow_two_mul, land_split (k + k) _ _ _ _ hb hm, ih, Nat.and_two_pow_sub_one_eq_mod, Nat.add_mul_mod_self_left, Nat.mod_eq_of_lt hp.2, pow_two_mul]
theorem vs_add (b : Nat) : ∀ (ps : List (Nat × Nat)), vs b (ps.map (·.2)) + vs b (ps.map (·.1)) = vs b (ps.map fun p => p.1 + p.2)
  | [] => rfl
  | p :: r => by
    have := vs_add b r
    show (p.2 + b * vs b (r.map (·.2))) + (p.1 + b * vs b (r.map (·.1))) = (p.1 + p.2) + b * vs b (r.map fun p => p.1 + p.2)
    rw [← this, Nat.mul_add]; omega
theorem vp_pairUp (b : Nat) : ∀ (n : Nat) (l : List Nat), l.length = 2 * n → vp b (pairUp l) = vs b l
  | 0, [], _ => rfl
  | n + 1, [], h => by simp at h
  | 0, a :: r, h => by simp at h
  | n + 1, [a], h => by simp at h; omega
  | n + 1, a :: c :: r, h => by
    have := vp_pairUp b n r (by simp at h; omega)
    show a + b * c + b * b * vp b (pairUp r) = a + b * (c + b * vs b r)
    rw [this, Nat.mul_add, Nat.mul_assoc]; omega
theorem pairUp_len : ∀ (n : Nat) (l : List Nat), l.length = 2 * n → (pairUp l).length = n
  | 0, [], _ => rfl
  | n + 1, [], h => by simp at h
  | 0, a :: r, h => by simp at h
  | n + 1, [a], h => by simp at h; omega
  | n + 1, a :: c :: r, h => by
    show (pairUp r).length + 1 = n + 1
    rw [pairUp_len n r (by simp at h; omega)]
theorem pairUp_mem : ∀ (l : List Nat) (B : Nat), (∀ x ∈ l, x ≤ B) → ∀ p ∈ pairUp l, p.1 ≤ B ∧ p.2 ≤ B
  | [], _, _, p, hp => by simp [pairUp] at hp
  | [a], _, _, p, hp => by simp [pairUp] at hp
  | a :: c :: r, B, h, p, hp => by
    rcases List.mem_cons.1 (show p ∈ (a, c) :: pairUp r from hp) with rfl | hp
    · exact ⟨h a (by simp), h c (by simp)⟩
    · exact pairUp_mem r B (fun x hx => h x (by simp [hx])) p hp
theorem pairUp_sum : ∀ (n : Nat) (l : List Nat), l.length = 2 * n → ((pairUp l).map fun p => p.1 + p.2).sum = l.sum
  | 0, [], _ => rfl
  | n + 1, [], h => by simp at h
  | 0, a :: r, h => by simp at h
  | n + 1, [a], h => by simp at h; omega
  | n + 1, a :: c :: r, h => by
    have := pairUp_sum n r (by simp at h; omega)
    show (a + c) + ((pairUp r).map fun p => p.1 + p.2).sum = (a :: c :: r).sum
    rw [this]; simp; omega

/-- The bits of x. -/
def bitL : Nat → Nat → List Nat
  | 0, _ => []
  | n + 1, x => x % 2 :: bitL n (x / 2)
theorem bitL_len : ∀ n x, (bitL n x).length = n
  | 0, _ => rfl
  | n + 1, x => by show (bitL n (x / 2)).length + 1 = n + 1; rw [bitL_len]
theorem bitL_le : ∀ n x, ∀ d ∈ bitL n x, d ≤ 1
  | 0, _, d, h => by simp [bitL] at h
  | n + 1, x, d, h => by
    rcases List.mem_cons.1 (show d ∈ x % 2 :: bitL n (x / 2) from h) with rfl | h
    · omega
    · exact bitL_le n _ d h
theorem vs_bitL : ∀ n x, x < 2 ^ n → vs 2 (bitL n x) = x
  | 0, x, h => by simp at h; subst h; rfl
  | n + 1, x, h => by
    show x % 2 + 2 * vs 2 (bitL n (x / 2)) = x
    rw [vs_bitL n (x / 2) (by rw [Nat.pow_succ] at h; omega)]; omega
/-- How many of the first n bits are set. -/
def popN (n x : Nat) : Nat := ((List.range n).filter fun i => x.testBit i).length
theorem sum_bitL : ∀ n x, (bitL n x).sum = popN n x
  | 0, _ => rfl
  | n + 1, x => by
    show (x % 2 :: bitL n (x / 2)).sum = _
    rw [List.sum_cons, sum_bitL n (x / 2)]
    unfold popN
    have e : ((fun i => x.testBit i) ∘ Nat.succ) = fun i => (x / 2).testBit i := by
      funext i; exact Nat.testBit_succ x i
    rw [List.range_succ_eq_map, List.filter_cons, List.filter_map, e, Nat.testBit_zero]
    by_cases h : x % 2 = 1
    · rw [if_pos (by simpa using h), List.length_cons, List.length_map]; omega
    · rw [if_neg (by simpa using h), List.length_map]; omega

/-- One round: neighbouring digits are added. -/
theorem pop_round (k n : Nat) (l : List Nat) (hl : l.length = 2 * n) (B : Nat) (hB : B < 2 ^ k) (h : ∀ d ∈ l, d ≤ B) :
    ∃ r, r.length = n ∧ (∀ d ∈ r, d ≤ B + B) ∧ r.sum = l.sum ∧ ((vs (2 ^ k) l / 2 ^ k) &&& mk (2 ^ k) n) + (vs (2 ^ k) l &&& mk (2 ^ k) n) = vs (2 ^ k * 2 ^ k) r := by
  have hp := pairUp_mem l B h
  have hlt : ltP (2 ^ k) (pairUp l) := fun p hq => by have := hp p hq; omega
  have e1 := vp_low k _ hlt
  have e2 := vp_high k _ hlt
  rw [pairUp_len n l hl, vp_pairUp _ n l hl] at e1 e2
  refine ⟨(pairUp l).map fun p => p.1 + p.2, by rw [List.length_map, pairUp_len n l hl], fun d hd => ?_, pairUp_sum n l hl, by rw [e1, e2, vs_add]⟩
  obtain ⟨p, hq, rfl⟩ := List.mem_map.1 hd
  have := hp p hq
  show p.1 + p.2 ≤ _
  omega
theorem vs_lt (b B : Nat) (hb : B < b) : ∀ (l : List Nat), (∀ d ∈ l, d ≤ B) → vs b l < b ^ l.length
  | [], _ => by simp [vs]
  | d :: r, h => by
    have h1 := h d (by simp)
    have h2 := vs_lt b B hb r fun x hx => h x (by simp [hx])
    show d + b * vs b r < b ^ (r.length + 1)
    rw [Nat.pow_succ, Nat.mul_comm (b ^ r.length) b]
    have h3 : b * (vs b r + 1) ≤ b * b ^ r.length := Nat.mul_le_mul_left _ h2
    rw [Nat.mul_add, Nat.mul_one] at h3
    omega

theorem div_256 {x a b : Nat} (h : x = a + 256 * b) (ha : a < 256) : x / 256 = b := by omega
theorem pop_tail (s0 s1 s2 s3 s4 s5 s6 s7 t0 t1 t2 t3 t4 t5 t6 : Nat) (h : s0 ≤ 8 ∧ s1 ≤ 8 ∧ s2 ≤ 8 ∧ s3 ≤ 8 ∧ s4 ≤ 8 ∧ s5 ≤ 8 ∧ s6 ≤ 8 ∧ s7 ≤ 8)
    (h0 : t0 = s0 + 256 * t1) (h1 : t1 = s1 + 256 * t2) (h2 : t2 = s2 + 256 * t3) (h3 : t3 = s3 + 256 * t4) (h4 : t4 = s4 + 256 * t5) (h5 : t5 = s5 + 256 * t6) (h6 : t6 = s6 + 256 * s7) :
    ∃ y4 y5 y6, t0 + t0 / 256 = y4 ∧ y4 + y4 / 65536 = y5 ∧ y5 + y5 / 4294967296 = y6 ∧ y4 < 9223372036854775808 ∧ y5 < 9223372036854775808 ∧ y6 < 9223372036854775808 ∧ y6 % 128 = s0 + s1 + s2 + s3 + s4 + s5 + s6 + s7 := by
  obtain ⟨g0, g1, g2, g3, g4, g5, g6, g7⟩ := h
  have b6 : t6 ≤ 2056 := by omega
  have b5 : t5 ≤ 526344 := by clear h6; omega
  have b4 : t4 ≤ 134744072 := by clear h6 h5 b6; omega
  have b3 : t3 ≤ 34494482440 := by clear h6 h5 b6 h4 b5; omega
  have b2 : t2 ≤ 8830587504648 := by clear h6 h5 b6 h4 b5 h3 b4; omega
  have b1 : t1 ≤ 2260630401189896 := by clear h6 h5 b6 h4 b5 h3 b4 h2 b3; omega
  have b0 : t0 ≤ 578721382704613384 := by clear h6 h5 b6 h4 b5 h3 b4 h2 b3 h1 b2; omega
  have d0 : t0 / 256 = t1 := div_256 h0 (by omega)
  obtain ⟨u0, k0⟩ : ∃ u, t0 + t1 = u := ⟨_, rfl⟩
  obtain ⟨u1, k1⟩ : ∃ u, t1 + t2 = u := ⟨_, rfl⟩
  obtain ⟨u2, k2⟩ : ∃ u, t2 + t3 = u := ⟨_, rfl⟩
  obtain ⟨u3, k3⟩ : ∃ u, t3 + t4 = u := ⟨_, rfl⟩
  obtain ⟨u4, k4⟩ : ∃ u, t4 + t5 = u := ⟨_, rfl⟩
  obtain ⟨u5, k5⟩ : ∃ u, t5 + t6 = u := ⟨_, rfl⟩
  obtain ⟨u6, k6⟩ : ∃ u, t6 + s7 = u := ⟨_, rfl⟩
  have m0 : u0 = (s0 + s1) + 256 * u1 := by rw [← k0, ← k1]; clear k0 k1 k2 k3 k4 k5 k6; omega
  have m1 : u1 = (s1 + s2) + 256 * u2 := by rw [← k1, ← k2]; clear k0 k1 k2 k3 k4 k5 k6 m0; omega
  have m2 : u2 = (s2 + s3) + 256 * u3 := by rw [← k2, ← k3]; clear k0 k1 k2 k3 k4 k5 k6 m0 m1; omega
  have m3 : u3 = (s3 + s4) + 256 * u4 := by rw [← k3, ← k4]; clear k0 k1 k2 k3 k4 k5 k6 m0 m1 m2; omega
  have m4 : u4 = (s4 + s5) + 256 * u5 := by rw [← k4, ← k5]; clear k0 k1 k2 k3 k4 k5 k6 m0 m1 m2 m3; omega
  have m5 : u5 = (s5 + s6) + 256 * u6 := by rw [← k5, ← k6]; clear k0 k1 k2 k3 k4 k5 k6 m0 m1 m2 m3 m4; omega
  have m6 : u6 = (s6 + s7) + 256 * s7 := by rw [← k6]; clear k0 k1 k2 k3 k4 k5 k6 m0 m1 m2 m3 m4 m5; omega
  have c0 : u0 ≤ 1157442765409226768 := by rw [← k0]; clear k0 k1 k2 k3 k4 k5 k6 m0 m1 m2 m3 m4 m5 m6; omega
  clear h0 h1 h2 h3 h4 h5 h6 k1 k2 k3 k4 k5 k6 b1 b2 b3 b4 b5 b6
  have e0 : u0 / 65536 = u2 := by
    rw [show 65536 = 256 * 256 from rfl, ← Nat.div_div_eq_div_mul, div_256 m0 (by omega), div_256 m1 (by omega)]
  obtain ⟨v0, n0⟩ : ∃ u, u0 + u2 = u := ⟨_, rfl⟩
  obtain ⟨v1, n1⟩ : ∃ u, u1 + u3 = u := ⟨_, rfl⟩
  obtain ⟨v2, n2⟩ : ∃ u, u2 + u4 = u := ⟨_, rfl⟩
  obtain ⟨v3, n3⟩ : ∃ u, u3 + u5 = u := ⟨_, rfl⟩
  obtain ⟨v4, n4⟩ : ∃ u, u4 + u6 = u := ⟨_, rfl⟩
  obtain ⟨v5, n5⟩ : ∃ u, u5 + s7 = u := ⟨_, rfl⟩
  have q0 : v0 = (s0 + s1 + (s2 + s3)) + 256 * v1 := by rw [← n0, ← n1, m0, m2]; omega
  have q1 : v1 = (s1 + s2 + (s3 + s4)) + 256 * v2 := by rw [← n1, ← n2, m1, m3]; omega
  have q2 : v2 = (s2 + s3 + (s4 + s5)) + 256 * v3 := by rw [← n2, ← n3, m2, m4]; omega
  have q3 : v3 = (s3 + s4 + (s5 + s6)) + 256 * v4 := by rw [← n3, ← n4, m3, m5]; omega
  have q4 : v4 = (s4 + s5 + (s6 + s7)) + 256 * v5 := by rw [← n4, ← n5, m4, m6]; omega
  have c2 : u2 ≤ u0 := by rw [m0, m1]; clear q0 q1 q2 q3 q4 n0 n1 n2 n3 n4 n5 m2 m3 m4 m5 m6 k0; omega
  have c1 : v0 ≤ 2314885530818453536 := by rw [← n0]; clear q0 q1 q2 q3 q4 n0 n1 n2 n3 n4 n5 m0 m1 m2 m3 m4 m5 m6 k0; omega
  have f0 : v0 / 4294967296 = v4 := by
    rw [show 4294967296 = 256 * 256 * 256 * 256 from rfl, ← Nat.div_div_eq_div_mul, ← Nat.div_div_eq_div_mul, ← Nat.div_div_eq_div_mul, div_256 q0 (by omega), div_256 q1 (by omega), div_256 q2 (by omega), div_256 q3 (by omega)]
  have c4 : v4 ≤ v0 := by rw [← f0]; exact Nat.div_le_self _ _
  refine ⟨u0, v0, v0 + v4, by rw [d0]; exact k0, by rw [e0]; exact n0, by rw [f0], ?_, ?_, ?_, ?_⟩
  · clear q0 q1 q2 q3 q4 n0 n1 n2 n3 n4 n5 m0 m1 m2 m3 m4 m5 m6 k0; omega
  · clear q0 q1 q2 q3 q4 n0 n1 n2 n3 n4 n5 m0 m1 m2 m3 m4 m5 m6 k0; omega
  · clear q0 q1 q2 q3 q4 n0 n1 n2 n3 n4 n5 m0 m1 m2 m3 m4 m5 m6 k0; omega
  · rw [q0, q4]
    clear q0 q1 q2 q3 q4 n0 n1 n2 n3 n4 n5 m0 m1 m2 m3 m4 m5 m6 k0 e0 f0 d0 b0 c0 c1 c2 c4
    omega

/-- Each digit and the one behind it. -/
def nbL : List Nat → List Nat
  | a :: b :: r => (a + b) :: nbL (b :: r)
  | l => l
theorem nbL_len : ∀ l : List Nat, (nbL l).length = l.length
  | [] => rfl
  | [a] => rfl
  | a :: b :: r => by show (nbL (b :: r)).length + 1 = _; rw [nbL_len (b :: r)]; rfl
theorem nbL_le (B : Nat) : ∀ l : List Nat, (∀ d ∈ l, d ≤ B) → ∀ d ∈ nbL l, d ≤ B + B
  | [], _, d, hd => by simp [nbL] at hd
  | [a], h, d, hd => by have := h d hd; omega
  | a :: b :: r, h, d, hd => by
    rcases List.mem_cons.1 (show d ∈ (a + b) :: nbL (b :: r) from hd) with rfl | hd
    · have h1 := h a (by simp)
      have h2 := h b (by simp)
      omega
    · exact nbL_le B (b :: r) (fun x hx => h x (by simp [hx])) d hd
theorem vs_nbL (b : Nat) : ∀ l : List Nat, vs b (nbL l) = vs b l.tail + vs b l
  | [] => rfl
  | [a] => by simp [nbL, vs]
  | a :: c :: r => by
    have := vs_nbL b (c :: r)
    show (a + c) + b * vs b (nbL (c :: r)) = (c + b * vs b r) + (a + b * vs b (c :: r))
    rw [this, Nat.mul_add]
    show (a + c) + (b * vs b r + b * vs b (c :: r)) = _
    omega
theorem vs_div (b : Nat) : ∀ l : List Nat, (∀ d ∈ l, d < b) → vs b l / b = vs b l.tail
  | [], _ => by simp [vs]
  | a :: r, h => by
    have h1 := h a (by simp)
    show (a + b * vs b r) / b = vs b r
    rw [Nat.add_mul_div_left _ _ (by omega), Nat.div_eq_of_lt h1, Nat.zero_add]
theorem nbL_sum : ∀ (n : Nat) (l : List Nat), l.length = 2 * n → ((pairUp (nbL l)).map (·.1)).sum = l.sum
  | 0, [], _ => rfl
  | n + 1, [], h => by simp at h
  | 0, a :: r, h => by simp at h
  | n + 1, [a], h => by simp at h; omega
  | n + 1, [a, b], _ => by simp [nbL, pairUp]
  | n + 1, a :: b :: c :: r, h => by
    have := nbL_sum n (c :: r) (by simp at h ⊢; omega)
    show (a + b) + ((pairUp (nbL (c :: r))).map (·.1)).sum = _
    rw [this]; simp; omega

theorem pop_main (x : Nat) (hx : x < 18446744073709551616) : ∃ y1 y2 y3 y4 y5 y6 : Nat,
    ((x / 2 &&& 6148914691236517205) + (x &&& 6148914691236517205) = y1 ∧ y1 < 18446744073709551616) ∧ ((y1 / 4 &&& 3689348814741910323) + (y1 &&& 3689348814741910323) = y2 ∧ y2 < 18446744073709551616) ∧
    ((y2 / 16 + y2) &&& 1085102592571150095 = y3 ∧ y2 / 16 + y2 < 18446744073709551616 ∧ y3 < 18446744073709551616) ∧ (y3 + y3 / 256 = y4 ∧ y4 < 9223372036854775808) ∧ (y4 + y4 / 65536 = y5 ∧ y5 < 9223372036854775808) ∧ (y5 + y5 / 4294967296 = y6 ∧ y6 < 9223372036854775808) ∧ y6 % 128 = popN 64 x := by
  have e0 := vs_bitL 64 x (by simpa using hx)
  obtain ⟨l1, a1, a2, a3, a4⟩ := pop_round 1 32 (bitL 64 x) (bitL_len 64 x) 1 (by decide) (bitL_le 64 x)
  rw [show (2 : Nat) ^ 1 = 2 from rfl, e0, show mk 2 32 = 6148914691236517205 from by decide, show 2 * 2 = 4 from rfl] at a4
  obtain ⟨l2, b1, b2, b3, b4⟩ := pop_round 2 16 l1 a1 2 (by decide) a2
  rw [show (2 : Nat) ^ 2 = 4 from rfl, show mk 4 16 = 3689348814741910323 from by decide, show 4 * 4 = 16 from rfl] at b4
  have c1 := vs_lt 4 2 (by decide) l1 a2
  have c2 := vs_lt 16 4 (by decide) l2 b2
  rw [a1] at c1
  rw [b1] at c2
  have n1 := nbL_le 4 l2 b2
  have n2 := vs_nbL 16 l2
  have n3 := vs_div 16 l2 (fun d hd => by have := b2 d hd; omega)
  have c3 := vs_lt 16 8 (by decide) (nbL l2) n1
  rw [nbL_len, b1] at c3
  have hlt : ltP (2 ^ 4) (pairUp (nbL l2)) := fun p hp => by have := pairUp_mem (nbL l2) 8 n1 p hp; omega
  have n4 := vp_low 4 _ hlt
  rw [pairUp_len 8 (nbL l2) (by rw [nbL_len, b1]), vp_pairUp _ 8 (nbL l2) (by rw [nbL_len, b1]), show (2 : Nat) ^ 4 = 16 from rfl, show mk 16 8 = 1085102592571150095 from by decide, show 16 * 16 = 256 from rfl, n2, ← n3] at n4
  have n5 := nbL_sum 8 l2 b1
  rw [b3, a3, sum_bitL] at n5
  have n6 : ∀ d ∈ (pairUp (nbL l2)).map (·.1), d ≤ 8 := fun d hd => by
    obtain ⟨p, hp, rfl⟩ := List.mem_map.1 hd
    exact (pairUp_mem (nbL l2) 8 n1 p hp).1
  have n7 : ((pairUp (nbL l2)).map (·.1)).length = 8 := by rw [List.length_map, pairUp_len 8 (nbL l2) (by rw [nbL_len, b1])]
  have c4 := vs_lt 256 8 (by decide) _ n6
  rw [n7] at c4
  obtain ⟨y3, h3⟩ : ∃ y3, vs 256 ((pairUp (nbL l2)).map (·.1)) = y3 := ⟨_, rfl⟩
  rw [h3] at n4 c4
  generalize (pairUp (nbL l2)).map (·.1) = l3 at *
  match l3, n7 with
  | [s0, s1, s2, s3, s4, s5, s6, s7], _ =>
    obtain ⟨y4, y5, y6, k1, k2, k3, k4, k5, k6, k7⟩ := pop_tail s0 s1 s2 s3 s4 s5 s6 s7 _ _ _ _ _ _ _ ⟨n6 s0 (by simp), n6 s1 (by simp), n6 s2 (by simp), n6 s3 (by simp), n6 s4 (by simp), n6 s5 (by simp), n6 s6 (by simp), n6 s7 (by simp)⟩
      (show y3 = s0 + 256 * vs 256 [s1, s2, s3, s4, s5, s6, s7] from h3.symm) (show vs 256 [s1, s2, s3, s4, s5, s6, s7] = s1 + 256 * vs 256 [s2, s3, s4, s5, s6, s7] from rfl) (show vs 256 [s2, s3, s4, s5, s6, s7] = s2 + 256 * vs 256 [s3, s4, s5, s6, s7] from rfl) (show vs 256 [s3, s4, s5, s6, s7] = s3 + 256 * vs 256 [s4, s5, s6, s7] from rfl)
      (show vs 256 [s4, s5, s6, s7] = s4 + 256 * vs 256 [s5, s6, s7] from rfl) (show vs 256 [s5, s6, s7] = s5 + 256 * vs 256 [s6, s7] from rfl) (show vs 256 [s6, s7] = s6 + 256 * s7 from by simp [vs])
    refine ⟨vs 4 l1, vs 16 l2, y3, y4, y5, y6, ⟨a4, ?_⟩, ⟨b4, ?_⟩, ⟨n4, ?_, ?_⟩, ⟨k1, k4⟩, ⟨k2, k5⟩, ⟨k3, k6⟩, ?_⟩
    · exact Nat.lt_of_lt_of_le c1 (by decide)
    · exact Nat.lt_of_lt_of_le c2 (by decide)
    · rw [n3, ← n2]; exact Nat.lt_of_lt_of_le c3 (by decide)
    · exact Nat.lt_of_lt_of_le c4 (by decide)
    · rw [k7, ← n5]; simp; omega

theorem i64_and7 (a : Nat) (ha : a < 18446744073709551616) : bits .and .i64 (a : Int) 127 = ((a % 128 : Nat) : Int) := by
  show IntKind.i64.wrap ((BitVec.ofInt 64 (a : Int) &&& BitVec.ofInt 64 ((127 : Nat) : Int)).toNat : Int) = _
  rw [BitVec.toNat_and, ofInt_u64 a ha, ofInt_u64 127 (by decide), nat_mask7]
  exact IntWalk.i64_in _ (by omega)
set_option maxHeartbeats 400000 in
theorem ones_any (x : Nat) (w : World) (hx : x < 18446744073709551616) :
    Calls Tryz.prog 124 #[.int .u64 x] w fun e w' => e = .returned (.int .i64 (popN 64 x)) ∧ w = w' := by
  obtain ⟨y1, y2, y3, y4, y5, y6, h1, h2, h3, h4, h5, h6, h7⟩ := pop_main x hx
  have W : ∀ a : Nat, a < 18446744073709551616 → IntKind.u64.wrap ((a : Nat) : Int) = (a : Int) := fun a ha => by
    rw [IntKind.wrap_u64]; exact Int.emod_eq_of_lt (Int.natCast_nonneg _) (by omega)
  have A : ∀ a m : Nat, a < 18446744073709551616 → m < 18446744073709551616 → bits .and .u64 (a : Int) (m : Int) = ((a &&& m : Nat) : Int) := fun a m ha hm => u64_and_nat _ _ ha hm
  have E1 : IntKind.u64.wrap (bits .and .u64 ((x : Int) / 2) 6148914691236517205 + bits .and .u64 (x : Int) 6148914691236517205) = (y1 : Int) := by
    rw [show ((x : Int) / 2) = ((x / 2 : Nat) : Int) by omega, show (6148914691236517205 : Int) = ((6148914691236517205 : Nat) : Int) from rfl, A _ _ (by omega) (by decide), A _ _ hx (by decide), ← Int.natCast_add, h1.1, W _ h1.2]
  have E2 : IntKind.u64.wrap (bits .and .u64 ((y1 : Int) / 4) 3689348814741910323 + bits .and .u64 (y1 : Int) 3689348814741910323) = (y2 : Int) := by
    rw [show ((y1 : Int) / 4) = ((y1 / 4 : Nat) : Int) by omega, show (3689348814741910323 : Int) = ((3689348814741910323 : Nat) : Int) from rfl, A _ _ (by omega) (by decide), A _ _ h1.2 (by decide), ← Int.natCast_add, h2.1, W _ h2.2]
  have E3 : bits .and .u64 (IntKind.u64.wrap ((y2 : Int) / 16 + (y2 : Int))) 1085102592571150095 = (y3 : Int) := by
    rw [show ((y2 : Int) / 16 + (y2 : Int)) = ((y2 / 16 + y2 : Nat) : Int) by omega, W _ h3.2.1, show (1085102592571150095 : Int) = ((1085102592571150095 : Nat) : Int) from rfl, A _ _ h3.2.1 (by decide), h3.1]
  have E4 : IntKind.u64.wrap ((y3 : Int) + (y3 : Int) / 256) = (y4 : Int) := by
    rw [show ((y3 : Int) + (y3 : Int) / 256) = ((y3 + y3 / 256 : Nat) : Int) by omega, h4.1, W _ (by omega)]
  have E5 : IntKind.u64.wrap ((y4 : Int) + (y4 : Int) / 65536) = (y5 : Int) := by
    rw [show ((y4 : Int) + (y4 : Int) / 65536) = ((y4 + y4 / 65536 : Nat) : Int) by omega, h5.1, W _ (by omega)]
  have E6 : IntKind.u64.wrap ((y5 : Int) + (y5 : Int) / 4294967296) = (y6 : Int) := by
    rw [show ((y5 : Int) + (y5 : Int) / 4294967296) = ((y5 + y5 / 4294967296 : Nat) : Int) by omega, h6.1, W _ (by omega)]
  have H := Lib.hid (And.intro E1 (And.intro E2 (And.intro E3 (And.intro E4 (And.intro E5 (And.intro E6 h7))))))
  have h63 := h6.2
  clear h1 h2 h3 h4 h5 h6 h7 E1 E2 E3 E4 E5 E6 W A
  go_enter Tryz.func124, Tryz.ntmps124
  go_wp2_with fail
  go_ret
  refine ⟨ret_int ?_, rfl⟩
  obtain ⟨E1, E2, E3, E4, E5, E6, h7⟩ := H.out
  rw [E1, E2, E3, E4, E5, E6, show wrap64 (y6 : Int) = (y6 : Int) from by unfold wrap64; omega, i64_and7 _ (by omega), h7]

set_option maxHeartbeats 400000 in
theorem count_any (sb s : Nat) (w : World) (hs : s < 18446744073709551616) (c0 : w.cell? ⟨sb, 0, none⟩ = some (.int .u64 s)) :
    Calls Tryz.prog 107 #[.pointer (some ⟨sb, 0, none⟩)] w fun e w' => e = .returned (.int .i64 (popN 64 s)) ∧ w = w' := by
  go_enter Tryz.func107, Tryz.ntmps107
  go_wp2_with fail
  refine (ones_any s _ hs).mono ?_
  rintro e w1 ⟨rfl, rfl⟩
  go_wp2_with fail
  go_ret
  exact ⟨rfl, rfl⟩

/-- How many slots are taken. -/
def lenT (tk : List Bool) : Nat := ((List.range 64).filter fun i => tk.getD i false).length
theorem Mask.pop {s : Nat} {tk : List Bool} (h : Mask s tk) : popN 64 s = lenT tk := by
  unfold popN lenT
  rw [List.filter_congr fun i hi => h.bit i (List.mem_range.1 hi)]

set_option maxHeartbeats 400000 in
theorem slLen_any (sb gb : Nat) (gens : List Int) (tk : List Bool) (w : World) (h : SlotsAt w sb gb gens tk) :
    Calls Tryz.prog 63 #[.pointer (some ⟨sb, 0, none⟩)] w fun e w' => e = .returned (.int .i64 (lenT tk)) ∧ w = w' := by
  obtain ⟨s, cap, h⟩ := h
  have c0 := h.c0
  have c1 := h.c1
  have hm := h.most.1
  have hs := h.mask.lt
  have H := Lib.hid h.mask.pop
  obtain ⟨n, hn⟩ : ∃ n, gens.length = n := ⟨_, rfl⟩
  rw [hn] at c1 hm
  clear h hn
  go_enter Tryz.func63, Tryz.ntmps63
  go_wp2_with fail
  refine (slNone_any sb n cap (some ⟨gb, 0, none⟩) _ hm (by first | (simp [go_sem]; done) | (simp [*, go_sem]; done) | (go_cell; done))).mono ?_
  rintro e w1 ⟨rfl, rfl⟩
  go_wp2_with fail
  refine (count_any sb s _ hs (by first | (simp [go_sem]; done) | (simp [*, go_sem]; done) | (go_cell; done))).mono ?_
  rintro e w1 ⟨rfl, rfl⟩
  rw [H.out]
  go_wp2_with fail
  go_ret
  exact ⟨rfl, rfl⟩

end Go.Proofs.YtcelamaiebjdaaaGreat

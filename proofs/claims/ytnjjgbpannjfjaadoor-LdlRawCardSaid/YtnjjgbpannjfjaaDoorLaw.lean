/- A part of the proof of the claim: Law. -/
import Derived.Test.YtnjjgbpannjfjaaDoorFn
import Derived.IntWalk
section
set_option linter.all false
set_option linter.unusedSimpArgs false
set_option linter.unusedVariables false
namespace Go.Proofs
open Go Go.Ev
set_option linter.unusedVariables false
set_option linter.unusedSimpArgs false
set_option maxRecDepth 100000

/-! ### Words -/
theorem wu (n : Int) : IntKind.u64.wrap n = n % 18446744073709551616 := rfl
theorem wi (n : Int) (h : -9223372036854775808 ≤ n) (h' : n ≤ 9223372036854775807) : IntKind.i64.wrap n = n := IntWalk.i64_in n ⟨h, h'⟩
theorem shr32 (k : IntKind) (hk : k = .u64) (x : Int) : shrI k x 32 = x / 4294967296 := by
  subst hk; unfold shrI
  rw [show (min (Int.toNat 32) IntKind.u64.bits) = 32 by rfl, Int.fdiv_eq_ediv_of_nonneg _ (by decide)]
  rfl
theorem shr63u (x : Int) : shrI .u64 x 63 = x / 9223372036854775808 := by
  unfold shrI
  rw [show (min (Int.toNat 63) IntKind.u64.bits) = 63 by rfl, Int.fdiv_eq_ediv_of_nonneg _ (by decide)]
  rfl
theorem shr63i (x : Int) : shrI .i64 x 63 = x / 9223372036854775808 := by
  unfold shrI
  rw [show (min (Int.toNat 63) IntKind.i64.bits) = 63 by rfl, Int.fdiv_eq_ediv_of_nonneg _ (by decide)]
  rfl

theorem bv_ofInt_toNat (x : Int) (h0 : 0 ≤ x) (h1 : x < 18446744073709551616) : (BitVec.ofInt 64 x).toNat = x.toNat := by
  rw [BitVec.toNat_ofInt]
  have : x % ((2 ^ 64 : Nat) : Int) = x := Int.emod_eq_of_lt h0 (by exact h1)
  rw [this]

/-- The lower bits of a word. -/
theorem and_low (x : Int) (h0 : 0 ≤ x) (h1 : x < 18446744073709551616) (m : Nat) (hm : m ≤ 64) : bitsI .and .u64 x ((2 : Int) ^ m - 1) = x % (2 : Int) ^ m := by
  unfold bitsI
  simp only [wu]
  have e1 : (BitVec.ofInt 64 x).toNat = x.toNat := bv_ofInt_toNat x h0 h1
  have hp : (1 : Int) ≤ 2 ^ m := by
    have : 0 < 2 ^ m := Nat.two_pow_pos m
    have h2 : ((2 ^ m : Nat) : Int) = (2 : Int) ^ m := by simp
    omega
  have hle : (2 : Int) ^ m ≤ 18446744073709551616 := by
    have : 2 ^ m ≤ 2 ^ 64 := Nat.pow_le_pow_right (by decide) hm
    have h2 : ((2 ^ m : Nat) : Int) = (2 : Int) ^ m := by simp
    omega
  have e2 : (BitVec.ofInt 64 ((2 : Int) ^ m - 1)).toNat = 2 ^ m - 1 := by
    rw [bv_ofInt_toNat _ (by omega) (by omega)]
    have h2 : ((2 ^ m : Nat) : Int) = (2 : Int) ^ m := by simp
    omega
  show (((BitVec.ofInt 64 x) &&& (BitVec.ofInt 64 ((2 : Int) ^ m - 1))).toNat : Int) % 18446744073709551616 = _
  rw [BitVec.toNat_and, e1, e2, Nat.and_two_pow_sub_one_eq_mod]
  have hlt : x.toNat % 2 ^ m ≤ x.toNat := Nat.mod_le _ _
  have h3 : ((x.toNat % 2 ^ m : Nat) : Int) = x % (2 : Int) ^ m := by
    rw [Int.natCast_emod]
    have h2 : ((2 ^ m : Nat) : Int) = (2 : Int) ^ m := by simp
    rw [h2, Int.toNat_of_nonneg h0]
  rw [← h3]; omega

theorem and_32 (x : Int) (h0 : 0 ≤ x) (h1 : x < 18446744073709551616) : bitsI .and .u64 x 4294967295 = x % 4294967296 := and_low x h0 h1 32 (by decide)
theorem and_1 (x : Int) (h0 : 0 ≤ x) (h1 : x < 18446744073709551616) : bitsI .and .u64 x 1 = x % 2 := and_low x h0 h1 1 (by decide)

theorem not_u64 (x : Int) (h0 : 0 ≤ x) (h1 : x < 18446744073709551616) : bitsI .xor .u64 18446744073709551615 x = 18446744073709551615 - x := by
  unfold bitsI
  simp only [wu]
  show (((BitVec.ofInt 64 18446744073709551615) ^^^ (BitVec.ofInt 64 x)).toNat : Int) % 18446744073709551616 = _
  have e : (BitVec.ofInt 64 18446744073709551615) = BitVec.allOnes 64 := by decide
  rw [e, BitVec.allOnes_xor, BitVec.toNat_not, bv_ofInt_toNat x h0 h1]
  omega

/-- The product of words. -/
theorem mul64 {R : Type} (x y : Int) (hx0 : 0 ≤ x) (hx1 : x < 18446744073709551616) (hy0 : 0 ≤ y) (hy1 : y < 18446744073709551616) (κ : Int → Int → Option R) :
    F_bits_Mul64 x y κ = κ (x * y / 18446744073709551616) (x * y % 18446744073709551616) := by
  unfold F_bits_Mul64
  simp only [and_32 x hx0 hx1, and_32 y hy0 hy1, shr32 _ rfl, wu]
  have hx : x = x / 4294967296 * 4294967296 + x % 4294967296 := by omega
  have hy : y = y / 4294967296 * 4294967296 + y % 4294967296 := by omega
  generalize ha1 : x / 4294967296 = a1 at *
  generalize ha0 : x % 4294967296 = a0 at *
  generalize hb1 : y / 4294967296 = b1 at *
  generalize hb0 : y % 4294967296 = b0 at *
  have ba0 : 0 ≤ a0 ∧ a0 ≤ 4294967295 := by omega
  have ba1 : 0 ≤ a1 ∧ a1 ≤ 4294967295 := by omega
  have bb0 : 0 ≤ b0 ∧ b0 ≤ 4294967295 := by omega
  have bb1 : 0 ≤ b1 ∧ b1 ≤ 4294967295 := by omega
  have hxy : x * y = a1 * b1 * 18446744073709551616 + (a1 * b0 + a0 * b1) * 4294967296 + a0 * b0 := by
    have : ∀ a1 a0 b1 b0 : Int, (a1 * 4294967296 + a0) * (b1 * 4294967296 + b0) = a1 * b1 * 18446744073709551616 + (a1 * b0 + a0 * b1) * 4294967296 + a0 * b0 := by
      intro a1 a0 b1 b0
      grind
    rw [hx, hy]; exact this _ _ _ _
  have prod : ∀ u v : Int, 0 ≤ u ∧ u ≤ 4294967295 → 0 ≤ v ∧ v ≤ 4294967295 → 0 ≤ u * v ∧ u * v ≤ 18446744065119617025 := fun u v hu hv =>
    ⟨Int.mul_nonneg hu.1 hv.1, by have := Int.mul_le_mul hu.2 hv.2 hv.1 (by decide : (0 : Int) ≤ 4294967295); simpa using this⟩
  have p11 := prod a1 b1 ba1 bb1
  have p10 := prod a1 b0 ba1 bb0
  have p01 := prod a0 b1 ba0 bb1
  have p00 := prod a0 b0 ba0 bb0
  rw [hxy]
  generalize a1 * b1 = q11 at *
  generalize a1 * b0 = q10 at *
  generalize a0 * b1 = q01 at *
  generalize a0 * b0 = q00 at *
  have e0 : q00 % 18446744073709551616 = q00 := Int.emod_eq_of_lt p00.1 (by omega)
  have e1 : q10 % 18446744073709551616 = q10 := Int.emod_eq_of_lt p10.1 (by omega)
  have e2 : q01 % 18446744073709551616 = q01 := Int.emod_eq_of_lt p01.1 (by omega)
  have e3 : q11 % 18446744073709551616 = q11 := Int.emod_eq_of_lt p11.1 (by omega)
  rw [e0, e1, e2, e3]
  have e4 : (q10 + q00 / 4294967296) % 18446744073709551616 = q10 + q00 / 4294967296 := Int.emod_eq_of_lt (by omega) (by omega)
  rw [e4]
  generalize hM : q10 + q00 / 4294967296 = M at *
  have bM : 0 ≤ M ∧ M < 18446744073709551616 := by omega
  rw [and_32 M bM.1 bM.2]
  congr 1 <;> omega
end Go.Proofs
end

section
set_option linter.all false
set_option linter.unusedSimpArgs false
set_option linter.unusedVariables false
namespace Go.Proofs
open Go Go.Ev
set_option linter.unusedVariables false
set_option linter.unusedSimpArgs false
set_option maxRecDepth 100000

theorem fuel (n : Nat) (h : n ≤ 1000) : ∃ m, FUEL = m + n := ⟨FUEL - n, by have := le_FUEL; omega⟩

/-- A word. -/
def Wd (x : Int) : Prop := 0 ≤ x ∧ x < 18446744073709551616

theorem add64 {R : Type} (x y c : Int) (hx : Wd x) (hy : Wd y) (hc : 0 ≤ c ∧ c ≤ 1) (κ : Int → Int → Option R) : F_Add64 x y c κ = κ ((x + y + c) % 18446744073709551616) ((x + y + c) / 18446744073709551616) := by
  unfold F_Add64
  have h1 := hx.1; have h2 := hy.1
  simp only [h1, h2, hc.1, hc.2, decide_true, Bool.and_self, cond_true]

theorem carry (x y c : Int) (hx : Wd x) (hy : Wd y) (hc : 0 ≤ c ∧ c ≤ 1) : 0 ≤ (x + y + c) / 18446744073709551616 ∧ (x + y + c) / 18446744073709551616 ≤ 1 := by
  unfold Wd at hx hy; omega

theorem wi01 : IntKind.i64.wrap (0 + 1) = 1 := by decide
theorem wi12 : IntKind.i64.wrap (1 + 1) = 2 := by decide
theorem wi23 : IntKind.i64.wrap (2 + 1) = 3 := by decide

/-- The sum of numbers of three words. -/
theorem plus_run {R : Type} (a0 a1 a2 b0 b1 b2 : Int) (ha0 : Wd a0) (ha1 : Wd a1) (ha2 : Wd a2) (hb0 : Wd b0) (hb1 : Wd b1) (hb2 : Wd b2) (κ : List Int → Option R) :
    ∃ c0 c1 c2, Wd c0 ∧ Wd c1 ∧ Wd c2 ∧ F_qnum_sum_plus [a0, a1, a2] [b0, b1, b2] κ = κ [c0, c1, c2] ∧
      c0 + c1 * 18446744073709551616 + c2 * 340282366920938463463374607431768211456 = (a0 + a1 * 18446744073709551616 + a2 * 340282366920938463463374607431768211456 + (b0 + b1 * 18446744073709551616 + b2 * 340282366920938463463374607431768211456)) % 6277101735386680763835789423207666416102355444464034512896 := by
  obtain ⟨m, hm⟩ := fuel 4 (by decide)
  have k0 := carry a0 b0 0 ha0 hb0 (by decide)
  have k1 := carry a1 b1 _ ha1 hb1 k0
  refine ⟨(a0 + b0 + 0) % 18446744073709551616, (a1 + b1 + (a0 + b0 + 0) / 18446744073709551616) % 18446744073709551616, (a2 + b2 + (a1 + b1 + (a0 + b0 + 0) / 18446744073709551616) / 18446744073709551616) % 18446744073709551616, by unfold Wd; omega, by unfold Wd; omega, by unfold Wd; omega, ?_, ?_⟩
  · unfold F_qnum_sum_plus
    rw [hm]
    simp only [loopK, F_qnum_sum_plus_L1]
    simp only [show decide ((0 : Int) < 3) = true by decide, show decide ((0 : Int) ≤ 0) = true by decide, Bool.and_self, cond_true, show Int.toNat 0 = 0 by rfl, List.getD_cons_zero]
    rw [add64 a0 b0 0 ha0 hb0 (by decide)]
    simp only [wi01, show decide ((1 : Int) < 3) = true by decide, show decide ((0 : Int) ≤ 1) = true by decide, Bool.and_self, cond_true, show Int.toNat 1 = 1 by rfl, List.getD_cons_succ, List.getD_cons_zero, List.set_cons_zero]
    rw [add64 a1 b1 _ ha1 hb1 k0]
    simp only [wi12, show decide ((2 : Int) < 3) = true by decide, show decide ((0 : Int) ≤ 2) = true by decide, Bool.and_self, cond_true, show Int.toNat 2 = 2 by rfl, List.getD_cons_succ, List.getD_cons_zero, List.set_cons_zero, List.set_cons_succ]
    rw [add64 a2 b2 _ ha2 hb2 k1]
    simp only [wi23, show decide ((3 : Int) < 3) = false by decide, cond_false, List.set_cons_zero, List.set_cons_succ]
  · unfold Wd at *; omega

/-- A number of three words: what it is. -/
def val3 (s : List Int) : Int := s.getD 0 0 + s.getD 1 0 * 18446744073709551616 + s.getD 2 0 * 340282366920938463463374607431768211456
def S3 (s : List Int) : Prop := ∃ a b c, s = [a, b, c] ∧ Wd a ∧ Wd b ∧ Wd c

theorem S3.bound {s : List Int} (h : S3 s) : 0 ≤ val3 s ∧ val3 s < 6277101735386680763835789423207666416102355444464034512896 := by
  obtain ⟨a, b, c, rfl, ha, hb, hc⟩ := h
  unfold Wd at ha hb hc
  show 0 ≤ a + b * 18446744073709551616 + c * 340282366920938463463374607431768211456 ∧ a + b * 18446744073709551616 + c * 340282366920938463463374607431768211456 < _
  omega

theorem plus3 {R : Type} {s t : List Int} (hs : S3 s) (ht : S3 t) (κ : List Int → Option R) : ∃ u, S3 u ∧ val3 u = (val3 s + val3 t) % 6277101735386680763835789423207666416102355444464034512896 ∧ F_qnum_sum_plus s t κ = κ u := by
  obtain ⟨a0, a1, a2, rfl, ha0, ha1, ha2⟩ := hs
  obtain ⟨b0, b1, b2, rfl, hb0, hb1, hb2⟩ := ht
  obtain ⟨c0, c1, c2, h0, h1, h2, hr, hv⟩ := plus_run a0 a1 a2 b0 b1 b2 ha0 ha1 ha2 hb0 hb1 hb2 κ
  exact ⟨[c0, c1, c2], ⟨c0, c1, c2, rfl, h0, h1, h2⟩, hv, hr⟩

theorem neg_run {R : Type} (a0 a1 a2 : Int) (ha0 : Wd a0) (ha1 : Wd a1) (ha2 : Wd a2) (κ : List Int → Option R) :
    ∃ c0 c1 c2, Wd c0 ∧ Wd c1 ∧ Wd c2 ∧ F_qnum_sum_neg [a0, a1, a2] κ = κ [c0, c1, c2] ∧
      c0 + c1 * 18446744073709551616 + c2 * 340282366920938463463374607431768211456 = (-(a0 + a1 * 18446744073709551616 + a2 * 340282366920938463463374607431768211456)) % 6277101735386680763835789423207666416102355444464034512896 := by
  obtain ⟨m, hm⟩ := fuel 4 (by decide)
  have n0 : Wd (18446744073709551615 - a0) := by unfold Wd at *; omega
  have n1 : Wd (18446744073709551615 - a1) := by unfold Wd at *; omega
  have n2 : Wd (18446744073709551615 - a2) := by unfold Wd at *; omega
  have z : Wd 0 := by unfold Wd; omega
  have k0 := carry (18446744073709551615 - a0) 0 1 n0 z (by decide)
  have k1 := carry (18446744073709551615 - a1) 0 _ n1 z k0
  refine ⟨(18446744073709551615 - a0 + 0 + 1) % 18446744073709551616, (18446744073709551615 - a1 + 0 + (18446744073709551615 - a0 + 0 + 1) / 18446744073709551616) % 18446744073709551616, (18446744073709551615 - a2 + 0 + (18446744073709551615 - a1 + 0 + (18446744073709551615 - a0 + 0 + 1) / 18446744073709551616) / 18446744073709551616) % 18446744073709551616, by unfold Wd; omega, by unfold Wd; omega, by unfold Wd; omega, ?_, ?_⟩
  · unfold F_qnum_sum_neg
    rw [hm]
    simp only [loopK, F_qnum_sum_neg_L1]
    simp only [show decide ((0 : Int) < 3) = true by decide, show decide ((0 : Int) ≤ 0) = true by decide, Bool.and_self, cond_true, show Int.toNat 0 = 0 by rfl, List.getD_cons_zero]
    rw [not_u64 a0 ha0.1 ha0.2, add64 _ 0 1 n0 z (by decide)]
    simp only [wi01, show decide ((1 : Int) < 3) = true by decide, show decide ((0 : Int) ≤ 1) = true by decide, Bool.and_self, cond_true, show Int.toNat 1 = 1 by rfl, List.getD_cons_succ, List.getD_cons_zero, List.set_cons_zero]
    rw [not_u64 a1 ha1.1 ha1.2, add64 _ 0 _ n1 z k0]
    simp only [wi12, show decide ((2 : Int) < 3) = true by decide, show decide ((0 : Int) ≤ 2) = true by decide, Bool.and_self, cond_true, show Int.toNat 2 = 2 by rfl, List.getD_cons_succ, List.getD_cons_zero, List.set_cons_zero, List.set_cons_succ]
    rw [not_u64 a2 ha2.1 ha2.2, add64 _ 0 _ n2 z k1]
    simp only [wi23, show decide ((3 : Int) < 3) = false by decide, cond_false, List.set_cons_zero, List.set_cons_succ]
  · unfold Wd at *; omega

theorem neg3 {R : Type} {s : List Int} (hs : S3 s) (κ : List Int → Option R) : ∃ u, S3 u ∧ val3 u = (-(val3 s)) % 6277101735386680763835789423207666416102355444464034512896 ∧ F_qnum_sum_neg s κ = κ u := by
  obtain ⟨a0, a1, a2, rfl, ha0, ha1, ha2⟩ := hs
  obtain ⟨c0, c1, c2, h0, h1, h2, hr, hv⟩ := neg_run a0 a1 a2 ha0 ha1 ha2 κ
  exact ⟨[c0, c1, c2], ⟨c0, c1, c2, rfl, h0, h1, h2⟩, hv, hr⟩

/-- A number of 64 bits. -/
def I64 (x : Int) : Prop := -9223372036854775808 ≤ x ∧ x ≤ 9223372036854775807

theorem of3 {R : Type} {a : Int} (ha : I64 a) (κ : List Int → Option R) : ∃ u, S3 u ∧ val3 u = a % 6277101735386680763835789423207666416102355444464034512896 ∧ F_qnum_of a κ = κ u := by
  refine ⟨[a % 18446744073709551616, (a / 9223372036854775808) % 18446744073709551616, (a / 9223372036854775808) % 18446744073709551616], ⟨_, _, _, rfl, by unfold Wd; omega, by unfold Wd; omega, by unfold Wd; omega⟩, ?_, ?_⟩
  · unfold I64 at ha
    show a % 18446744073709551616 + (a / 9223372036854775808) % 18446744073709551616 * 18446744073709551616 + (a / 9223372036854775808) % 18446744073709551616 * 340282366920938463463374607431768211456 = _
    rcases Int.lt_or_le a 0 with h | h
    · have : a / 9223372036854775808 = -1 := by omega
      rw [this]; omega
    · have : a / 9223372036854775808 = 0 := by omega
      rw [this]; omega
  · unfold F_qnum_of
    simp only [shr63i, wu]
    rfl

theorem below3 {R : Type} {s : List Int} (hs : S3 s) (κ : Bool → Option R) : F_qnum_sum_below s κ = κ (decide (3138550867693340381917894711603833208051177722232017256448 ≤ val3 s)) := by
  obtain ⟨a, b, c, rfl, ha, hb, hc⟩ := hs
  unfold F_qnum_sum_below
  rw [shr63u]
  congr 1
  have e : val3 [a, b, c] = a + b * 18446744073709551616 + c * 340282366920938463463374607431768211456 := rfl
  rw [e, Bool.eq_iff_iff]
  simp only [beq_iff_eq, decide_eq_true_eq]
  show c / 9223372036854775808 = 1 ↔ _
  unfold Wd at ha hb hc
  omega

/-- What a number of three words stands for, with its sign. -/
def sv (s : List Int) : Int := if 3138550867693340381917894711603833208051177722232017256448 ≤ val3 s then val3 s - 6277101735386680763835789423207666416102355444464034512896 else val3 s

/-- Cut to what may be. -/
def clamp (x : Int) : Int := if x < -4611686018427387903 then -4611686018427387903 else if 4611686018427387903 < x then 4611686018427387903 else x
def over (x : Int) : Bool := decide (x < -4611686018427387903) || decide (4611686018427387903 < x)

theorem bounded3 {R : Type} {s : List Int} (hs : S3 s) (h1 : -1569275433846670190958947355801916604025588861116008628224 ≤ sv s) (h2 : sv s ≤ 1569275433846670190958947355801916604025588861116008628224) (κ : Int → Bool → Option R) : F_qnum_sum_bounded s κ = κ (clamp (sv s)) (over (sv s)) := by
  unfold F_qnum_sum_bounded
  obtain ⟨u1, hu1, hv1, e1⟩ := of3 (a := 4611686018427387903) (by unfold I64; omega) (R := R) (fun r6 => F_qnum_sum_plus s r6 (fun r7 =>
    F_qnum_of (-4611686018427387904) (fun r8 => F_qnum_sum_plus s r8 (fun r9 => F_qnum_sum_below r7 (fun r10 =>
      bif r10 then κ (-4611686018427387903) true else F_qnum_sum_below r9 (fun r11 => bif (!r11) then κ 4611686018427387903 true else κ (IntKind.i64.wrap (s.getD 0 0)) false))))))
  rw [e1]
  obtain ⟨u2, hu2, hv2, e2⟩ := plus3 hs hu1 (R := R) (fun r7 =>
    F_qnum_of (-4611686018427387904) (fun r8 => F_qnum_sum_plus s r8 (fun r9 => F_qnum_sum_below r7 (fun r10 =>
      bif r10 then κ (-4611686018427387903) true else F_qnum_sum_below r9 (fun r11 => bif (!r11) then κ 4611686018427387903 true else κ (IntKind.i64.wrap (s.getD 0 0)) false)))))
  rw [e2]
  obtain ⟨u3, hu3, hv3, e3⟩ := of3 (a := -4611686018427387904) (by unfold I64; omega) (R := R) (fun r8 => F_qnum_sum_plus s r8 (fun r9 => F_qnum_sum_below u2 (fun r10 =>
      bif r10 then κ (-4611686018427387903) true else F_qnum_sum_below r9 (fun r11 => bif (!r11) then κ 4611686018427387903 true else κ (IntKind.i64.wrap (s.getD 0 0)) false))))
  rw [e3]
  obtain ⟨u4, hu4, hv4, e4⟩ := plus3 hs hu3 (R := R) (fun r9 => F_qnum_sum_below u2 (fun r10 =>
      bif r10 then κ (-4611686018427387903) true else F_qnum_sum_below r9 (fun r11 => bif (!r11) then κ 4611686018427387903 true else κ (IntKind.i64.wrap (s.getD 0 0)) false)))
  rw [e4, below3 hu2, below3 hu4]
  have hb := hs.bound
  rw [hv2, hv1, hv4, hv3]
  obtain ⟨a, b, c, rfl, ha, hb', hc⟩ := hs
  have hval : val3 [a, b, c] = a + b * 18446744073709551616 + c * 340282366920938463463374607431768211456 := rfl
  have hg : [a, b, c].getD 0 0 = a := rfl
  rw [hg]
  unfold clamp over
  generalize hX : val3 [a, b, c] = X at *
  unfold sv at h1 h2 ⊢
  rw [hX] at h1 h2 ⊢
  unfold Wd at ha hb' hc
  have w0 : IntKind.i64.wrap a = if a < 9223372036854775808 then a else a - 18446744073709551616 := by rw [IntKind.wrap_i64]; split <;> omega
  rw [w0]
  by_cases hs : 3138550867693340381917894711603833208051177722232017256448 ≤ X
  · rw [if_pos hs] at h1 h2 ⊢
    by_cases c1 : X - 6277101735386680763835789423207666416102355444464034512896 < -4611686018427387903
    · have d1 : decide (3138550867693340381917894711603833208051177722232017256448 ≤ (X + 4611686018427387903 % 6277101735386680763835789423207666416102355444464034512896) % 6277101735386680763835789423207666416102355444464034512896) = true := decide_eq_true (by omega)
      rw [d1, cond_true, if_pos c1, decide_eq_true c1]; rfl
    · have d1 : decide (3138550867693340381917894711603833208051177722232017256448 ≤ (X + 4611686018427387903 % 6277101735386680763835789423207666416102355444464034512896) % 6277101735386680763835789423207666416102355444464034512896) = false := decide_eq_false (by omega)
      have d2 : decide (3138550867693340381917894711603833208051177722232017256448 ≤ (X + -4611686018427387904 % 6277101735386680763835789423207666416102355444464034512896) % 6277101735386680763835789423207666416102355444464034512896) = true := decide_eq_true (by omega)
      have c2 : ¬ 4611686018427387903 < X - 6277101735386680763835789423207666416102355444464034512896 := by omega
      rw [d1, d2, cond_false, Bool.not_true, cond_false, if_neg c1, if_neg c2, decide_eq_false c1, decide_eq_false c2]
      congr 1
      split <;> omega
  · rw [if_neg hs] at h1 h2 ⊢
    have c1 : ¬ X < -4611686018427387903 := by omega
    have d1 : decide (3138550867693340381917894711603833208051177722232017256448 ≤ (X + 4611686018427387903 % 6277101735386680763835789423207666416102355444464034512896) % 6277101735386680763835789423207666416102355444464034512896) = false := decide_eq_false (by omega)
    rw [d1, cond_false, if_neg c1, decide_eq_false c1]
    by_cases c2 : 4611686018427387903 < X
    · have d2 : decide (3138550867693340381917894711603833208051177722232017256448 ≤ (X + -4611686018427387904 % 6277101735386680763835789423207666416102355444464034512896) % 6277101735386680763835789423207666416102355444464034512896) = false := decide_eq_false (by omega)
      rw [d2, Bool.not_false, cond_true, if_pos c2, decide_eq_true c2]; rfl
    · have d2 : decide (3138550867693340381917894711603833208051177722232017256448 ≤ (X + -4611686018427387904 % 6277101735386680763835789423207666416102355444464034512896) % 6277101735386680763835789423207666416102355444464034512896) = true := decide_eq_true (by omega)
      rw [d2, Bool.not_true, cond_false, if_neg c2, decide_eq_false c2]
      congr 1
      split <;> omega
end Go.Proofs
end

section
set_option linter.all false
set_option linter.unusedSimpArgs false
set_option linter.unusedVariables false
namespace Go.Proofs
open Go Go.Ev
set_option linter.unusedVariables false
set_option linter.unusedSimpArgs false
set_option maxRecDepth 100000

/-- A loop ends, and with what may be. -/
theorem loop_det {S T : Type} (Inv : S → Prop) (meas : S → Nat) (Q : T → Prop) (Φ : ∀ {R : Type}, (T → Option R) → (S → Option R) → S → Option R)
    (step : ∀ z, Inv z → (∃ t, Q t ∧ ∀ (R : Type) (κ : T → Option R) rec', Φ κ rec' z = κ t) ∨ (∃ z', Inv z' ∧ meas z' < meas z ∧ ∀ (R : Type) (κ : T → Option R) rec', Φ κ rec' z = rec' z')) :
    ∀ n z, Inv z → meas z < n → ∃ t, Q t ∧ ∀ (R : Type) (κ : T → Option R), loopK (Φ κ) n z = κ t := by
  intro n
  induction n with
  | zero => intro z _ h; omega
  | succ n ih =>
    intro z hz hm
    rcases step z hz with ⟨t, hq, he⟩ | ⟨z', hz', hlt, he⟩
    · exact ⟨t, hq, fun R κ => by rw [loopK, he]⟩
    · obtain ⟨t, hq, ht⟩ := ih z' hz' (by omega)
      exact ⟨t, hq, fun R κ => by rw [loopK, he, ht]⟩

theorem loop_ends {S T : Type} (Inv : S → Prop) (meas : S → Nat) (Q : T → Prop) (Φ : ∀ {R : Type}, (T → Option R) → (S → Option R) → S → Option R)
    (step : ∀ z, Inv z → (∃ t, Q t ∧ ∀ (R : Type) (κ : T → Option R) rec', Φ κ rec' z = κ t) ∨ (∃ z', Inv z' ∧ meas z' < meas z ∧ ∀ (R : Type) (κ : T → Option R) rec', Φ κ rec' z = rec' z'))
    (z : S) (hz : Inv z) (hm : meas z < 18446744073709551616) : ∃ t, Q t ∧ ∀ (R : Type) (κ : T → Option R), loopK (Φ κ) FUEL z = κ t :=
  loop_det Inv meas Q Φ step FUEL z hz (by have := le_FUEL; omega)

/-! ### Words and numbers that may be -/
theorem Wd_wrap (n : Int) : Wd (IntKind.u64.wrap n) := by rw [wu]; unfold Wd; omega
theorem I64_wrap (n : Int) : I64 (IntKind.i64.wrap n) := by rw [IntKind.wrap_i64]; unfold I64; omega
theorem Wd_bits (op : BinOp) (x y : Int) : Wd (bitsI op .u64 x y) := by
  unfold bitsI; split <;> exact Wd_wrap _
theorem Wd_shl (x y : Int) : Wd (shlI .u64 x y) := Wd_wrap _
theorem I64_shl (x y : Int) : I64 (shlI .i64 x y) := I64_wrap _
theorem pow_pos' (n : Nat) : (1 : Int) ≤ 2 ^ n := by
  have : 0 < 2 ^ n := Nat.two_pow_pos n
  have h2 : ((2 ^ n : Nat) : Int) = (2 : Int) ^ n := by simp
  omega
theorem Wd_shr (x y : Int) (h : Wd x) : Wd (shrI .u64 x y) := by
  unfold shrI
  have hp := pow_pos' (min y.toNat IntKind.u64.bits)
  generalize (2 : Int) ^ (min y.toNat IntKind.u64.bits) = p at *
  rw [Int.fdiv_eq_ediv_of_nonneg _ (by omega)]
  refine ⟨Int.ediv_nonneg h.1 (by omega), Int.lt_of_le_of_lt (Int.ediv_le_self _ h.1) h.2⟩

/-- A number that is not too great. -/
def B62 (x : Int) : Prop := -4611686018427387903 ≤ x ∧ x ≤ 4611686018427387903
theorem B62.i64 {x : Int} (h : B62 x) : I64 x := by unfold B62 at h; unfold I64; omega
def AllI (l : List Int) : Prop := ∀ x ∈ l, I64 x
theorem I64_zero : I64 0 := by unfold I64; omega
theorem getD_cases (l : List Int) (i : Nat) : l.getD i 0 ∈ l ∨ l.getD i 0 = 0 := by
  rw [List.getD_eq_getElem?_getD]
  cases h : l[i]? with
  | none => right; rfl
  | some x => left; exact List.mem_of_getElem? h
theorem AllI.getD {l : List Int} (h : AllI l) (i : Nat) : I64 (l.getD i 0) := by
  rcases getD_cases l i with h' | h'
  · exact h _ h'
  · rw [h']; exact I64_zero
theorem AllI.set {l : List Int} (h : AllI l) (i : Nat) {x : Int} (hx : I64 x) : AllI (l.set i x) := fun y hy => by
  rcases List.mem_or_eq_of_mem_set hy with h' | rfl
  · exact h _ h'
  · exact hx
theorem AllI.app {l r : List Int} (h : AllI l) (h' : AllI r) : AllI (l ++ r) := fun y hy => by
  rcases List.mem_append.mp hy with a | a
  · exact h _ a
  · exact h' _ a
theorem AllI.take {l : List Int} (h : AllI l) (i : Nat) : AllI (l.take i) := fun y hy => h _ (List.mem_of_mem_take hy)
theorem AllI.drop {l : List Int} (h : AllI l) (i : Nat) : AllI (l.drop i) := fun y hy => h _ (List.mem_of_mem_drop hy)
theorem AllI.one {x : Int} (h : I64 x) : AllI [x] := fun y hy => by rw [List.mem_singleton] at hy; rw [hy]; exact h
theorem AllI.nil : AllI [] := fun y hy => by cases hy
theorem AllI.zeros (n : Nat) : AllI (List.replicate n 0) := fun y hy => by rw [(List.mem_replicate.mp hy).2]; exact I64_zero

theorem S3.getD {s : List Int} (h : S3 s) (i : Nat) : Wd (s.getD i 0) := by
  obtain ⟨a, b, c, rfl, ha, hb, hc⟩ := h
  match i with
  | 0 => exact ha
  | 1 => exact hb
  | 2 => exact hc
  | n + 3 => show Wd 0; exact ⟨by decide, by decide⟩
theorem S3.set {s : List Int} (h : S3 s) (i : Nat) {x : Int} (hx : Wd x) : S3 (s.set i x) := by
  obtain ⟨a, b, c, rfl, ha, hb, hc⟩ := h
  match i with
  | 0 => exact ⟨x, b, c, rfl, hx, hb, hc⟩
  | 1 => exact ⟨a, x, c, rfl, ha, hx, hc⟩
  | 2 => exact ⟨a, b, x, rfl, ha, hb, hx⟩
  | n + 3 => exact ⟨a, b, c, rfl, ha, hb, hc⟩
theorem S3.zero : S3 (List.replicate 3 0) := ⟨0, 0, 0, rfl, ⟨by decide, by decide⟩, ⟨by decide, by decide⟩, ⟨by decide, by decide⟩⟩
theorem S3.one : S3 ((List.replicate 3 0).set 0 1) := S3.zero.set 0 ⟨by decide, by decide⟩

/-! ### The same, for any continuation at once -/
theorem plusD {s t : List Int} (hs : S3 s) (ht : S3 t) : ∃ u, S3 u ∧ val3 u = (val3 s + val3 t) % 6277101735386680763835789423207666416102355444464034512896 ∧ ∀ (R : Type) (κ : List Int → Option R), F_qnum_sum_plus s t κ = κ u := by
  obtain ⟨u, hu, hv, h1⟩ := plus3 hs ht (R := List Int) some
  refine ⟨u, hu, hv, fun R κ => ?_⟩
  obtain ⟨u', hu', hv', h2⟩ := plus3 hs ht (R := R) κ
  rw [h2]
  congr 1
  obtain ⟨a, b, c, rfl, ha, hb, hc⟩ := hu
  obtain ⟨a', b', c', rfl, ha', hb', hc'⟩ := hu'
  have e1 : val3 [a, b, c] = a + b * 18446744073709551616 + c * 340282366920938463463374607431768211456 := rfl
  have e2 : val3 [a', b', c'] = a' + b' * 18446744073709551616 + c' * 340282366920938463463374607431768211456 := rfl
  rw [e1] at hv; rw [e2] at hv'
  unfold Wd at ha hb hc ha' hb' hc'
  rw [← hv] at hv'
  have : a = a' ∧ b = b' ∧ c = c' := by omega
  rw [this.1, this.2.1, this.2.2]
theorem val3_inj {u u' : List Int} (hu : S3 u) (hu' : S3 u') (h : val3 u = val3 u') : u = u' := by
  obtain ⟨a, b, c, rfl, ha, hb, hc⟩ := hu
  obtain ⟨a', b', c', rfl, ha', hb', hc'⟩ := hu'
  have e1 : val3 [a, b, c] = a + b * 18446744073709551616 + c * 340282366920938463463374607431768211456 := rfl
  have e2 : val3 [a', b', c'] = a' + b' * 18446744073709551616 + c' * 340282366920938463463374607431768211456 := rfl
  rw [e1, e2] at h
  unfold Wd at ha hb hc ha' hb' hc'
  have : a = a' ∧ b = b' ∧ c = c' := by omega
  rw [this.1, this.2.1, this.2.2]
theorem negD {s : List Int} (hs : S3 s) : ∃ u, S3 u ∧ val3 u = (-(val3 s)) % 6277101735386680763835789423207666416102355444464034512896 ∧ ∀ (R : Type) (κ : List Int → Option R), F_qnum_sum_neg s κ = κ u := by
  obtain ⟨u, hu, hv, h1⟩ := neg3 hs (R := List Int) some
  refine ⟨u, hu, hv, fun R κ => ?_⟩
  obtain ⟨u', hu', hv', h2⟩ := neg3 hs (R := R) κ
  rw [h2, val3_inj hu' hu (by rw [hv, hv'])]
theorem ofD {a : Int} (ha : I64 a) : ∃ u, S3 u ∧ val3 u = a % 6277101735386680763835789423207666416102355444464034512896 ∧ ∀ (R : Type) (κ : List Int → Option R), F_qnum_of a κ = κ u := by
  obtain ⟨u, hu, hv, h1⟩ := of3 ha (R := List Int) some
  refine ⟨u, hu, hv, fun R κ => ?_⟩
  obtain ⟨u', hu', hv', h2⟩ := of3 ha (R := R) κ
  rw [h2, val3_inj hu' hu (by rw [hv, hv'])]

/-- Any number of three words is cut to what may be. -/
theorem boundedS {s : List Int} (hs : S3 s) : ∃ r b, B62 r ∧ ∀ (R : Type) (κ : Int → Bool → Option R), F_qnum_sum_bounded s κ = κ r b := by
  obtain ⟨u1, hu1, hv1, e1⟩ := ofD (a := 4611686018427387903) (by unfold I64; omega)
  obtain ⟨u2, hu2, hv2, e2⟩ := plusD hs hu1
  obtain ⟨u3, hu3, hv3, e3⟩ := ofD (a := -4611686018427387904) (by unfold I64; omega)
  obtain ⟨u4, hu4, hv4, e4⟩ := plusD hs hu3
  have hb := hs.bound
  have run : ∀ (R : Type) (κ : Int → Bool → Option R), F_qnum_sum_bounded s κ = bif (decide (3138550867693340381917894711603833208051177722232017256448 ≤ val3 u2)) then κ (-4611686018427387903) true else bif (!(decide (3138550867693340381917894711603833208051177722232017256448 ≤ val3 u4))) then κ 4611686018427387903 true else κ (IntKind.i64.wrap (s.getD 0 0)) false := by
    intro R κ
    unfold F_qnum_sum_bounded
    rw [e1, e2, e3, e4, below3 hu2, below3 hu4]
  by_cases c1 : 3138550867693340381917894711603833208051177722232017256448 ≤ val3 u2
  · exact ⟨-4611686018427387903, true, by unfold B62; omega, fun R κ => by rw [run, decide_eq_true c1, cond_true]⟩
  · by_cases c2 : 3138550867693340381917894711603833208051177722232017256448 ≤ val3 u4
    · refine ⟨_, _, ?_, fun R κ => by rw [run, decide_eq_false c1, cond_false, decide_eq_true c2, Bool.not_true, cond_false]⟩
      rw [hv2, hv1] at c1
      rw [hv4, hv3] at c2
      obtain ⟨a, b, c, rfl, ha, hb', hc⟩ := hs
      have hval : val3 [a, b, c] = a + b * 18446744073709551616 + c * 340282366920938463463374607431768211456 := rfl
      have hg : [a, b, c].getD 0 0 = a := rfl
      rw [hg]
      rw [hval] at c1 c2 hb
      unfold Wd at ha hb' hc
      unfold B62
      rw [IntKind.wrap_i64]
      omega
    · exact ⟨4611686018427387903, true, by unfold B62; omega, fun R κ => by rw [run, decide_eq_false c1, cond_false, decide_eq_false c2, Bool.not_false, cond_true]⟩

theorem sizeS {a : Int} : ∃ r, Wd r ∧ ∀ (R : Type) (κ : Int → Option R), F_qnum_size a κ = κ r := by
  by_cases h : a < 0
  · exact ⟨_, Wd_wrap _, fun R κ => by unfold F_qnum_size; rw [decide_eq_true h, cond_true]⟩
  · exact ⟨_, Wd_wrap _, fun R κ => by unfold F_qnum_size; rw [decide_eq_false h, cond_false]⟩

theorem productS {a b : Int} : ∃ u, S3 u ∧ ∀ (R : Type) (κ : List Int → Option R), F_qnum_product a b κ = κ u := by
  obtain ⟨x, hx, e1⟩ := sizeS (a := a)
  obtain ⟨y, hy, e2⟩ := sizeS (a := b)
  have h3 : S3 (((List.replicate 3 0).set 0 (x * y % 18446744073709551616)).set 1 (x * y / 18446744073709551616)) := by
    refine S3.set (S3.set S3.zero 0 (by unfold Wd; omega)) 1 ?_
    unfold Wd at *
    have h0 : 0 ≤ x * y := Int.mul_nonneg hx.1 hy.1
    have h1 : x * y ≤ 18446744073709551615 * 18446744073709551615 := Int.mul_le_mul (by omega) (by omega) hy.1 (by omega)
    omega
  obtain ⟨u, hu, _, e3⟩ := negD h3
  by_cases h : (!((decide (a < 0)) == (decide (b < 0)))) = true
  · exact ⟨u, hu, fun R κ => by unfold F_qnum_product; rw [e1, e2, mul64 x y hx.1 hx.2 hy.1 hy.2]; simp only [h, cond_true, e3]⟩
  · exact ⟨_, h3, fun R κ => by unfold F_qnum_product; rw [e1, e2, mul64 x y hx.1 hx.2 hy.1 hy.2]; simp only [h, cond_false]⟩

theorem pointedS {n : Int} (h0 : 0 ≤ n) (h1 : n ≤ 62) {R : Type} (κ : Bool → Option R) : F_qnum_pointed n κ = κ true := by
  unfold F_qnum_pointed; simp only [joinK, decide_eq_true h0, decide_eq_true h1, cond_true]

theorem t3 : decide ((0:Int) < 3) = true := by decide

theorem half_loop {n low : Int} (hn : 1 ≤ n ∧ n ≤ 62) (z : Int × Int × Int × List Int × List Int × Unit)
    (hz : z.1 = n ∧ z.2.1 = low ∧ 0 ≤ z.2.2.1 ∧ z.2.2.1 ≤ 3 ∧ S3 z.2.2.2.1) : ∃ u, S3 u ∧ ∀ (R : Type) (κ : List Int → Option R), loopK (F_qnum_sum_half_L1 κ) FUEL z = κ u := by
  refine loop_ends (fun z : Int × Int × Int × List Int × List Int × Unit => z.1 = n ∧ z.2.1 = low ∧ 0 ≤ z.2.2.1 ∧ z.2.2.1 ≤ 3 ∧ S3 z.2.2.2.1) (fun z => (3 - z.2.2.1).toNat) S3 (fun {R} κ rec' z => F_qnum_sum_half_L1 κ rec' z) ?_ z hz (by have := hz.2.2.1; omega)
  clear hz z
  rintro ⟨n', low', i, s, s0, ⟨⟩⟩ ⟨h1, h2, h3, h4, hs⟩
  simp only at h1 h2 h3 h4 hs
  subst h1 h2
  have w1 : IntKind.i64.wrap (i + 1) = i + 1 := wi _ (by omega) (by omega)
  have w2 : IntKind.i64.wrap (64 - n') = 64 - n' := wi _ (by omega) (by omega)
  have w3 : IntKind.i64.wrap (n' - 1) = n' - 1 := wi _ (by omega) (by omega)
  have d2 : decide (64 - n' < 0) = false := decide_eq_false (by omega)
  have d3 : decide (n' - 1 < 0) = false := decide_eq_false (by omega)
  have d4 : decide (n' < 0) = false := decide_eq_false (by omega)
  by_cases c : i < 3
  · right
    have d1 : decide (i < 3) = true := decide_eq_true c
    have d0 : decide (0 ≤ i) = true := decide_eq_true h3
    have key : ∀ m : Int, (fun z : Int × Int × Int × List Int × List Int × Unit => z.1 = n' ∧ z.2.1 = low' ∧ 0 ≤ z.2.2.1 ∧ z.2.2.1 ≤ 3 ∧ S3 z.2.2.2.1) (n', low', i + 1, s.set i.toNat (bitsI .or .u64 (shrI .u64 (s.getD i.toNat 0) n') m), s0, ()) := fun m => ⟨rfl, rfl, by show 0 ≤ i + 1; omega, by show i + 1 ≤ 3; omega, hs.set _ (Wd_bits _ _ _)⟩
    by_cases c1 : i + 1 < 3
    · refine ⟨_, key (shlI .u64 (s.getD (i + 1).toNat 0) (64 - n')), by simp only; omega, fun R κ rec' => ?_⟩
      unfold F_qnum_sum_half_L1
      have e1 : decide (i + 1 < 3) = true := decide_eq_true c1
      have e0 : decide (0 ≤ i + 1) = true := decide_eq_true (by omega)
      simp only [joinK, d1, d0, cond_true, w1, e1, e0, Bool.and_self, w2, d2, cond_false, d4]
    · have e1 : decide (i + 1 < 3) = false := decide_eq_false c1
      by_cases c2 : 3138550867693340381917894711603833208051177722232017256448 ≤ val3 s
      · refine ⟨_, key (shlI .u64 18446744073709551615 (64 - n')), by simp only; omega, fun R κ rec' => ?_⟩
        unfold F_qnum_sum_half_L1
        simp only [joinK, d1, d0, cond_true, w1, e1, Bool.and_self, w2, d2, cond_false, below3 hs, decide_eq_true c2, d4]
      · refine ⟨_, key 0, by simp only; omega, fun R κ rec' => ?_⟩
        unfold F_qnum_sum_half_L1
        simp only [joinK, d1, d0, cond_true, w1, e1, Bool.and_self, w2, d2, cond_false, below3 hs, decide_eq_false c2, d4]
  · left
    have d1 : decide (i < 3) = false := decide_eq_false c
    obtain ⟨u, hu, _, eu⟩ := plusD hs S3.one
    have run : ∃ b : Bool, ∀ (R : Type) (κ : List Int → Option R) rec', F_qnum_sum_half_L1 κ rec' (n', low', i, s, s0, ()) = bif b then κ u else κ s := by
      by_cases c1 : (shlI .u64 1 (n' - 1)) < low'
      · refine ⟨true, fun R κ rec' => ?_⟩
        unfold F_qnum_sum_half_L1
        simp only [joinK, d1, cond_false, w3, d3, decide_eq_true c1, cond_true, eu]
      · by_cases c2 : (low' == (shlI .u64 1 (n' - 1))) = true
        · refine ⟨((bitsI .and .u64 (s.getD 0 0) 1) == 1), fun R κ rec' => ?_⟩
          unfold F_qnum_sum_half_L1
          simp only [joinK, d1, cond_false, w3, d3, decide_eq_false c1, c2, cond_true, eu]
        · refine ⟨false, fun R κ rec' => ?_⟩
          unfold F_qnum_sum_half_L1
          simp only [joinK, d1, cond_false, w3, d3, decide_eq_false c1, c2, cond_true, eu]
    obtain ⟨b, hb⟩ := run
    cases b with
    | true => exact ⟨u, hu, fun R κ rec' => by rw [hb]; rfl⟩
    | false => exact ⟨s, hs, fun R κ rec' => by rw [hb]; rfl⟩

theorem halfS {s : List Int} (hs : S3 s) {n : Int} (h0 : 0 ≤ n) (h1 : n ≤ 62) : ∃ u, S3 u ∧ ∀ (R : Type) (κ : List Int → Option R), F_qnum_sum_half s n κ = κ u := by
  by_cases c : n = 0
  · exact ⟨s, hs, fun R κ => by unfold F_qnum_sum_half; rw [c]; rfl⟩
  · obtain ⟨u, hu, e⟩ := half_loop (n := n) (low := bitsI .and .u64 (s.getD 0 0) (IntKind.u64.wrap ((shlI .u64 1 n) - 1))) (by omega) (n, bitsI .and .u64 (s.getD 0 0) (IntKind.u64.wrap ((shlI .u64 1 n) - 1)), 0, s, (List.replicate 3 0), ()) ⟨rfl, rfl, Int.le_refl 0, (by decide : (0 : Int) ≤ 3), hs⟩
    refine ⟨u, hu, fun R κ => ?_⟩
    unfold F_qnum_sum_half
    have d : decide (n < 0) = false := decide_eq_false (by omega)
    have b : (n == 0) = false := by simpa using c
    rw [b, cond_false, d, cond_false, e]
end Go.Proofs
end

section
set_option linter.all false
set_option linter.unusedSimpArgs false
set_option linter.unusedVariables false
namespace Go.Proofs
open Go Go.Ev
set_option linter.unusedVariables false
set_option linter.unusedSimpArgs false
set_option maxRecDepth 100000

theorem d_lt {a b : Int} (h : a < b) : decide (a < b) = true := decide_eq_true h
theorem d_le {a b : Int} (h : a ≤ b) : decide (a ≤ b) = true := decide_eq_true h
theorem n_lt {a b : Int} (h : ¬ a < b) : decide (a < b) = false := decide_eq_false h
theorem n_le {a b : Int} (h : ¬ a ≤ b) : decide (a ≤ b) = false := decide_eq_false h
theorem b_eq {a b : Int} (h : a = b) : (a == b) = true := by rw [h]; exact beq_self_eq_true b
theorem b_ne {a b : Int} (h : ¬ a = b) : (a == b) = false := by simpa using h
theorem b_nn {a b : Int} (h : ¬ a = b) : (a != b) = true := by simpa using h
theorem b_ee {a b : Int} (h : a = b) : (a != b) = false := by simpa using h

/-- A sum of products, of lists as long. -/
theorem dotS {a b : List Int} {p : Int} (h0 : 0 ≤ p) (h1 : p ≤ 62) (hl : a.length = b.length) (hm : a.length ≤ 64) : ∃ r c, B62 r ∧ ∀ (R : Type) (κ : Int → Bool → Option Int → Option R), F_qnum_Dot a b p κ = κ r c none := by
  obtain ⟨⟨r, c, o⟩, ⟨hr, ho⟩, e⟩ := loop_ends (S := List Int × Int × List Int × Int × Int × List Int × Unit) (T := Int × Bool × Option Int)
    (fun z => z.1 = b ∧ z.2.1 = p ∧ z.2.2.1 = a ∧ z.2.2.2.1 = a.length ∧ 0 ≤ z.2.2.2.2.1 ∧ S3 z.2.2.2.2.2.1) (fun z => (a.length - z.2.2.2.2.1).toNat) (fun t => B62 t.1 ∧ t.2.2 = none)
    (fun {R} κ rec' z => F_qnum_Dot_L1 (fun r c e => κ (r, c, e)) rec' z) (by
      rintro ⟨b', p', a', n, i, s, ⟨⟩⟩ ⟨e1, e2, e3, e4, e5, hs⟩
      simp only at e1 e2 e3 e4 e5 hs
      subst e1 e2 e3 e4
      by_cases c : i < a'.length
      · right
        obtain ⟨u, hu, eu⟩ := productS (a := a'.getD i.toNat 0) (b := b'.getD i.toNat 0)
        obtain ⟨v, hv, _, ev⟩ := plusD hs hu
        have w : IntKind.i64.wrap (i + 1) = i + 1 := wi _ (by omega) (by omega)
        refine ⟨(b', p', a', (a'.length : Int), i + 1, v, ()), ⟨rfl, rfl, rfl, rfl, (by show 0 ≤ i + 1; omega), hv⟩, (by show (_ - (i + 1)).toNat < (_ - i).toNat; omega), fun R κ rec' => ?_⟩
        unfold F_qnum_Dot_L1
        have c' : i < b'.length := by omega
        simp only [d_lt c, d_le e5, d_lt c', Bool.and_self, cond_true, eu, ev, w]
      · left
        obtain ⟨u, hu, eu⟩ := halfS hs h0 h1
        obtain ⟨r, b, hr, er⟩ := boundedS hu
        refine ⟨(r, b, none), ⟨hr, rfl⟩, fun R κ rec' => ?_⟩
        unfold F_qnum_Dot_L1
        simp only [n_lt c, cond_false, eu, er])
    (b, p, a, (a.length : Int), 0, (List.replicate 3 0), ()) ⟨rfl, rfl, rfl, rfl, Int.le_refl 0, S3.zero⟩ (by show ((a.length : Int) - 0).toNat < _; omega)
  simp only at hr ho
  subst ho
  refine ⟨r, c, hr, fun R κ => ?_⟩
  unfold F_qnum_Dot
  have k1 : ((a.length : Int) != (b.length : Int)) = false := b_ee (by omega)
  simp only [joinK, pointedS h0 h1, Bool.not_true, cond_false, k1, n_lt (show ¬ (64 : Int) < a.length by omega)]
  exact e R (fun t => κ t.1 t.2.1 t.2.2)

theorem tdotS {t : Bool × Unit} {a b : List Int} {p : Int} (h0 : 0 ≤ p) (h1 : p ≤ 62) (hl : a.length = b.length) (hm : a.length ≤ 64) : ∃ r u, B62 r ∧ ∀ (R : Type) (κ : Int → Bool × Unit → Option R), F_ldl_tally_dot t a b p κ = κ r u := by
  obtain ⟨r, c, hr, e⟩ := dotS h0 h1 hl hm
  obtain ⟨t, ⟨⟩⟩ := t
  cases t <;> cases c
  · exact ⟨r, (false, ()), hr, fun R κ => by unfold F_ldl_tally_dot; simp only [e]; rfl⟩
  · exact ⟨r, (true, ()), hr, fun R κ => by unfold F_ldl_tally_dot; simp only [e]; rfl⟩
  · exact ⟨r, (true, ()), hr, fun R κ => by unfold F_ldl_tally_dot; simp only [e]; rfl⟩
  · exact ⟨r, (true, ()), hr, fun R κ => by unfold F_ldl_tally_dot; simp only [e]; rfl⟩

theorem subS {a b : Int} (ha : I64 a) (hb : I64 b) : ∃ r c, B62 r ∧ ∀ (R : Type) (κ : Int → Bool → Option R), F_qnum_Sub a b κ = κ r c := by
  obtain ⟨u1, h1, _, e1⟩ := ofD ha
  obtain ⟨u2, h2, _, e2⟩ := ofD hb
  obtain ⟨u3, h3, _, e3⟩ := negD h2
  obtain ⟨u4, h4, _, e4⟩ := plusD h1 h3
  obtain ⟨r, c, hr, e⟩ := boundedS h4
  exact ⟨r, c, hr, fun R κ => by unfold F_qnum_Sub; simp only [e1, e2, e3, e4, e]⟩

theorem tlessS {t : Bool × Unit} {a b : Int} (ha : I64 a) (hb : I64 b) : ∃ r u, B62 r ∧ ∀ (R : Type) (κ : Int → Bool × Unit → Option R), F_ldl_tally_less t a b κ = κ r u := by
  obtain ⟨r, c, hr, e⟩ := subS ha hb
  obtain ⟨t, ⟨⟩⟩ := t
  cases t
  · exact ⟨r, (c, ()), hr, fun R κ => by unfold F_ldl_tally_less; simp only [e]; rfl⟩
  · exact ⟨r, (true, ()), hr, fun R κ => by unfold F_ldl_tally_less; simp only [e]; rfl⟩

/-! ### Factors -/
abbrev Fac := Int × List Int × List Int × Unit
/-- Factors that may be, as far as no index goes astray. -/
def FacS (f : Fac) : Prop := 1 ≤ f.1 ∧ f.1 ≤ 6 ∧ f.2.1.length = 36 ∧ f.2.2.1.length = 6 ∧ AllI f.2.1 ∧ AllI f.2.2.1

theorem mul_le6 {i n : Int} (h0 : 0 ≤ i) (h1 : i < n) (h2 : n ≤ 6) : 0 ≤ i * n ∧ i * n + n ≤ 36 ∧ i * n ≤ 30 := by
  have a : 0 ≤ i * n := Int.mul_nonneg h0 (by omega)
  have b : (i + 1) * n ≤ 6 * 6 := Int.mul_le_mul (by omega) h2 (by omega) (by omega)
  have c : (i + 1) * n = i * n + n := by grind
  have d : i * n ≤ 5 * 6 := Int.mul_le_mul (by omega) h2 (by omega) (by omega)
  omega

theorem downS {t : Bool × Unit} {f : Fac} {v : List Int} (hf : FacS f) (hv : (v.length : Int) = f.1) (hvi : AllI v) : ∃ w u, (w.length = v.length ∧ AllI w) ∧ ∀ (R : Type) (κ : List Int → Bool × Unit → Option R), F_ldl_tally_down t f v κ = κ w u := by
  obtain ⟨h1, h2, h3, h4, h5, h6⟩ := hf
  obtain ⟨⟨w, u⟩, hw, e⟩ := loop_ends (S := Fac × List Int × Int × Int × (Bool × Unit) × List Int × Unit) (T := List Int × (Bool × Unit))
    (fun z => z.1 = f ∧ z.2.1 = v ∧ z.2.2.1 = f.1 ∧ 0 ≤ z.2.2.2.1 ∧ z.2.2.2.1 ≤ f.1 ∧ (z.2.2.2.2.2.1.length : Int) = z.2.2.2.1 ∧ AllI z.2.2.2.2.2.1) (fun z => (f.1 - z.2.2.2.1).toNat) (fun t => t.1.length = v.length ∧ AllI t.1)
    (fun {R} κ rec' z => F_ldl_tally_down_L1 (fun r c => κ (r, c)) rec' z) (by
      rintro ⟨f', v', n, i, t, w, ⟨⟩⟩ ⟨e1, e2, e3, e4, e5, e6, e7⟩
      simp only at e1 e2 e3 e4 e5 e6 e7
      subst e1 e2 e3
      by_cases c : i < f'.1
      · right
        have hm := mul_le6 e4 c h2
        have hl : ((f'.2.1.take (i * f'.1 + i).toNat).drop (i * f'.1).toNat).length = w.length := by
          rw [List.length_drop, List.length_take, h3]; omega
        obtain ⟨r, u, hr, er⟩ := tdotS (t := t) (a := (f'.2.1.take (i * f'.1 + i).toNat).drop (i * f'.1).toNat) (b := w) (p := 30) (by omega) (by omega) hl (by rw [hl]; omega)
        obtain ⟨r', u', hr', er'⟩ := tlessS (t := u) (hvi.getD i.toNat) hr.i64
        have w1 : IntKind.i64.wrap (i * f'.1) = i * f'.1 := wi _ (by omega) (by omega)
        have w2 : IntKind.i64.wrap (i * f'.1 + i) = i * f'.1 + i := wi _ (by omega) (by omega)
        have w3 : IntKind.i64.wrap (i + 1) = i + 1 := wi _ (by omega) (by omega)
        refine ⟨(f', v', f'.1, i + 1, u', w ++ [r'], ()), ⟨rfl, rfl, rfl, (by show 0 ≤ i + 1; omega), (by show i + 1 ≤ _; omega), (by show (((w ++ [r']).length : Nat) : Int) = i + 1; rw [List.length_append]; simp; omega), e7.app (AllI.one hr'.i64)⟩, (by show (_ - (i + 1)).toNat < (_ - i).toNat; omega), fun R κ rec' => ?_⟩
        unfold F_ldl_tally_down_L1
        simp only [d_lt c, cond_true, d_le e4, d_lt (show i < v'.length by omega), Bool.and_self, w1, w2, w3, d_le (show 0 ≤ i * f'.1 + i by omega), d_le (show i * f'.1 + i ≤ 36 by omega), d_le (show 0 ≤ i * f'.1 by omega), d_le (show i * f'.1 ≤ i * f'.1 + i by omega), er, er']
        rw [decide_eq_true (by omega), cond_true]
      · left
        refine ⟨(w, t), ⟨by show w.length = _; omega, e7⟩, fun R κ rec' => ?_⟩
        unfold F_ldl_tally_down_L1
        simp only [n_lt c, cond_false])
    (f, v, f.1, 0, t, (List.replicate 0 0), ()) ⟨rfl, rfl, rfl, Int.le_refl 0, (by show (0 : Int) ≤ f.1; omega), rfl, AllI.zeros 0⟩ (by show (f.1 - 0).toNat < _; omega)
  refine ⟨w, u, hw, fun R κ => ?_⟩
  unfold F_ldl_tally_down
  rw [d_le (show 0 ≤ f.1 by omega), d_le (show f.1 * 8 ≤ 140737488355328 by omega), Bool.and_self, cond_true]
  exact e R (fun t => κ t.1 t.2)
end Go.Proofs
end

section
set_option linter.all false
set_option linter.unusedSimpArgs false
set_option linter.unusedVariables false
namespace Go.Proofs
open Go Go.Ev
set_option linter.unusedVariables false
set_option linter.unusedSimpArgs false
set_option maxRecDepth 100000
noncomputable def lenTab : Bool := (List.range 256).all fun i => let b := byteAt (funStr Tryd.f43) i; decide (0 ≤ b) && decide (b ≤ 8) && decide ((i : Int) + 1 ≤ 2 ^ b.toNat) && (decide (i = 0) || (decide (1 ≤ b) && decide ((2 : Int) ^ (b.toNat - 1) ≤ i)))
theorem lenTab_ok : lenTab = true := by decide +kernel
theorem lenTab_size : ByteArray.size (funStr Tryd.f43) = 256 := by decide +kernel
theorem lenTab_at {i : Nat} (h : i < 256) : 0 ≤ byteAt (funStr Tryd.f43) i ∧ byteAt (funStr Tryd.f43) i ≤ 8 ∧ (i : Int) + 1 ≤ 2 ^ (byteAt (funStr Tryd.f43) i).toNat ∧ (1 ≤ i → 1 ≤ byteAt (funStr Tryd.f43) i ∧ (2 : Int) ^ ((byteAt (funStr Tryd.f43) i).toNat - 1) ≤ i) := by
  have := List.all_eq_true.mp lenTab_ok i (List.mem_range.mpr h)
  simp only [Bool.and_eq_true, Bool.or_eq_true, decide_eq_true_eq] at this
  obtain ⟨⟨⟨a, b⟩, c⟩, d⟩ := this
  exact ⟨a, b, c, fun h1 => by rcases d with d | d; omega; exact d⟩

/-- The bits of a byte, after so many others. -/
theorem len_end {x y : Int} {s : Nat} (P : Int) (hP : P = 2 ^ s) (hs : s ≤ 56) (h0 : 0 ≤ y) (h1 : y < 256) (hlo : y * P ≤ x) (hhi : x < (y + 1) * P) (hx : 1 ≤ x → 1 ≤ y) :
    ∃ r, 0 ≤ r ∧ r ≤ 64 ∧ x < 2 ^ r.toNat ∧ (1 ≤ x → 1 ≤ r ∧ (2 : Int) ^ (r.toNat - 1) ≤ x) ∧ IntKind.i64.wrap ((s : Int) + IntKind.i64.wrap (byteAt (funStr Tryd.f43) y.toNat)) = r := by
  obtain ⟨b0, b8, bu, bl⟩ := lenTab_at (i := y.toNat) (by omega)
  generalize byteAt (funStr Tryd.f43) y.toNat = b at *
  have hP0 : 0 ≤ P := by rw [hP]; have := pow_pos' s; omega
  have ey : ((y.toNat : Nat) : Int) = y := Int.toNat_of_nonneg h0
  rw [ey] at bu bl
  refine ⟨(s : Int) + b, by omega, by omega, ?_, fun h => ?_, by rw [wi b (by omega) (by omega), wi _ (by omega) (by omega)]⟩
  · refine Int.lt_of_lt_of_le hhi (Int.le_trans (Int.mul_le_mul_of_nonneg_right bu hP0) ?_)
    rw [hP, ← Int.pow_add, show b.toNat + s = ((s : Int) + b).toNat by omega]
    exact Int.le_refl _
  · have hy := hx h
    obtain ⟨c1, c2⟩ := bl (by omega)
    refine ⟨by omega, Int.le_trans ?_ (Int.le_trans (Int.mul_le_mul_of_nonneg_right c2 hP0) hlo)⟩
    rw [hP, ← Int.pow_add, show b.toNat - 1 + s = ((s : Int) + b).toNat - 1 by omega]
    exact Int.le_refl _

theorem shrN (x : Int) (n : Nat) (hn : n ≤ 64) : shrI .u64 x n = x / 2 ^ n := by
  unfold shrI
  rw [show (min ((n : Int).toNat) IntKind.u64.bits) = n by show min _ 64 = n; omega]
  have := pow_pos' n
  rw [Int.fdiv_eq_ediv_of_nonneg _ (by omega)]
theorem shr16 (x : Int) : shrI .u64 x 16 = x / 65536 := shrN x 16 (by decide)
theorem shr8 (x : Int) : shrI .u64 x 8 = x / 256 := shrN x 8 (by decide)

theorem lenS {x : Int} (h : Wd x) : ∃ r, 0 ≤ r ∧ r ≤ 64 ∧ x < 2 ^ r.toNat ∧ (1 ≤ x → 1 ≤ r ∧ (2 : Int) ^ (r.toNat - 1) ≤ x) ∧ ∀ (R : Type) (κ : Int → Option R), F_bits_Len64 x κ = κ r := by
  unfold Wd at h
  have key : ∀ (y : Int) (s : Nat) (P : Int), P = 2 ^ s → s ≤ 56 → 0 ≤ y → y < 256 → y * P ≤ x → x < (y + 1) * P → (1 ≤ x → 1 ≤ y) →
      (∀ (R : Type) (κ : Int → Option R), F_bits_Len64 x κ = bif decide (0 ≤ (IntKind.u8.wrap y)) && decide ((IntKind.u8.wrap y) < (ByteArray.size (funStr Tryd.f43) : Int)) then
        κ (IntKind.i64.wrap ((s : Int) + (IntKind.i64.wrap (byteAt (funStr Tryd.f43) (IntKind.u8.wrap y).toNat)))) else none) →
      ∃ r, 0 ≤ r ∧ r ≤ 64 ∧ x < 2 ^ r.toNat ∧ (1 ≤ x → 1 ≤ r ∧ (2 : Int) ^ (r.toNat - 1) ≤ x) ∧ ∀ (R : Type) (κ : Int → Option R), F_bits_Len64 x κ = κ r := by
    intro y s P hP hs h0 h1 h2 h3 h4 h5
    obtain ⟨r, a, b, c, d, e⟩ := len_end P hP hs h0 h1 h2 h3 h4
    refine ⟨r, a, b, c, d, fun R κ => ?_⟩
    have ew : IntKind.u8.wrap y = y := by show y % 256 = y; omega
    rw [h5, ew, lenTab_size, d_le h0, d_lt (show y < ((256 : Nat) : Int) by omega), Bool.and_self, cond_true, e]
  unfold F_bits_Len64 at key ⊢
  simp only [joinK, shr32 _ rfl, shr16, shr8] at key ⊢
  by_cases c1 : (4294967296 : Int) ≤ x
  · simp only [d_le c1, cond_true] at key ⊢
    by_cases c2 : (65536 : Int) ≤ x / 4294967296
    · simp only [d_le c2, cond_true] at key ⊢
      by_cases c3 : (256 : Int) ≤ x / 4294967296 / 65536
      · simp only [d_le c3, cond_true] at key ⊢
        exact key (x / 4294967296 / 65536 / 256) 56 72057594037927936 (by decide) (by decide) (by omega) (by omega) (by omega) (by omega) (by omega) (fun R κ => rfl)
      · simp only [n_le c3, cond_false] at key ⊢
        exact key (x / 4294967296 / 65536) 48 281474976710656 (by decide) (by decide) (by omega) (by omega) (by omega) (by omega) (by omega) (fun R κ => rfl)
    · simp only [n_le c2, cond_false] at key ⊢
      by_cases c3 : (256 : Int) ≤ x / 4294967296
      · simp only [d_le c3, cond_true] at key ⊢
        exact key (x / 4294967296 / 256) 40 1099511627776 (by decide) (by decide) (by omega) (by omega) (by omega) (by omega) (by omega) (fun R κ => rfl)
      · simp only [n_le c3, cond_false] at key ⊢
        exact key (x / 4294967296) 32 4294967296 (by decide) (by decide) (by omega) (by omega) (by omega) (by omega) (by omega) (fun R κ => rfl)
  · simp only [n_le c1, cond_false] at key ⊢
    by_cases c2 : (65536 : Int) ≤ x
    · simp only [d_le c2, cond_true] at key ⊢
      by_cases c3 : (256 : Int) ≤ x / 65536
      · simp only [d_le c3, cond_true] at key ⊢
        exact key (x / 65536 / 256) 24 16777216 (by decide) (by decide) (by omega) (by omega) (by omega) (by omega) (by omega) (fun R κ => rfl)
      · simp only [n_le c3, cond_false] at key ⊢
        exact key (x / 65536) 16 65536 (by decide) (by decide) (by omega) (by omega) (by omega) (by omega) (by omega) (fun R κ => rfl)
    · simp only [n_le c2, cond_false] at key ⊢
      by_cases c3 : (256 : Int) ≤ x
      · simp only [d_le c3, cond_true] at key ⊢
        exact key (x / 256) 8 256 (by decide) (by decide) (by omega) (by omega) (by omega) (by omega) (by omega) (fun R κ => rfl)
      · simp only [n_le c3, cond_false] at key ⊢
        exact key x 0 1 (by decide) (by decide) (by omega) (by omega) (by omega) (by omega) (by omega) (fun R κ => rfl)
end Go.Proofs
end

section
set_option linter.all false
set_option linter.unusedSimpArgs false
set_option linter.unusedVariables false
namespace Go.Proofs
open Go Go.Ev
set_option linter.unusedVariables false
set_option linter.unusedSimpArgs false
set_option maxRecDepth 100000

abbrev Sz : Type := Int × Int × Int × Int × Int × Int × Int × Int × Int × Unit

theorem div_L2 {v : Int} (hv : 2147483648 ≤ v ∧ v < 4294967296) {s : Int} (z : Sz) (h1 : z.2.1 = s) (h2 : z.2.2.1 = v) (h3 : Wd z.2.2.2.2.2.2.2.2.1) :
    ∃ t : Int × Int × Int × Int × Int × Int × Int × Int × Unit, (t.2.1 = s ∧ t.2.2.1 = v) ∧ ∀ (R : Type) (κ : (Int × Int × Int × Int × Int × Int × Int × Int × Unit) → Option R), loopK (F_bits_Div64_L2 κ) FUEL z = κ t := by
  refine loop_ends (fun z : Sz => z.2.1 = s ∧ z.2.2.1 = v ∧ Wd z.2.2.2.2.2.2.2.2.1) (fun z => if z.2.2.2.2.2.2.2.2.1 < 4294967296 then (4294967296 - z.2.2.2.2.2.2.2.2.1).toNat else 8589934592) _ (fun {R} κ rec' z => F_bits_Div64_L2 κ rec' z) ?_ z ⟨h1, h2, h3⟩ (by unfold Wd at h3; split <;> omega)
  clear h1 h2 h3 z
  rintro ⟨y, s', v', v0, un, un1, un0, q, rh, ⟨⟩⟩ ⟨e1, e2, e3⟩
  simp only at e1 e2 e3
  subst e1 e2
  have step : (∃ t : Int × Int × Int × Int × Int × Int × Int × Int × Unit, (t.2.1 = s' ∧ t.2.2.1 = v') ∧ ∀ (R : Type) (κ : (Int × Int × Int × Int × Int × Int × Int × Int × Unit) → Option R) rec', F_bits_Div64_L2 κ rec' (y, s', v', v0, un, un1, un0, q, rh, ()) = κ t) ∨
      (∀ (R : Type) (κ : (Int × Int × Int × Int × Int × Int × Int × Int × Unit) → Option R) rec', F_bits_Div64_L2 κ rec' (y, s', v', v0, un, un1, un0, q, rh, ()) =
        (bif (decide (4294967296 ≤ (IntKind.u64.wrap (rh + v')))) then κ (y, s', v', v0, un, un1, un0, (IntKind.u64.wrap (q - 1)), ()) else rec' (y, s', v', v0, un, un1, un0, (IntKind.u64.wrap (q - 1)), (IntKind.u64.wrap (rh + v')), ()))) := by
    by_cases c : (4294967296 : Int) ≤ q
    · right; intro R κ rec'
      unfold F_bits_Div64_L2
      simp only [joinK, d_le c, cond_true]
    · by_cases c' : (IntKind.u64.wrap ((IntKind.u64.wrap (4294967296 * rh)) + un1)) < (IntKind.u64.wrap (q * v0))
      · right; intro R κ rec'
        unfold F_bits_Div64_L2
        simp only [joinK, n_le c, d_lt c', cond_true, cond_false]
      · left; refine ⟨(y, s', v', v0, un, un1, un0, q, ()), ⟨rfl, rfl⟩, fun R κ rec' => ?_⟩
        unfold F_bits_Div64_L2
        simp only [joinK, n_le c, n_lt c', cond_true, cond_false]
  rcases step with h | h
  · left; exact h
  · by_cases c : (4294967296 : Int) ≤ IntKind.u64.wrap (rh + v')
    · left; exact ⟨(y, s', v', v0, un, un1, un0, (IntKind.u64.wrap (q - 1)), ()), ⟨rfl, rfl⟩, fun R κ rec' => by rw [h, d_le c, cond_true]⟩
    · right; refine ⟨(y, s', v', v0, un, un1, un0, (IntKind.u64.wrap (q - 1)), (IntKind.u64.wrap (rh + v')), ()), ⟨rfl, rfl, Wd_wrap _⟩, ?_, fun R κ rec' => by rw [h, n_le c, cond_false]⟩
      simp only
      rw [wu] at c ⊢
      unfold Wd at e3
      split <;> split <;> omega

theorem div_L1 {v : Int} (hv : 2147483648 ≤ v ∧ v < 4294967296) {s : Int} (z : Sz) (h1 : z.2.1 = s) (h2 : z.2.2.1 = v) (h3 : Wd z.2.2.2.2.2.2.1) :
    ∃ t : Int × Int × Int × Int × Int × Int × Unit, (t.2.1 = s) ∧ ∀ (R : Type) (κ : (Int × Int × Int × Int × Int × Int × Unit) → Option R), loopK (F_bits_Div64_L1 κ) FUEL z = κ t := by
  refine loop_ends (fun z : Sz => z.2.1 = s ∧ z.2.2.1 = v ∧ Wd z.2.2.2.2.2.2.1) (fun z => if z.2.2.2.2.2.2.1 < 4294967296 then (4294967296 - z.2.2.2.2.2.2.1).toNat else 8589934592) _ (fun {R} κ rec' z => F_bits_Div64_L1 κ rec' z) ?_ z ⟨h1, h2, h3⟩ (by unfold Wd at h3; split <;> omega)
  clear h1 h2 h3 z
  rintro ⟨y, s', v', v0, a, b, rh, un, q, ⟨⟩⟩ ⟨e1, e2, e3⟩
  simp only at e1 e2 e3
  subst e1 e2
  have step : (∃ t : Int × Int × Int × Int × Int × Int × Unit, (t.2.1 = s') ∧ ∀ (R : Type) (κ : (Int × Int × Int × Int × Int × Int × Unit) → Option R) rec', F_bits_Div64_L1 κ rec' (y, s', v', v0, a, b, rh, un, q, ()) = κ t) ∨
      (∀ (R : Type) (κ : (Int × Int × Int × Int × Int × Int × Unit) → Option R) rec', F_bits_Div64_L1 κ rec' (y, s', v', v0, a, b, rh, un, q, ()) =
        (bif (decide (4294967296 ≤ (IntKind.u64.wrap (rh + v')))) then κ (y, s', a, b, un, (IntKind.u64.wrap (q - 1)), ()) else rec' (y, s', v', v0, a, b, (IntKind.u64.wrap (rh + v')), un, (IntKind.u64.wrap (q - 1)), ()))) := by
    by_cases c : (4294967296 : Int) ≤ q
    · right; intro R κ rec'
      unfold F_bits_Div64_L1
      simp only [joinK, d_le c, cond_true]
    · by_cases c' : (IntKind.u64.wrap ((IntKind.u64.wrap (4294967296 * rh)) + a)) < (IntKind.u64.wrap (q * v0))
      · right; intro R κ rec'
        unfold F_bits_Div64_L1
        simp only [joinK, n_le c, d_lt c', cond_true, cond_false]
      · left; refine ⟨(y, s', a, b, un, q, ()), rfl, fun R κ rec' => ?_⟩
        unfold F_bits_Div64_L1
        simp only [joinK, n_le c, n_lt c', cond_true, cond_false]
  rcases step with h | h
  · left; exact h
  · by_cases c : (4294967296 : Int) ≤ IntKind.u64.wrap (rh + v')
    · left; exact ⟨(y, s', a, b, un, (IntKind.u64.wrap (q - 1)), ()), rfl, fun R κ rec' => by rw [h, d_le c, cond_true]⟩
    · right; refine ⟨(y, s', v', v0, a, b, (IntKind.u64.wrap (rh + v')), un, (IntKind.u64.wrap (q - 1)), ()), ⟨rfl, rfl, Wd_wrap _⟩, ?_, fun R κ rec' => by rw [h, n_le c, cond_false]⟩
      simp only
      rw [wu] at c ⊢
      unfold Wd at e3
      split <;> split <;> omega

theorem lzS {x : Int} (h : Wd x) : ∃ r, 0 ≤ r ∧ r ≤ 64 ∧ x < 2 ^ (64 - r).toNat ∧ (1 ≤ x → r ≤ 63 ∧ (2 : Int) ^ ((64 - r).toNat - 1) ≤ x) ∧ ∀ (R : Type) (κ : Int → Option R), F_bits_LeadingZeros64 x κ = κ r := by
  obtain ⟨r, h0, h1, h2, h3, e⟩ := lenS h
  refine ⟨64 - r, by omega, by omega, ?_, fun hx => ?_, fun R κ => ?_⟩
  · rw [show (64 - (64 - r)).toNat = r.toNat by omega]; exact h2
  · rw [show (64 - (64 - r)).toNat = r.toNat by omega]; have := h3 hx; exact ⟨by omega, this.2⟩
  · unfold F_bits_LeadingZeros64; rw [e, wi _ (by omega) (by omega)]

theorem div64S {hi lo y : Int} (hh : Wd hi) (hl : Wd lo) (hy : Wd y) (h : hi < y) : ∃ q r, Wd q ∧ Wd r ∧ ∀ (R : Type) (κ : Int → Int → Option R), F_bits_Div64 hi lo y κ = κ q r := by
  have hy0 : ¬ y = 0 := by unfold Wd at hh; omega
  by_cases c : hi = 0
  · refine ⟨IntKind.u64.wrap (Int.tdiv lo y), Int.tmod lo y, Wd_wrap _, ?_, fun R κ => ?_⟩
    · unfold Wd at hl hy ⊢
      rw [Int.tmod_eq_emod_of_nonneg hl.1]
      have := Int.emod_nonneg lo hy0
      have := Int.emod_lt_of_pos lo (show 0 < y by omega)
      omega
    · unfold F_bits_Div64
      rw [b_ne hy0, n_le (show ¬ y ≤ hi by omega), b_eq c]; rfl
  · obtain ⟨n, hn0, _, hn2, hn3, en⟩ := lzS hy
    obtain ⟨hn4, hn5⟩ := hn3 (by unfold Wd at hy; omega)
    have wn : IntKind.u64.wrap n = n := by rw [wu]; omega
    have t1 : shlI .u64 y n = y * 2 ^ n.toNat := by
      show IntKind.u64.wrap (y * 2 ^ (min n.toNat 64)) = _
      rw [show min n.toNat 64 = n.toNat by omega, wu]
      have hp := pow_pos' n.toNat
      refine Int.emod_eq_of_lt (Int.mul_nonneg hy.1 (by omega)) ?_
      have : y * 2 ^ n.toNat < 2 ^ (64 - n).toNat * 2 ^ n.toNat := Int.mul_lt_mul_of_pos_right hn2 (by omega)
      rw [← Int.pow_add, show (64 - n).toNat + n.toNat = 64 by omega] at this
      exact this
    have t2 : 9223372036854775808 ≤ y * 2 ^ n.toNat := by
      have hp := pow_pos' n.toNat
      have : 2 ^ ((64 - n).toNat - 1) * 2 ^ n.toNat ≤ y * 2 ^ n.toNat := Int.mul_le_mul_of_nonneg_right hn5 (by omega)
      rw [← Int.pow_add, show (64 - n).toNat - 1 + n.toNat = 63 by omega] at this
      exact this
    have t3 : y * 2 ^ n.toNat < 18446744073709551616 := by rw [← t1]; exact (Wd_shl y n).2
    have hv : 2147483648 ≤ shrI .u64 (shlI .u64 y n) 32 ∧ shrI .u64 (shlI .u64 y n) 32 < 4294967296 := by
      rw [shr32 _ rfl, t1]; omega
    generalize hV : shrI .u64 (shlI .u64 y n) 32 = v at *
    have wn2 : IntKind.u64.wrap (64 - n) = 64 - n := by rw [wu]; omega
    generalize hU : bitsI .or .u64 (shlI .u64 hi n) (shrI .u64 lo (64 - n)) = un
    obtain ⟨⟨a1, a2, a3, a4, a5, a6, a7, a8, ⟨⟩⟩, ⟨ha2, ha3⟩, e2⟩ := div_L2 hv (s := n) (shlI .u64 y n, n, v, bitsI .and .u64 (shlI .u64 y n) 4294967295, un, shrI .u64 (shlI .u64 lo n) 32, bitsI .and .u64 (shlI .u64 lo n) 4294967295, IntKind.u64.wrap (Int.tdiv un v), IntKind.u64.wrap (un - IntKind.u64.wrap (IntKind.u64.wrap (Int.tdiv un v) * v)), ()) rfl rfl (Wd_wrap _)
    simp only at ha2 ha3
    subst ha2 ha3
    generalize hT : IntKind.u64.wrap ((IntKind.u64.wrap ((IntKind.u64.wrap (a5 * 4294967296)) + a6)) - (IntKind.u64.wrap (a8 * a1))) = t931
    obtain ⟨⟨b1, b2, b3, b4, b5, b6, ⟨⟩⟩, hb2, e1⟩ := div_L1 hv (s := a2) (a1, a2, a3, a4, a7, a8, IntKind.u64.wrap (t931 - IntKind.u64.wrap (IntKind.u64.wrap (Int.tdiv t931 a3) * a3)), t931, IntKind.u64.wrap (Int.tdiv t931 a3), ()) rfl rfl (Wd_wrap _)
    simp only at hb2
    subst hb2
    refine ⟨_, _, Wd_wrap ((IntKind.u64.wrap (b4 * 4294967296)) + b6), Wd_shr (IntKind.u64.wrap ((IntKind.u64.wrap ((IntKind.u64.wrap (b5 * 4294967296)) + b3)) - (IntKind.u64.wrap (b6 * b1)))) b2 (Wd_wrap _), fun R κ => ?_⟩
    have d0 : (a3 == 0) = false := b_ne (by omega)
    unfold F_bits_Div64
    rw [b_ne hy0, n_le (show ¬ y ≤ hi by omega), b_ne c]
    simp only [cond_false, en, wn, wn2, n_lt (show ¬ b2 < 0 by omega), n_lt (show ¬ 64 - b2 < 0 by omega), hV, hU, d0, joinK, e2, hT, e1]

theorem quotS {a b p : Int} (ha : Wd a) (hb : Wd b) (hb0 : ¬ b = 0) (h0 : 0 ≤ p) (h1 : p ≤ 62) : ∃ q c s, Wd q ∧ ∀ (R : Type) (κ : Int → Bool → Int → Option R), F_qnum_quotient a b p κ = κ q c s := by
  have main : ∀ hi lo, Wd hi → Wd lo → ∃ q s, Wd q ∧ ∀ (R : Type) (κ : Int → Bool → Int → Option R), F_bits_Div64 (Int.tmod hi b) lo b (fun r2 r3 =>
      bif (decide ((IntKind.u64.wrap (b - r3)) < r3)) then κ r2 (decide (b ≤ hi)) 1 else
      bif (r3 == (IntKind.u64.wrap (b - r3))) then κ r2 (decide (b ≤ hi)) 0 else κ r2 (decide (b ≤ hi)) (-1)) = κ q (decide (b ≤ hi)) s := by
    intro hi lo hh hl
    have hm : 0 ≤ Int.tmod hi b ∧ Int.tmod hi b < b := by
      rw [Int.tmod_eq_emod_of_nonneg hh.1]
      exact ⟨Int.emod_nonneg _ hb0, Int.emod_lt_of_pos _ (by unfold Wd at hb; omega)⟩
    obtain ⟨q, r, hq, hr, e⟩ := div64S (hi := Int.tmod hi b) (lo := lo) (y := b) (by unfold Wd at hb ⊢; omega) hl hb hm.2
    by_cases c1 : (IntKind.u64.wrap (b - r)) < r
    · exact ⟨q, 1, hq, fun R κ => by rw [e]; simp only [d_lt c1, cond_true]⟩
    · by_cases c2 : r = IntKind.u64.wrap (b - r)
      · exact ⟨q, 0, hq, fun R κ => by rw [e]; simp only [n_lt c1, b_eq c2, cond_true, cond_false]⟩
      · exact ⟨q, -1, hq, fun R κ => by rw [e]; simp only [n_lt c1, b_ne c2, cond_true, cond_false]⟩
  have w : IntKind.i64.wrap (64 - p) = 64 - p := wi _ (by omega) (by omega)
  by_cases c : p = 0
  · obtain ⟨q, s, hq, e⟩ := main 0 a (by unfold Wd; omega) ha
    refine ⟨q, decide (b ≤ 0), s, hq, fun R κ => ?_⟩
    unfold F_qnum_quotient
    simp only [joinK, w, n_lt (show ¬ 64 - p < 0 by omega), n_lt (show ¬ p < 0 by omega), b_eq c, cond_true, cond_false, b_ne hb0]
    exact e R κ
  · obtain ⟨q, s, hq, e⟩ := main _ _ (Wd_shr a (64 - p) ha) (Wd_shl a p)
    refine ⟨q, decide (b ≤ shrI .u64 a (64 - p)), s, hq, fun R κ => ?_⟩
    unfold F_qnum_quotient
    simp only [joinK, w, n_lt (show ¬ 64 - p < 0 by omega), n_lt (show ¬ p < 0 by omega), b_ne c, cond_true, cond_false, b_ne hb0]
    exact e R κ

theorem size_ne {a r : Int} (ha : I64 a) (h : ¬ a = 0) (e : ∀ (R : Type) (κ : Int → Option R), F_qnum_size a κ = κ r) : ¬ r = 0 := by
  have := e Int some
  unfold F_qnum_size at this
  unfold I64 at ha
  by_cases c : a < 0
  · rw [d_lt c, cond_true, wu, wu] at this
    have := Option.some.inj this
    omega
  · rw [n_lt c, cond_false, wu] at this
    have := Option.some.inj this
    omega

noncomputable def divK4 {R : Type} (κ : Int → Bool → Option Int → Option R) : (Int × Int × Int × Bool × Unit) → Option R := fun z4 =>
  let t531 : List Int := ((List.replicate 3 0).set 0 z4.2.2.1)
  joinK (fun (z5 : Int × Int × List Int × Unit) =>
  joinK (fun (z6 : List Int × Unit) =>
  F_qnum_sum_bounded z6.1 (fun r15 r16 =>
  κ r15 r16 none)) (fun j2 =>
  bif (!((decide (z5.1 < 0)) == (decide (z5.2.1 < 0)))) then
  F_qnum_sum_neg z5.2.2.1 (fun r17 =>
  j2 (r17, ()))
  else
  j2 (z5.2.2.1, ()))) (fun j1 =>
  bif z4.2.2.2.1 then
  j1 (z4.1, z4.2.1, (t531.set 1 1), ())
  else
  j1 (z4.1, z4.2.1, t531, ()))
noncomputable def divK7 {R : Type} (j : (Int × Int × Int × Bool × Unit) → Option R) : (Int × Int × Int × Bool × Bool × Unit) → Option R := fun z7 =>
  bif z7.2.2.2.2.1 then
  let t461 : Int := (IntKind.u64.wrap (z7.2.2.1 + 1))
  bif z7.2.2.2.1 then
  j (z7.1, z7.2.1, t461, true, ())
  else
  j (z7.1, z7.2.1, t461, (t461 == 0), ())
  else
  j (z7.1, z7.2.1, z7.2.2.1, z7.2.2.2.1, ())

theorem divS {a b p : Int} (hb : I64 b) (h0 : 0 ≤ p) (h1 : p ≤ 62) : ∃ r c o, B62 r ∧ ∀ (R : Type) (κ : Int → Bool → Option Int → Option R), F_qnum_Div a b p κ = κ r c o := by
  by_cases c : b = 0
  · refine ⟨0, false, some 11, by unfold B62; omega, fun R κ => ?_⟩
    unfold F_qnum_Div
    rw [pointedS h0 h1, b_eq c]; rfl
  · obtain ⟨x, hx, e1⟩ := sizeS (a := a)
    obtain ⟨y, hy, e2⟩ := sizeS (a := b)
    obtain ⟨q, cc, s, hq, e3⟩ := quotS hx hy (size_ne hb c e2) h0 h1
    have end' : ∀ (q : Int) (cc : Bool), Wd q → ∃ r c, B62 r ∧ ∀ (R : Type) (κ : Int → Bool → Option Int → Option R),
        (joinK (fun (z5 : Int × Int × List Int × Unit) =>
          joinK (fun (z6 : List Int × Unit) =>
          F_qnum_sum_bounded z6.1 (fun r15 r16 =>
          κ r15 r16 none)) (fun j2 =>
          bif (!((decide (z5.1 < 0)) == (decide (z5.2.1 < 0)))) then
          F_qnum_sum_neg z5.2.2.1 (fun r17 =>
          j2 (r17, ()))
          else
          j2 (z5.2.2.1, ()))) (fun j1 =>
          bif cc then
          j1 (a, b, (((List.replicate 3 0).set 0 q).set 1 1), ())
          else
          j1 (a, b, (List.replicate 3 0).set 0 q, ()))) = κ r c none := by
      intro q cc hq
      have h3 : ∃ t, S3 t ∧ (bif cc then (((List.replicate 3 0).set 0 q).set 1 1) else (List.replicate 3 0).set 0 q) = t := by
        cases cc
        · exact ⟨_, S3.zero.set 0 hq, rfl⟩
        · exact ⟨_, (S3.zero.set 0 hq).set 1 (by unfold Wd; omega), rfl⟩
      obtain ⟨t, ht, et⟩ := h3
      obtain ⟨u, hu, _, eu⟩ := negD ht
      obtain ⟨r, c, hr, er⟩ := boundedS hu
      obtain ⟨r', c', hr', er'⟩ := boundedS ht
      by_cases g : (!((decide (a < 0)) == (decide (b < 0)))) = true
      · refine ⟨r, c, hr, fun R κ => ?_⟩
        simp only [joinK]
        cases cc
        · simp only [cond_false] at et ⊢; rw [g, et]; simp only [cond_true, eu, er]
        · simp only [cond_true] at et ⊢; rw [g, et]; simp only [cond_true, eu, er]
      · refine ⟨r', c', hr', fun R κ => ?_⟩
        simp only [Bool.not_eq_true] at g
        simp only [joinK]
        cases cc
        · simp only [cond_false] at et ⊢; rw [g, et]; simp only [cond_false, er']
        · simp only [cond_true] at et ⊢; rw [g, et]; simp only [cond_false, er']
    have mid : ∀ up : Bool, ∃ q' cc', Wd q' ∧ (∀ (R : Type) (j : (Int × Int × Int × Bool × Unit) → Option R), (bif up then
        (bif cc then j (a, b, IntKind.u64.wrap (q + 1), true, ()) else j (a, b, IntKind.u64.wrap (q + 1), (IntKind.u64.wrap (q + 1) == 0), ())) else j (a, b, q, cc, ())) = j (a, b, q', cc', ())) := by
      intro up
      cases up <;> cases cc
      · exact ⟨_, _, hq, fun R j => rfl⟩
      · exact ⟨_, _, hq, fun R j => rfl⟩
      · exact ⟨_, _, Wd_wrap _, fun R j => rfl⟩
      · exact ⟨_, _, Wd_wrap _, fun R j => rfl⟩
    have up : ∃ u : Bool, ∀ (R : Type) (j : (Int × Int × Int × Bool × Bool × Unit) → Option R), (bif (decide (0 < s)) then j (a, b, q, cc, true, ()) else bif (s == 0) then j (a, b, q, cc, ((bitsI .and .u64 q 1) == 1), ()) else j (a, b, q, cc, false, ())) = j (a, b, q, cc, u, ()) := by
      by_cases g : 0 < s
      · exact ⟨true, fun R j => by rw [d_lt g]; rfl⟩
      · by_cases g' : s = 0
        · exact ⟨_, fun R j => by rw [n_lt g, b_eq g']; rfl⟩
        · exact ⟨false, fun R j => by rw [n_lt g, b_ne g']; rfl⟩
    obtain ⟨u, hu⟩ := up
    obtain ⟨q', cc', hq', e4⟩ := mid u
    obtain ⟨r, c', hr, e5⟩ := end' q' cc' hq'
    refine ⟨r, c', none, hr, fun R κ => ?_⟩
    unfold F_qnum_Div
    rw [pointedS h0 h1, b_ne c, Bool.not_true, cond_false, cond_false, e1, e2, e3]
    exact (hu R (divK7 (divK4 κ))).trans ((e4 R (divK4 κ)).trans (e5 R κ))

theorem tbyS {t : Bool × Unit} {a b p : Int} (hb : I64 b) (h0 : 0 ≤ p) (h1 : p ≤ 62) : ∃ r u, B62 r ∧ ∀ (R : Type) (κ : Int → Bool × Unit → Option R), F_ldl_tally_by t a b p κ = κ r u := by
  obtain ⟨r, c, o, hr, e⟩ := divS (a := a) hb h0 h1
  obtain ⟨t, ⟨⟩⟩ := t
  cases t <;> cases c
  · exact ⟨r, (_, ()), hr, fun R κ => by unfold F_ldl_tally_by; simp only [e]; rfl⟩
  · exact ⟨r, (true, ()), hr, fun R κ => by unfold F_ldl_tally_by; simp only [e]; rfl⟩
  · exact ⟨r, (true, ()), hr, fun R κ => by unfold F_ldl_tally_by; simp only [e]; rfl⟩
  · exact ⟨r, (true, ()), hr, fun R κ => by unfold F_ldl_tally_by; simp only [e]; rfl⟩
end Go.Proofs
end

section
set_option linter.all false
set_option linter.unusedSimpArgs false
set_option linter.unusedVariables false
namespace Go.Proofs
open Go Go.Ev
set_option linter.unusedVariables false
set_option linter.unusedSimpArgs false
set_option maxRecDepth 100000

/-! ### Which factors may be -/
def rightB (i j x : Int) : Bool := bif decide (i < j) then x == 0 else bif j == i then x == 1073741824 else bif decide ((-4611686018427387903) ≤ x) then decide (x ≤ 4611686018427387903) else false
theorem rightS {R : Type} (i j x : Int) (κ : Bool → Option R) : F_ldl_right i j x κ = κ (rightB i j x) := by
  unfold F_ldl_right F_ldl_bounded rightB
  by_cases h1 : i < j
  · simp only [d_lt h1, cond_true]
  · by_cases h2 : j = i
    · simp only [n_lt h1, b_eq h2, cond_true, cond_false]
    · by_cases h3 : (-4611686018427387903) ≤ x
      · simp only [n_lt h1, b_ne h2, d_le h3, cond_true, cond_false, joinK]
      · simp only [n_lt h1, b_ne h2, n_le h3, cond_true, cond_false, joinK]
def okLB (n k x : Int) : Bool := bif decide (IntKind.i64.wrap (n * n) ≤ k) then x == 0 else rightB (IntKind.i64.wrap (Int.tdiv k n)) (Int.tmod k n) x
def okDB (n i x : Int) : Bool := bif decide (n ≤ i) then x == 0 else bif decide (1 ≤ x) then decide (x ≤ 4611686018427387903) else false
def Valid (f : Fac) : Prop := (1 ≤ f.1 ∧ f.1 ≤ 6) ∧ (∀ k, 0 ≤ k → k < 36 → okLB f.1 k (f.2.1.getD k.toNat 0) = true) ∧ (∀ i, 0 ≤ i → i < 6 → okDB f.1 i (f.2.2.1.getD i.toNat 0) = true)

theorem check_L1 {f : Fac} (h1 : 1 ≤ f.1 ∧ f.1 ≤ 6) (h2 : ∀ k, 0 ≤ k → k < 36 → okLB f.1 k (f.2.1.getD k.toNat 0) = true) (z : List Int × Int × Fac × Unit) (e1 : z.1 = f.2.2.1) (e2 : z.2.2.1 = f) (e3 : 0 ≤ z.2.1) (e4 : ∀ i, 0 ≤ i → i < z.2.1 → okDB f.1 i (f.2.2.1.getD i.toNat 0) = true) :
    ∃ o : Option Int, ((o = none ∧ Valid f) ∨ (o = some 1 ∧ ¬ Valid f)) ∧ ∀ (R : Type) (κ : Option Int → Option R), loopK (F_ldl_Check_L1 κ) FUEL z = κ o := by
  refine loop_ends (fun z : List Int × Int × Fac × Unit => z.1 = f.2.2.1 ∧ z.2.2.1 = f ∧ 0 ≤ z.2.1 ∧ (∀ i, 0 ≤ i → i < z.2.1 → okDB f.1 i (f.2.2.1.getD i.toNat 0) = true)) (fun z => (6 - z.2.1).toNat) (fun o => (o = none ∧ Valid f) ∨ (o = some 1 ∧ ¬ Valid f)) (fun {R} κ rec' z => F_ldl_Check_L1 κ rec' z) ?_ z ⟨e1, e2, e3, e4⟩ (by omega)
  clear e1 e2 e3 e4 z
  rintro ⟨D, i, f', ⟨⟩⟩ ⟨e1, e2, e3, e4⟩
  simp only at e1 e2 e3 e4
  subst e1 e2
  by_cases c : i < 6
  · have w : IntKind.i64.wrap (i + 1) = i + 1 := wi _ (by omega) (by omega)
    have hb : ∀ (R : Type) (κ : Option Int → Option R) rec', F_ldl_Check_L1 κ rec' (f'.2.2.1, i, f', ()) = bif !(okDB f'.1 i (f'.2.2.1.getD i.toNat 0)) then κ (some 1) else rec' (f'.2.2.1, i + 1, f', ()) := by
      intro R κ rec'
      unfold F_ldl_Check_L1 okDB
      simp only [d_lt c, d_le e3, Bool.and_self, cond_true, joinK, w]
      generalize f'.2.2.1.getD i.toNat 0 = x
      by_cases c1 : f'.1 ≤ i
      · by_cases c2 : x = 0
        · simp only [d_le c1, cond_true, b_ee c2, b_eq c2, cond_false, n_lt (show ¬ i < f'.1 by omega), Bool.not_true]
        · simp only [d_le c1, cond_true, b_nn c2, b_ne c2, cond_false, Bool.not_false]
      · by_cases c2 : x < 1
        · simp only [n_le c1, d_lt (show i < f'.1 by omega), d_lt c2, n_le (show ¬ 1 ≤ x by omega), cond_true, cond_false, Bool.not_false]
        · by_cases c3 : 4611686018427387903 < x
          · simp only [n_le c1, d_lt (show i < f'.1 by omega), n_lt c2, d_le (show 1 ≤ x by omega), d_lt c3, n_le (show ¬ x ≤ 4611686018427387903 by omega), cond_true, cond_false, Bool.not_false]
          · simp only [n_le c1, d_lt (show i < f'.1 by omega), n_lt c2, d_le (show 1 ≤ x by omega), n_lt c3, d_le (show x ≤ 4611686018427387903 by omega), cond_true, cond_false, Bool.not_true]
    cases hk : okDB f'.1 i (f'.2.2.1.getD i.toNat 0) with
    | true =>
      right
      refine ⟨(f'.2.2.1, i + 1, f', ()), ⟨rfl, rfl, (by show 0 ≤ i + 1; omega), fun k k0 k1 => ?_⟩, (by show (6 - (i + 1)).toNat < (6 - i).toNat; omega), fun R κ rec' => by rw [hb, hk]; rfl⟩
      by_cases hki : k = i
      · rw [hki]; exact hk
      · exact e4 k k0 (by have : k < i + 1 := k1; omega)
    | false =>
      left
      refine ⟨some 1, Or.inr ⟨rfl, fun hv => ?_⟩, fun R κ rec' => by rw [hb, hk]; rfl⟩
      have := hv.2.2 i e3 c
      rw [hk] at this; cases this
  · left
    refine ⟨none, Or.inl ⟨rfl, h1, h2, fun k k0 k1 => e4 k k0 (by omega)⟩, fun R κ rec' => ?_⟩
    unfold F_ldl_Check_L1
    simp only [n_lt c, cond_false]

theorem check_L2 {f : Fac} (h1 : 1 ≤ f.1 ∧ f.1 ≤ 6) (z : List Int × Int × Fac × Unit) (e1 : z.1 = f.2.1) (e2 : z.2.2.1 = f) (e3 : 0 ≤ z.2.1) (e4 : ∀ i, 0 ≤ i → i < z.2.1 → okLB f.1 i (f.2.1.getD i.toNat 0) = true) :
    ∃ o : Option Int, ((o = none ∧ Valid f) ∨ (o = some 1 ∧ ¬ Valid f)) ∧ ∀ (R : Type) (κ : Option Int → Option R), loopK (F_ldl_Check_L2 κ) FUEL z = κ o := by
  refine loop_ends (fun z : List Int × Int × Fac × Unit => z.1 = f.2.1 ∧ z.2.2.1 = f ∧ 0 ≤ z.2.1 ∧ (∀ i, 0 ≤ i → i < z.2.1 → okLB f.1 i (f.2.1.getD i.toNat 0) = true)) (fun z => (36 - z.2.1).toNat) (fun o => (o = none ∧ Valid f) ∨ (o = some 1 ∧ ¬ Valid f)) (fun {R} κ rec' z => F_ldl_Check_L2 κ rec' z) ?_ z ⟨e1, e2, e3, e4⟩ (by omega)
  clear e1 e2 e3 e4 z
  rintro ⟨D, i, f', ⟨⟩⟩ ⟨e1, e2, e3, e4⟩
  simp only at e1 e2 e3 e4
  subst e1 e2
  by_cases c : i < 36
  · have w : IntKind.i64.wrap (i + 1) = i + 1 := wi _ (by omega) (by omega)
    have hn : (f'.1 == 0) = false := b_ne (by omega)
    have hb : ∀ (R : Type) (κ : Option Int → Option R) rec', F_ldl_Check_L2 κ rec' (f'.2.1, i, f', ()) = bif !(okLB f'.1 i (f'.2.1.getD i.toNat 0)) then κ (some 1) else rec' (f'.2.1, i + 1, f', ()) := by
      intro R κ rec'
      unfold F_ldl_Check_L2 okLB
      simp only [d_lt c, d_le e3, Bool.and_self, cond_true, joinK, w, rightS, hn, cond_false]
      generalize f'.2.1.getD i.toNat 0 = x
      by_cases c1 : IntKind.i64.wrap (f'.1 * f'.1) ≤ i
      · by_cases c2 : x = 0
        · simp only [d_le c1, cond_true, b_ee c2, b_eq c2, cond_false, n_lt (show ¬ i < IntKind.i64.wrap (f'.1 * f'.1) by omega), Bool.not_true]
        · simp only [d_le c1, cond_true, b_nn c2, b_ne c2, cond_false, Bool.not_false]
      · simp only [n_le c1, d_lt (show i < IntKind.i64.wrap (f'.1 * f'.1) by omega), cond_true, cond_false]
    cases hk : okLB f'.1 i (f'.2.1.getD i.toNat 0) with
    | true =>
      right
      refine ⟨(f'.2.1, i + 1, f', ()), ⟨rfl, rfl, (by show 0 ≤ i + 1; omega), fun k k0 k1 => ?_⟩, (by show (36 - (i + 1)).toNat < (36 - i).toNat; omega), fun R κ rec' => by rw [hb, hk]; rfl⟩
      by_cases hki : k = i
      · rw [hki]; exact hk
      · exact e4 k k0 (by have : k < i + 1 := k1; omega)
    | false =>
      left
      refine ⟨some 1, Or.inr ⟨rfl, fun hv => ?_⟩, fun R κ rec' => by rw [hb, hk]; rfl⟩
      have := hv.2.1 i e3 c
      rw [hk] at this; cases this
  · left
    obtain ⟨o, ho, e⟩ := check_L1 h1 (fun k k0 k1 => e4 k k0 (by omega)) (f'.2.2.1, 0, f', ()) rfl rfl (Int.le_refl 0) (fun i i0 i1 => by have : i < 0 := i1; omega)
    refine ⟨o, ho, fun R κ rec' => ?_⟩
    unfold F_ldl_Check_L2
    simp only [n_lt c, cond_false, e]

theorem checkS (f : Fac) : ∃ o : Option Int, ((o = none ∧ Valid f) ∨ (o = some 1 ∧ ¬ Valid f)) ∧ ∀ (R : Type) (κ : Option Int → Option R), F_ldl_Check f κ = κ o := by
  by_cases c1 : f.1 < 1
  · refine ⟨some 1, Or.inr ⟨rfl, fun hv => by have := hv.1; omega⟩, fun R κ => ?_⟩
    unfold F_ldl_Check
    simp only [joinK, d_lt c1, cond_true]
  · by_cases c2 : 6 < f.1
    · refine ⟨some 1, Or.inr ⟨rfl, fun hv => by have := hv.1; omega⟩, fun R κ => ?_⟩
      unfold F_ldl_Check
      simp only [joinK, n_lt c1, d_lt c2, cond_true, cond_false]
    · obtain ⟨o, ho, e⟩ := check_L2 (f := f) (by omega) (f.2.1, 0, f, ()) rfl rfl (Int.le_refl 0) (fun i i0 i1 => by have : i < 0 := i1; omega)
      refine ⟨o, ho, fun R κ => ?_⟩
      unfold F_ldl_Check
      simp only [joinK, n_lt c1, n_lt c2, cond_true, cond_false, e]

theorem nn : (!(Option.isNone (α := Int) none && Option.isNone (α := Int) none)) = false := rfl
theorem sn (x : Int) : (!(Option.isNone (α := Int) (some x) && Option.isNone (α := Int) none)) = true := rfl

theorem check_ok {f : Fac} (h : Valid f) (R : Type) (κ : Option Int → Option R) : F_ldl_Check f κ = κ none := by
  obtain ⟨o, ho, e⟩ := checkS f
  rcases ho with ⟨rfl, _⟩ | ⟨_, hn⟩
  · exact e R κ
  · exact absurd h hn
theorem check_no {f : Fac} (h : ¬ Valid f) (R : Type) (κ : Option Int → Option R) : F_ldl_Check f κ = κ (some 1) := by
  obtain ⟨o, ho, e⟩ := checkS f
  rcases ho with ⟨_, hn⟩ | ⟨rfl, _⟩
  · exact absurd hn h
  · exact e R κ

/-- What may be is a diagonal of numbers above nought. -/
theorem Valid.diag {f : Fac} (h : Valid f) {i : Int} (h0 : 0 ≤ i) (h1 : i < f.1) : 1 ≤ f.2.2.1.getD i.toNat 0 ∧ f.2.2.1.getD i.toNat 0 ≤ 4611686018427387903 := by
  have := h.2.2 i h0 (by have := h.1; omega)
  unfold okDB at this
  rw [n_le (show ¬ f.1 ≤ i by omega), cond_false] at this
  by_cases c : 1 ≤ f.2.2.1.getD i.toNat 0
  · rw [d_le c, cond_true] at this
    exact ⟨c, of_decide_eq_true this⟩
  · rw [n_le c, cond_false] at this; cases this

/-! ### Solve -/
theorem solve_L1 {f : Fac} (hf : FacS f) {v : List Int} {i : Int} (hv : (v.length : Int) = f.1) (hvi : AllI v) (h0 : 0 ≤ i) (h1 : i < f.1) (t : Bool × Unit) :
    ∃ z : Int × Fac × List Int × (Bool × Unit) × Unit, (z.1 = i - 1 ∧ z.2.1 = f ∧ (z.2.2.1.length : Int) = f.1 ∧ AllI z.2.2.1) ∧
      ∀ (R : Type) (κ : (Int × Fac × List Int × (Bool × Unit) × Unit) → Option R), loopK (F_ldl_Solve_L1 κ) FUEL (i, IntKind.i64.wrap (i + 1), f, v, [], [], t, ()) = κ z := by
  obtain ⟨g1, g2, g3, g4, g5, g6⟩ := hf
  have w0 : IntKind.i64.wrap (i + 1) = i + 1 := wi _ (by omega) (by omega)
  rw [w0]
  refine loop_ends (fun z : Int × Int × Fac × List Int × List Int × List Int × (Bool × Unit) × Unit => z.1 = i ∧ z.2.2.1 = f ∧ z.2.2.2.1 = v ∧ i + 1 ≤ z.2.1 ∧ z.2.1 ≤ f.1 ∧ (z.2.2.2.2.1.length : Int) = z.2.1 - i - 1 ∧ z.2.2.2.2.2.1.length = z.2.2.2.2.1.length) (fun z => (f.1 - z.2.1).toNat) (fun z : Int × Fac × List Int × (Bool × Unit) × Unit => z.1 = i - 1 ∧ z.2.1 = f ∧ (z.2.2.1.length : Int) = f.1 ∧ AllI z.2.2.1) (fun {R} κ rec' z => F_ldl_Solve_L1 κ rec' z) ?_ _ ⟨rfl, rfl, rfl, Int.le_refl _, (by show i + 1 ≤ f.1; omega), (by show ((0 : Nat) : Int) = i + 1 - i - 1; omega), rfl⟩ (by show (f.1 - (i + 1)).toNat < _; omega)
  rintro ⟨i', j, f', v', a, b, t, ⟨⟩⟩ ⟨e1, e2, e3, e4, e5, e6, e7⟩
  simp only at e1 e2 e3 e4 e5 e6 e7
  subst e1 e2 e3
  by_cases c : j < f'.1
  · right
    have hm := mul_le6 (i := j) (n := f'.1) (by omega) c g2
    have w1 : IntKind.i64.wrap (j * f'.1) = j * f'.1 := wi _ (by omega) (by omega)
    have w2 : IntKind.i64.wrap (j * f'.1 + i') = j * f'.1 + i' := wi _ (by omega) (by omega)
    have w3 : IntKind.i64.wrap (j + 1) = j + 1 := wi _ (by omega) (by omega)
    refine ⟨(i', j + 1, f', v', a ++ [f'.2.1.getD (j * f'.1 + i').toNat 0], b ++ [v'.getD j.toNat 0], t, ()), ⟨rfl, rfl, rfl, (by show i' + 1 ≤ j + 1; omega), (by show j + 1 ≤ f'.1; omega), (by show (((a ++ [_]).length : Nat) : Int) = j + 1 - i' - 1; rw [List.length_append]; simp; omega), (by show (b ++ [_]).length = (a ++ [_]).length; rw [List.length_append, List.length_append, e7]; rfl)⟩, (by show (_ - (j + 1)).toNat < (_ - j).toNat; omega), fun R κ rec' => ?_⟩
    unfold F_ldl_Solve_L1 F_ldl_Factors_at
    simp only [d_lt c, cond_true, w1, w2, d_le (show 0 ≤ j * f'.1 + i' by omega), d_lt (show j * f'.1 + i' < 36 by omega), Bool.and_self, d_le (show 0 ≤ j by omega), d_lt (show j < v'.length by omega), w3]
    rw [decide_eq_true (show (a.length + 1) * 8 ≤ 140737488355328 by omega), decide_eq_true (show (b.length + 1) * 8 ≤ 140737488355328 by omega)]
    rfl
  · left
    obtain ⟨r, u, hr, er⟩ := tdotS (t := t) (a := a) (b := b) (p := 30) (by omega) (by omega) (by omega) (by omega)
    obtain ⟨r', u', hr', er'⟩ := tlessS (t := u) (hvi.getD i'.toNat) hr.i64
    have w1 : IntKind.i64.wrap (i' - 1) = i' - 1 := wi _ (by omega) (by omega)
    refine ⟨(i' - 1, f', v'.set i'.toNat r', u', ()), ⟨rfl, rfl, (by show (((v'.set _ _).length : Nat) : Int) = _; rw [List.length_set]; exact hv), hvi.set _ hr'.i64⟩, fun R κ rec' => ?_⟩
    unfold F_ldl_Solve_L1
    simp only [n_lt c, cond_false, d_le h0, d_lt (show i' < v'.length by omega), Bool.and_self, cond_true, er, er', w1]

theorem solve_L2 {f : Fac} (hf : FacS f) {v : List Int} (hv : (v.length : Int) = f.1) (hvi : AllI v) (t : Bool × Unit) :
    ∃ z : List Int × Bool × Option Int, (z.1.length = v.length ∧ AllI z.1 ∧ z.2.2 = none) ∧
      ∀ (R : Type) (κ : List Int → Bool → Option Int → Option R), loopK (F_ldl_Solve_L2 κ) FUEL (IntKind.i64.wrap (f.1 - 1), f, v, t, ()) = κ z.1 z.2.1 z.2.2 := by
  have g := hf
  obtain ⟨g1, g2, g3, g4, g5, g6⟩ := hf
  have w0 : IntKind.i64.wrap (f.1 - 1) = f.1 - 1 := wi _ (by omega) (by omega)
  rw [w0]
  obtain ⟨z, hz, e⟩ := loop_ends (fun z : Int × Fac × List Int × (Bool × Unit) × Unit => z.2.1 = f ∧ -1 ≤ z.1 ∧ z.1 < f.1 ∧ (z.2.2.1.length : Int) = f.1 ∧ AllI z.2.2.1) (fun z => (z.1 + 1).toNat) (fun z : List Int × Bool × Option Int => z.1.length = v.length ∧ AllI z.1 ∧ z.2.2 = none) (fun {R} κ rec' z => F_ldl_Solve_L2 (fun a b c => κ (a, b, c)) rec' z) (by
    rintro ⟨i, f', v', t, ⟨⟩⟩ ⟨e1, e2, e3, e4, e5⟩
    simp only at e1 e2 e3 e4 e5
    subst e1
    by_cases c : 0 ≤ i
    · right
      obtain ⟨z, ⟨z1, z2, z3, z4⟩, e⟩ := solve_L1 g e4 e5 c e3 t
      refine ⟨z, ⟨z2, by omega, by omega, z3, z4⟩, by simp only; omega, fun R κ rec' => ?_⟩
      unfold F_ldl_Solve_L2
      simp only [d_le c, cond_true, e]
    · left
      refine ⟨(v', t.1, none), ⟨by show v'.length = _; omega, e5, rfl⟩, fun R κ rec' => ?_⟩
      unfold F_ldl_Solve_L2
      simp only [n_le c, cond_false])
    (f.1 - 1, f, v, t, ()) ⟨rfl, (by show -1 ≤ f.1 - 1; omega), (by show f.1 - 1 < f.1; omega), hv, hvi⟩ (by show (f.1 - 1 + 1).toNat < _; omega)
  exact ⟨z, hz, fun R κ => e R (fun t => κ t.1 t.2.1 t.2.2)⟩

theorem solve_L3 {f : Fac} (hf : FacS f) {v : List Int} (hv : (v.length : Int) = f.1) (hvi : AllI v) (t : Bool × Unit) :
    ∃ z : List Int × Bool × Option Int, (z.1.length = v.length ∧ AllI z.1 ∧ z.2.2 = none) ∧
      ∀ (R : Type) (κ : List Int → Bool → Option Int → Option R), loopK (F_ldl_Solve_L3 κ) FUEL ((v.length : Int), 0, f, v, t, ()) = κ z.1 z.2.1 z.2.2 := by
  have g := hf
  obtain ⟨g1, g2, g3, g4, g5, g6⟩ := hf
  obtain ⟨z, hz, e⟩ := loop_ends (fun z : Int × Int × Fac × List Int × (Bool × Unit) × Unit => z.1 = v.length ∧ z.2.2.1 = f ∧ 0 ≤ z.2.1 ∧ z.2.2.2.1.length = v.length ∧ AllI z.2.2.2.1) (fun z => ((v.length : Int) - z.2.1).toNat) (fun z : List Int × Bool × Option Int => z.1.length = v.length ∧ AllI z.1 ∧ z.2.2 = none) (fun {R} κ rec' z => F_ldl_Solve_L3 (fun a b c => κ (a, b, c)) rec' z) (by
    rintro ⟨n, i, f', v', t, ⟨⟩⟩ ⟨e1, e2, e3, e4, e5⟩
    simp only at e1 e2 e3 e4 e5
    subst e1 e2
    by_cases c : i < v.length
    · right
      obtain ⟨r, u, hr, er⟩ := tbyS (t := t) (a := v'.getD i.toNat 0) (b := f'.2.2.1.getD i.toNat 0) (p := 20) (g6.getD _) (by omega) (by omega)
      have w1 : IntKind.i64.wrap (i + 1) = i + 1 := wi _ (by omega) (by omega)
      refine ⟨((v.length : Int), i + 1, f', v'.set i.toNat r, u, ()), ⟨rfl, rfl, (by show 0 ≤ i + 1; omega), (by show (v'.set _ _).length = _; rw [List.length_set, e4]), e5.set _ hr.i64⟩, (by show (_ - (i + 1)).toNat < (_ - i).toNat; omega), fun R κ rec' => ?_⟩
      unfold F_ldl_Solve_L3
      simp only [d_lt c, d_le e3, d_lt (show i < v'.length by omega), d_lt (show i < 6 by omega), Bool.and_self, cond_true, er, w1]
    · left
      obtain ⟨z, ⟨z1, z2, z3⟩, e⟩ := solve_L2 g (v := v') (by omega) e5 t
      refine ⟨z, ⟨by omega, z2, z3⟩, fun R κ rec' => ?_⟩
      unfold F_ldl_Solve_L3
      simp only [n_lt c, cond_false]
      exact e R (fun a b c => κ (a, b, c)))
    ((v.length : Int), 0, f, v, t, ()) ⟨rfl, rfl, Int.le_refl 0, rfl, hvi⟩ (by show ((v.length : Int) - 0).toNat < _; omega)
  exact ⟨z, hz, fun R κ => e R (fun t => κ t.1 t.2.1 t.2.2)⟩

theorem solveS {f : Fac} (hf : FacS f) (hval : Valid f) {v : List Int} (hv : (v.length : Int) = f.1) (hvi : AllI v) :
    ∃ w c, (w.length = v.length ∧ AllI w) ∧ ∀ (R : Type) (κ : List Int → Bool → Option Int → Option R), F_ldl_Solve f v κ = κ w c none := by
  obtain ⟨w, u, ⟨hw, hwi⟩, ew⟩ := downS (t := (false, ())) hf hv hvi
  obtain ⟨⟨z1, z2, z3⟩, ⟨h1, h2, h3⟩, e⟩ := solve_L3 hf (v := w) (by omega) hwi u
  simp only at h1 h2 h3
  subst h3
  refine ⟨z1, z2, ⟨by omega, h2⟩, fun R κ => ?_⟩
  unfold F_ldl_Solve
  simp only [joinK, check_ok hval, nn, cond_false, b_ee hv, ew]
  exact e R κ

theorem solve_no {f : Fac} (h : ¬ Valid f) (v : List Int) (R : Type) (κ : List Int → Bool → Option Int → Option R) : F_ldl_Solve f v κ = κ [] false (some 1) := by
  unfold F_ldl_Solve
  simp only [joinK, check_no h, sn, cond_true]

/-! ### Logarithms -/
theorem timesS (a b : Int) : ∃ r, ∀ (R : Type) (κ : Int → Option R), F_grow_times a b κ = κ r := by
  obtain ⟨r, c, hr, e⟩ := dotS (a := [a]) (b := [b]) (p := 50) (by omega) (by omega) rfl (by simp)
  refine ⟨r, fun R κ => ?_⟩
  unfold F_grow_times F_qnum_Mul
  simp only [e, nn, cond_false]
theorem riseS (m : Int) : ∃ r, ∀ (R : Type) (κ : Int → Option R), F_grow_rise m κ = κ r := by
  obtain ⟨r, c, o, hr, e⟩ := divS (a := IntKind.i64.wrap (m - 1125899906842624)) (b := IntKind.i64.wrap (m + 1125899906842624)) (p := 50) (I64_wrap _) (by omega) (by omega)
  cases o with
  | some x =>
    refine ⟨0, fun R κ => ?_⟩
    unfold F_grow_rise
    simp only [e, sn, cond_true]
  | none =>
    obtain ⟨s, es⟩ := timesS r r
    obtain ⟨z, hz, ez⟩ := loop_ends (fun z : Int × Int × Int × Int × Unit => 0 ≤ z.2.2.2.1) (fun z => (20 - z.2.2.2.1).toNat) (fun z : Int => True) (fun {R} κ rec' z => F_grow_rise_L1 κ rec' z) (by
      rintro ⟨a, b, x, i, ⟨⟩⟩ h
      simp only at h
      by_cases c : i < 20
      · right
        obtain ⟨q, eq⟩ := timesS a b
        have w1 : IntKind.i64.wrap (2 * i) = 2 * i := wi _ (by omega) (by omega)
        have w2 : IntKind.i64.wrap (2 * i + 1) = 2 * i + 1 := wi _ (by omega) (by omega)
        have w3 : IntKind.i64.wrap (i + 1) = i + 1 := wi _ (by omega) (by omega)
        refine ⟨(q, b, IntKind.i64.wrap (x + (IntKind.i64.wrap (Int.tdiv a (2 * i + 1)))), i + 1, ()), (by show 0 ≤ i + 1; omega), (by show (_ - (i + 1)).toNat < (_ - i).toNat; omega), fun R κ rec' => ?_⟩
        unfold F_grow_rise_L1
        simp only [d_lt c, cond_true, w1, w2, w3, b_ne (show ¬ 2 * i + 1 = 0 by omega), cond_false, eq]
      · left
        refine ⟨IntKind.i64.wrap (2 * x), trivial, fun R κ rec' => ?_⟩
        unfold F_grow_rise_L1
        simp only [n_lt c, cond_false])
      (r, s, 0, 0, ()) (Int.le_refl 0) (by show ((20 : Int) - 0).toNat < _; omega)
    refine ⟨z, fun R κ => ?_⟩
    unfold F_grow_rise
    simp only [e, nn, cond_false, es]
    exact ez R κ

theorem moveS {a : Int} (ha : I64 a) : ∃ r c, ∀ (R : Type) (κ : Int → Bool → Option Int → Option R), F_qnum_Move a 30 0 κ = κ r c none := by
  obtain ⟨u, hu, _, eu⟩ := ofD ha
  obtain ⟨v, hv, ev⟩ := halfS hu (n := 30) (by omega) (by omega)
  obtain ⟨r, c, hr, er⟩ := boundedS hv
  refine ⟨r, c, fun R κ => ?_⟩
  have w : IntKind.i64.wrap (30 - 0) = 30 := by decide
  unfold F_qnum_Move
  simp only [joinK, pointedS (n := 30) (by omega) (by omega), pointedS (n := 0) (by omega) (by omega), Bool.not_true, cond_false, eu, n_le (show ¬ (30 : Int) ≤ 0 by omega), w, ev, er]

theorem growLogS {x : Int} (h0 : 1 ≤ x) (h1 : x ≤ 4611686018427387903) : ∃ r, ∀ (R : Type) (κ : Int → Option Int → Option R), F_grow_Log x 20 κ = κ r none := by
  obtain ⟨n, n0, n1, n2, n3, en⟩ := lenS (x := x) (by unfold Wd; omega)
  obtain ⟨n4, n5⟩ := n3 h0
  have w0 : IntKind.u64.wrap x = x := by rw [wu]; omega
  have w1 : IntKind.i64.wrap (n - 1) = n - 1 := wi _ (by omega) (by omega)
  have w2 : IntKind.i64.wrap (n - 1 - 50) = n - 1 - 50 := wi _ (by omega) (by omega)
  have w3 : IntKind.i64.wrap (0 - (n - 1 - 50)) = 0 - (n - 1 - 50) := wi _ (by omega) (by omega)
  have d1 : decide ((bif decide (n - 1 - 50 < 0) then 0 else n - 1 - 50) < 0) = false := by
    by_cases c : n - 1 - 50 < 0
    · rw [d_lt c]; rfl
    · rw [n_lt c, cond_false, n_lt c]
  have d2 : decide ((bif decide (0 - (n - 1 - 50) < 0) then 0 else 0 - (n - 1 - 50)) < 0) = false := by
    by_cases c : 0 - (n - 1 - 50) < 0
    · rw [d_lt c]; rfl
    · rw [n_lt c, cond_false, n_lt c]
  obtain ⟨r, er⟩ := riseS (shlI .i64 (shrI .i64 x (bif decide (n - 1 - 50 < 0) then 0 else n - 1 - 50)) (bif decide (0 - (n - 1 - 50) < 0) then 0 else 0 - (n - 1 - 50)))
  obtain ⟨q, c, eq⟩ := moveS (a := IntKind.i64.wrap (r + (IntKind.i64.wrap ((IntKind.i64.wrap ((IntKind.i64.wrap ((n - 1 - 50) - 20)) + 50)) * 780414346020670)))) (I64_wrap _)
  refine ⟨q, fun R κ => ?_⟩
  unfold F_grow_Log
  simp only [joinK, n_lt (show ¬ x < 1 by omega), n_lt (show ¬ 4611686018427387903 < x by omega), n_lt (show ¬ (20 : Int) < 0 by omega), n_lt (show ¬ (62 : Int) < 20 by omega), cond_false, w0, en, w1, w2, w3, d1, d2, er, eq]

theorem logS {f : Fac} (hval : Valid f) : ∃ r, ∀ (R : Type) (κ : Int → Option Int → Option R), F_ldl_Log f κ = κ r none := by
  have hn := hval.1
  obtain ⟨⟨z1, z2⟩, hz, e⟩ := loop_ends (fun z : Int × Int × Int × Int × Int × Fac × Unit => z.2.1 = 0 ∧ z.2.2.1 = f.1 ∧ z.2.2.2.1 = f.1 ∧ 0 ≤ z.2.2.2.2.1 ∧ z.2.2.2.2.2.1 = f) (fun z => (f.1 - z.2.2.2.2.1).toNat) (fun z : Int × Option Int => z.2 = none) (fun {R} κ rec' z => F_ldl_Log_L1 (fun a b => κ (a, b)) rec' z) (by
    rintro ⟨s, a, b, c, i, f', ⟨⟩⟩ ⟨e1, e2, e3, e4, e5⟩
    simp only at e1 e2 e3 e4 e5
    subst e1 e2 e3 e5
    by_cases c : i < f'.1
    · right
      obtain ⟨d0, d1⟩ := hval.diag e4 c
      obtain ⟨q, eq⟩ := growLogS d0 d1
      have w1 : IntKind.i64.wrap (i + 1) = i + 1 := wi _ (by omega) (by omega)
      have t0 : ((f'.1.toNat : Nat) : Int) = f'.1 := Int.toNat_of_nonneg (by omega)
      refine ⟨(IntKind.i64.wrap (s + q), 0, f'.1, f'.1, i + 1, f', ()), ⟨rfl, rfl, rfl, (by show 0 ≤ i + 1; omega), rfl⟩, (by show (_ - (i + 1)).toNat < (_ - i).toNat; omega), fun R κ rec' => ?_⟩
      unfold F_ldl_Log_L1
      simp only [d_lt c, d_le e4, t0, Bool.and_self, cond_true, show Int.toNat 0 = 0 by rfl, Nat.zero_add, eq, nn, cond_false, w1]
      rfl
    · left
      refine ⟨(s, none), rfl, fun R κ rec' => ?_⟩
      unfold F_ldl_Log_L1
      simp only [n_lt c, cond_false])
    (0, 0, ((f.1 - 0).toNat : Int), ((f.1 - 0).toNat : Int), 0, f, ()) ⟨rfl, (by show ((f.1 - 0).toNat : Int) = f.1; omega), (by show ((f.1 - 0).toNat : Int) = f.1; omega), Int.le_refl 0, rfl⟩ (by show ((f.1 : Int) - 0).toNat < _; omega)
  simp only at hz
  subst hz
  refine ⟨z1, fun R κ => ?_⟩
  unfold F_ldl_Log
  simp only [check_ok hval, nn, cond_false, d_le (show 0 ≤ f.1 by omega), d_le hn.2, d_le (Int.le_refl 0), Bool.and_self, cond_true]
  exact e R (fun t => κ t.1 t.2)
theorem log_no {f : Fac} (h : ¬ Valid f) (R : Type) (κ : Int → Option Int → Option R) : F_ldl_Log f κ = κ 0 (some 1) := by
  unfold F_ldl_Log
  simp only [check_no h, sn, cond_true]
end Go.Proofs
end

section
set_option linter.all false
set_option linter.unusedSimpArgs false
set_option linter.unusedVariables false
namespace Go.Proofs
open Go Go.Ev
set_option linter.unusedVariables false
set_option linter.unusedSimpArgs false
set_option maxRecDepth 100000

/-! ### Far -/
theorem far_L1 {f : Fac} (hf : FacS f) {v : List Int} (hv : (v.length : Int) = f.1) (hvi : AllI v) (t : Bool × Unit) :
    ∃ z : Int × Bool × Option Int, (z.2.2 = none) ∧
      ∀ (R : Type) (κ : Int → Bool → Option Int → Option R), loopK (F_ldl_Far_L1 κ) FUEL (0, (v.length : Int), 0, f, t, v, ()) = κ z.1 z.2.1 z.2.2 := by
  obtain ⟨g1, g2, g3, g4, g5, g6⟩ := hf
  obtain ⟨z, hz, e⟩ := loop_ends (fun z : Int × Int × Int × Fac × (Bool × Unit) × List Int × Unit => z.2.1 = v.length ∧ z.2.2.2.1 = f ∧ 0 ≤ z.2.2.1 ∧ z.2.2.2.2.2.1 = v ∧ I64 z.1) (fun z => ((v.length : Int) - z.2.2.1).toNat) (fun z : Int × Bool × Option Int => z.2.2 = none) (fun {R} κ rec' z => F_ldl_Far_L1 (fun a b c => κ (a, b, c)) rec' z) (by
    rintro ⟨s, n, i, f', t, v', ⟨⟩⟩ ⟨e1, e2, e3, e4, e5⟩
    simp only at e1 e2 e3 e4 e5
    subst e1 e2 e4
    by_cases c : i < v'.length
    · right
      obtain ⟨r1, u1, hr1, er1⟩ := tdotS (t := t) (a := [v'.getD i.toNat 0]) (b := [v'.getD i.toNat 0]) (p := 20) (by omega) (by omega) rfl (by simp)
      obtain ⟨r2, u2, hr2, er2⟩ := tbyS (t := u1) (a := r1) (b := f'.2.2.1.getD i.toNat 0) (p := 20) (g6.getD _) (by omega) (by omega)
      obtain ⟨r3, u3, hr3, er3⟩ := tlessS (t := u2) (a := s) (b := IntKind.i64.wrap (0 - r2)) e5 (I64_wrap _)
      have w1 : IntKind.i64.wrap (i + 1) = i + 1 := wi _ (by omega) (by omega)
      have run : ∀ (R : Type) (κ : Int × Bool × Option Int → Option R) rec', F_ldl_Far_L1 (fun a b c => κ (a, b, c)) rec' (s, (v'.length : Int), i, f', t, v', ()) = rec' (r3, (v'.length : Int), i + 1, f', u3, v', ()) := by
        intro R κ rec'
        rw [F_ldl_Far_L1]
        rw [d_lt c, cond_true, d_le e3, Bool.and_self, cond_true, er1, d_lt (show i < 6 by omega), Bool.and_self, cond_true, er2, er3, w1]
      refine ⟨(r3, (v'.length : Int), i + 1, f', u3, v', ()), ⟨rfl, rfl, (by show 0 ≤ i + 1; omega), rfl, hr3.i64⟩, (by show (_ - (i + 1)).toNat < (_ - i).toNat; omega), fun R κ rec' => run R κ rec'⟩
    · left
      refine ⟨(s, t.1, none), rfl, fun R κ rec' => ?_⟩
      unfold F_ldl_Far_L1
      simp only [n_lt c, cond_false])
    (0, (v.length : Int), 0, f, t, v, ()) ⟨rfl, rfl, Int.le_refl 0, rfl, I64_zero⟩ (by show ((v.length : Int) - 0).toNat < _; omega)
  exact ⟨z, hz, fun R κ => e R (fun t => κ t.1 t.2.1 t.2.2)⟩

theorem farS {f : Fac} (hf : FacS f) (hval : Valid f) {v : List Int} (hv : (v.length : Int) = f.1) (hvi : AllI v) :
    ∃ r c, ∀ (R : Type) (κ : Int → Bool → Option Int → Option R), F_ldl_Far f v κ = κ r c none := by
  obtain ⟨w, u, ⟨hw, hwi⟩, ew⟩ := downS (t := (false, ())) hf hv hvi
  obtain ⟨⟨z1, z2, z3⟩, h3, e⟩ := far_L1 hf (v := w) (by omega) hwi u
  simp only at h3
  subst h3
  refine ⟨z1, z2, fun R κ => ?_⟩
  unfold F_ldl_Far
  simp only [joinK, check_ok hval, nn, cond_false, b_ee hv, ew]
  exact e R κ
theorem far_no {f : Fac} (h : ¬ Valid f) (v : List Int) (R : Type) (κ : Int → Bool → Option Int → Option R) : F_ldl_Far f v κ = κ 0 false (some 1) := by
  unfold F_ldl_Far
  simp only [joinK, check_no h, sn, cond_true]

end Go.Proofs
end

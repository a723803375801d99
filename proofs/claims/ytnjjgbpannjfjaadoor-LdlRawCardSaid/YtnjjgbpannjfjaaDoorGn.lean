/- A part of the proof of the claim: Gn. -/
import Derived.Test.YtnjjgbpannjfjaaDoorLaw
section
set_option linter.all false
set_option linter.unusedSimpArgs false
set_option linter.unusedVariables false
namespace Go.Proofs
open Go Go.Ev
set_option linter.unusedVariables false
set_option maxRecDepth 100000
noncomputable def G_ldl_bounded (fu : Nat) {R : Type} (n : Int) (κ : Bool → Option R) : Option R :=
  joinK (fun (z1 : Bool × Unit) =>
  κ z1.1) (fun j =>
  bif (decide ((-4611686018427387903) ≤ n)) then
  j ((decide (n ≤ 4611686018427387903)), ())
  else
  j (false, ()))
noncomputable def G_ldl_right (fu : Nat) {R : Type} (i : Int) (j : Int) (n : Int) (κ : Bool → Option R) : Option R :=
  bif (decide (i < j)) then
  κ (n == 0)
  else
  bif (j == i) then
  κ (n == 1073741824)
  else
  G_ldl_bounded fu n (fun r1 =>
  κ r1)
noncomputable def G_ldl_Check_L1 (fu : Nat) {R : Type} (κ : Option Int → Option R) (rec'1 : (List Int × Int × (Int × List Int × List Int × Unit) × Unit) → Option R) (z8 : List Int × Int × (Int × List Int × List Int × Unit) × Unit) : Option R :=
  bif (decide (z8.2.1 < 6)) then
  bif decide (0 ≤ z8.2.1) && decide (z8.2.1 < 6) then
  joinK (fun (z9 : List Int × Int × Bool × (Int × List Int × List Int × Unit) × Unit) =>
  bif z9.2.2.1 then
  κ (some 1)
  else
  rec'1 (z9.1, (IntKind.i64.wrap (z9.2.1 + 1)), z9.2.2.2.1, ())) (fun j2 =>
  bif (decide (z8.2.2.1.1 ≤ z8.2.1)) then
  bif ((z8.1.getD z8.2.1.toNat 0) != 0) then
  j2 (z8.1, z8.2.1, true, z8.2.2.1, ())
  else
  bif (decide (z8.2.1 < z8.2.2.1.1)) then
  bif (decide ((z8.1.getD z8.2.1.toNat 0) < 1)) then
  j2 (z8.1, z8.2.1, true, z8.2.2.1, ())
  else
  j2 (z8.1, z8.2.1, (decide (4611686018427387903 < (z8.1.getD z8.2.1.toNat 0))), z8.2.2.1, ())
  else
  j2 (z8.1, z8.2.1, false, z8.2.2.1, ())
  else
  bif (decide (z8.2.1 < z8.2.2.1.1)) then
  bif (decide ((z8.1.getD z8.2.1.toNat 0) < 1)) then
  j2 (z8.1, z8.2.1, true, z8.2.2.1, ())
  else
  j2 (z8.1, z8.2.1, (decide (4611686018427387903 < (z8.1.getD z8.2.1.toNat 0))), z8.2.2.1, ())
  else
  j2 (z8.1, z8.2.1, false, z8.2.2.1, ()))
  else none
  else
  κ none
noncomputable def G_ldl_Check_L2 (fu : Nat) {R : Type} (κ : Option Int → Option R) (rec' : (List Int × Int × (Int × List Int × List Int × Unit) × Unit) → Option R) (z6 : List Int × Int × (Int × List Int × List Int × Unit) × Unit) : Option R :=
  bif (decide (z6.2.1 < 36)) then
  bif decide (0 ≤ z6.2.1) && decide (z6.2.1 < 36) then
  joinK (fun (z7 : List Int × Int × Bool × (Int × List Int × List Int × Unit) × Unit) =>
  bif z7.2.2.1 then
  κ (some 1)
  else
  rec' (z7.1, (IntKind.i64.wrap (z7.2.1 + 1)), z7.2.2.2.1, ())) (fun j1 =>
  bif (decide ((IntKind.i64.wrap (z6.2.2.1.1 * z6.2.2.1.1)) ≤ z6.2.1)) then
  bif ((z6.1.getD z6.2.1.toNat 0) != 0) then
  j1 (z6.1, z6.2.1, true, z6.2.2.1, ())
  else
  bif (decide (z6.2.1 < (IntKind.i64.wrap (z6.2.2.1.1 * z6.2.2.1.1)))) then
  bif (z6.2.2.1.1 == 0) then none else
  bif (z6.2.2.1.1 == 0) then none else
  G_ldl_right fu (IntKind.i64.wrap (Int.tdiv z6.2.1 z6.2.2.1.1)) (Int.tmod z6.2.1 z6.2.2.1.1) (z6.1.getD z6.2.1.toNat 0) (fun r2 =>
  j1 (z6.1, z6.2.1, (!r2), z6.2.2.1, ()))
  else
  j1 (z6.1, z6.2.1, false, z6.2.2.1, ())
  else
  bif (decide (z6.2.1 < (IntKind.i64.wrap (z6.2.2.1.1 * z6.2.2.1.1)))) then
  bif (z6.2.2.1.1 == 0) then none else
  bif (z6.2.2.1.1 == 0) then none else
  G_ldl_right fu (IntKind.i64.wrap (Int.tdiv z6.2.1 z6.2.2.1.1)) (Int.tmod z6.2.1 z6.2.2.1.1) (z6.1.getD z6.2.1.toNat 0) (fun r3 =>
  j1 (z6.1, z6.2.1, (!r3), z6.2.2.1, ()))
  else
  j1 (z6.1, z6.2.1, false, z6.2.2.1, ()))
  else none
  else
  loopK (G_ldl_Check_L1 fu κ) fu (z6.2.2.1.2.2.1, 0, z6.2.2.1, ())
noncomputable def G_ldl_Check (fu : Nat) {R : Type} (f : Int × List Int × List Int × Unit) (κ : Option Int → Option R) : Option R :=
  joinK (fun (z5 : Bool × (Int × List Int × List Int × Unit) × Unit) =>
  bif z5.1 then
  κ (some 1)
  else
  loopK (G_ldl_Check_L2 fu κ) fu (z5.2.1.2.1, 0, z5.2.1, ())) (fun j =>
  bif (decide (f.1 < 1)) then
  j (true, f, ())
  else
  j ((decide (6 < f.1)), f, ()))
noncomputable def G_qnum_pointed (fu : Nat) {R : Type} (n : Int) (κ : Bool → Option R) : Option R :=
  joinK (fun (z1 : Bool × Unit) =>
  κ z1.1) (fun j =>
  bif (decide (0 ≤ n)) then
  j ((decide (n ≤ 62)), ())
  else
  j (false, ()))
noncomputable def G_qnum_size (fu : Nat) {R : Type} (a : Int) (κ : Int → Option R) : Option R :=
  bif (decide (a < 0)) then
  κ (IntKind.u64.wrap (0 - (IntKind.u64.wrap a)))
  else
  κ (IntKind.u64.wrap a)
noncomputable def G_bits_Mul64 (fu : Nat) {R : Type} (x1 : Int) (y : Int) (κ : Int → Int → Option R) : Option R :=
  let t151 : Int := (bitsI .and .u64 x1 4294967295)
  let t191 : Int := (bitsI .and .u64 y 4294967295)
  let t301 : Int := (IntKind.u64.wrap ((IntKind.u64.wrap ((shrI .u64 x1 32) * t191)) + (shrI .u64 (IntKind.u64.wrap (t151 * t191)) 32)))
  κ (IntKind.u64.wrap ((IntKind.u64.wrap ((IntKind.u64.wrap ((shrI .u64 x1 32) * (shrI .u64 y 32))) + (shrI .u64 t301 32))) + (shrI .u64 (IntKind.u64.wrap ((bitsI .and .u64 t301 4294967295) + (IntKind.u64.wrap (t151 * (shrI .u64 y 32))))) 32))) (IntKind.u64.wrap (x1 * y))
noncomputable def G_qnum_sum_neg_L1 (fu : Nat) {R : Type} (κ : List Int → Option R) (rec' : (Int × Int × List Int × List Int × Unit) → Option R) (z1 : Int × Int × List Int × List Int × Unit) : Option R :=
  bif (decide (z1.2.1 < 3)) then
  bif decide (0 ≤ z1.2.1) && decide (z1.2.1 < 3) then
  F_Add64 (bitsI .xor .u64 18446744073709551615 (z1.2.2.1.getD z1.2.1.toNat 0)) 0 z1.1 (fun r2 r3 =>
  bif decide (0 ≤ z1.2.1) && decide (z1.2.1 < 3) then
  rec' (r3, (IntKind.i64.wrap (z1.2.1 + 1)), (z1.2.2.1.set z1.2.1.toNat r2), z1.2.2.2.1, ())
  else none)
  else none
  else
  κ z1.2.2.1
noncomputable def G_qnum_sum_neg (fu : Nat) {R : Type} (s : List Int) (κ : List Int → Option R) : Option R :=
  loopK (G_qnum_sum_neg_L1 fu κ) fu (1, 0, s, (List.replicate 3 0), ())
noncomputable def G_qnum_product (fu : Nat) {R : Type} (a : Int) (b : Int) (κ : List Int → Option R) : Option R :=
  G_qnum_size fu a (fun r5 =>
  G_qnum_size fu b (fun r6 =>
  G_bits_Mul64 fu r5 r6 (fun r7 r8 =>
  let t181 : List Int := (((List.replicate 3 0).set 0 r8).set 1 r7)
  bif (!((decide (a < 0)) == (decide (b < 0)))) then
  G_qnum_sum_neg fu t181 (fun r9 =>
  κ r9)
  else
  κ t181)))
noncomputable def G_qnum_sum_plus_L1 (fu : Nat) {R : Type} (κ : List Int → Option R) (rec' : (Int × Int × List Int × List Int × List Int × Unit) → Option R) (z1 : Int × Int × List Int × List Int × List Int × Unit) : Option R :=
  bif (decide (z1.2.1 < 3)) then
  bif decide (0 ≤ z1.2.1) && decide (z1.2.1 < 3) then
  bif decide (0 ≤ z1.2.1) && decide (z1.2.1 < 3) then
  F_Add64 (z1.2.2.1.getD z1.2.1.toNat 0) (z1.2.2.2.1.getD z1.2.1.toNat 0) z1.1 (fun r2 r3 =>
  bif decide (0 ≤ z1.2.1) && decide (z1.2.1 < 3) then
  rec' (r3, (IntKind.i64.wrap (z1.2.1 + 1)), (z1.2.2.1.set z1.2.1.toNat r2), z1.2.2.2.1, z1.2.2.2.2.1, ())
  else none)
  else none
  else none
  else
  κ z1.2.2.1
noncomputable def G_qnum_sum_plus (fu : Nat) {R : Type} (s : List Int) (o : List Int) (κ : List Int → Option R) : Option R :=
  loopK (G_qnum_sum_plus_L1 fu κ) fu (0, 0, s, o, (List.replicate 3 0), ())
noncomputable def G_qnum_sum_below (fu : Nat) {R : Type} (s : List Int) (κ : Bool → Option R) : Option R :=
  κ ((shrI .u64 (s.getD 2 0) 63) == 1)
noncomputable def G_qnum_sum_half_L1 (fu : Nat) {R : Type} (κ : List Int → Option R) (rec' : (Int × Int × Int × List Int × List Int × Unit) → Option R) (z4 : Int × Int × Int × List Int × List Int × Unit) : Option R :=
  bif (decide (z4.2.2.1 < 3)) then
  joinK (fun (z5 : Int × Int × Int × Int × Int × List Int × List Int × Unit) =>
  bif decide (0 ≤ z5.2.2.1) && decide (z5.2.2.1 < 3) then
  bif decide (z5.1 < 0) then none else
  bif decide (0 ≤ z5.2.2.1) && decide (z5.2.2.1 < 3) then
  rec' (z5.1, z5.2.1, (IntKind.i64.wrap (z5.2.2.2.2.1 + 1)), (z5.2.2.2.2.2.1.set z5.2.2.1.toNat (bitsI .or .u64 (shrI .u64 (z5.2.2.2.2.2.1.getD z5.2.2.1.toNat 0) z5.1) z5.2.2.2.1)), z5.2.2.2.2.2.2.1, ())
  else none
  else none) (fun j =>
  bif (decide ((IntKind.i64.wrap (z4.2.2.1 + 1)) < 3)) then
  let t251 : Int := (IntKind.i64.wrap (z4.2.2.1 + 1))
  bif decide (0 ≤ t251) && decide (t251 < 3) then
  let t291 : Int := (IntKind.i64.wrap (64 - z4.1))
  bif decide (t291 < 0) then none else
  j (z4.1, z4.2.1, z4.2.2.1, (shlI .u64 (z4.2.2.2.1.getD t251.toNat 0) t291), z4.2.2.1, z4.2.2.2.1, z4.2.2.2.2.1, ())
  else none
  else
  G_qnum_sum_below fu z4.2.2.2.1 (fun r2 =>
  bif r2 then
  let t341 : Int := (IntKind.i64.wrap (64 - z4.1))
  bif decide (t341 < 0) then none else
  j (z4.1, z4.2.1, z4.2.2.1, (shlI .u64 18446744073709551615 t341), z4.2.2.1, z4.2.2.2.1, z4.2.2.2.2.1, ())
  else
  j (z4.1, z4.2.1, z4.2.2.1, 0, z4.2.2.1, z4.2.2.2.1, z4.2.2.2.2.1, ())))
  else
  let t47 : Int := (IntKind.i64.wrap (z4.1 - 1))
  bif decide (t47 < 0) then none else
  joinK (fun (z6 : List Int × List Int × Unit) =>
  κ z6.1) (fun j1 =>
  joinK (fun (z7 : Bool × List Int × List Int × Unit) =>
  bif z7.1 then
  G_qnum_sum_plus fu z7.2.1 ((List.replicate 3 0).set 0 1) (fun r3 =>
  j1 (r3, z7.2.2.1, ()))
  else
  j1 (z7.2.1, z7.2.2.1, ())) (fun j2 =>
  bif (decide ((shlI .u64 1 t47) < z4.2.1)) then
  j2 (true, z4.2.2.2.1, z4.2.2.2.2.1, ())
  else
  bif (z4.2.1 == (shlI .u64 1 t47)) then
  j2 (((bitsI .and .u64 (z4.2.2.2.1.getD 0 0) 1) == 1), z4.2.2.2.1, z4.2.2.2.2.1, ())
  else
  j2 (false, z4.2.2.2.1, z4.2.2.2.2.1, ())))
noncomputable def G_qnum_sum_half (fu : Nat) {R : Type} (s : List Int) (n : Int) (κ : List Int → Option R) : Option R :=
  bif (n == 0) then
  κ s
  else
  bif decide (n < 0) then none else
  loopK (G_qnum_sum_half_L1 fu κ) fu (n, (bitsI .and .u64 (s.getD 0 0) (IntKind.u64.wrap ((shlI .u64 1 n) - 1))), 0, s, (List.replicate 3 0), ())
noncomputable def G_qnum_of (fu : Nat) {R : Type} (a : Int) (κ : List Int → Option R) : Option R :=
  let t61 : Int := (IntKind.u64.wrap (shrI .i64 a 63))
  κ ((((List.replicate 3 0).set 0 (IntKind.u64.wrap a)).set 1 t61).set 2 t61)
noncomputable def G_qnum_sum_bounded (fu : Nat) {R : Type} (s : List Int) (κ : Int → Bool → Option R) : Option R :=
  G_qnum_of fu 4611686018427387903 (fun r6 =>
  G_qnum_sum_plus fu s r6 (fun r7 =>
  G_qnum_of fu (-4611686018427387904) (fun r8 =>
  G_qnum_sum_plus fu s r8 (fun r9 =>
  G_qnum_sum_below fu r7 (fun r10 =>
  bif r10 then
  κ (-4611686018427387903) true
  else
  G_qnum_sum_below fu r9 (fun r11 =>
  bif (!r11) then
  κ 4611686018427387903 true
  else
  κ (IntKind.i64.wrap (s.getD 0 0)) false))))))
noncomputable def G_qnum_Dot_L1 (fu : Nat) {R : Type} (κ : Int → Bool → Option Int → Option R) (rec' : (List Int × Int × List Int × Int × Int × List Int × Unit) → Option R) (z3 : List Int × Int × List Int × Int × Int × List Int × Unit) : Option R :=
  bif (decide (z3.2.2.2.2.1 < z3.2.2.2.1)) then
  bif decide (0 ≤ z3.2.2.2.2.1) && decide (z3.2.2.2.2.1 < (z3.2.2.1.length : Int)) then
  bif decide (0 ≤ z3.2.2.2.2.1) && decide (z3.2.2.2.2.1 < (z3.1.length : Int)) then
  G_qnum_product fu (z3.2.2.1.getD z3.2.2.2.2.1.toNat 0) (z3.1.getD z3.2.2.2.2.1.toNat 0) (fun r6 =>
  G_qnum_sum_plus fu z3.2.2.2.2.2.1 r6 (fun r7 =>
  rec' (z3.1, z3.2.1, z3.2.2.1, z3.2.2.2.1, (IntKind.i64.wrap (z3.2.2.2.2.1 + 1)), r7, ())))
  else none
  else none
  else
  G_qnum_sum_half fu z3.2.2.2.2.2.1 z3.2.1 (fun r8 =>
  G_qnum_sum_bounded fu r8 (fun r9 r10 =>
  κ r9 r10 none))
noncomputable def G_qnum_Dot (fu : Nat) {R : Type} (a : List Int) (b : List Int) (point : Int) (κ : Int → Bool → Option Int → Option R) : Option R :=
  joinK (fun (z2 : List Int × List Int × Int × Bool × Unit) =>
  bif z2.2.2.2.1 then
  κ 0 false (some 1)
  else
  loopK (G_qnum_Dot_L1 fu κ) fu (z2.2.1, z2.2.2.1, z2.1, (z2.1.length : Int), 0, (List.replicate 3 0), ())) (fun j =>
  G_qnum_pointed fu point (fun r11 =>
  bif (!r11) then
  j (a, b, point, true, ())
  else
  bif ((a.length : Int) != (b.length : Int)) then
  j (a, b, point, true, ())
  else
  j (a, b, point, (decide (64 < (a.length : Int))), ())))
noncomputable def G_ldl_tally_dot (fu : Nat) {R : Type} (t : Bool × Unit) (a : List Int) (b : List Int) (bits : Int) (κ : Int → (Bool × Unit) → Option R) : Option R :=
  G_qnum_Dot fu a b bits (fun r3 r4 r5 =>
  joinK (fun (z1 : Int × (Bool × Unit) × Unit) =>
  κ z1.1 z1.2.1) (fun j =>
  bif t.1 then
  j (r3, (true, t.2), ())
  else
  bif r4 then
  j (r3, (true, t.2), ())
  else
  j (r3, ((!(Option.isNone (α := Int) r5 && Option.isNone (α := Int) none)), t.2), ())))
noncomputable def G_qnum_Sub (fu : Nat) {R : Type} (a : Int) (b : Int) (κ : Int → Bool → Option R) : Option R :=
  G_qnum_of fu a (fun r6 =>
  G_qnum_of fu b (fun r7 =>
  G_qnum_sum_neg fu r7 (fun r8 =>
  G_qnum_sum_plus fu r6 r8 (fun r9 =>
  G_qnum_sum_bounded fu r9 (fun r10 r11 =>
  κ r10 r11)))))
noncomputable def G_ldl_tally_less (fu : Nat) {R : Type} (t : Bool × Unit) (a : Int) (b : Int) (κ : Int → (Bool × Unit) → Option R) : Option R :=
  G_qnum_Sub fu a b (fun r2 r3 =>
  joinK (fun (z1 : Int × (Bool × Unit) × Unit) =>
  κ z1.1 z1.2.1) (fun j =>
  bif t.1 then
  j (r2, (true, t.2), ())
  else
  j (r2, (r3, t.2), ())))
noncomputable def G_ldl_tally_down_L1 (fu : Nat) {R : Type} (κ : List Int → (Bool × Unit) → Option R) (rec' : ((Int × List Int × List Int × Unit) × List Int × Int × Int × (Bool × Unit) × List Int × Unit) → Option R) (z1 : (Int × List Int × List Int × Unit) × List Int × Int × Int × (Bool × Unit) × List Int × Unit) : Option R :=
  bif (decide (z1.2.2.2.1 < z1.2.2.1)) then
  bif decide (0 ≤ z1.2.2.2.1) && decide (z1.2.2.2.1 < (z1.2.1.length : Int)) then
  let t361 : Int := (IntKind.i64.wrap (z1.2.2.2.1 * z1.1.1))
  let t441 : Int := (IntKind.i64.wrap ((IntKind.i64.wrap (z1.2.2.2.1 * z1.1.1)) + z1.2.2.2.1))
  bif decide (0 ≤ t441) && decide (t441 ≤ 36) && decide (0 ≤ t361) && decide (t361 ≤ t441) then
  G_ldl_tally_dot fu z1.2.2.2.2.1 ((z1.1.2.1.take t441.toNat).drop t361.toNat) z1.2.2.2.2.2.1 30 (fun r2 u3 =>
  G_ldl_tally_less fu u3 (z1.2.1.getD z1.2.2.2.1.toNat 0) r2 (fun r3 u4 =>
  bif decide ((z1.2.2.2.2.2.1.length + 1) * 8 ≤ 140737488355328) then
  rec' (z1.1, z1.2.1, z1.2.2.1, (IntKind.i64.wrap (z1.2.2.2.1 + 1)), u4, (z1.2.2.2.2.2.1 ++ [r3]), ())
  else none))
  else none
  else none
  else
  κ z1.2.2.2.2.2.1 z1.2.2.2.2.1
noncomputable def G_ldl_tally_down (fu : Nat) {R : Type} (t : Bool × Unit) (f : Int × List Int × List Int × Unit) (v : List Int) (κ : List Int → (Bool × Unit) → Option R) : Option R :=
  bif decide (0 ≤ f.1) && decide (f.1 * 8 ≤ 140737488355328) then
  loopK (G_ldl_tally_down_L1 fu κ) fu (f, v, f.1, 0, t, (List.replicate 0 0), ())
  else none
noncomputable def G_bits_Len64 (fu : Nat) {R : Type} (x1 : Int) (κ : Int → Option R) : Option R :=
  joinK (fun (z3 : Int × Int × Unit) =>
  joinK (fun (z4 : Int × Int × Unit) =>
  joinK (fun (z5 : Int × Int × Unit) =>
  bif decide (0 ≤ (IntKind.u8.wrap z5.1)) && decide ((IntKind.u8.wrap z5.1) < (ByteArray.size (funStr Tryd.f43) : Int)) then
  κ (IntKind.i64.wrap (z5.2.1 + (IntKind.i64.wrap (byteAt (funStr Tryd.f43) (IntKind.u8.wrap z5.1).toNat))))
  else none) (fun j2 =>
  bif (decide (256 ≤ z4.1)) then
  j2 ((shrI .u64 z4.1 8), (IntKind.i64.wrap (z4.2.1 + 8)), ())
  else
  j2 (z4.1, z4.2.1, ()))) (fun j1 =>
  bif (decide (65536 ≤ z3.1)) then
  j1 ((shrI .u64 z3.1 16), (IntKind.i64.wrap (z3.2.1 + 16)), ())
  else
  j1 (z3.1, z3.2.1, ()))) (fun j =>
  bif (decide (4294967296 ≤ x1)) then
  j ((shrI .u64 x1 32), 32, ())
  else
  j (x1, 0, ()))
noncomputable def G_bits_LeadingZeros64 (fu : Nat) {R : Type} (x1 : Int) (κ : Int → Option R) : Option R :=
  G_bits_Len64 fu x1 (fun r1 =>
  κ (IntKind.i64.wrap (64 - r1)))
noncomputable def G_bits_Div64_L1 (fu : Nat) {R : Type} (j1 : (Int × Int × Int × Int × Int × Int × Unit) → Option R) (rec' : (Int × Int × Int × Int × Int × Int × Int × Int × Int × Unit) → Option R) (z8 : Int × Int × Int × Int × Int × Int × Int × Int × Int × Unit) : Option R :=
  joinK (fun (z9 : Int × Int × Int × Int × Int × Int × Int × Int × Int × Bool × Unit) =>
  bif z9.2.2.2.2.2.2.2.2.2.1 then
  let t1151 : Int := (IntKind.u64.wrap (z9.2.2.2.2.2.2.2.2.1 - 1))
  let t1181 : Int := (IntKind.u64.wrap (z9.2.2.2.2.2.2.1 + z9.2.2.1))
  bif (decide (4294967296 ≤ t1181)) then
  j1 (z9.1, z9.2.1, z9.2.2.2.2.1, z9.2.2.2.2.2.1, z9.2.2.2.2.2.2.2.1, t1151, ())
  else
  rec' (z9.1, z9.2.1, z9.2.2.1, z9.2.2.2.1, z9.2.2.2.2.1, z9.2.2.2.2.2.1, t1181, z9.2.2.2.2.2.2.2.1, t1151, ())
  else
  j1 (z9.1, z9.2.1, z9.2.2.2.2.1, z9.2.2.2.2.2.1, z9.2.2.2.2.2.2.2.1, z9.2.2.2.2.2.2.2.2.1, ())) (fun j2 =>
  bif (decide (4294967296 ≤ z8.2.2.2.2.2.2.2.2.1)) then
  j2 (z8.1, z8.2.1, z8.2.2.1, z8.2.2.2.1, z8.2.2.2.2.1, z8.2.2.2.2.2.1, z8.2.2.2.2.2.2.1, z8.2.2.2.2.2.2.2.1, z8.2.2.2.2.2.2.2.2.1, true, ())
  else
  j2 (z8.1, z8.2.1, z8.2.2.1, z8.2.2.2.1, z8.2.2.2.2.1, z8.2.2.2.2.2.1, z8.2.2.2.2.2.2.1, z8.2.2.2.2.2.2.2.1, z8.2.2.2.2.2.2.2.2.1, (decide ((IntKind.u64.wrap ((IntKind.u64.wrap (4294967296 * z8.2.2.2.2.2.2.1)) + z8.2.2.2.2.1)) < (IntKind.u64.wrap (z8.2.2.2.2.2.2.2.2.1 * z8.2.2.2.1)))), ()))
noncomputable def G_bits_Div64_L2 (fu : Nat) {R : Type} (j : (Int × Int × Int × Int × Int × Int × Int × Int × Unit) → Option R) (rec'1 : (Int × Int × Int × Int × Int × Int × Int × Int × Int × Unit) → Option R) (z10 : Int × Int × Int × Int × Int × Int × Int × Int × Int × Unit) : Option R :=
  joinK (fun (z11 : Int × Int × Int × Int × Int × Int × Int × Int × Int × Bool × Unit) =>
  bif z11.2.2.2.2.2.2.2.2.2.1 then
  let t801 : Int := (IntKind.u64.wrap (z11.2.2.2.2.2.2.2.1 - 1))
  let t831 : Int := (IntKind.u64.wrap (z11.2.2.2.2.2.2.2.2.1 + z11.2.2.1))
  bif (decide (4294967296 ≤ t831)) then
  j (z11.1, z11.2.1, z11.2.2.1, z11.2.2.2.1, z11.2.2.2.2.1, z11.2.2.2.2.2.1, z11.2.2.2.2.2.2.1, t801, ())
  else
  rec'1 (z11.1, z11.2.1, z11.2.2.1, z11.2.2.2.1, z11.2.2.2.2.1, z11.2.2.2.2.2.1, z11.2.2.2.2.2.2.1, t801, t831, ())
  else
  j (z11.1, z11.2.1, z11.2.2.1, z11.2.2.2.1, z11.2.2.2.2.1, z11.2.2.2.2.2.1, z11.2.2.2.2.2.2.1, z11.2.2.2.2.2.2.2.1, ())) (fun j3 =>
  bif (decide (4294967296 ≤ z10.2.2.2.2.2.2.2.1)) then
  j3 (z10.1, z10.2.1, z10.2.2.1, z10.2.2.2.1, z10.2.2.2.2.1, z10.2.2.2.2.2.1, z10.2.2.2.2.2.2.1, z10.2.2.2.2.2.2.2.1, z10.2.2.2.2.2.2.2.2.1, true, ())
  else
  j3 (z10.1, z10.2.1, z10.2.2.1, z10.2.2.2.1, z10.2.2.2.2.1, z10.2.2.2.2.2.1, z10.2.2.2.2.2.2.1, z10.2.2.2.2.2.2.2.1, z10.2.2.2.2.2.2.2.2.1, (decide ((IntKind.u64.wrap ((IntKind.u64.wrap (4294967296 * z10.2.2.2.2.2.2.2.2.1)) + z10.2.2.2.2.2.1)) < (IntKind.u64.wrap (z10.2.2.2.2.2.2.2.1 * z10.2.2.2.1)))), ()))
noncomputable def G_bits_Div64 (fu : Nat) {R : Type} (hi : Int) (lo : Int) (y : Int) (κ : Int → Int → Option R) : Option R :=
  bif (y == 0) then
  none
  else
  bif (decide (y ≤ hi)) then
  none
  else
  bif (hi == 0) then
  bif (y == 0) then none else
  bif (y == 0) then none else
  κ (IntKind.u64.wrap (Int.tdiv lo y)) (Int.tmod lo y)
  else
  G_bits_LeadingZeros64 fu y (fun r1 =>
  bif decide ((IntKind.u64.wrap r1) < 0) then none else
  let t391 : Int := (shlI .u64 y (IntKind.u64.wrap r1))
  bif decide ((IntKind.u64.wrap r1) < 0) then none else
  let t491 : Int := (IntKind.u64.wrap (64 - (IntKind.u64.wrap r1)))
  bif decide (t491 < 0) then none else
  let t511 : Int := (bitsI .or .u64 (shlI .u64 hi (IntKind.u64.wrap r1)) (shrI .u64 lo t491))
  bif decide ((IntKind.u64.wrap r1) < 0) then none else
  let t541 : Int := (shlI .u64 lo (IntKind.u64.wrap r1))
  bif ((shrI .u64 t391 32) == 0) then none else
  let t611 : Int := (IntKind.u64.wrap (Int.tdiv t511 (shrI .u64 t391 32)))
  joinK (fun (z6 : Int × Int × Int × Int × Int × Int × Int × Int × Unit) =>
  let t931 : Int := (IntKind.u64.wrap ((IntKind.u64.wrap ((IntKind.u64.wrap (z6.2.2.2.2.1 * 4294967296)) + z6.2.2.2.2.2.1)) - (IntKind.u64.wrap (z6.2.2.2.2.2.2.2.1 * z6.1))))
  bif (z6.2.2.1 == 0) then none else
  let t961 : Int := (IntKind.u64.wrap (Int.tdiv t931 z6.2.2.1))
  joinK (fun (z7 : Int × Int × Int × Int × Int × Int × Unit) =>
  bif decide (z7.2.1 < 0) then none else
  κ (IntKind.u64.wrap ((IntKind.u64.wrap (z7.2.2.2.1 * 4294967296)) + z7.2.2.2.2.2.1)) (shrI .u64 (IntKind.u64.wrap ((IntKind.u64.wrap ((IntKind.u64.wrap (z7.2.2.2.2.1 * 4294967296)) + z7.2.2.1)) - (IntKind.u64.wrap (z7.2.2.2.2.2.1 * z7.1)))) z7.2.1)) (fun j1 =>
  loopK (G_bits_Div64_L1 fu j1) fu (z6.1, z6.2.1, z6.2.2.1, z6.2.2.2.1, z6.2.2.2.2.2.2.1, z6.2.2.2.2.2.2.2.1, (IntKind.u64.wrap (t931 - (IntKind.u64.wrap (t961 * z6.2.2.1)))), t931, t961, ()))) (fun j =>
  loopK (G_bits_Div64_L2 fu j) fu (t391, (IntKind.u64.wrap r1), (shrI .u64 t391 32), (bitsI .and .u64 t391 4294967295), t511, (shrI .u64 t541 32), (bitsI .and .u64 t541 4294967295), t611, (IntKind.u64.wrap (t511 - (IntKind.u64.wrap (t611 * (shrI .u64 t391 32))))), ())))
noncomputable def G_qnum_quotient (fu : Nat) {R : Type} (a : Int) (b : Int) (point : Int) (κ : Int → Bool → Int → Option R) : Option R :=
  let t161 : Int := (IntKind.i64.wrap (64 - point))
  bif decide (t161 < 0) then none else
  bif decide (point < 0) then none else
  joinK (fun (z1 : Int × Int × Int × Unit) =>
  bif (z1.1 == 0) then none else
  G_bits_Div64 fu (Int.tmod z1.2.1 z1.1) z1.2.2.1 z1.1 (fun r2 r3 =>
  let t351 : Int := (IntKind.u64.wrap (z1.1 - r3))
  bif (decide (t351 < r3)) then
  κ r2 (decide (z1.1 ≤ z1.2.1)) 1
  else
  bif (r3 == t351) then
  κ r2 (decide (z1.1 ≤ z1.2.1)) 0
  else
  κ r2 (decide (z1.1 ≤ z1.2.1)) (-1))) (fun j =>
  bif (point == 0) then
  j (b, 0, a, ())
  else
  j (b, (shrI .u64 a t161), (shlI .u64 a point), ()))
noncomputable def G_qnum_Div (fu : Nat) {R : Type} (a : Int) (b : Int) (point : Int) (κ : Int → Bool → Option Int → Option R) : Option R :=
  G_qnum_pointed fu point (fun r9 =>
  bif (!r9) then
  κ 0 false (some 1)
  else
  bif (b == 0) then
  κ 0 false (some 11)
  else
  G_qnum_size fu a (fun r10 =>
  G_qnum_size fu b (fun r11 =>
  G_qnum_quotient fu r10 r11 point (fun r12 r13 r14 =>
  joinK (fun (z4 : Int × Int × Int × Bool × Unit) =>
  let t531 : List Int := ((List.replicate 3 0).set 0 z4.2.2.1)
  joinK (fun (z5 : Int × Int × List Int × Unit) =>
  joinK (fun (z6 : List Int × Unit) =>
  G_qnum_sum_bounded fu z6.1 (fun r15 r16 =>
  κ r15 r16 none)) (fun j2 =>
  bif (!((decide (z5.1 < 0)) == (decide (z5.2.1 < 0)))) then
  G_qnum_sum_neg fu z5.2.2.1 (fun r17 =>
  j2 (r17, ()))
  else
  j2 (z5.2.2.1, ()))) (fun j1 =>
  bif z4.2.2.2.1 then
  j1 (z4.1, z4.2.1, (t531.set 1 1), ())
  else
  j1 (z4.1, z4.2.1, t531, ()))) (fun j =>
  joinK (fun (z7 : Int × Int × Int × Bool × Bool × Unit) =>
  bif z7.2.2.2.2.1 then
  let t461 : Int := (IntKind.u64.wrap (z7.2.2.1 + 1))
  bif z7.2.2.2.1 then
  j (z7.1, z7.2.1, t461, true, ())
  else
  j (z7.1, z7.2.1, t461, (t461 == 0), ())
  else
  j (z7.1, z7.2.1, z7.2.2.1, z7.2.2.2.1, ())) (fun j3 =>
  bif (decide (0 < r14)) then
  j3 (a, b, r12, r13, true, ())
  else
  bif (r14 == 0) then
  j3 (a, b, r12, r13, ((bitsI .and .u64 r12 1) == 1), ())
  else
  j3 (a, b, r12, r13, false, ())))))))
noncomputable def G_ldl_tally_by (fu : Nat) {R : Type} (t : Bool × Unit) (a : Int) (b : Int) (bits : Int) (κ : Int → (Bool × Unit) → Option R) : Option R :=
  G_qnum_Div fu a b bits (fun r3 r4 r5 =>
  joinK (fun (z1 : Int × (Bool × Unit) × Unit) =>
  κ z1.1 z1.2.1) (fun j =>
  bif t.1 then
  j (r3, (true, t.2), ())
  else
  bif r4 then
  j (r3, (true, t.2), ())
  else
  j (r3, ((!(Option.isNone (α := Int) r5 && Option.isNone (α := Int) none)), t.2), ())))
noncomputable def G_ldl_Factors_at (fu : Nat) {R : Type} (f : Int × List Int × List Int × Unit) (i : Int) (j : Int) (κ : Int → Option R) : Option R :=
  let t151 : Int := (IntKind.i64.wrap ((IntKind.i64.wrap (i * f.1)) + j))
  bif decide (0 ≤ t151) && decide (t151 < 36) then
  κ (f.2.1.getD t151.toNat 0)
  else none
noncomputable def G_ldl_Solve_L1 (fu : Nat) {R : Type} (rec'1 : (Int × (Int × List Int × List Int × Unit) × List Int × (Bool × Unit) × Unit) → Option R) (rec'2 : (Int × Int × (Int × List Int × List Int × Unit) × List Int × List Int × List Int × (Bool × Unit) × Unit) → Option R) (z8 : Int × Int × (Int × List Int × List Int × Unit) × List Int × List Int × List Int × (Bool × Unit) × Unit) : Option R :=
  bif (decide (z8.2.1 < z8.2.2.1.1)) then
  G_ldl_Factors_at fu z8.2.2.1 z8.2.1 z8.1 (fun r9 =>
  bif decide ((z8.2.2.2.2.1.length + 1) * 8 ≤ 140737488355328) then
  bif decide (0 ≤ z8.2.1) && decide (z8.2.1 < (z8.2.2.2.1.length : Int)) then
  bif decide ((z8.2.2.2.2.2.1.length + 1) * 8 ≤ 140737488355328) then
  rec'2 (z8.1, (IntKind.i64.wrap (z8.2.1 + 1)), z8.2.2.1, z8.2.2.2.1, (z8.2.2.2.2.1 ++ [r9]), (z8.2.2.2.2.2.1 ++ [(z8.2.2.2.1.getD z8.2.1.toNat 0)]), z8.2.2.2.2.2.2.1, ())
  else none
  else none
  else none)
  else
  bif decide (0 ≤ z8.1) && decide (z8.1 < (z8.2.2.2.1.length : Int)) then
  G_ldl_tally_dot fu z8.2.2.2.2.2.2.1 z8.2.2.2.2.1 z8.2.2.2.2.2.1 30 (fun r10 u7 =>
  G_ldl_tally_less fu u7 (z8.2.2.2.1.getD z8.1.toNat 0) r10 (fun r11 u8 =>
  bif decide (0 ≤ z8.1) && decide (z8.1 < (z8.2.2.2.1.length : Int)) then
  rec'1 ((IntKind.i64.wrap (z8.1 - 1)), z8.2.2.1, (z8.2.2.2.1.set z8.1.toNat r11), u8, ())
  else none))
  else none
noncomputable def G_ldl_Solve_L2 (fu : Nat) {R : Type} (κ : List Int → Bool → Option Int → Option R) (rec'1 : (Int × (Int × List Int × List Int × Unit) × List Int × (Bool × Unit) × Unit) → Option R) (z7 : Int × (Int × List Int × List Int × Unit) × List Int × (Bool × Unit) × Unit) : Option R :=
  bif (decide (0 ≤ z7.1)) then
  loopK (G_ldl_Solve_L1 fu rec'1) fu (z7.1, (IntKind.i64.wrap (z7.1 + 1)), z7.2.1, z7.2.2.1, [], [], z7.2.2.2.1, ())
  else
  κ z7.2.2.1 z7.2.2.2.1.1 none
noncomputable def G_ldl_Solve_L3 (fu : Nat) {R : Type} (κ : List Int → Bool → Option Int → Option R) (rec' : (Int × Int × (Int × List Int × List Int × Unit) × List Int × (Bool × Unit) × Unit) → Option R) (z6 : Int × Int × (Int × List Int × List Int × Unit) × List Int × (Bool × Unit) × Unit) : Option R :=
  bif (decide (z6.2.1 < z6.1)) then
  bif decide (0 ≤ z6.2.1) && decide (z6.2.1 < (z6.2.2.2.1.length : Int)) then
  bif decide (0 ≤ z6.2.1) && decide (z6.2.1 < 6) then
  G_ldl_tally_by fu z6.2.2.2.2.1 (z6.2.2.2.1.getD z6.2.1.toNat 0) (z6.2.2.1.2.2.1.getD z6.2.1.toNat 0) 20 (fun r8 u6 =>
  bif decide (0 ≤ z6.2.1) && decide (z6.2.1 < (z6.2.2.2.1.length : Int)) then
  rec' (z6.1, (IntKind.i64.wrap (z6.2.1 + 1)), z6.2.2.1, (z6.2.2.2.1.set z6.2.1.toNat r8), u6, ())
  else none)
  else none
  else none
  else
  loopK (G_ldl_Solve_L2 fu κ) fu ((IntKind.i64.wrap (z6.2.2.1.1 - 1)), z6.2.2.1, z6.2.2.2.1, z6.2.2.2.2.1, ())
noncomputable def G_ldl_Solve (fu : Nat) {R : Type} (f : Int × List Int × List Int × Unit) (v : List Int) (κ : List Int → Bool → Option Int → Option R) : Option R :=
  joinK (fun (z5 : List Int × Bool × (Int × List Int × List Int × Unit) × Unit) =>
  bif z5.2.1 then
  κ [] false (some 1)
  else
  G_ldl_tally_down fu (false, ()) z5.2.2.1 z5.1 (fun r7 u5 =>
  loopK (G_ldl_Solve_L3 fu κ) fu ((r7.length : Int), 0, z5.2.2.1, r7, u5, ()))) (fun j =>
  G_ldl_Check fu f (fun r12 =>
  bif (!(Option.isNone (α := Int) r12 && Option.isNone (α := Int) none)) then
  j (v, true, f, ())
  else
  j (v, ((v.length : Int) != f.1), f, ())))
noncomputable def G_ldl_Far_L1 (fu : Nat) {R : Type} (κ : Int → Bool → Option Int → Option R) (rec' : (Int × Int × Int × (Int × List Int × List Int × Unit) × (Bool × Unit) × List Int × Unit) → Option R) (z3 : Int × Int × Int × (Int × List Int × List Int × Unit) × (Bool × Unit) × List Int × Unit) : Option R :=
  bif (decide (z3.2.2.1 < z3.2.1)) then
  bif decide (0 ≤ z3.2.2.1) && decide (z3.2.2.1 < (z3.2.2.2.2.2.1.length : Int)) then
  let t331 : Int := (z3.2.2.2.2.2.1.getD z3.2.2.1.toNat 0)
  G_ldl_tally_dot fu z3.2.2.2.2.1 [t331] [t331] 20 (fun r6 u6 =>
  bif decide (0 ≤ z3.2.2.1) && decide (z3.2.2.1 < 6) then
  G_ldl_tally_by fu u6 r6 (z3.2.2.2.1.2.2.1.getD z3.2.2.1.toNat 0) 20 (fun r7 u7 =>
  G_ldl_tally_less fu u7 z3.1 (IntKind.i64.wrap (0 - r7)) (fun r8 u8 =>
  rec' (r8, z3.2.1, (IntKind.i64.wrap (z3.2.2.1 + 1)), z3.2.2.2.1, u8, z3.2.2.2.2.2.1, ())))
  else none)
  else none
  else
  κ z3.1 z3.2.2.2.2.1.1 none
noncomputable def G_ldl_Far (fu : Nat) {R : Type} (f : Int × List Int × List Int × Unit) (v : List Int) (κ : Int → Bool → Option Int → Option R) : Option R :=
  joinK (fun (z2 : List Int × Bool × (Int × List Int × List Int × Unit) × Unit) =>
  bif z2.2.1 then
  κ 0 false (some 1)
  else
  G_ldl_tally_down fu (false, ()) z2.2.2.1 z2.1 (fun r5 u5 =>
  loopK (G_ldl_Far_L1 fu κ) fu (0, (r5.length : Int), 0, z2.2.2.1, u5, r5, ()))) (fun j =>
  G_ldl_Check fu f (fun r9 =>
  bif (!(Option.isNone (α := Int) r9 && Option.isNone (α := Int) none)) then
  j (v, true, f, ())
  else
  j (v, ((v.length : Int) != f.1), f, ())))
noncomputable def G_qnum_Mul (fu : Nat) {R : Type} (a : Int) (b : Int) (point : Int) (κ : Int → Bool → Option Int → Option R) : Option R :=
  G_qnum_Dot fu [a] [b] point (fun r3 r4 r5 =>
  κ r3 r4 r5)
noncomputable def G_grow_times (fu : Nat) {R : Type} (a : Int) (b : Int) (κ : Int → Option R) : Option R :=
  G_qnum_Mul fu a b 50 (fun r3 r4 r5 =>
  bif (!(Option.isNone (α := Int) r5 && Option.isNone (α := Int) none)) then
  κ 0
  else
  κ r3)
noncomputable def G_grow_rise_L1 (fu : Nat) {R : Type} (κ : Int → Option R) (rec' : (Int × Int × Int × Int × Unit) → Option R) (z1 : Int × Int × Int × Int × Unit) : Option R :=
  bif (decide (z1.2.2.2.1 < 20)) then
  let t31 : Int := (IntKind.i64.wrap ((IntKind.i64.wrap (2 * z1.2.2.2.1)) + 1))
  bif (t31 == 0) then none else
  G_grow_times fu z1.1 z1.2.1 (fun r9 =>
  rec' (r9, z1.2.1, (IntKind.i64.wrap (z1.2.2.1 + (IntKind.i64.wrap (Int.tdiv z1.1 t31)))), (IntKind.i64.wrap (z1.2.2.2.1 + 1)), ()))
  else
  κ (IntKind.i64.wrap (2 * z1.2.2.1))
noncomputable def G_grow_rise (fu : Nat) {R : Type} (m : Int) (κ : Int → Option R) : Option R :=
  G_qnum_Div fu (IntKind.i64.wrap (m - 1125899906842624)) (IntKind.i64.wrap (m + 1125899906842624)) 50 (fun r5 r6 r7 =>
  bif (!(Option.isNone (α := Int) r7 && Option.isNone (α := Int) none)) then
  κ 0
  else
  G_grow_times fu r5 r5 (fun r8 =>
  loopK (G_grow_rise_L1 fu κ) fu (r5, r8, 0, 0, ())))
noncomputable def G_qnum_Move (fu : Nat) {R : Type} (a : Int) (from' : Int) (to : Int) (κ : Int → Bool → Option Int → Option R) : Option R :=
  joinK (fun (z2 : Int × Int × Int × Bool × Unit) =>
  bif z2.2.2.2.1 then
  κ 0 false (some 1)
  else
  G_qnum_of fu z2.1 (fun r7 =>
  joinK (fun (z3 : List Int × Unit) =>
  G_qnum_sum_bounded fu z3.1 (fun r8 r9 =>
  κ r8 r9 none)) (fun j1 =>
  bif (decide (z2.2.1 ≤ z2.2.2.1)) then
  let t291 : Int := (IntKind.i64.wrap (z2.2.2.1 - z2.2.1))
  bif decide (t291 < 0) then none else
  G_qnum_product fu z2.1 (shlI .i64 1 t291) (fun r10 =>
  j1 (r10, ()))
  else
  G_qnum_sum_half fu r7 (IntKind.i64.wrap (z2.2.1 - z2.2.2.1)) (fun r11 =>
  j1 (r11, ()))))) (fun j =>
  G_qnum_pointed fu from' (fun r12 =>
  bif (!r12) then
  j (a, from', to, true, ())
  else
  G_qnum_pointed fu to (fun r13 =>
  j (a, from', to, (!r13), ()))))
noncomputable def G_grow_Log (fu : Nat) {R : Type} (x1 : Int) (behind : Int) (κ : Int → Option Int → Option R) : Option R :=
  joinK (fun (z1 : Int × Int × Bool × Unit) =>
  bif z1.2.2.1 then
  κ 0 (some 1)
  else
  G_bits_Len64 fu (IntKind.u64.wrap z1.1) (fun r5 =>
  let t311 : Int := (IntKind.i64.wrap ((IntKind.i64.wrap (r5 - 1)) - 50))
  let t341 : Int := (bif decide (t311 < 0) then 0 else t311)
  bif decide (t341 < 0) then none else
  let t37 : Int := (IntKind.i64.wrap (0 - t311))
  let t381 : Int := (bif decide (t37 < 0) then 0 else t37)
  bif decide (t381 < 0) then none else
  G_grow_rise fu (shlI .i64 (shrI .i64 z1.1 t341) t381) (fun r6 =>
  G_qnum_Move fu (IntKind.i64.wrap (r6 + (IntKind.i64.wrap ((IntKind.i64.wrap ((IntKind.i64.wrap (t311 - z1.2.1)) + 50)) * 780414346020670)))) 30 0 (fun r7 r8 r9 =>
  κ r7 r9)))) (fun j =>
  bif (decide (x1 < 1)) then
  j (x1, behind, true, ())
  else
  bif (decide (4611686018427387903 < x1)) then
  j (x1, behind, true, ())
  else
  bif (decide (behind < 0)) then
  j (x1, behind, true, ())
  else
  j (x1, behind, (decide (62 < behind)), ()))
noncomputable def G_ldl_Log_L1 (fu : Nat) {R : Type} (κ : Int → Option Int → Option R) (rec' : (Int × Int × Int × Int × Int × (Int × List Int × List Int × Unit) × Unit) → Option R) (z1 : Int × Int × Int × Int × Int × (Int × List Int × List Int × Unit) × Unit) : Option R :=
  bif (decide (z1.2.2.2.2.1 < z1.2.2.2.1)) then
  bif decide (0 ≤ z1.2.2.2.2.1) && decide (z1.2.2.2.2.1 < (z1.2.2.1.toNat : Int)) then
  G_grow_Log fu (z1.2.2.2.2.2.1.2.2.1.getD (z1.2.1.toNat + z1.2.2.2.2.1.toNat) 0) 20 (fun r4 r5 =>
  bif (!(Option.isNone (α := Int) r5 && Option.isNone (α := Int) none)) then
  κ 0 r5
  else
  rec' ((IntKind.i64.wrap (z1.1 + r4)), (z1.2.1.toNat : Int), (z1.2.2.1.toNat : Int), z1.2.2.2.1, (IntKind.i64.wrap (z1.2.2.2.2.1 + 1)), z1.2.2.2.2.2.1, ()))
  else none
  else
  κ z1.1 none
noncomputable def G_ldl_Log (fu : Nat) {R : Type} (f : Int × List Int × List Int × Unit) (κ : Int → Option Int → Option R) : Option R :=
  G_ldl_Check fu f (fun r3 =>
  bif (!(Option.isNone (α := Int) r3 && Option.isNone (α := Int) none)) then
  κ 0 (some 1)
  else
  bif decide (0 ≤ f.1) && decide (f.1 ≤ 6) && decide ((0 : Int) ≤ 0) && decide (0 ≤ f.1) then
  loopK (G_ldl_Log_L1 fu κ) fu (0, (0 : Int), ((f.1 - 0).toNat : Int), ((f.1 - 0).toNat : Int), 0, f, ())
  else none)
noncomputable def G_mat_sized (fu : Nat) {R : Type} (n : Int) (κ : Bool → Option R) : Option R :=
  joinK (fun (z1 : Bool × Unit) =>
  κ z1.1) (fun j =>
  bif (decide (1 ≤ n)) then
  j ((decide (n ≤ 6)), ())
  else
  j (false, ()))
noncomputable def G_mat_Of_L1 (fu : Nat) {R : Type} (κ : (Int × Int × List Int × Unit) → Option Int → Option R) (rec' : (List (List Int) × Int × Int × (Int × Int × List Int × Unit) × (Int × Int × List Int × Unit) × Unit) → Option R) (z3 : List (List Int) × Int × Int × (Int × Int × List Int × Unit) × (Int × Int × List Int × Unit) × Unit) : Option R :=
  bif (decide (z3.2.2.1 < z3.2.1)) then
  bif decide (0 ≤ z3.2.2.1) && decide (z3.2.2.1 < (z3.1.length : Int)) then
  let t331 : List Int := (z3.1.getD z3.2.2.1.toNat [])
  bif ((t331.length : Int) != z3.2.2.2.2.1.2.1) then
  κ (0, 0, (List.replicate 36 0), ()) (some 1)
  else
  let t461 : Int := (IntKind.i64.wrap (z3.2.2.1 * z3.2.2.2.2.1.2.1))
  bif decide (0 ≤ t461) && decide (t461 ≤ 36) then
  bif decide (0 < (36 - t461).toNat) && decide (0 < t331.length) then
  rec' (z3.1, z3.2.1, (IntKind.i64.wrap (z3.2.2.1 + 1)), z3.2.2.2.1, (z3.2.2.2.2.1.1, z3.2.2.2.2.1.2.1, (z3.2.2.2.2.1.2.2.1.take t461.toNat ++ ((t331.take (36 - t461).toNat) ++ z3.2.2.2.2.1.2.2.1.drop (t461.toNat + (t331.take (36 - t461).toNat).length))), z3.2.2.2.2.1.2.2.2), ())
  else none
  else none
  else none
  else
  κ z3.2.2.2.2.1 none
noncomputable def G_mat_Of (fu : Nat) {R : Type} (rows : List (List Int)) (κ : (Int × Int × List Int × Unit) → Option Int → Option R) : Option R :=
  joinK (fun (z2 : List (List Int) × Bool × (Int × Int × List Int × Unit) × Unit) =>
  bif z2.2.1 then
  κ (0, 0, (List.replicate 36 0), ()) (some 1)
  else
  bif decide (0 < (z2.1.length : Int)) then
  loopK (G_mat_Of_L1 fu κ) fu (z2.1, (z2.1.length : Int), 0, z2.2.2.1, ((z2.1.length : Int), ((z2.1.getD 0 []).length : Int), (List.replicate 36 0), ()), ())
  else none) (fun j =>
  G_mat_sized fu (rows.length : Int) (fun r2 =>
  bif (!r2) then
  j (rows, true, (0, 0, (List.replicate 36 0), ()), ())
  else
  bif decide (0 < (rows.length : Int)) then
  G_mat_sized fu ((rows.getD 0 []).length : Int) (fun r3 =>
  j (rows, (!r3), (0, 0, (List.replicate 36 0), ()), ()))
  else none))
noncomputable def G_law09_matOf (fu : Nat) {R : Type} (rows : List (List Int)) (κ : (Int × Int × List Int × Unit) → Option R) : Option R :=
  G_mat_Of fu rows (fun r2 r3 =>
  bif (!(Option.isNone (α := Int) r3 && Option.isNone (α := Int) none)) then
  κ (0, 0, (List.replicate 36 0), ())
  else
  κ r2)
noncomputable def G_mat_Check_L1 (fu : Nat) {R : Type} (κ : Option Int → Option R) (rec' : (Int × Int × Int × Int × (Int × Int × List Int × Unit) × Unit) → Option R) (z3 : Int × Int × Int × Int × (Int × Int × List Int × Unit) × Unit) : Option R :=
  bif (decide (z3.2.2.2.1 < z3.2.2.1)) then
  bif decide (0 ≤ z3.2.2.2.1) && decide (z3.2.2.2.1 < (z3.2.1.toNat : Int)) then
  bif ((z3.2.2.2.2.1.2.2.1.getD (z3.1.toNat + z3.2.2.2.1.toNat) 0) != 0) then
  κ (some 1)
  else
  rec' ((z3.1.toNat : Int), (z3.2.1.toNat : Int), z3.2.2.1, (IntKind.i64.wrap (z3.2.2.2.1 + 1)), z3.2.2.2.2.1, ())
  else none
  else
  κ none
noncomputable def G_mat_Check (fu : Nat) {R : Type} (m : Int × Int × List Int × Unit) (κ : Option Int → Option R) : Option R :=
  joinK (fun (z2 : Bool × (Int × Int × List Int × Unit) × Unit) =>
  bif z2.1 then
  κ (some 1)
  else
  let t211 : Int := (IntKind.i64.wrap (z2.2.1.1 * z2.2.1.2.1))
  bif decide (0 ≤ t211) && decide (t211 ≤ 36) then
  loopK (G_mat_Check_L1 fu κ) fu ((t211.toNat : Int), ((36 - t211).toNat : Int), ((36 - t211).toNat : Int), 0, z2.2.1, ())
  else none) (fun j =>
  G_mat_sized fu m.1 (fun r2 =>
  bif (!r2) then
  j (true, m, ())
  else
  G_mat_sized fu m.2.1 (fun r3 =>
  j ((!r3), m, ()))))
noncomputable def G_mat_Mat_at (fu : Nat) {R : Type} (m : Int × Int × List Int × Unit) (i : Int) (j : Int) (κ : Int → Option R) : Option R :=
  let t12 : Int := (IntKind.i64.wrap ((IntKind.i64.wrap (i * m.2.1)) + j))
  bif decide (0 ≤ t12) && decide (t12 < 36) then
  κ (m.2.2.1.getD t12.toNat 0)
  else none
noncomputable def G_mat_Turn_c1 (fu : Nat) {R : Type} (i : Int) (j : Int) (a2 : Int × Int × List Int × Unit) (κ : Int → Bool → Option R) : Option R :=
  G_mat_Mat_at fu a2 j i (fun r1 =>
  κ r1 false)
noncomputable def G_mat_made_L1 (fu : Nat) {R C1 : Type} (fn : C1 → Int → Int → (Int → Bool → Option R) → Option R) (rec' : (Int × C1 × Bool × Int × Int × (Int × Int × List Int × Unit) × (Int × Int × List Int × Unit) × Unit) → Option R) (rec'1 : (Int × C1 × Bool × Int × Int × Int × Int × Int × (Int × Int × List Int × Unit) × (Int × Int × List Int × Unit) × Unit) → Option R) (z4 : Int × C1 × Bool × Int × Int × Int × Int × Int × (Int × Int × List Int × Unit) × (Int × Int × List Int × Unit) × Unit) : Option R :=
  bif (decide (z4.2.2.2.2.2.2.2.1 < z4.2.2.2.2.2.2.1)) then
  joinK (fun (z5 : Int × C1 × Bool × Int × Int × Int × Int × Int × (Int × Int × List Int × Unit) × (Int × Int × List Int × Unit) × Unit) =>
  rec'1 (z5.1, z5.2.1, z5.2.2.1, z5.2.2.2.1, z5.2.2.2.2.1, z5.2.2.2.2.2.1, z5.2.2.2.2.2.2.1, (IntKind.i64.wrap (z5.2.2.2.2.2.2.2.1 + 1)), z5.2.2.2.2.2.2.2.2.1, z5.2.2.2.2.2.2.2.2.2.1, ())) (fun j =>
  fn z4.2.1 z4.2.2.2.1 z4.2.2.2.2.2.2.2.1 (fun r2 r3 =>
  let t361 : Int := (IntKind.i64.wrap ((IntKind.i64.wrap (z4.2.2.2.1 * z4.1)) + z4.2.2.2.2.2.2.2.1))
  bif decide (0 ≤ t361) && decide (t361 < 36) then
  let m1 : List Int := (z4.2.2.2.2.2.2.2.2.2.1.2.2.1.set t361.toNat r2)
  bif z4.2.2.1 then
  j (z4.1, z4.2.1, true, z4.2.2.2.1, z4.2.2.2.2.1, z4.2.2.2.2.2.1, z4.2.2.2.2.2.2.1, z4.2.2.2.2.2.2.2.1, z4.2.2.2.2.2.2.2.2.1, (z4.2.2.2.2.2.2.2.2.2.1.1, z4.2.2.2.2.2.2.2.2.2.1.2.1, m1, z4.2.2.2.2.2.2.2.2.2.1.2.2.2), ())
  else
  j (z4.1, z4.2.1, r3, z4.2.2.2.1, z4.2.2.2.2.1, z4.2.2.2.2.2.1, z4.2.2.2.2.2.2.1, z4.2.2.2.2.2.2.2.1, z4.2.2.2.2.2.2.2.2.1, (z4.2.2.2.2.2.2.2.2.2.1.1, z4.2.2.2.2.2.2.2.2.2.1.2.1, m1, z4.2.2.2.2.2.2.2.2.2.1.2.2.2), ())
  else none))
  else
  rec' (z4.1, z4.2.1, z4.2.2.1, z4.2.2.2.2.1, (IntKind.i64.wrap (z4.2.2.2.2.2.1 + 1)), z4.2.2.2.2.2.2.2.2.1, z4.2.2.2.2.2.2.2.2.2.1, ())
noncomputable def G_mat_made_L2 (fu : Nat) {R C1 : Type} (fn : C1 → Int → Int → (Int → Bool → Option R) → Option R) (κ : (Int × Int × List Int × Unit) → Bool → Option R) (rec' : (Int × C1 × Bool × Int × Int × (Int × Int × List Int × Unit) × (Int × Int × List Int × Unit) × Unit) → Option R) (z3 : Int × C1 × Bool × Int × Int × (Int × Int × List Int × Unit) × (Int × Int × List Int × Unit) × Unit) : Option R :=
  bif (decide (z3.2.2.2.2.1 < z3.2.2.2.1)) then
  loopK (G_mat_made_L1 fu fn rec') fu (z3.1, z3.2.1, z3.2.2.1, z3.2.2.2.2.1, z3.2.2.2.1, z3.2.2.2.2.1, z3.1, 0, z3.2.2.2.2.2.1, z3.2.2.2.2.2.2.1, ())
  else
  κ z3.2.2.2.2.2.2.1 z3.2.2.1
noncomputable def G_mat_made (fu : Nat) {R C1 : Type} (rows : Int) (cols : Int) (c : C1) (fn : C1 → Int → Int → (Int → Bool → Option R) → Option R) (κ : (Int × Int × List Int × Unit) → Bool → Option R) : Option R :=
  loopK (G_mat_made_L2 fu fn κ) fu (cols, c, false, rows, 0, (0, 0, (List.replicate 36 0), ()), (rows, cols, (List.replicate 36 0), ()), ())
noncomputable def G_mat_Turn (fu : Nat) {R : Type} (m : Int × Int × List Int × Unit) (κ : (Int × Int × List Int × Unit) → Option Int → Option R) : Option R :=
  G_mat_Check fu m (fun r3 =>
  bif (!(Option.isNone (α := Int) r3 && Option.isNone (α := Int) none)) then
  κ (0, 0, (List.replicate 36 0), ()) r3
  else
  G_mat_made fu m.2.1 m.1 m (fun c1 a1 a2 κ => G_mat_Turn_c1 fu a1 a2 c1 κ) (fun r4 r5 =>
  κ r4 none))
noncomputable def G_ldl_even (fu : Nat) {R : Type} (m : Int × Int × List Int × Unit) (κ : Bool → Option R) : Option R :=
  G_mat_Turn fu m (fun r2 r3 =>
  joinK (fun (z1 : Bool × Unit) =>
  κ z1.1) (fun j =>
  bif (Option.isNone (α := Int) r3 && Option.isNone (α := Int) none) then
  j ((eqD (.pair (.int .i64) (.pair (.int .i64) (.pair (.arr 36 (.int .i64)) .unit))) r2 m), ())
  else
  j (false, ())))
noncomputable def G_ldl_tally_rest_L1 (fu : Nat) {R : Type} (κ : Int → (Bool × Unit) → Option R) (rec' : ((Int × List Int × List Int × Unit) × Int × Int × Int × Int × Int × (Bool × Unit) × List Int × Unit) → Option R) (z1 : (Int × List Int × List Int × Unit) × Int × Int × Int × Int × Int × (Bool × Unit) × List Int × Unit) : Option R :=
  bif (decide (z1.2.2.2.2.2.1 < z1.2.2.2.2.1)) then
  G_ldl_Factors_at fu z1.1 z1.2.2.2.1 z1.2.2.2.2.2.1 (fun r4 =>
  bif decide (0 ≤ z1.2.2.2.2.2.1) && decide (z1.2.2.2.2.2.1 < 6) then
  G_ldl_tally_dot fu z1.2.2.2.2.2.2.1 [r4] [(z1.1.2.2.1.getD z1.2.2.2.2.2.1.toNat 0)] 30 (fun r5 u4 =>
  bif decide ((z1.2.2.2.2.2.2.2.1.length + 1) * 8 ≤ 140737488355328) then
  rec' (z1.1, z1.2.1, z1.2.2.1, z1.2.2.2.1, z1.2.2.2.2.1, (IntKind.i64.wrap (z1.2.2.2.2.2.1 + 1)), u4, (z1.2.2.2.2.2.2.2.1 ++ [r5]), ())
  else none)
  else none)
  else
  let t481 : Int := (IntKind.i64.wrap (z1.2.2.1 * z1.1.1))
  let t561 : Int := (IntKind.i64.wrap ((IntKind.i64.wrap (z1.2.2.1 * z1.1.1)) + z1.2.2.2.1))
  bif decide (0 ≤ t561) && decide (t561 ≤ 36) && decide (0 ≤ t481) && decide (t481 ≤ t561) then
  G_ldl_tally_dot fu z1.2.2.2.2.2.2.1 ((z1.1.2.1.take t561.toNat).drop t481.toNat) z1.2.2.2.2.2.2.2.1 30 (fun r6 u5 =>
  G_ldl_tally_less fu u5 z1.2.1 r6 (fun r7 u6 =>
  κ r7 u6))
  else none
noncomputable def G_ldl_tally_rest (fu : Nat) {R : Type} (t : Bool × Unit) (f : Int × List Int × List Int × Unit) (n : Int) (i : Int) (j : Int) (κ : Int → (Bool × Unit) → Option R) : Option R :=
  bif decide (0 ≤ j) && decide (j * 8 ≤ 140737488355328) then
  loopK (G_ldl_tally_rest_L1 fu κ) fu (f, n, i, j, j, 0, t, (List.replicate 0 0), ())
  else none
noncomputable def G_ldl_Of_L1 (fu : Nat) {R : Type} (κ : (Int × List Int × List Int × Unit) → Option Int → Option R) (rec' : (Int × Int × (Int × Int × List Int × Unit) × (Int × List Int × List Int × Unit) × (Int × List Int × List Int × Unit) × (Bool × Unit) × Unit) → Option R) (rec'1 : (Int × Int × Int × Int × Int × (Int × Int × List Int × Unit) × (Int × List Int × List Int × Unit) × (Int × List Int × List Int × Unit) × (Bool × Unit) × Unit) → Option R) (z4 : Int × Int × Int × Int × Int × (Int × Int × List Int × Unit) × (Int × List Int × List Int × Unit) × (Int × List Int × List Int × Unit) × (Bool × Unit) × Unit) : Option R :=
  bif (decide (z4.2.2.2.2.1 < z4.2.2.2.1)) then
  let t381 : Int := (IntKind.i64.wrap ((IntKind.i64.wrap (z4.1 * z4.2.2.2.2.2.2.2.1.1)) + z4.2.2.2.2.1))
  let t491 : Int := (IntKind.i64.wrap ((IntKind.i64.wrap (z4.1 * z4.2.2.2.2.2.2.2.1.1)) + z4.2.2.2.2.1))
  bif decide (0 ≤ t491) && decide (t491 < 36) then
  G_ldl_tally_rest fu z4.2.2.2.2.2.2.2.2.1 z4.2.2.2.2.2.2.2.1 (z4.2.2.2.2.2.1.2.2.1.getD t491.toNat 0) z4.1 z4.2.2.2.2.1 (fun r5 u4 =>
  bif decide (0 ≤ z4.2.2.2.2.1) && decide (z4.2.2.2.2.1 < 6) then
  G_ldl_tally_by fu u4 r5 (z4.2.2.2.2.2.2.2.1.2.2.1.getD z4.2.2.2.2.1.toNat 0) 30 (fun r6 u5 =>
  bif decide (0 ≤ t381) && decide (t381 < 36) then
  rec'1 (z4.1, z4.2.1, z4.2.2.1, z4.2.2.2.1, (IntKind.i64.wrap (z4.2.2.2.2.1 + 1)), z4.2.2.2.2.2.1, z4.2.2.2.2.2.2.1, (z4.2.2.2.2.2.2.2.1.1, (z4.2.2.2.2.2.2.2.1.2.1.set t381.toNat r6), z4.2.2.2.2.2.2.2.1.2.2), u5, ())
  else none)
  else none)
  else none
  else
  let t751 : Int := (IntKind.i64.wrap ((IntKind.i64.wrap (z4.1 * z4.2.2.2.2.2.2.2.1.1)) + z4.1))
  bif decide (0 ≤ t751) && decide (t751 < 36) then
  let t164 : List Int := (z4.2.2.2.2.2.2.2.1.2.1.set t751.toNat 1073741824)
  let t901 : Int := (IntKind.i64.wrap ((IntKind.i64.wrap (z4.1 * z4.2.2.2.2.2.2.2.1.1)) + z4.1))
  bif decide (0 ≤ t901) && decide (t901 < 36) then
  G_ldl_tally_rest fu z4.2.2.2.2.2.2.2.2.1 (z4.2.2.2.2.2.2.2.1.1, t164, z4.2.2.2.2.2.2.2.1.2.2) (z4.2.2.2.2.2.1.2.2.1.getD t901.toNat 0) z4.1 z4.1 (fun r7 u6 =>
  bif decide (0 ≤ z4.1) && decide (z4.1 < 6) then
  let t165 : List Int := (z4.2.2.2.2.2.2.2.1.2.2.1.set z4.1.toNat r7)
  joinK (fun (z5 : Int × Int × Bool × (Int × Int × List Int × Unit) × (Int × List Int × List Int × Unit) × (Int × List Int × List Int × Unit) × (Bool × Unit) × Unit) =>
  bif z5.2.2.1 then
  κ (0, (List.replicate 36 0), (List.replicate 6 0), ()) (some 8)
  else
  rec' (z5.1, (IntKind.i64.wrap (z5.2.1 + 1)), z5.2.2.2.1, z5.2.2.2.2.1, z5.2.2.2.2.2.1, z5.2.2.2.2.2.2.1, ())) (fun j =>
  bif decide (0 ≤ z4.1) && decide (z4.1 < 6) then
  bif (decide ((t165.getD z4.1.toNat 0) ≤ 0)) then
  j (z4.2.1, z4.2.2.1, true, z4.2.2.2.2.2.1, z4.2.2.2.2.2.2.1, (z4.2.2.2.2.2.2.2.1.1, t164, t165, z4.2.2.2.2.2.2.2.1.2.2.2), u6, ())
  else
  j (z4.2.1, z4.2.2.1, u6.1, z4.2.2.2.2.2.1, z4.2.2.2.2.2.2.1, (z4.2.2.2.2.2.2.2.1.1, t164, t165, z4.2.2.2.2.2.2.2.1.2.2.2), u6, ())
  else none)
  else none)
  else none
  else none
noncomputable def G_ldl_Of_L2 (fu : Nat) {R : Type} (κ : (Int × List Int × List Int × Unit) → Option Int → Option R) (rec' : (Int × Int × (Int × Int × List Int × Unit) × (Int × List Int × List Int × Unit) × (Int × List Int × List Int × Unit) × (Bool × Unit) × Unit) → Option R) (z3 : Int × Int × (Int × Int × List Int × Unit) × (Int × List Int × List Int × Unit) × (Int × List Int × List Int × Unit) × (Bool × Unit) × Unit) : Option R :=
  bif (decide (z3.2.1 < z3.1)) then
  loopK (G_ldl_Of_L1 fu κ rec') fu (z3.2.1, z3.1, z3.2.1, z3.2.1, 0, z3.2.2.1, z3.2.2.2.1, z3.2.2.2.2.1, z3.2.2.2.2.2.1, ())
  else
  κ z3.2.2.2.2.1 none
noncomputable def G_ldl_Of (fu : Nat) {R : Type} (m : Int × Int × List Int × Unit) (κ : (Int × List Int × List Int × Unit) → Option Int → Option R) : Option R :=
  G_ldl_even fu m (fun r4 =>
  bif (!r4) then
  κ (0, (List.replicate 36 0), (List.replicate 6 0), ()) (some 1)
  else
  loopK (G_ldl_Of_L2 fu κ) fu (m.1, 0, m, (0, (List.replicate 36 0), (List.replicate 6 0), ()), (m.1, (List.replicate 36 0), (List.replicate 6 0), ()), (false, ()), ()))
noncomputable def G_law09_nums_L1 (fu : Nat) {R : Type} (κ : Bool → Option R) (rec' : (List Int × List Int × Int × Unit) → Option R) (z1 : List Int × List Int × Int × Unit) : Option R :=
  bif (decide (z1.2.2.1 < (z1.1.length : Int))) then
  bif decide (0 ≤ z1.2.2.1) && decide (z1.2.2.1 < (z1.1.length : Int)) then
  bif decide (0 ≤ z1.2.2.1) && decide (z1.2.2.1 < (z1.2.1.length : Int)) then
  bif ((z1.1.getD z1.2.2.1.toNat 0) != (z1.2.1.getD z1.2.2.1.toNat 0)) then
  κ false
  else
  rec' (z1.1, z1.2.1, (IntKind.i64.wrap (z1.2.2.1 + 1)), ())
  else none
  else none
  else
  κ true
noncomputable def G_law09_nums (fu : Nat) {R : Type} (a : List Int) (b : List Int) (κ : Bool → Option R) : Option R :=
  bif ((a.length : Int) != (b.length : Int)) then
  κ false
  else
  loopK (G_law09_nums_L1 fu κ) fu (a, b, 0, ())
noncomputable def G_law09_sure (fu : Nat) {R : Type} (κ : Bool → Option R) : Option R :=
  G_law09_matOf fu [[4194304, 2097152], [2097152, 3145728]] (fun r12 =>
  G_ldl_Of fu r12 (fun r13 r14 =>
  G_ldl_Solve fu r13 [4194304, 2097152] (fun r15 r16 r17 =>
  G_ldl_Far fu r13 [2097152, 1048576] (fun r18 r19 r20 =>
  G_ldl_Log fu r13 (fun r21 r22 =>
  joinK (fun (z1 : Bool × Unit) =>
  κ z1.1) (fun j =>
  bif (Option.isNone (α := Int) r14 && Option.isNone (α := Int) none) then
  bif (Option.isNone (α := Int) r17 && Option.isNone (α := Int) none) then
  bif (Option.isNone (α := Int) r20 && Option.isNone (α := Int) none) then
  bif (Option.isNone (α := Int) r22 && Option.isNone (α := Int) none) then
  bif (!r16) then
  bif (!r19) then
  bif ((r13.2.2.1.getD 0 0) == 4194304) then
  bif ((r13.2.2.1.getD 1 0) == 2097152) then
  bif ((r13.2.1.getD 2 0) == 536870912) then
  G_law09_nums fu r15 [1048576, 0] (fun r23 =>
  bif r23 then
  j ((r18 == 1048576), ())
  else
  j (false, ()))
  else
  j (false, ())
  else
  j (false, ())
  else
  j (false, ())
  else
  j (false, ())
  else
  j (false, ())
  else
  j (false, ())
  else
  j (false, ())
  else
  j (false, ())
  else
  j (false, ())))))))
noncomputable def G_law09_LdlRaw_L1 (fu : Nat) {R : Type} (κ : Bool → Option R) (rec'3 : (Int × Bool × Int × (Int × List Int × List Int × Unit) × Unit) → Option R) (z24 : Int × Bool × Int × (Int × List Int × List Int × Unit) × Unit) : Option R :=
  joinK (fun (z25 : Int × Bool × Int × Bool × (Int × List Int × List Int × Unit) × Unit) =>
  bif z25.2.2.2.1 then
  joinK (fun (z26 : Int × Bool × Int × (Int × List Int × List Int × Unit) × Unit) =>
  rec'3 (z26.1, z26.2.1, (IntKind.i64.wrap (z26.2.2.1 + 1)), z26.2.2.2.1, ())) (fun j7 =>
  bif (decide (z25.2.2.1 < z25.1)) then
  bif decide (0 ≤ z25.2.2.1) && decide (z25.2.2.1 < 6) then
  bif (decide (1 ≤ (z25.2.2.2.2.1.2.2.1.getD z25.2.2.1.toNat 0))) then
  bif decide (0 ≤ z25.2.2.1) && decide (z25.2.2.1 < 6) then
  bif (decide ((z25.2.2.2.2.1.2.2.1.getD z25.2.2.1.toNat 0) ≤ 4611686018427387903)) then
  j7 (z25.1, true, z25.2.2.1, z25.2.2.2.2.1, ())
  else
  bif (decide (z25.1 ≤ z25.2.2.1)) then
  bif decide (0 ≤ z25.2.2.1) && decide (z25.2.2.1 < 6) then
  j7 (z25.1, ((z25.2.2.2.2.1.2.2.1.getD z25.2.2.1.toNat 0) == 0), z25.2.2.1, z25.2.2.2.2.1, ())
  else none
  else
  j7 (z25.1, false, z25.2.2.1, z25.2.2.2.2.1, ())
  else none
  else
  bif (decide (z25.1 ≤ z25.2.2.1)) then
  bif decide (0 ≤ z25.2.2.1) && decide (z25.2.2.1 < 6) then
  j7 (z25.1, ((z25.2.2.2.2.1.2.2.1.getD z25.2.2.1.toNat 0) == 0), z25.2.2.1, z25.2.2.2.2.1, ())
  else none
  else
  j7 (z25.1, false, z25.2.2.1, z25.2.2.2.2.1, ())
  else none
  else
  bif (decide (z25.1 ≤ z25.2.2.1)) then
  bif decide (0 ≤ z25.2.2.1) && decide (z25.2.2.1 < 6) then
  j7 (z25.1, ((z25.2.2.2.2.1.2.2.1.getD z25.2.2.1.toNat 0) == 0), z25.2.2.1, z25.2.2.2.2.1, ())
  else none
  else
  j7 (z25.1, false, z25.2.2.1, z25.2.2.2.2.1, ()))
  else
  G_ldl_Check fu z25.2.2.2.2.1 (fun r15 =>
  joinK (fun (z27 : Int × Bool × Bool × (Int × List Int × List Int × Unit) × Unit) =>
  bif z27.2.2.1 then
  κ false
  else
  let t1621 : Int := (bif decide (6 < z27.1) then 6 else z27.1)
  let t1631 : Int := (bif decide (0 < t1621) then t1621 else 0)
  bif decide (0 ≤ t1631) && decide (t1631 ≤ t1631) && decide (t1631 * 8 ≤ 140737488355328) then
  let t1641 : List Int := (List.replicate t1631.toNat 0)
  G_ldl_Solve fu z27.2.2.2.1 t1641 (fun r16 r17 r18 =>
  G_ldl_Far fu z27.2.2.2.1 t1641 (fun r19 r20 r21 =>
  G_ldl_Log fu z27.2.2.2.1 (fun r22 r23 =>
  bif z27.2.1 then
  joinK (fun (z28 : Bool × Unit) =>
  κ z28.1) (fun j9 =>
  bif (Option.isNone (α := Int) r18 && Option.isNone (α := Int) none) then
  bif (Option.isNone (α := Int) r21 && Option.isNone (α := Int) none) then
  bif (Option.isNone (α := Int) r23 && Option.isNone (α := Int) none) then
  G_law09_sure fu (fun r24 =>
  j9 (r24, ()))
  else
  j9 (false, ())
  else
  j9 (false, ())
  else
  j9 (false, ()))
  else
  joinK (fun (z29 : Bool × Unit) =>
  κ z29.1) (fun j10 =>
  F_num r18 (fun r25 =>
  bif (r25 == 1) then
  F_num r21 (fun r26 =>
  bif (r26 == 1) then
  F_num r23 (fun r27 =>
  bif (r27 == 1) then
  G_law09_sure fu (fun r28 =>
  j10 (r28, ()))
  else
  j10 (false, ()))
  else
  j10 (false, ()))
  else
  j10 (false, ()))))))
  else none) (fun j8 =>
  bif (!((Option.isNone (α := Int) r15 && Option.isNone (α := Int) none) == z25.2.1)) then
  j8 (z25.1, z25.2.1, true, z25.2.2.2.2.1, ())
  else
  bif (!(Option.isNone (α := Int) r15 && Option.isNone (α := Int) none)) then
  F_num r15 (fun r29 =>
  j8 (z25.1, z25.2.1, (r29 != 1), z25.2.2.2.2.1, ()))
  else
  j8 (z25.1, z25.2.1, false, z25.2.2.2.2.1, ())))) (fun j6 =>
  bif (decide (z24.2.2.1 < 6)) then
  j6 (z24.1, z24.2.1, z24.2.2.1, z24.2.1, z24.2.2.2.1, ())
  else
  j6 (z24.1, z24.2.1, z24.2.2.1, false, z24.2.2.2.1, ()))
noncomputable def G_law09_LdlRaw_L2 (fu : Nat) {R : Type} (κ : Bool → Option R) (rec'2 : (Int × Bool × Int × (Int × List Int × List Int × Unit) × Unit) → Option R) (z20 : Int × Bool × Int × (Int × List Int × List Int × Unit) × Unit) : Option R :=
  joinK (fun (z21 : Int × Bool × Int × Bool × (Int × List Int × List Int × Unit) × Unit) =>
  bif z21.2.2.2.1 then
  joinK (fun (z22 : Int × Bool × Int × (Int × List Int × List Int × Unit) × Unit) =>
  rec'2 (z22.1, z22.2.1, (IntKind.i64.wrap (z22.2.2.1 + 1)), z22.2.2.2.1, ())) (fun j4 =>
  bif decide (0 ≤ z21.2.2.1) && decide (z21.2.2.1 < 36) then
  let t781 : Int := (z21.2.2.2.2.1.2.1.getD z21.2.2.1.toNat 0)
  bif (z21.1 == 0) then none else
  let t811 : Int := (IntKind.i64.wrap (Int.tdiv z21.2.2.1 z21.1))
  bif (z21.1 == 0) then none else
  joinK (fun (z23 : Int × Int × Int × Int × Int × Bool × (Int × List Int × List Int × Unit) × Unit) =>
  bif z23.2.2.2.2.2.1 then
  j4 (z23.1, (z23.2.2.1 == 0), z23.2.1, z23.2.2.2.2.2.2.1, ())
  else
  bif (z23.2.2.2.1 == z23.2.2.2.2.1) then
  j4 (z23.1, (z23.2.2.1 == 1073741824), z23.2.1, z23.2.2.2.2.2.2.1, ())
  else
  bif (decide ((-4611686018427387903) ≤ z23.2.2.1)) then
  j4 (z23.1, (decide (z23.2.2.1 ≤ 4611686018427387903)), z23.2.1, z23.2.2.2.2.2.2.1, ())
  else
  j4 (z23.1, false, z23.2.1, z23.2.2.2.2.2.2.1, ())) (fun j5 =>
  bif (decide ((IntKind.i64.wrap (z21.1 * z21.1)) ≤ z21.2.2.1)) then
  j5 (z21.1, z21.2.2.1, t781, t811, (Int.tmod z21.2.2.1 z21.1), true, z21.2.2.2.2.1, ())
  else
  j5 (z21.1, z21.2.2.1, t781, t811, (Int.tmod z21.2.2.1 z21.1), (decide (t811 < (Int.tmod z21.2.2.1 z21.1))), z21.2.2.2.2.1, ()))
  else none)
  else
  loopK (G_law09_LdlRaw_L1 fu κ) fu (z21.1, z21.2.1, 0, z21.2.2.2.2.1, ())) (fun j3 =>
  bif (decide (z20.2.2.1 < 36)) then
  j3 (z20.1, z20.2.1, z20.2.2.1, z20.2.1, z20.2.2.2.1, ())
  else
  j3 (z20.1, z20.2.1, z20.2.2.1, false, z20.2.2.2.1, ()))
noncomputable def G_law09_LdlRaw_L3 (fu : Nat) {R : Type} (κ : Bool → Option R) (rec'1 : (Int × List Int × Int × (Int × List Int × List Int × Unit) × Unit) → Option R) (z17 : Int × List Int × Int × (Int × List Int × List Int × Unit) × Unit) : Option R :=
  joinK (fun (z18 : Int × List Int × Int × Bool × (Int × List Int × List Int × Unit) × Unit) =>
  bif z18.2.2.2.1 then
  bif decide (0 ≤ z18.2.2.1) && decide (z18.2.2.1 < (z18.2.1.length : Int)) then
  bif decide (0 ≤ z18.2.2.1) && decide (z18.2.2.1 < 6) then
  rec'1 (z18.1, z18.2.1, (IntKind.i64.wrap (z18.2.2.1 + 1)), (z18.2.2.2.2.1.1, z18.2.2.2.2.1.2.1, (z18.2.2.2.2.1.2.2.1.set z18.2.2.1.toNat (z18.2.1.getD z18.2.2.1.toNat 0)), z18.2.2.2.2.1.2.2.2), ())
  else none
  else none
  else
  joinK (fun (z19 : Int × Bool × (Int × List Int × List Int × Unit) × Unit) =>
  loopK (G_law09_LdlRaw_L2 fu κ) fu (z19.1, z19.2.1, 0, z19.2.2.1, ())) (fun j2 =>
  bif (decide (1 ≤ z18.1)) then
  j2 (z18.1, (decide (z18.1 ≤ 6)), z18.2.2.2.2.1, ())
  else
  j2 (z18.1, false, z18.2.2.2.2.1, ()))) (fun j1 =>
  bif (decide (z17.2.2.1 < (z17.2.1.length : Int))) then
  j1 (z17.1, z17.2.1, z17.2.2.1, (decide (z17.2.2.1 < 6)), z17.2.2.2.1, ())
  else
  j1 (z17.1, z17.2.1, z17.2.2.1, false, z17.2.2.2.1, ()))
noncomputable def G_law09_LdlRaw_L4 (fu : Nat) {R : Type} (κ : Bool → Option R) (rec' : (Int × List Int × List Int × Int × (Int × List Int × List Int × Unit) × Unit) → Option R) (z15 : Int × List Int × List Int × Int × (Int × List Int × List Int × Unit) × Unit) : Option R :=
  joinK (fun (z16 : Int × List Int × List Int × Int × Bool × (Int × List Int × List Int × Unit) × Unit) =>
  bif z16.2.2.2.2.1 then
  bif decide (0 ≤ z16.2.2.2.1) && decide (z16.2.2.2.1 < (z16.2.1.length : Int)) then
  bif decide (0 ≤ z16.2.2.2.1) && decide (z16.2.2.2.1 < 36) then
  rec' (z16.1, z16.2.1, z16.2.2.1, (IntKind.i64.wrap (z16.2.2.2.1 + 1)), (z16.2.2.2.2.2.1.1, (z16.2.2.2.2.2.1.2.1.set z16.2.2.2.1.toNat (z16.2.1.getD z16.2.2.2.1.toNat 0)), z16.2.2.2.2.2.1.2.2), ())
  else none
  else none
  else
  loopK (G_law09_LdlRaw_L3 fu κ) fu (z16.1, z16.2.2.1, 0, z16.2.2.2.2.2.1, ())) (fun j =>
  bif (decide (z15.2.2.2.1 < (z15.2.1.length : Int))) then
  j (z15.1, z15.2.1, z15.2.2.1, z15.2.2.2.1, (decide (z15.2.2.2.1 < 36)), z15.2.2.2.2.1, ())
  else
  j (z15.1, z15.2.1, z15.2.2.1, z15.2.2.2.1, false, z15.2.2.2.2.1, ()))
noncomputable def G_law09_LdlRaw (fu : Nat) {R : Type} (n : Int) (l : List Int) (d : List Int) (κ : Bool → Option R) : Option R :=
  loopK (G_law09_LdlRaw_L4 fu κ) fu (n, l, d, 0, (n, (List.replicate 36 0), (List.replicate 6 0), ()), ())
end Go.Proofs
end

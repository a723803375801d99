/- A part of the proof of the claim: Laws. -/
import Derived.Test.YtnjjgbpannjfjaaDoorGn
section
set_option linter.all false
set_option linter.unusedSimpArgs false
set_option linter.unusedVariables false
namespace Go.Proofs
open Go Go.Ev
set_option linter.unusedVariables false
set_option linter.unusedSimpArgs false
set_option maxRecDepth 100000

theorem sure_is (R : Type) (κ : Bool → Option R) : F_law09_sure κ = G_law09_sure FUEL κ := by kernel_rfl
theorem sure_at (m : Nat) (R : Type) (κ : Bool → Option R) : G_law09_sure (m + 100) κ = κ true := by kernel_rfl
theorem sureS (R : Type) (κ : Bool → Option R) : F_law09_sure κ = κ true := by
  obtain ⟨m, hm⟩ := fuel 100 (by decide)
  rw [sure_is, hm, sure_at]

noncomputable def rawK25 {R : Type} (κ : Bool → Option R) (rec'3 : (Int × Bool × Int × (Int × List Int × List Int × Unit) × Unit) → Option R) (z25 : Int × Bool × Int × Bool × (Int × List Int × List Int × Unit) × Unit) : Option R :=
  bif z25.2.2.2.1 then
  joinK (fun (z26 : Int × Bool × Int × (Int × List Int × List Int × Unit) × Unit) =>
  rec'3 (z26.1, z26.2.1, (IntKind.i64.wrap (z26.2.2.1 + 1)), z26.2.2.2.1, ())) (fun j7 =>
  bif (decide (z25.2.2.1 < z25.1)) then
  bif decide (0 ≤ z25.2.2.1) && decide (z25.2.2.1 < 6) then
  bif (decide (1 ≤ (z25.2.2.2.2.1.2.2.1.getD z25.2.2.1.toNat 0))) then
  bif decide (0 ≤ z25.2.2.1) && decide (z25.2.2.1 < 6) then
  bif (decide ((z25.2.2.2.2.1.2.2.1.getD z25.2.2.1.toNat 0) ≤ 4611686018427387903)) then
  j7 (z25.1, true, z25.2.2.1, z25.2.2.2.2.1, ())
  else
  bif (decide (z25.1 ≤ z25.2.2.1)) then
  bif decide (0 ≤ z25.2.2.1) && decide (z25.2.2.1 < 6) then
  j7 (z25.1, ((z25.2.2.2.2.1.2.2.1.getD z25.2.2.1.toNat 0) == 0), z25.2.2.1, z25.2.2.2.2.1, ())
  else none
  else
  j7 (z25.1, false, z25.2.2.1, z25.2.2.2.2.1, ())
  else none
  else
  bif (decide (z25.1 ≤ z25.2.2.1)) then
  bif decide (0 ≤ z25.2.2.1) && decide (z25.2.2.1 < 6) then
  j7 (z25.1, ((z25.2.2.2.2.1.2.2.1.getD z25.2.2.1.toNat 0) == 0), z25.2.2.1, z25.2.2.2.2.1, ())
  else none
  else
  j7 (z25.1, false, z25.2.2.1, z25.2.2.2.2.1, ())
  else none
  else
  bif (decide (z25.1 ≤ z25.2.2.1)) then
  bif decide (0 ≤ z25.2.2.1) && decide (z25.2.2.1 < 6) then
  j7 (z25.1, ((z25.2.2.2.2.1.2.2.1.getD z25.2.2.1.toNat 0) == 0), z25.2.2.1, z25.2.2.2.2.1, ())
  else none
  else
  j7 (z25.1, false, z25.2.2.1, z25.2.2.2.2.1, ()))
  else
  F_ldl_Check z25.2.2.2.2.1 (fun r15 =>
  joinK (fun (z27 : Int × Bool × Bool × (Int × List Int × List Int × Unit) × Unit) =>
  bif z27.2.2.1 then
  κ false
  else
  let t1621 : Int := (bif decide (6 < z27.1) then 6 else z27.1)
  let t1631 : Int := (bif decide (0 < t1621) then t1621 else 0)
  bif decide (0 ≤ t1631) && decide (t1631 ≤ t1631) && decide (t1631 * 8 ≤ 140737488355328) then
  let t1641 : List Int := (List.replicate t1631.toNat 0)
  F_ldl_Solve z27.2.2.2.1 t1641 (fun r16 r17 r18 =>
  F_ldl_Far z27.2.2.2.1 t1641 (fun r19 r20 r21 =>
  F_ldl_Log z27.2.2.2.1 (fun r22 r23 =>
  bif z27.2.1 then
  joinK (fun (z28 : Bool × Unit) =>
  κ z28.1) (fun j9 =>
  bif (Option.isNone (α := Int) r18 && Option.isNone (α := Int) none) then
  bif (Option.isNone (α := Int) r21 && Option.isNone (α := Int) none) then
  bif (Option.isNone (α := Int) r23 && Option.isNone (α := Int) none) then
  F_law09_sure (fun r24 =>
  j9 (r24, ()))
  else
  j9 (false, ())
  else
  j9 (false, ())
  else
  j9 (false, ()))
  else
  joinK (fun (z29 : Bool × Unit) =>
  κ z29.1) (fun j10 =>
  F_num r18 (fun r25 =>
  bif (r25 == 1) then
  F_num r21 (fun r26 =>
  bif (r26 == 1) then
  F_num r23 (fun r27 =>
  bif (r27 == 1) then
  F_law09_sure (fun r28 =>
  j10 (r28, ()))
  else
  j10 (false, ()))
  else
  j10 (false, ()))
  else
  j10 (false, ()))))))
  else none) (fun j8 =>
  bif (!((Option.isNone (α := Int) r15 && Option.isNone (α := Int) none) == z25.2.1)) then
  j8 (z25.1, z25.2.1, true, z25.2.2.2.2.1, ())
  else
  bif (!(Option.isNone (α := Int) r15 && Option.isNone (α := Int) none)) then
  F_num r15 (fun r29 =>
  j8 (z25.1, z25.2.1, (r29 != 1), z25.2.2.2.2.1, ()))
  else
  j8 (z25.1, z25.2.1, false, z25.2.2.2.2.1, ())))
noncomputable def rawK21 {R : Type} (κ : Bool → Option R) (rec'2 : (Int × Bool × Int × (Int × List Int × List Int × Unit) × Unit) → Option R) (z21 : Int × Bool × Int × Bool × (Int × List Int × List Int × Unit) × Unit) : Option R :=
  bif z21.2.2.2.1 then
  joinK (fun (z22 : Int × Bool × Int × (Int × List Int × List Int × Unit) × Unit) =>
  rec'2 (z22.1, z22.2.1, (IntKind.i64.wrap (z22.2.2.1 + 1)), z22.2.2.2.1, ())) (fun j4 =>
  bif decide (0 ≤ z21.2.2.1) && decide (z21.2.2.1 < 36) then
  let t781 : Int := (z21.2.2.2.2.1.2.1.getD z21.2.2.1.toNat 0)
  bif (z21.1 == 0) then none else
  let t811 : Int := (IntKind.i64.wrap (Int.tdiv z21.2.2.1 z21.1))
  bif (z21.1 == 0) then none else
  joinK (fun (z23 : Int × Int × Int × Int × Int × Bool × (Int × List Int × List Int × Unit) × Unit) =>
  bif z23.2.2.2.2.2.1 then
  j4 (z23.1, (z23.2.2.1 == 0), z23.2.1, z23.2.2.2.2.2.2.1, ())
  else
  bif (z23.2.2.2.1 == z23.2.2.2.2.1) then
  j4 (z23.1, (z23.2.2.1 == 1073741824), z23.2.1, z23.2.2.2.2.2.2.1, ())
  else
  bif (decide ((-4611686018427387903) ≤ z23.2.2.1)) then
  j4 (z23.1, (decide (z23.2.2.1 ≤ 4611686018427387903)), z23.2.1, z23.2.2.2.2.2.2.1, ())
  else
  j4 (z23.1, false, z23.2.1, z23.2.2.2.2.2.2.1, ())) (fun j5 =>
  bif (decide ((IntKind.i64.wrap (z21.1 * z21.1)) ≤ z21.2.2.1)) then
  j5 (z21.1, z21.2.2.1, t781, t811, (Int.tmod z21.2.2.1 z21.1), true, z21.2.2.2.2.1, ())
  else
  j5 (z21.1, z21.2.2.1, t781, t811, (Int.tmod z21.2.2.1 z21.1), (decide (t811 < (Int.tmod z21.2.2.1 z21.1))), z21.2.2.2.2.1, ()))
  else none)
  else
  loopK (F_law09_LdlRaw_L1 κ) FUEL (z21.1, z21.2.1, 0, z21.2.2.2.2.1, ())
/-- What is asked at the end. -/
theorem raw_L1_end {f : Fac} (h1 : I64 f.1) (h3 : f.2.1.length = 36) (h4 : f.2.2.1.length = 6) (h5 : AllI f.2.1) (h6 : AllI f.2.2.1) {i : Int} {ok : Bool} (hok : (ok = true ∧ Valid f) ∨ (ok = false ∧ ¬ Valid f)) (hi : ¬ i < 6 ∨ ok = false)
    (R : Type) (κ : Bool → Option R) (rec' : (Int × Bool × Int × Fac × Unit) → Option R) : F_law09_LdlRaw_L1 κ rec' (f.1, ok, i, f, ()) = κ true := by
  have j6 : F_law09_LdlRaw_L1 κ rec' (f.1, ok, i, f, ()) = rawK25 κ rec' (f.1, ok, i, false, f, ()) := by
    have e : F_law09_LdlRaw_L1 κ rec' (f.1, ok, i, f, ()) = bif decide (i < 6) then rawK25 κ rec' (f.1, ok, i, ok, f, ()) else rawK25 κ rec' (f.1, ok, i, false, f, ()) := rfl
    rw [e]
    rcases hi with hi | hi
    · rw [n_lt hi]; rfl
    · rw [hi]; cases decide (i < 6) <;> rfl
  rw [j6, rawK25, cond_false]
  rcases hok with ⟨rfl, hv⟩ | ⟨rfl, hv⟩
  · have hn := hv.1
    have c1 : (bif decide (6 < f.1) then 6 else f.1) = f.1 := by rw [n_lt (by omega), cond_false]
    have c2 : (bif decide (0 < f.1) then f.1 else 0) = f.1 := by rw [d_lt (by omega), cond_true]
    have hf : FacS f := ⟨hn.1, hn.2, h3, h4, h5, h6⟩
    have hl : ((List.replicate f.1.toNat (0 : Int)).length : Int) = f.1 := by rw [List.length_replicate]; omega
    obtain ⟨w, c, _, e1⟩ := solveS hf hv hl (AllI.zeros _)
    obtain ⟨r, c', e2⟩ := farS hf hv hl (AllI.zeros _)
    obtain ⟨q, e3⟩ := logS hv
    rw [check_ok hv]
    show (bif decide (0 ≤ (bif decide (0 < (bif decide (6 < f.1) then 6 else f.1)) then (bif decide (6 < f.1) then 6 else f.1) else 0)) && _ && _ then _ else _) = _
    rw [c1, c2, d_le (show 0 ≤ f.1 by omega), d_le (Int.le_refl f.1), d_le (show f.1 * 8 ≤ 140737488355328 by omega), Bool.and_self, Bool.and_self, cond_true, e1, e2, e3]
    exact sureS R κ
  · rw [check_no hv]
    have key : ∀ t : Int, 0 ≤ t → t ≤ 6 → (bif decide (0 ≤ t) && decide (t ≤ t) && decide (t * 8 ≤ 140737488355328) then
        F_ldl_Solve f (List.replicate t.toNat 0) (fun r16 r17 r18 =>
        F_ldl_Far f (List.replicate t.toNat 0) (fun r19 r20 r21 =>
        F_ldl_Log f (fun r22 r23 =>
        joinK (fun (z29 : Bool × Unit) => κ z29.1) (fun j10 =>
        F_num r18 (fun r25 =>
        bif (r25 == 1) then
        F_num r21 (fun r26 =>
        bif (r26 == 1) then
        F_num r23 (fun r27 =>
        bif (r27 == 1) then
        F_law09_sure (fun r28 =>
        j10 (r28, ()))
        else
        j10 (false, ()))
        else
        j10 (false, ()))
        else
        j10 (false, ())))))) else none) = κ true := by
      intro t h0 h1
      rw [d_le h0, d_le (Int.le_refl t), d_le (show t * 8 ≤ 140737488355328 by omega), Bool.and_self, Bool.and_self, cond_true, solve_no hv, far_no hv, log_no hv]
      exact sureS R κ
    by_cases c1 : 6 < f.1
    · have e1 : (bif decide (6 < f.1) then 6 else f.1) = 6 := by rw [d_lt c1, cond_true]
      have e2 : (bif decide (0 < (6 : Int)) then (6 : Int) else 0) = 6 := rfl
      have := key (bif decide (0 < (bif decide (6 < f.1) then 6 else f.1)) then (bif decide (6 < f.1) then 6 else f.1) else 0) (by rw [e1, e2]; omega) (by rw [e1, e2]; omega)
      exact this
    · have e1 : (bif decide (6 < f.1) then 6 else f.1) = f.1 := by rw [n_lt c1, cond_false]
      have := key (bif decide (0 < (bif decide (6 < f.1) then 6 else f.1)) then (bif decide (6 < f.1) then 6 else f.1) else 0) (by rw [e1]; by_cases c : 0 < f.1; rw [d_lt c, cond_true]; omega; rw [n_lt c, cond_false]; omega) (by rw [e1]; by_cases c : 0 < f.1; rw [d_lt c, cond_true]; omega; rw [n_lt c, cond_false]; omega)
      exact this
end Go.Proofs
end

section
set_option linter.all false
set_option linter.unusedSimpArgs false
set_option linter.unusedVariables false
namespace Go.Proofs
open Go Go.Ev
set_option linter.unusedVariables false
set_option linter.unusedSimpArgs false
set_option maxRecDepth 100000

def FacL (f : Fac) : Prop := I64 f.1 ∧ f.2.1.length = 36 ∧ f.2.2.1.length = 6 ∧ AllI f.2.1 ∧ AllI f.2.2.1
abbrev Rw := Int × Bool × Int × Fac × Unit

theorem valid_D {f : Fac} {i : Int} (h0 : 0 ≤ i) (h1 : i < 6) (h : okDB f.1 i (f.2.2.1.getD i.toNat 0) = false) : ¬ Valid f := fun hv => by
  have := hv.2.2 i h0 h1; rw [h] at this; cases this
theorem valid_L {f : Fac} {i : Int} (h0 : 0 ≤ i) (h1 : i < 36) (h : okLB f.1 i (f.2.1.getD i.toNat 0) = false) : ¬ Valid f := fun hv => by
  have := hv.2.1 i h0 h1; rw [h] at this; cases this

theorem raw_L1 {f : Fac} (hf : FacL f) (z : Rw) (e1 : z.1 = f.1) (e2 : z.2.2.2.1 = f) (e3 : 0 ≤ z.2.2.1)
    (e4 : z.2.1 = true → (1 ≤ f.1 ∧ f.1 ≤ 6) ∧ (∀ k, 0 ≤ k → k < 36 → okLB f.1 k (f.2.1.getD k.toNat 0) = true) ∧ (∀ i, 0 ≤ i → i < z.2.2.1 → okDB f.1 i (f.2.2.1.getD i.toNat 0) = true)) (e5 : z.2.1 = false → ¬ Valid f) :
    ∃ b, b = true ∧ ∀ (R : Type) (κ : Bool → Option R), loopK (F_law09_LdlRaw_L1 κ) FUEL z = κ b := by
  obtain ⟨h1, h3, h4, h5, h6⟩ := hf
  refine loop_ends (fun z : Rw => z.1 = f.1 ∧ z.2.2.2.1 = f ∧ 0 ≤ z.2.2.1 ∧ (z.2.1 = true → (1 ≤ f.1 ∧ f.1 ≤ 6) ∧ (∀ k, 0 ≤ k → k < 36 → okLB f.1 k (f.2.1.getD k.toNat 0) = true) ∧ (∀ i, 0 ≤ i → i < z.2.2.1 → okDB f.1 i (f.2.2.1.getD i.toNat 0) = true)) ∧ (z.2.1 = false → ¬ Valid f)) (fun z => (6 - z.2.2.1).toNat) (fun b : Bool => b = true) (fun {R} κ rec' z => F_law09_LdlRaw_L1 κ rec' z) ?_ z ⟨e1, e2, e3, e4, e5⟩ (by omega)
  clear e1 e2 e3 e4 e5 z
  rintro ⟨n, ok, i, f', ⟨⟩⟩ ⟨e1, e2, e3, e4, e5⟩
  simp only at e1 e2 e3 e4 e5
  subst e1 e2
  by_cases hi : ¬ i < 6 ∨ ok = false
  · left
    have hok : (ok = true ∧ Valid f') ∨ (ok = false ∧ ¬ Valid f') := by
      cases ok with
      | false => exact Or.inr ⟨rfl, e5 rfl⟩
      | true =>
        rcases hi with hi | hi
        · obtain ⟨a, b, c⟩ := e4 rfl
          exact Or.inl ⟨rfl, a, b, fun k k0 k1 => c k k0 (by omega)⟩
        · cases hi
    exact ⟨true, rfl, fun R κ rec' => raw_L1_end h1 h3 h4 h5 h6 hok hi R κ rec'⟩
  · right
    have c : i < 6 := Classical.byContradiction fun h => hi (Or.inl h)
    have ho : ok = true := by cases ok with
      | true => rfl
      | false => exact absurd (Or.inr rfl) hi
    subst ho
    obtain ⟨a, b, d⟩ := e4 rfl
    have w1 : IntKind.i64.wrap (i + 1) = i + 1 := wi _ (by omega) (by omega)
    have run : ∀ (R : Type) (κ : Bool → Option R) rec', F_law09_LdlRaw_L1 κ rec' (f'.1, true, i, f', ()) = rec' (f'.1, okDB f'.1 i (f'.2.2.1.getD i.toNat 0), i + 1, f', ()) := by
      intro R κ rec'
      have e : F_law09_LdlRaw_L1 κ rec' (f'.1, true, i, f', ()) = bif decide (i < 6) then rawK25 κ rec' (f'.1, true, i, true, f', ()) else rawK25 κ rec' (f'.1, true, i, false, f', ()) := rfl
      rw [e, d_lt c, cond_true, rawK25, cond_true, joinK]
      unfold okDB
      generalize f'.2.2.1.getD i.toNat 0 = x
      by_cases c1 : f'.1 ≤ i
      · rw [n_lt (show ¬ i < f'.1 by omega), cond_false, d_le c1, cond_true, d_le e3, d_lt c, Bool.and_self, cond_true]; show rec' (f'.1, x == 0, IntKind.i64.wrap (i + 1), f', ()) = rec' (f'.1, _, i + 1, f', ()); rw [w1, cond_true]
      · by_cases c2 : 1 ≤ x
        · by_cases c3 : x ≤ 4611686018427387903
          · rw [d_lt (show i < f'.1 by omega), cond_true, d_le e3, d_lt c, Bool.and_self, cond_true, d_le c2, cond_true, cond_true, d_le c3, cond_true]; show rec' (f'.1, true, IntKind.i64.wrap (i + 1), f', ()) = rec' (f'.1, _, i + 1, f', ()); rw [w1, n_le c1, cond_false, cond_true]
          · rw [d_lt (show i < f'.1 by omega), cond_true, d_le e3, d_lt c, Bool.and_self, cond_true, d_le c2, cond_true, cond_true, n_le c3, cond_false, n_le c1, cond_false]; show rec' (f'.1, false, IntKind.i64.wrap (i + 1), f', ()) = rec' (f'.1, _, i + 1, f', ()); rw [w1, cond_false, cond_true]
        · rw [d_lt (show i < f'.1 by omega), cond_true, d_le e3, d_lt c, Bool.and_self, cond_true, n_le c2, cond_false, n_le c1, cond_false]; show rec' (f'.1, false, IntKind.i64.wrap (i + 1), f', ()) = rec' (f'.1, _, i + 1, f', ()); rw [w1, cond_false, cond_false]
    refine ⟨(f'.1, okDB f'.1 i (f'.2.2.1.getD i.toNat 0), i + 1, f', ()), ⟨rfl, rfl, (by show 0 ≤ i + 1; omega), fun ht => ⟨a, b, fun k k0 k1 => ?_⟩, fun hf => valid_D e3 c hf⟩, (by show (6 - (i + 1)).toNat < (6 - i).toNat; omega), run⟩
    by_cases hki : k = i
    · rw [hki]; exact ht
    · exact d k k0 (by have : k < i + 1 := k1; omega)

theorem raw_L2 {f : Fac} (hf : FacL f) (z : Rw) (e1 : z.1 = f.1) (e2 : z.2.2.2.1 = f) (e3 : 0 ≤ z.2.2.1)
    (e4 : z.2.1 = true → (1 ≤ f.1 ∧ f.1 ≤ 6) ∧ (∀ k, 0 ≤ k → k < z.2.2.1 → okLB f.1 k (f.2.1.getD k.toNat 0) = true)) (e5 : z.2.1 = false → ¬ Valid f) :
    ∃ b, b = true ∧ ∀ (R : Type) (κ : Bool → Option R), loopK (F_law09_LdlRaw_L2 κ) FUEL z = κ b := by
  refine loop_ends (fun z : Rw => z.1 = f.1 ∧ z.2.2.2.1 = f ∧ 0 ≤ z.2.2.1 ∧ (z.2.1 = true → (1 ≤ f.1 ∧ f.1 ≤ 6) ∧ (∀ k, 0 ≤ k → k < z.2.2.1 → okLB f.1 k (f.2.1.getD k.toNat 0) = true)) ∧ (z.2.1 = false → ¬ Valid f)) (fun z => (36 - z.2.2.1).toNat) (fun b : Bool => b = true) (fun {R} κ rec' z => F_law09_LdlRaw_L2 κ rec' z) ?_ z ⟨e1, e2, e3, e4, e5⟩ (by omega)
  clear e1 e2 e3 e4 e5 z
  rintro ⟨n, ok, i, f', ⟨⟩⟩ ⟨e1, e2, e3, e4, e5⟩
  simp only at e1 e2 e3 e4 e5
  subst e1 e2
  by_cases hi : ¬ i < 36 ∨ ok = false
  · left
    obtain ⟨b, hb, e⟩ := raw_L1 hf (f'.1, ok, 0, f', ()) rfl rfl (Int.le_refl 0) (fun ht => by
      obtain ⟨a, b⟩ := e4 ht
      refine ⟨a, fun k k0 k1 => b k k0 ?_, fun i i0 i1 => by have : i < 0 := i1; omega⟩
      rcases hi with hi | hi
      · omega
      · rw [hi] at ht; cases ht) e5
    refine ⟨b, hb, fun R κ rec' => ?_⟩
    have e' : F_law09_LdlRaw_L2 κ rec' (f'.1, ok, i, f', ()) = bif decide (i < 36) then rawK21 κ rec' (f'.1, ok, i, ok, f', ()) else rawK21 κ rec' (f'.1, ok, i, false, f', ()) := rfl
    have e'' : F_law09_LdlRaw_L2 κ rec' (f'.1, ok, i, f', ()) = rawK21 κ rec' (f'.1, ok, i, false, f', ()) := by
      rw [e']
      rcases hi with hi | hi
      · rw [n_lt hi]; rfl
      · rw [hi]; cases decide (i < 36) <;> rfl
    rw [e'', rawK21, cond_false]
    exact e R κ
  · right
    have c : i < 36 := Classical.byContradiction fun h => hi (Or.inl h)
    have ho : ok = true := by cases ok with
      | true => rfl
      | false => exact absurd (Or.inr rfl) hi
    subst ho
    obtain ⟨a, b⟩ := e4 rfl
    have w1 : IntKind.i64.wrap (i + 1) = i + 1 := wi _ (by omega) (by omega)
    have hn : (f'.1 == 0) = false := b_ne (by omega)
    have run : ∀ (R : Type) (κ : Bool → Option R) rec', F_law09_LdlRaw_L2 κ rec' (f'.1, true, i, f', ()) = rec' (f'.1, okLB f'.1 i (f'.2.1.getD i.toNat 0), i + 1, f', ()) := by
      intro R κ rec'
      have e : F_law09_LdlRaw_L2 κ rec' (f'.1, true, i, f', ()) = bif decide (i < 36) then rawK21 κ rec' (f'.1, true, i, true, f', ()) else rawK21 κ rec' (f'.1, true, i, false, f', ()) := rfl
      rw [e, d_lt c, cond_true, rawK21, cond_true, joinK, d_le e3, d_lt c, Bool.and_self, cond_true]
      show (bif (f'.1 == 0) then none else bif (f'.1 == 0) then none else joinK _ _) = _
      rw [hn, cond_false, cond_false, joinK]
      unfold okLB rightB
      show (bif (decide ((IntKind.i64.wrap (f'.1 * f'.1)) ≤ i)) then
          (bif true then _ else _) else (bif (decide (IntKind.i64.wrap (Int.tdiv i f'.1) < Int.tmod i f'.1)) then rec' _ else (bif (IntKind.i64.wrap (Int.tdiv i f'.1) == Int.tmod i f'.1) then _ else _))) = _
      generalize f'.2.1.getD i.toNat 0 = x
      generalize IntKind.i64.wrap (Int.tdiv i f'.1) = p
      generalize Int.tmod i f'.1 = q
      by_cases c1 : IntKind.i64.wrap (f'.1 * f'.1) ≤ i
      · rw [d_le c1, cond_true, cond_true, cond_true]; show rec' (f'.1, x == 0, IntKind.i64.wrap (i + 1), f', ()) = rec' (f'.1, _, i + 1, f', ()); rw [w1]
      · rw [n_le c1, cond_false, cond_false]
        by_cases c2 : p < q
        · rw [d_lt c2, cond_true, cond_true]; show rec' (f'.1, x == 0, IntKind.i64.wrap (i + 1), f', ()) = rec' (f'.1, _, i + 1, f', ()); rw [w1]
        · rw [n_lt c2, cond_false, cond_false]
          by_cases c3 : p = q
          · rw [b_eq c3, b_eq c3.symm, cond_true, cond_true]; show rec' (f'.1, x == 1073741824, IntKind.i64.wrap (i + 1), f', ()) = rec' (f'.1, _, i + 1, f', ()); rw [w1]
          · rw [b_ne c3, b_ne (fun h => c3 h.symm), cond_false, cond_false]
            by_cases c4 : -4611686018427387903 ≤ x
            · rw [d_le c4, cond_true, cond_true]; show rec' (f'.1, decide (x ≤ 4611686018427387903), IntKind.i64.wrap (i + 1), f', ()) = rec' (f'.1, _, i + 1, f', ()); rw [w1]
            · rw [n_le c4, cond_false, cond_false]; show rec' (f'.1, false, IntKind.i64.wrap (i + 1), f', ()) = rec' (f'.1, _, i + 1, f', ()); rw [w1]
    refine ⟨(f'.1, okLB f'.1 i (f'.2.1.getD i.toNat 0), i + 1, f', ()), ⟨rfl, rfl, (by show 0 ≤ i + 1; omega), fun ht => ⟨a, fun k k0 k1 => ?_⟩, fun hf => valid_L e3 c hf⟩, (by show (36 - (i + 1)).toNat < (36 - i).toNat; omega), run⟩
    by_cases hki : k = i
    · rw [hki]; exact ht
    · exact b k k0 (by have : k < i + 1 := k1; omega)

theorem raw_L3 (f0 : Fac) {d : List Int} (hd : AllI d) (hf0 : FacL f0) :
    ∃ b, b = true ∧ ∀ (R : Type) (κ : Bool → Option R), loopK (F_law09_LdlRaw_L3 κ) FUEL (f0.1, d, 0, f0, ()) = κ b := by
  refine loop_ends (fun z : Int × List Int × Int × Fac × Unit => z.2.1 = d ∧ z.1 = z.2.2.2.1.1 ∧ FacL z.2.2.2.1 ∧ 0 ≤ z.2.2.1) (fun z => (6 - z.2.2.1).toNat) (fun b : Bool => b = true) (fun {R} κ rec' z => F_law09_LdlRaw_L3 κ rec' z) ?_ _ ⟨rfl, rfl, hf0, Int.le_refl 0⟩ (by show (6 - (0 : Int)).toNat < _; omega)
  rintro ⟨n, d', i, ⟨fn, fL, fD, ⟨⟩⟩, ⟨⟩⟩ ⟨e1, e2, e3, e4⟩
  simp only at e1 e2 e3 e4
  subst e1 e2
  by_cases hi : i < d'.length ∧ i < 6
  · right
    have w1 : IntKind.i64.wrap (i + 1) = i + 1 := wi _ (by omega) (by omega)
    obtain ⟨g1, g2, g3, g4, g5⟩ := e3
    refine ⟨(n, d', i + 1, (n, fL, fD.set i.toNat (d'.getD i.toNat 0), ()), ()), ⟨rfl, rfl, ⟨g1, g2, (by show (fD.set _ _).length = 6; rw [List.length_set]; exact g3), g4, g5.set _ (hd.getD _)⟩, (by show 0 ≤ i + 1; omega)⟩, (by show (6 - (i + 1)).toNat < (6 - i).toNat; omega), fun R κ rec' => ?_⟩
    rw [F_law09_LdlRaw_L3, joinK]
    rw [d_lt hi.1, cond_true, d_lt hi.2]
    dsimp only
    rw [cond_true, d_le e4, d_lt hi.1, Bool.and_self, cond_true, d_lt hi.2, Bool.and_self, cond_true, w1]
  · left
    have fl : (bif (decide (i < (d'.length : Int))) then (decide (i < 6)) else false) = false := by
      by_cases c : i < d'.length
      · rw [d_lt c, cond_true]; exact n_lt (fun h => hi ⟨c, h⟩)
      · rw [n_lt c, cond_false]
    obtain ⟨b, hb, e⟩ := raw_L2 e3 (n, (bif (decide (1 ≤ n)) then decide (n ≤ 6) else false), 0, (n, fL, fD, ()), ()) rfl rfl (Int.le_refl 0) (fun ht => by
      refine ⟨?_, fun k k0 k1 => by have : k < 0 := k1; omega⟩
      by_cases c : 1 ≤ n
      · simp only at ht; rw [d_le c, cond_true] at ht; exact ⟨c, of_decide_eq_true ht⟩
      · simp only at ht; rw [n_le c, cond_false] at ht; cases ht) (fun hf hv => by
      have h1 : 1 ≤ n := hv.1.1
      have h2 : n ≤ 6 := hv.1.2
      simp only at hf
      rw [d_le h1, cond_true, d_le h2] at hf; cases hf)
    refine ⟨b, hb, fun R κ rec' => ?_⟩
    have main : ∀ (R : Type) (κ : Bool → Option R), (joinK (fun (z19 : Int × Bool × (Int × List Int × List Int × Unit) × Unit) =>
        loopK (F_law09_LdlRaw_L2 κ) FUEL (z19.1, z19.2.1, 0, z19.2.2.1, ())) (fun j2 =>
        bif (decide (1 ≤ n)) then
        j2 (n, (decide (n ≤ 6)), (n, fL, fD, ()), ())
        else
        j2 (n, false, (n, fL, fD, ()), ()))) = κ b := by
      intro R κ
      rw [joinK, ← e R κ]
      by_cases c : 1 ≤ n
      · rw [d_le c, cond_true, cond_true]
      · rw [n_le c, cond_false, cond_false]
    rw [F_law09_LdlRaw_L3, joinK]
    by_cases c : i < d'.length
    · rw [d_lt c, cond_true] at fl ⊢
      rw [fl]
      exact main R κ
    · rw [n_lt c, cond_false]
      exact main R κ

theorem raw_L4 (f0 : Fac) {l d : List Int} (hl : AllI l) (hd : AllI d) (hf0 : FacL f0) :
    ∃ b, b = true ∧ ∀ (R : Type) (κ : Bool → Option R), loopK (F_law09_LdlRaw_L4 κ) FUEL (f0.1, l, d, 0, f0, ()) = κ b := by
  refine loop_ends (fun z : Int × List Int × List Int × Int × Fac × Unit => z.2.1 = l ∧ z.2.2.1 = d ∧ z.1 = z.2.2.2.2.1.1 ∧ FacL z.2.2.2.2.1 ∧ 0 ≤ z.2.2.2.1) (fun z => (36 - z.2.2.2.1).toNat) (fun b : Bool => b = true) (fun {R} κ rec' z => F_law09_LdlRaw_L4 κ rec' z) ?_ _ ⟨rfl, rfl, rfl, hf0, Int.le_refl 0⟩ (by show (36 - (0 : Int)).toNat < _; omega)
  rintro ⟨n, l', d', i, ⟨fn, fL, fD, ⟨⟩⟩, ⟨⟩⟩ ⟨e1, e0, e2, e3, e4⟩
  simp only at e1 e0 e2 e3 e4
  subst e1 e0 e2
  by_cases hi : i < l'.length ∧ i < 36
  · right
    have w1 : IntKind.i64.wrap (i + 1) = i + 1 := wi _ (by omega) (by omega)
    obtain ⟨g1, g2, g3, g4, g5⟩ := e3
    refine ⟨(n, l', d', i + 1, (n, fL.set i.toNat (l'.getD i.toNat 0), fD, ()), ()), ⟨rfl, rfl, rfl, ⟨g1, (by show (fL.set _ _).length = 36; rw [List.length_set]; exact g2), g3, g4.set _ (hl.getD _), g5⟩, (by show 0 ≤ i + 1; omega)⟩, (by show (36 - (i + 1)).toNat < (36 - i).toNat; omega), fun R κ rec' => ?_⟩
    rw [F_law09_LdlRaw_L4, joinK]
    rw [d_lt hi.1, cond_true, d_lt hi.2]
    dsimp only
    rw [cond_true, d_le e4, d_lt hi.1, Bool.and_self, cond_true, d_lt hi.2, Bool.and_self, cond_true, w1]
  · left
    obtain ⟨b, hb, e⟩ := raw_L3 (n, fL, fD, ()) hd e3
    refine ⟨b, hb, fun R κ rec' => ?_⟩
    rw [F_law09_LdlRaw_L4, joinK]
    by_cases c : i < l'.length
    · rw [d_lt c, cond_true, n_lt (fun h => hi ⟨c, h⟩)]
      exact e R κ
    · rw [n_lt c, cond_false]
      exact e R κ

/-- LdlRaw holds. -/
theorem raw_true {n : Int} {l d : List Int} (hn : I64 n) (hl : AllI l) (hd : AllI d) (R : Type) (κ : Bool → Option R) : F_law09_LdlRaw n l d κ = κ true := by
  obtain ⟨b, rfl, e⟩ := raw_L4 (n, List.replicate 36 0, List.replicate 6 0, ()) hl hd ⟨hn, rfl, rfl, AllI.zeros 36, AllI.zeros 6⟩
  exact e R κ
end Go.Proofs
end

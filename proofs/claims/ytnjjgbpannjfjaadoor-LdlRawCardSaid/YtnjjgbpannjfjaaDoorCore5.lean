/- A part of the proof of the claim: Core5. -/
import Derived.Test.YtnjjgbpannjfjaaDoorCore4
import Derived.Test.YtnjjgbpannjfjaaDoorCore2
import Derived.Laws.IdiomCopy
section
set_option linter.all false
set_option linter.unusedSimpArgs false
set_option linter.unusedVariables false
namespace Go.Ev
open Go
section
variable {E : Env} {G : Gh} {M : Nat → Option Root} {w : World} {J : Nat → Prop} {anc : Nat → Pl} {fp : Nat → List Nat} {R : Type} {dk : Nat} {κ : Option V → List (Nat × Root) → Option R} {r : R} {F : Nat → Option V} {ρ : Operand → Value} {o : Oper}

theorem vrel_int' {k : IntKind} {n : Int} {v : Value} (h : VRel E.eT w J M anc (.a (.val (.int k) n)) v) : v = .int k n := by
  have h : ARel E.eT w J M anc (.val (.int k) n) v := h
  exact arel_int.1 h
theorem vrel_bool' {n : Bool} {v : Value} (h : VRel E.eT w J M anc (.a (.val .bool n)) v) : v = .bool n := by
  have h : ARel E.eT w J M anc (.val .bool n) v := h
  exact arel_bool.1 h

theorem OpRes.quiet (h : MOk E.eT G M w J anc fp) {v : Option V} {val : Value} (hr : κ v [] = some r) (hv : ∀ y, v = some y → VRel E.eT w J M anc y val) (hrun : (execOp ρ o).run E.P w = .ok (.value val) w) : OpRes E.P E.eT G M w J anc ρ o κ r :=
  ⟨v, [], val, w, hr, After.quiet h hv, .inl hrun⟩

theorem op_move (h : MOk E.eT G M w J anc fp) (hev : ∀ x v, opv F x = some v → VRel E.eT w J M anc v (ρ x)) {x : Operand} (ho : o.op = .move x) (hr : opA E M dk κ F (.move x) = some r) : OpRes E.P E.eT G M w J anc ρ o κ r :=
  .quiet h hr (fun y hy => hev x y hy) (by simp only [execOp, ho, Sem.run_pure])

theorem op_pick (h : MOk E.eT G M w J anc fp) (hev : ∀ x v, opv F x = some v → VRel E.eT w J M anc v (ρ x)) {c x y : Operand} (ho : o.op = .pick c x y) (hr : opA E M dk κ F (.pick c x y) = some r) : OpRes E.P E.eT G M w J anc ρ o κ r := by
  simp only [opA] at hr
  split at hr
  · rename_i b hb
    have hc : ρ c = .bool b := vrel_bool' (hev _ _ hb)
    cases b with
    | true => exact .quiet h hr (fun z hz => hev x z hz) (by simp only [execOp, ho, hc, asBool, Sem.run_bind, Sem.run_pure, Result.andThen_ok]; rfl)
    | false => exact .quiet h hr (fun z hz => hev y z hz) (by simp only [execOp, ho, hc, asBool, Sem.run_bind, Sem.run_pure, Result.andThen_ok]; rfl)
  · cases hr

theorem op_load (hE : EnvTy E) (h : MOk E.eT G M w J anc fp) (hev : ∀ x v, opv F x = some v → VRel E.eT w J M anc v (ρ x)) {t : TypeId} {x : Operand} (ho : o.op = .load t x) (hr : opA E M dk κ F (.load t x) = some r) : OpRes E.P E.eT G M w J anc ρ o κ r := by
  simp only [opA] at hr
  split at hr
  · rename_i T hT
    obtain ⟨_, n, hty⟩ := hE.ty t T hT
    obtain ⟨v, val, h1, h2, h3⟩ := loadA_res h (tyOk_F hty) (fun v hv => hev x v hv) hr
    exact .quiet h h1 h2 (by simp only [execOp, ho, Sem.run_bind, h3, Result.andThen_ok, Sem.run_pure])
  · cases hr

theorem op_nilCheck (h : MOk E.eT G M w J anc fp) (hev : ∀ x v, opv F x = some v → VRel E.eT w J M anc v (ρ x)) {x : Operand} (ho : o.op = .nilCheck x) (hr : opA E M dk κ F (.nilCheck x) = some r) : OpRes E.P E.eT G M w J anc ρ o κ r := by
  simp only [opA] at hr
  split at hr
  · rename_i k g ver p hx
    split at hr
    · rename_i r0 hl
      have hv := hev _ _ hx
      obtain ⟨_, _, _, b, off, _, hval⟩ := ref_live (eT := E.eT) (J := J) hv hl
      exact .quiet h hr (fun z hz => by cases hz; exact hv) (by simp only [execOp, ho, hval, Sem.run_pure])
    · cases hr
  · rename_i T y hx
    have hv := hev _ _ hx
    obtain ⟨b, off, hval, _⟩ := id hv
    exact .quiet h hr (fun z hz => by cases hz; exact hv) (by simp only [execOp, ho, hval, Sem.run_pure])
  · rename_i f l hx
    have hv := hev _ _ hx
    obtain ⟨vs, hval, _⟩ := id hv
    exact .quiet h hr (fun z hz => by cases hz; exact hv) (by simp only [execOp, ho, hval, Sem.run_pure])
  · cases hr

theorem op_binOp (hE : EnvTy E) (h : MOk E.eT G M w J anc fp) (hev : ∀ x v, opv F x = some v → VRel E.eT w J M anc v (ρ x)) (hρ : ∀ c, ρ (.const c) = c) {op : BinOp} {t yt : TypeId} {x y : Operand} (ho : o.op = .binOp op t x y yt) (hr : opA E M dk κ F (.binOp op t x y yt) = some r) : OpRes E.P E.eT G M w J anc ρ o κ r := by
  simp only [opA] at hr
  split at hr
  · rename_i u v hu hv
    obtain ⟨v, val, h1, h2, h3⟩ := binA_res (P := E.P) ho (hev _ _ hu) (hev _ _ hv) (fun hn => by
      split at hn
      · exact .inl rfl
      · exact .inr rfl
      · cases hn) hρ (fun T hT => (hE.ty t T hT).2) (fun T he hT => hE.eqs t T he hT) hr
    exact .quiet h h1 h2 h3
  · cases hr

theorem op_unOp (h : MOk E.eT G M w J anc fp) (hev : ∀ x v, opv F x = some v → VRel E.eT w J M anc v (ρ x)) {op : UnOp} {t : TypeId} {x : Operand} (ho : o.op = .unOp op t x) (hr : opA E M dk κ F (.unOp op t x) = some r) : OpRes E.P E.eT G M w J anc ρ o κ r := by
  simp only [opA] at hr
  split at hr
  · rename_i k n hx
    have hc : ρ x = .int k n := vrel_int' (hev _ _ hx)
    exact .quiet h hr (fun z hz => by cases hz; exact vrel_int) (by simp only [execOp, ho, hc, Op.unary, Op.intArith, Sem.run_bind, Sem.run_pure, Result.andThen_ok])
  · rename_i k n hx
    have hc : ρ x = .int k n := vrel_int' (hev _ _ hx)
    exact .quiet h hr (fun z hz => by cases hz; exact vrel_int) (by simp only [execOp, ho, hc, Op.unary, Op.intBits, bitsI, Sem.run_bind, Sem.run_pure, Result.andThen_ok])
  · rename_i b hx
    have hc : ρ x = .bool b := vrel_bool' (hev _ _ hx)
    exact .quiet h hr (fun z hz => by cases hz; exact vrel_bool) (by simp only [execOp, ho, hc, Op.unary, Sem.run_bind, Sem.run_pure, Result.andThen_ok])
  · cases hr

theorem tyOk_int {P : Program} {n : Nat} {t : TypeId} {k : IntKind} (h : tyOk P n t (.int k) = true) : P.underlying t = some (.int k) := by
  cases n with
  | zero => simp [tyOk] at h
  | succ n =>
    simp only [tyOk, Bool.and_eq_true] at h
    have h2 := h.2
    cases hu : P.underlying t with
    | none => rw [hu] at h2; cases h2
    | some d => rw [hu] at h2; cases d <;> simp_all [fieldsOk]

theorem op_convert (hE : EnvTy E) (h : MOk E.eT G M w J anc fp) (hev : ∀ x v, opv F x = some v → VRel E.eT w J M anc v (ρ x)) {src dst : TypeId} {x : Operand} (ho : o.op = .convert src dst x) (hr : opA E M dk κ F (.convert src dst x) = some r) : OpRes E.P E.eT G M w J anc ρ o κ r := by
  simp only [opA] at hr
  split at hr
  · rename_i k0 k k1 n h1 h2 hx
    obtain ⟨_, m1, t1⟩ := hE.ty _ _ h1
    obtain ⟨_, m2, t2⟩ := hE.ty _ _ h2
    have hc : ρ x = .int k1 n := vrel_int' (hev _ _ hx)
    exact .quiet h hr (fun z hz => by cases hz; exact vrel_int) (by simp only [execOp, ho, hc, convert, Sem.run_bind, underlying, run_program, Result.andThen_ok, tyOk_int t1, tyOk_int t2, Sem.run_pure, Conv.intToInt])
  · cases hr

theorem op_makeInterface (hE : EnvTy E) (h : MOk E.eT G M w J anc fp) (hev : ∀ x v, opv F x = some v → VRel E.eT w J M anc v (ρ x)) {t : TypeId} {x : Operand} (ho : o.op = .makeInterface t x) (hr : opA E M dk κ F (.makeInterface t x) = some r) : OpRes E.P E.eT G M w J anc ρ o κ r := by
  simp only [opA] at hr
  split at hr
  · rename_i ht
    rw [Nat.beq_eq] at ht
    subst ht
    split at hr
    · rename_i n hx
      have hc : ρ x = .int .i64 n := vrel_int' (hev _ _ hx)
      exact .quiet h hr (fun z hz => by cases hz; show ARel E.eT w J M anc (.val .err (some n)) _; exact arel_err1.2 rfl) (by simp only [execOp, ho, hc, Instr.makeInterface, Sem.run_bind, underlying, run_program, Result.andThen_ok, hE.err, Sem.run_pure])
    · cases hr
  · cases hr

theorem op_makeFunc (h : MOk E.eT G M w J anc fp) (hev : ∀ x v, opv F x = some v → VRel E.eT w J M anc v (ρ x)) {f : Fn} {first captured : Array Operand} (ho : o.op = .makeFunc f first captured) (hr : opA E M dk κ F (.makeFunc f first captured) = some r) : OpRes E.P E.eT G M w J anc ρ o κ r := by
  have key : ∀ (l : List Operand) (m : List A), (l.map (opv F)).foldr (fun x l => match x, l with | some (.a y), some m => some (y :: m) | _, _ => none) (some []) = some m → AsRel E.eT w J M anc m (l.map ρ) := by
    intro l
    induction l with
    | nil => intro m hm; simp at hm; subst hm; exact ⟨rfl, fun i hi => by simp at hi⟩
    | cons x l ih =>
      intro m hm
      simp only [List.map_cons, List.foldr_cons] at hm
      split at hm
      · rename_i y m' hy hm'
        cases hm
        obtain ⟨h1, h2⟩ := ih _ hm'
        refine ⟨by simp [h1], fun i hi => ?_⟩
        cases i with
        | zero => exact hev _ _ hy
        | succ i => have := h2 i (by simpa using hi); simpa using this
      · cases hm
  cases f <;> simp only [opA, reduceCtorEq] at hr
  · rename_i f0
    split at hr
    · rename_i l hfirst hcap
      have hf0 : first = #[] := by rw [← Array.toList_inj, hfirst]
      subst hf0
      exact .quiet h hr (fun z hz => by cases hz; exact ⟨_, rfl, key _ _ hcap⟩) (by simp only [execOp, ho, Instr.makeFunc, Sem.run_bind, Sem.run_pure, Result.andThen_ok, List.map_nil, Array.map_empty]; rw [show captured.map ρ = (captured.toList.map ρ).toArray from Array.ext' (by simp)])
    · cases hr

theorem op_slice (hE : EnvTy E) (h : MOk E.eT G M w J anc fp) (hev : ∀ x v, opv F x = some v → VRel E.eT w J M anc v (ρ x)) {t : TypeId} {x : Operand} {lo hi : Option Operand} (ho : o.op = .slice t x lo hi none) (hr : opA E M dk κ F (.slice t x lo hi none) = some r) : OpRes E.P E.eT G M w J anc ρ o κ r := by
  simp only [opA, sliceF_eq] at hr
  split at hr
  · rename_i S y hS hx
    obtain ⟨_, n, hty⟩ := hE.ty t _ hS
    have fin : ∀ (lo' hi' : Option Int), (lo = none ∧ lo' = none ∨ ∃ a i, lo = some a ∧ intOfA (opv F a) = some i ∧ lo' = some i) → (hi = none ∧ hi' = none ∨ ∃ a i, hi = some a ∧ intOfA (opv F a) = some i ∧ hi' = some i) →
        sliceA M κ S y lo' hi' = some r → OpRes E.P E.eT G M w J anc ρ o κ r := by
      intro lo' hi' hlo hhi hr
      have conv : ∀ (l : Option Operand) (l' : Option Int), (l = none ∧ l' = none ∨ ∃ a i, l = some a ∧ intOfA (opv F a) = some i ∧ l' = some i) → (l.map ρ = none ∧ l' = none ∨ ∃ k i, l.map ρ = some (.int k i) ∧ l' = some i) := by
        rintro l l' (⟨rfl, rfl⟩ | ⟨a, i, rfl, h1, rfl⟩)
        · exact .inl ⟨rfl, rfl⟩
        · obtain ⟨k, hk⟩ := intOfA_rel (eT := E.eT) (w := w) (J := J) (M := M) (anc := anc) h1 (fun v hv => hev a v hv)
          exact .inr ⟨k, i, by rw [Option.map_some, hk], rfl⟩
      obtain ⟨v, val, h1, h2, h3⟩ := sliceA_res h hty (hev _ _ hx) (conv lo lo' hlo) (conv hi hi' hhi) hr
      exact .quiet h h1 h2 (by simp only [execOp, ho, Option.map_none, Sem.run_bind, h3, Result.andThen_ok, Sem.run_pure])
    split at hr
    · exact fin _ _ (.inl ⟨rfl, rfl⟩) (.inl ⟨rfl, rfl⟩) hr
    · split at hr
      · rename_i a i hi; exact fin _ _ (.inr ⟨_, _, rfl, hi, rfl⟩) (.inl ⟨rfl, rfl⟩) hr
      · cases hr
    · split at hr
      · rename_i a i hi; exact fin _ _ (.inl ⟨rfl, rfl⟩) (.inr ⟨_, _, rfl, hi, rfl⟩) hr
      · cases hr
    · split at hr
      · rename_i hi1 hi2; exact fin _ _ (.inr ⟨_, _, rfl, hi1, rfl⟩) (.inr ⟨_, _, rfl, hi2, rfl⟩) hr
      · cases hr
  · cases hr

theorem op_indexAddr (hE : EnvTy E) (h : MOk E.eT G M w J anc fp) (hev : ∀ x v, opv F x = some v → VRel E.eT w J M anc v (ρ x)) {t : TypeId} {x i : Operand} (ho : o.op = .indexAddr t x i) (hr : opA E M dk κ F (.indexAddr t x i) = some r) : OpRes E.P E.eT G M w J anc ρ o κ r := by
  simp only [opA] at hr
  split at hr
  · rename_i S y n hS hx hi
    obtain ⟨_, m, hty⟩ := hE.ty t _ hS
    obtain ⟨k, hk⟩ := intOfA_rel (eT := E.eT) (w := w) (J := J) (M := M) (anc := anc) hi (fun v hv => hev i v hv)
    obtain ⟨v, val, h1, h2, h3⟩ := indexA_res h hty (hev _ _ hx) (ki := k) hr
    exact .quiet h h1 h2 (by simp only [execOp, ho, hk, Sem.run_bind, h3, Result.andThen_ok, Sem.run_pure])
  · cases hr

theorem op_fieldAddr (hE : EnvTy E) (h : MOk E.eT G M w J anc fp) (hev : ∀ x v, opv F x = some v → VRel E.eT w J M anc v (ρ x)) {t : TypeId} {x : Operand} {f : Nat} (ho : o.op = .fieldAddr t x f) (hr : opA E M dk κ F (.fieldAddr t x f) = some r) : OpRes E.P E.eT G M w J anc ρ o κ r := by
  simp only [opA] at hr
  split at hr
  · rename_i S k g ver p hS hx
    obtain ⟨_, m, hty⟩ := hE.ty t _ hS
    split at hr
    · rename_i r0 hl
      obtain ⟨hk, hg, hok, b, off, hadr, hval⟩ := ref_live (eT := E.eT) (J := J) (hev _ _ hx) hl
      split at hr
      · rename_i he
        split at hr
        · rename_i hf
          obtain ⟨o', h1, h2, _⟩ := run_fieldAt (eT := E.eT) (J := J) (w := w) hty hf he.symm b off
          refine .quiet h hr (fun z hz => ?_) (val := .pointer (some ⟨b, o', none⟩)) (by simp only [execOp, ho, hval, Sem.run_bind, h1, Result.andThen_ok, Sem.run_pure])
          cases hz
          refine ⟨r0, hk, by omega, fun _ => ⟨Nat.le_refl _, fun _ => ⟨?_, b, o', ?_, rfl⟩⟩⟩
          · refine okP_append _ _ _ _ hok (okP_field f _ _ ?_)
            rw [getP_T, hasField_era f _ S he]; exact hf
          · rw [Adr_append _ _ _ _ _ _ _ hadr]; exact h2
        · cases hr
      · cases hr
    · cases hr
  · rename_i S T x0 hS hx
    obtain ⟨_, m, hty⟩ := hE.ty t _ hS
    split at hr
    · rename_i he
      split at hr
      · rename_i hf
        obtain ⟨b, off, hval, hJ, hcn⟩ := hev _ _ hx
        obtain ⟨o', h1, h2, h3⟩ := run_fieldAt (eT := E.eT) (J := J) (w := w) hty hf he.1.symm b off
        refine .quiet h hr (fun z hz => ?_) (val := .pointer (some ⟨b, o', none⟩)) (by simp only [execOp, ho, hval, Sem.run_bind, h1, Result.andThen_ok, Sem.run_pure])
        cases hz
        exact ⟨b, o', rfl, hJ, h3 he.2 hcn⟩
      · cases hr
    · cases hr
  · cases hr

theorem op_extract (h : MOk E.eT G M w J anc fp) (hev : ∀ x v, opv F x = some v → VRel E.eT w J M anc v (ρ x)) {x : Operand} {i : Nat} (ho : o.op = .extract x i) (hr : opA E M dk κ F (.extract x i) = some r) : OpRes E.P E.eT G M w J anc ρ o κ r := by
  simp only [opA] at hr
  split at hr
  · rename_i l hx
    split at hr
    · rename_i y hy
      obtain ⟨vs, hval, hl, hr2⟩ := hev _ _ hx
      obtain ⟨hi, hy⟩ := List.getElem?_eq_some_iff.1 hy
      have hi' : i < vs.length := by omega
      have hget : vs.getD i undef = vs[i] := by simp [List.getD_eq_getElem?_getD, hi']
      refine .quiet h hr (fun z hz => ?_) (val := vs[i]) (by simp only [execOp, ho, hval, Instr.extract, List.getElem?_toArray, List.getElem?_eq_getElem hi', Sem.run_bind, Sem.run_pure, Result.andThen_ok])
      cases hz
      have := hr2 i hi
      rw [hy, hget] at this
      exact this
    · cases hr
  · cases hr

theorem op_field (hE : EnvTy E) (h : MOk E.eT G M w J anc fp) (hev : ∀ x v, opv F x = some v → VRel E.eT w J M anc v (ρ x)) {t : TypeId} {x : Operand} {f : Nat} (ho : o.op = .field t x f) (hr : opA E M dk κ F (.field t x f) = some r) : OpRes E.P E.eT G M w J anc ρ o κ r := by
  simp only [opA] at hr
  split at hr
  · rename_i S T x0 hS hx
    obtain ⟨_, m, hty⟩ := hE.ty t _ hS
    split at hr
    · rename_i hc
      simp only [Bool.and_eq_true, decide_eq_true_eq] at hc
      obtain ⟨⟨he, hp⟩, hf⟩ := hc
      obtain ⟨cs, hcn, hval⟩ := hev _ _ hx
      obtain ⟨m', fs, hu, hfs⟩ := tyOk_struct hty hf
      obtain ⟨fld, g1, g2, g3, g4, g5, g6, g7⟩ := field_at f fs.toList 0 S T hfs hf he.symm
      have hfld : fs[f]? = some fld := by rw [← Array.getElem?_toList]; exact g1
      have hg := g7 hp hcn
      rw [Nat.sub_zero, Ty.size_of_era g5] at hg
      have hagg : T.agg = true := by rw [hasField_era f S T he.symm] at hf; cases T <;> first | rfl | (cases f <;> simp [hasField] at hf)
      have hTy := tyOk_F g3
      have hpart := run_part (w := w) hTy cs fld.offset (by rw [Ty.size_of_era g5, Cn_length hg, getP_T])
      refine .quiet h hr (fun z hz => ?_) (val := conc (typeAt S (fieldPath f)) ((cs.drop fld.offset).take (typeAt S (fieldPath f)).size)) ?_
      · cases hz
        refine ⟨_, hg, ?_⟩
        unfold conc
        rw [getP_T, Ty.agg_of_era g5, Ty.size_of_era g5]
      · simp only [execOp, ho, hval, conc, hagg, if_true, Instr.field, Sem.run_bind, underlying, run_program, Result.andThen_ok, hu, Sem.run_pure, hfld, asAgg]
        simp only [conc] at hpart
        rw [hpart]; rfl
    · cases hr
  · cases hr

theorem op_index (hE : EnvTy E) (h : MOk E.eT G M w J anc fp) (hev : ∀ x v, opv F x = some v → VRel E.eT w J M anc v (ρ x)) {t : TypeId} {x i : Operand} (ho : o.op = .index t x i) (hr : opA E M dk κ F (.index t x i) = some r) : OpRes E.P E.eT G M w J anc ρ o κ r := by
  simp only [opA] at hr
  split at hr
  · rename_i m' S m T l n hS hx hi
    obtain ⟨_, q, hty⟩ := hE.ty t _ hS
    obtain ⟨k, hk⟩ := intOfA_rel (eT := E.eT) (w := w) (J := J) (M := M) (anc := anc) hi (fun v hv => hev i v hv)
    split at hr
    · rename_i hc
      obtain ⟨rfl, he, hp⟩ := hc
      obtain ⟨hb, hr⟩ := bif_some hr
      simp only [Bool.and_eq_true, decide_eq_true_eq] at hb
      obtain ⟨cs, hcn, hval⟩ := hev _ _ hx
      obtain ⟨d, e, hu, hd⟩ := tyOk_elem hty
      simp only [Cn] at hcn
      obtain ⟨hl, hcl, fss, hfl, hff, hel⟩ := hcn
      have hn : n.toNat < List.length l := by omega
      have h1 := hel n.toNat hn
      have e0 : fss.getD n.toNat [] = [] := by
        rw [List.getD_eq_getElem?_getD, List.getElem?_eq_getElem (by omega)]
        exact List.flatten_eq_nil_iff.1 hff.symm _ (List.getElem_mem _)
      rw [e0] at h1
      have hTS := Ty.size_of_era he
      have hpart := run_part (w := w) (tyOk_F hd) cs (n.toNat * S.size) (by rw [← hTS, Cn_length h1])
      refine .quiet h hr (fun z hz => ?_) (val := conc S ((cs.drop (n.toNat * S.size)).take S.size)) ?_
      · cases hz
        refine ⟨(cs.drop (n.toNat * T.size)).take T.size, ?_, ?_⟩
        · rw [getD_get hn]; exact h1
        · unfold conc; rw [Ty.agg_of_era he, hTS]
      · have hin : 0 ≤ n ∧ n < (m' : Int) := hb
        simp only [execOp, ho, hval, hk, conc, Ty.agg, if_true, Instr.index, Sem.run_bind, run_asInt, underlying, run_program, Result.andThen_ok, hu, Sem.run_pure, hin, and_self, run_sizeOf (tyOk_F hd)]
        simp only [conc] at hpart
        rw [hpart]; rfl
    · cases hr
  · rename_i s n hS hx hi
    obtain ⟨_, q, hty⟩ := hE.ty t _ hS
    obtain ⟨k, hk⟩ := intOfA_rel (eT := E.eT) (w := w) (J := J) (M := M) (anc := anc) hi (fun v hv => hev i v hv)
    obtain ⟨hb, hr⟩ := bif_some hr
    simp only [Bool.and_eq_true, decide_eq_true_eq] at hb
    have hval : ρ x = .string s := (arel_str (eT := E.eT) (w := w) (J := J) (M := M) (anc := anc)).1 (hev _ _ hx)
    have hu : E.P.underlying t = some .string := by
      cases q with
      | zero => simp [tyOk] at hty
      | succ q =>
        simp only [tyOk, Bool.and_eq_true] at hty
        have h2 := hty.2
        cases hu : E.P.underlying t with
        | none => rw [hu] at h2; cases h2
        | some d =>
          rw [hu] at h2
          cases d with
          | string => rfl
          | struct fs => cases hfs : fs.toList <;> simp [fieldsOk, hfs] at h2
          | _ => cases h2
    have hlt : n.toNat < s.size := by omega
    have hget : s[n.toNat]? = some s[n.toNat] := by simp [hlt]
    have hby : ((s[n.toNat].toNat : Nat) : Int) = byteAt s n.toNat := by
      unfold byteAt
      have : s.data.toList.getD n.toNat 0 = s[n.toNat] := by
        rw [List.getD_eq_getElem?_getD, List.getElem?_eq_getElem (by simpa using hlt)]
        rfl
      rw [this]
    refine .quiet h hr (fun z hz => ?_) (val := .int .u8 (byteAt s n.toNat)) ?_
    · cases hz; exact vrel_int
    · have h0 : 0 ≤ n := hb.1
      simp only [execOp, ho, hval, hk, Instr.index, Sem.run_bind, run_asInt, underlying, run_program, Result.andThen_ok, hu, Sem.run_pure, h0, if_true, hget]
      rw [← hby]
  · cases hr
end
end Go.Ev
end

section
set_option linter.all false
set_option linter.unusedSimpArgs false
set_option linter.unusedVariables false
namespace Go.Ev
open Go
section
variable {R : Type}
set_option maxHeartbeats 1000000

theorem bif_bind {α β : Type} (b : Bool) (x y : Option α) (f : α → Option β) : (bif b then x else y).bind f = bif b then x.bind f else y.bind f := by cases b <;> rfl

theorem nat_bin (κ : Option V → List (Nat × Root) → Option R) (op : BinOp) (S : Option Ty) (e n : Bool) (x y : A) :
    binA κ op S e n x y = (binA (fun v us => some (v, us)) op S e n x y).bind fun p => κ p.1 p.2 := by
  unfold binA
  repeat' (first | (simp only [bif_bind, Option.bind_some, Option.bind_none]; done) | split | (simp_all; done))

theorem nat_index (rd : Nat → Option Root) (κ : Option V → List (Nat × Root) → Option R) (S : Ty) (x : A) (i : Int) :
    indexA rd κ S x i = (indexA rd (fun v us => some (v, us)) S x i).bind fun p => κ p.1 p.2 := by
  unfold indexA
  repeat' (first | (simp only [bif_bind, Option.bind_some, Option.bind_none]; done) | split | (simp_all; done))

theorem nat_slice (rd : Nat → Option Root) (κ : Option V → List (Nat × Root) → Option R) (S : Ty) (x : A) (lo hi : Option Int) :
    sliceA rd κ S x lo hi = (sliceA rd (fun v us => some (v, us)) S x lo hi).bind fun p => κ p.1 p.2 := by
  unfold sliceA
  repeat' (first | (simp only [bif_bind, Option.bind_some, Option.bind_none]; done) | split | (simp_all; done))

theorem nat_join (rd : Nat → Option Root) (dk : Nat) (κ : Option V → List (Nat × Root) → Option R) (b : Nat) (S T : Ty) (l m : List T.den) (us : List (Nat × Root)) :
    joinA rd dk κ b S T l m us = (joinA rd dk (fun v us => some (v, us)) b S T l m us).bind fun p => κ p.1 p.2 := by
  unfold joinA
  repeat' (first | (simp only [bif_bind, Option.bind_some, Option.bind_none]; done) | split | (simp_all; done))

theorem nat_append (rd : Nat → Option Root) (dk : Nat) (κ : Option V → List (Nat × Root) → Option R) (b : Nat) (S : Ty) (x y : Option V) :
    appendA rd dk κ b S x y = (appendA rd dk (fun v us => some (v, us)) b S x y).bind fun p => κ p.1 p.2 := by
  unfold appendA
  repeat' (first | exact nat_join _ _ _ _ _ _ _ _ _ | split | (simp only [bif_bind, Option.bind_some, Option.bind_none]; done))

theorem nat_store (rd : Nat → Option Root) (κ : Option V → List (Nat × Root) → Option R) (T : Ty) (x y : Option V) :
    storeA rd κ T x y = (storeA rd (fun v us => some (v, us)) T x y).bind fun p => κ p.1 p.2 := by
  unfold storeA
  dsimp only
  repeat' (first | split | (simp only [bif_bind, Option.bind_some, Option.bind_none]; done))

theorem nat_load (rd : Nat → Option Root) (κ : Option V → List (Nat × Root) → Option R) (T : Ty) (x : Option V) :
    loadA rd κ T x = (loadA rd (fun v us => some (v, us)) T x).bind fun p => κ p.1 p.2 := by
  unfold loadA
  dsimp only
  repeat' (first | split | (simp only [bif_bind, Option.bind_some, Option.bind_none]; done))

theorem nat_storeG (rd : Nat → Option Root) (κ : Option V → List (Nat × Root) → Option R) (T : Ty) (x y : Option V) :
    storeG rd κ T x y = (storeG rd (fun v us => some (v, us)) T x y).bind fun p => κ p.1 p.2 := by
  unfold storeG
  split
  · split
    · rename_i z us _
      have e1 := nat_store (updR rd us) (fun v us' => κ v (us ++ us')) T x (some (.a (.val z.T z.x)))
      have e2 := nat_store (updR rd us) (fun v us' => some (v, us ++ us')) T x (some (.a (.val z.T z.x)))
      rw [e1, e2, Option.bind_assoc]
      rfl
    · rfl
  · exact nat_store _ _ _ _ _

/-- What is known of a function hangs on its arguments alone. -/
def Sp.Nat' (sp : Sp) : Prop := ∀ (R : Type) (args : List Arg) (κ : List TV → List TV → Option R), sp.run args κ = (sp.run args fun a b => some (a, b)).bind fun p => κ p.1 p.2

theorem nat_call (rd : Nat → Option Root) (dk : Nat) (κ : Option V → List (Nat × Root) → Option R) (sp : Sp) (hs : sp.Nat') (vs : List (Option V)) :
    callA rd dk κ sp vs = (callA rd dk (fun v us => some (v, us)) sp vs).bind fun p => κ p.1 p.2 := by
  unfold callA
  split
  · split
    · rw [hs, hs (R := Option V × List (Nat × Root))]
      generalize sp.run _ _ = q
      cases q with
      | none => rfl
      | some q =>
        simp only [Option.bind_some]
        repeat' (first | split | (simp only [bif_bind, Option.bind_some, Option.bind_none]; done))
    · rfl
  · rfl

theorem Sp.base_nat {sp : Sp} (h : sp.Nat') : sp.base.Nat' := h

theorem nat_callG (rd : Nat → Option Root) (dk : Nat) (κ : Option V → List (Nat × Root) → Option R) (sp : Sp) (hs : sp.Nat') (vs : List (Option V)) :
    callG rd dk κ sp vs = (callG rd dk (fun v us => some (v, us)) sp vs).bind fun p => κ p.1 p.2 := by
  unfold callG
  generalize giveArgs rd sp.modes vs = q
  obtain ⟨vs', us⟩ := q
  simp only
  have e1 := nat_call (updR rd us) dk (fun v us' => κ v (us ++ us')) sp.base (Sp.base_nat hs) vs'
  have e2 := nat_call (updR rd us) dk (fun v us' => some (v, us ++ us')) sp.base (Sp.base_nat hs) vs'
  rw [e1, e2, Option.bind_assoc]
  rfl

theorem nat_copy (rd : Nat → Option Root) (κ : Option V → List (Nat × Root) → Option R) (S : Ty) (k g ver : Nat) (p : Path) (lo n : Nat) (y : A) :
    copyA rd κ S k g ver p lo n y = (copyA rd (fun v us => some (v, us)) S k g ver p lo n y).bind fun p => κ p.1 p.2 := by
  unfold copyA
  repeat' (first | (simp only [bif_bind, Option.bind_some, Option.bind_none]; done) | split | (simp_all; done))

def Env.Nat' (E : Env) : Prop := ∀ n sp, E.tbl n = some sp → sp.Nat'

theorem nat_op (E : Env) (hE : E.Nat') (rd : Nat → Option Root) (dk : Nat) (κ : Option V → List (Nat × Root) → Option R) (F : Nat → Option V) (o : Op) :
    opA E rd dk κ F o = (opA E rd dk (fun v us => some (v, us)) F o).bind fun p => κ p.1 p.2 := by
  cases o with
  | call c =>
    simp only [opA]
    split
    · split
      · split
        · rename_i sp hsp; exact nat_callG _ _ _ _ (hE _ _ hsp) _
        · rfl
      · rfl
    all_goals repeat' (first | exact nat_append _ _ _ _ _ _ _ | exact nat_copy _ _ _ _ _ _ _ _ _ _ | (simp only [bif_bind, Option.bind_some, Option.bind_none]; done) | split | (simp only [bif_bind, Option.bind_some, Option.bind_none]; done))
  | move x => rfl
  | assign x => simp only [opA]; repeat' (first | split | (simp only [bif_bind, Option.bind_some, Option.bind_none]; done))
  | pick c a b => simp only [opA]; repeat' (first | (simp only [bif_bind, Option.bind_some, Option.bind_none]; done) | split | (simp_all; done))
  | alloc t => simp only [opA]; repeat' (first | (simp only [bif_bind, Option.bind_some, Option.bind_none]; done) | split | (simp_all; done))
  | box t x => simp only [opA]; repeat' (first | (simp only [bif_bind, Option.bind_some, Option.bind_none]; done) | split | (simp_all; done))
  | build t p => simp only [opA]; repeat' (first | (simp only [bif_bind, Option.bind_some, Option.bind_none]; done) | split | (simp_all; done))
  | buildSlice t n p => simp only [opA]; repeat' (first | (simp only [bif_bind, Option.bind_some, Option.bind_none]; done) | split | (simp_all; done))
  | load t x => simp only [opA]; repeat' (first | exact nat_load _ _ _ _ | split | (simp only [bif_bind, Option.bind_some, Option.bind_none]; done))
  | store t x y => simp only [opA]; repeat' (first | exact nat_storeG _ _ _ _ _ | split | (simp only [bif_bind, Option.bind_some, Option.bind_none]; done))
  | nilCheck x => simp only [opA]; repeat' (first | (simp only [bif_bind, Option.bind_some, Option.bind_none]; done) | split | (simp_all; done))
  | binOp op t x y z => simp only [opA]; repeat' (first | exact nat_bin _ _ _ _ _ _ _ | split | (simp only [bif_bind, Option.bind_some, Option.bind_none]; done))
  | unOp op t x => simp only [opA]; repeat' (first | (simp only [bif_bind, Option.bind_some, Option.bind_none]; done) | split | (simp_all; done))
  | convert s d x => simp only [opA]; repeat' (first | (simp only [bif_bind, Option.bind_some, Option.bind_none]; done) | split | (simp_all; done))
  | makeInterface t x => simp only [opA]; repeat' (first | (simp only [bif_bind, Option.bind_some, Option.bind_none]; done) | split | (simp_all; done))
  | makeFunc f a b => cases f <;> simp only [opA] <;> repeat' (first | (simp only [bif_bind, Option.bind_some, Option.bind_none]; done) | split | (simp_all; done))
  | makeSlice t a b => simp only [opA]; repeat' (first | (simp only [bif_bind, Option.bind_some, Option.bind_none]; done) | split | (simp_all; done))
  | slice t x a b c => cases c <;> simp only [opA, sliceF_eq] <;> repeat' (first | exact nat_slice _ _ _ _ _ _ | split | (simp only [bif_bind, Option.bind_some, Option.bind_none]; done))
  | fieldAddr t x f => simp only [opA]; repeat' (first | (simp only [bif_bind, Option.bind_some, Option.bind_none]; done) | split | (simp_all; done))
  | field t x f => simp only [opA]; repeat' (first | (simp only [bif_bind, Option.bind_some, Option.bind_none]; done) | split | (simp_all; done))
  | indexAddr t x i => simp only [opA]; repeat' (first | exact nat_index _ _ _ _ _ | split | (simp only [bif_bind, Option.bind_some, Option.bind_none]; done))
  | index t x i => simp only [opA]; repeat' (first | (simp only [bif_bind, Option.bind_some, Option.bind_none]; done) | split | (simp_all; done))
  | extract x i => simp only [opA]; repeat' (first | (simp only [bif_bind, Option.bind_some, Option.bind_none]; done) | split | (simp_all; done))
  | _ => rfl
end
end Go.Ev
end

section
set_option linter.all false
set_option linter.unusedSimpArgs false
set_option linter.unusedVariables false
namespace Go.Ev
open Go
set_option linter.unusedSimpArgs false
set_option linter.unusedVariables false

def A.keys : A → List Nat
  | .ref k _ _ _ => [k]
  | .hdr k _ _ _ => [k]
  | .lsl k _ _ _ _ _ => [k]
  | .view k _ _ _ => [k]
  | _ => []
def V.keys : V → List Nat
  | .a x => x.keys
  | .tup l => l.flatMap A.keys
  | .clo _ l => l.flatMap A.keys
def ovKeys : Option V → List Nat
  | some v => v.keys
  | none => []

section
variable {rd rd' : Nat → Option Root}

theorem live_cg {k g ver : Nat} {p : Path} (h : rd k = rd' k) : live rd k g ver p = live rd' k g ver p := by unfold live; rw [h]
theorem liveH_cg {k g ver : Nat} {p : Path} (h : rd k = rd' k) : liveH rd k g ver p = liveH rd' k g ver p := by unfold liveH; rw [h]
theorem liveV_cg {k g wr : Nat} (h : rd k = rd' k) : liveV rd k g wr = liveV rd' k g wr := by unfold liveV; rw [h]
theorem nextG_cg {k : Nat} (h : rd k = rd' k) : nextG rd k = nextG rd' k := by unfold nextG; rw [h]

theorem snap_cg {x : A} (h : ∀ k, k ∈ x.keys → rd k = rd' k) : snap rd x = snap rd' x := by
  cases x <;> simp only [snap] <;> first
    | rfl
    | rw [liveH_cg (h _ (by simp [A.keys]))]
    | rw [live_cg (h _ (by simp [A.keys]))]
    | rw [liveV_cg (h _ (by simp [A.keys]))]
theorem snapPin_cg {x : A} (h : ∀ k, k ∈ x.keys → rd k = rd' k) : snapPin rd x = snapPin rd' x := by
  cases x <;> simp only [snapPin] <;> first
    | rfl
    | rw [live_cg (h _ (by simp [A.keys]))]
theorem give_cg {v : V} (h : ∀ k, k ∈ v.keys → rd k = rd' k) : give rd v = give rd' v := by
  cases v with
  | a x =>
    cases x with
    | hdr k g ver p => cases p <;> simp only [give] <;> rw [liveH_cg (h _ (by simp [V.keys, A.keys]))]
    | view k g wr p => cases p <;> simp only [give] <;> rw [liveV_cg (h _ (by simp [V.keys, A.keys]))]
    | _ => rfl
  | _ => rfl
theorem capOf_cg : ∀ {l : List A}, (∀ k, k ∈ l.flatMap A.keys → rd k = rd' k) → capOf rd l = capOf rd' l := by
  intro l
  induction l with
  | nil => intro _; rfl
  | cons x l ih =>
    intro h
    simp only [List.flatMap_cons, List.mem_append] at h
    simp only [capOf]
    rw [ih (fun k hk => h k (.inr hk))]
    have hs := snapPin_cg (x := x) (fun k hk => h k (.inl hk))
    cases capOf rd' l with
    | none => cases x <;> rfl
    | some q => cases x <;> first | rfl | (simp only; rw [hs])
theorem argOf_cg {m : Mode} {v : Option V} (h : ∀ k, k ∈ ovKeys v → rd k = rd' k) : argOf rd m v = argOf rd' m v := by
  cases v with
  | none => cases m <;> rfl
  | some v =>
    cases v with
    | a x =>
      have h : ∀ k, k ∈ x.keys → rd k = rd' k := h
      cases m with
      | v => simp only [argOf]; rw [snap_cg h]
      | pin => simp only [argOf]; rw [snapPin_cg h]
      | p =>
        cases x with
        | ref k g ver p => cases p <;> simp only [argOf]; rw [live_cg (h _ (by simp [A.keys]))]
        | _ => rfl
      | s =>
        cases x with
        | hdr k g ver p => cases p <;> simp only [argOf]; rw [liveH_cg (h _ (by simp [A.keys]))]
        | _ => rfl
      | clo => rfl
      | g => rfl
    | tup l => cases m <;> rfl
    | clo f l =>
      cases m <;> simp only [argOf]
      rw [capOf_cg h]
theorem argsOf_cg : ∀ {ms : List Mode} {vs : List (Option V)}, (∀ v, v ∈ vs → ∀ k, k ∈ ovKeys v → rd k = rd' k) → argsOf rd ms vs = argsOf rd' ms vs := by
  intro ms
  induction ms with
  | nil => intro vs _; cases vs <;> rfl
  | cons m ms ih =>
    intro vs h
    cases vs with
    | nil => rfl
    | cons v vs => simp only [argsOf]; rw [argOf_cg (h v (by simp)), ih (fun v hv => h v (by simp [hv]))]
theorem argOf_wri {m : Mode} {v : Option V} {x : ArgIn} (h : argOf rd m v = some x) : ∀ k, k ∈ x.wri → k ∈ ovKeys v := by
  cases v with
  | none => cases m <;> simp [argOf] at h
  | some v =>
    cases v with
    | a y =>
      cases m <;> cases y <;> simp only [argOf, reduceCtorEq] at h <;> (repeat' split at h) <;> simp_all [ovKeys, V.keys, A.keys] <;> (try (subst h; simp))
    | tup l => cases m <;> simp [argOf] at h
    | clo f l => cases m <;> simp only [argOf, reduceCtorEq] at h <;> (repeat' split at h) <;> simp_all <;> (try (subst h; simp))
theorem argsOf_wri : ∀ {ms : List Mode} {vs : List (Option V)} {r : List Arg × List Nat × List Nat}, argsOf rd ms vs = some r → ∀ k, k ∈ r.2.2 → ∃ v, v ∈ vs ∧ k ∈ ovKeys v := by
  intro ms
  induction ms with
  | nil => intro vs r h; cases vs <;> simp [argsOf] at h; subst h; simp
  | cons m ms ih =>
    intro vs r h
    cases vs with
    | nil => simp [argsOf] at h
    | cons v vs =>
      simp only [argsOf] at h
      split at h
      · rename_i x as ls ws h1 h2
        cases h
        intro k hk
        rcases List.mem_append.1 hk with hk | hk
        · exact ⟨v, by simp, argOf_wri h1 k hk⟩
        · obtain ⟨u, hu, hk⟩ := ih h2 k hk
          exact ⟨u, by simp [hu], hk⟩
      · cases h
theorem wrote_cg : ∀ {ks : List Nat} {ys : List TV}, (∀ k, k ∈ ks → rd k = rd' k) → wrote rd ks ys = wrote rd' ks ys := by
  intro ks
  induction ks with
  | nil => intro ys _; cases ys <;> rfl
  | cons k ks ih =>
    intro ys h
    cases ys with
    | nil => rfl
    | cons y ys => simp only [wrote]; rw [h k (by simp), ih (fun k hk => h k (by simp [hk]))]
theorem resA_cg : ∀ {ys : List TV} {dk : Nat}, (∀ i, i < ys.length → rd (dk + i) = rd' (dk + i)) → resA rd dk ys = resA rd' dk ys := by
  intro ys
  induction ys with
  | nil => intro dk _; rfl
  | cons y ys ih =>
    intro dk h
    simp only [resA]
    rw [ih (dk := dk + 1) (fun i hi => by have := h (i + 1) (by simp; omega); rw [Nat.add_assoc, Nat.add_comm 1 i]; exact this), nextG_cg (by simpa using h 0 (by simp))]
theorem updR_cg : ∀ {us : List (Nat × Root)} {rd rd' : Nat → Option Root} {k : Nat}, rd k = rd' k → updR rd us k = updR rd' us k := by
  intro us
  induction us with
  | nil => intro rd rd' k h; exact h
  | cons u us ih => intro rd rd' k h; simp only [updR]; apply ih; split <;> first | rfl | exact h
theorem buildA_cg {okI : Nat → Bool} {path : Nat → Path} {ev ev' : Operand → Option V} : ∀ {l : List (Nat × Operand)} {rd rd' : Nat → Option Root} {x : TV}, (∀ o, o ∈ l.map (·.2) → ev o = ev' o ∧ ∀ k, k ∈ ovKeys (ev o) → rd k = rd' k) →
    buildA okI path ev rd l x = buildA okI path ev' rd' l x := by
  intro l
  induction l with
  | nil => intro rd rd' x _; rfl
  | cons p l ih =>
    intro rd rd' x h
    obtain ⟨i, o⟩ := p
    simp only [List.map_cons, List.mem_cons, forall_eq_or_imp] at h
    obtain ⟨⟨h1, h2⟩, h3⟩ := h
    simp only [buildA]
    rw [← h1]
    cases hv : ev o with
    | none => rfl
    | some v =>
      rw [hv] at h2
      simp only
      rw [give_cg h2]
      split
      · split
        · split
          · rw [ih (fun o ho => ⟨(h3 o ho).1, fun k hk => updR_cg ((h3 o ho).2 k hk)⟩)]
          · rfl
        · rfl
      · rfl
theorem elemsA_cg {T : Ty} {ev ev' : Operand → Option V} : ∀ {l : List (Nat × Operand)} {rd rd' : Nat → Option Root} {i : Nat}, (∀ o, o ∈ l.map (·.2) → ev o = ev' o ∧ ∀ k, k ∈ ovKeys (ev o) → rd k = rd' k) →
    elemsA T ev rd i l = elemsA T ev' rd' i l := by
  intro l
  induction l with
  | nil => intro rd rd' i _; rfl
  | cons p l ih =>
    intro rd rd' i h
    obtain ⟨j, o⟩ := p
    simp only [List.map_cons, List.mem_cons, forall_eq_or_imp] at h
    obtain ⟨⟨h1, h2⟩, h3⟩ := h
    simp only [elemsA]
    rw [← h1]
    cases hv : ev o with
    | none => rfl
    | some v =>
      rw [hv] at h2
      simp only
      rw [give_cg h2]
      split
      · split
        · rw [ih (fun o ho => ⟨(h3 o ho).1, fun k hk => updR_cg ((h3 o ho).2 k hk)⟩)]
        · rfl
      · rfl
end

section
variable {R : Type} {rd rd' : Nat → Option Root} {κ : Option V → List (Nat × Root) → Option R}
theorem indexA_cg {S : Ty} {x : A} {i : Int} (h : ∀ k, k ∈ x.keys → rd k = rd' k) : indexA rd κ S x i = indexA rd' κ S x i := by
  cases x with
  | val T x => cases S <;> cases T <;> rfl
  | pin T x => cases S <;> cases T <;> rfl
  | ref k g ver p => cases S <;> simp only [indexA] <;> rw [live_cg (h k (by simp [A.keys]))]
  | hdr k g ver p => cases S <;> simp only [indexA] <;> rw [liveH_cg (h k (by simp [A.keys]))]
  | lsl k g ver p lo n => cases S <;> simp only [indexA] <;> rw [live_cg (h k (by simp [A.keys]))]
  | view k g wr p => cases S <;> rfl
theorem sliceA_cg {S : Ty} {x : A} {i j : Option Int} (h : ∀ k, k ∈ x.keys → rd k = rd' k) : sliceA rd κ S x i j = sliceA rd' κ S x i j := by
  cases x with
  | val T x => cases S <;> cases T <;> rfl
  | pin T x => cases S <;> cases T <;> rfl
  | ref k g ver p => cases S <;> simp only [sliceA] <;> rw [live_cg (h k (by simp [A.keys]))]
  | hdr k g ver p => cases S <;> simp only [sliceA] <;> rw [liveH_cg (h k (by simp [A.keys]))]
  | lsl k g ver p lo n => cases S <;> simp only [sliceA] <;> rw [live_cg (h k (by simp [A.keys]))]
  | view k g wr p => cases S <;> rfl
theorem tailA_cg {v : Option V} (h : ∀ k, k ∈ ovKeys v → rd k = rd' k) : tailA rd v = tailA rd' v := by
  cases v with
  | none => rfl
  | some v =>
    cases v with
    | a x => cases x <;> simp only [tailA] <;> first
        | rfl
        | rw [liveH_cg (h _ (by simp [ovKeys, V.keys, A.keys]))]
        | rw [live_cg (h _ (by simp [ovKeys, V.keys, A.keys]))]
    | _ => rfl
theorem joinA_cg {dk b : Nat} {S T : Ty} {l m : List T.den} {us : List (Nat × Root)} (h : rd dk = rd' dk) : joinA rd dk κ b S T l m us = joinA rd' dk κ b S T l m us := by
  unfold joinA; rw [nextG_cg h]
theorem appendA_cg {dk b : Nat} {S : Ty} {x y : Option V} (hd : rd dk = rd' dk) (hx : ∀ k, k ∈ ovKeys x → rd k = rd' k) (hy : ∀ k, k ∈ ovKeys y → rd k = rd' k) : appendA rd dk κ b S x y = appendA rd' dk κ b S x y := by
  have hj : ∀ (T : Ty) (l m : List T.den) (us : List (Nat × Root)), joinA rd dk κ b S T l m us = joinA rd' dk κ b S T l m us := fun _ _ _ _ => joinA_cg hd
  unfold appendA
  rw [tailA_cg hy]
  simp only [hj]
  cases x with
  | none => rfl
  | some x =>
    cases x with
    | a x => cases x with
      | hdr k g ver p => simp only; rw [liveH_cg (hx _ (by simp [ovKeys, V.keys, A.keys]))]
      | val T x => cases tailA rd' y <;> cases T <;> rfl
      | _ => cases tailA rd' y <;> rfl
    | _ => cases tailA rd' y <;> rfl
theorem storeA_cg {T : Ty} {x y : Option V} (hx : ∀ k, k ∈ ovKeys x → rd k = rd' k) (hy : ∀ k, k ∈ ovKeys y → rd k = rd' k) : storeA rd κ T x y = storeA rd' κ T x y := by
  cases x with
  | none => rfl
  | some x =>
    cases x with
    | a x => cases x with
      | ref k g ver p =>
        cases y with
        | none => rfl
        | some y =>
          simp only [storeA]
          rw [live_cg (hx _ (by simp [ovKeys, V.keys, A.keys]))]
          cases y with
          | a y => cases y with
            | hdr k g ver p => cases p <;> simp only <;> rw [liveH_cg (hy _ (by simp [ovKeys, V.keys, A.keys]))]
            | _ => rfl
          | _ => rfl
      | _ => rfl
    | _ => rfl
theorem storeG_cg {T : Ty} {x y : Option V} (hx : ∀ k, k ∈ ovKeys x → rd k = rd' k) (hy : ∀ k, k ∈ ovKeys y → rd k = rd' k) : storeG rd κ T x y = storeG rd' κ T x y := by
  unfold storeG
  split
  · rename_i k g wr p
    rw [give_cg (rd := rd) (rd' := rd') (fun k hk => hy k (by simpa [ovKeys] using hk))]
    split
    · exact storeA_cg (fun k hk => updR_cg (hx k hk)) (fun k hk => by simp [ovKeys, V.keys, A.keys] at hk)
    · rfl
  · exact storeA_cg hx hy
theorem loadA_cg {T : Ty} {x : Option V} (hx : ∀ k, k ∈ ovKeys x → rd k = rd' k) : loadA rd κ T x = loadA rd' κ T x := by
  cases x with
  | none => rfl
  | some x =>
    cases x with
    | a x => cases x with
      | ref k g ver p => simp only [loadA]; rw [live_cg (hx _ (by simp [ovKeys, V.keys, A.keys]))]
      | _ => rfl
    | _ => rfl
theorem lenA_cg {x : A} (hx : ∀ k, k ∈ x.keys → rd k = rd' k) : lenA rd x = lenA rd' x := by
  cases x with
  | val T x => cases T <;> rfl
  | hdr k g ver p => simp only [lenA]; rw [liveH_cg (hx k (by simp [A.keys]))]
  | lsl k g ver p lo n => simp only [lenA]; rw [live_cg (hx k (by simp [A.keys]))]
  | _ => rfl
theorem callA_cg {sp : Sp} (hs : sp.Nat') {dk : Nat} {vs : List (Option V)} (hd : ∀ i, i < 8 → rd (dk + i) = rd' (dk + i)) (hv : ∀ v, v ∈ vs → ∀ k, k ∈ ovKeys v → rd k = rd' k) : callA rd dk κ sp vs = callA rd' dk κ sp vs := by
  unfold callA
  rw [← argsOf_cg hv]
  split
  · rename_i args ls ws ha
    split
    · refine (hs _ _ _).trans (Eq.trans ?_ (hs _ _ _).symm)
      cases hq : sp.run args fun a b => some (a, b) with
      | none => rfl
      | some q =>
        simp only [Option.bind_some]
        rw [wrote_cg (rd := rd) (rd' := rd') (fun k hk => by obtain ⟨v, h1, h2⟩ := argsOf_wri ha k hk; exact hv v h1 k h2)]
        by_cases hl : q.1.length ≤ 8
        · rw [resA_cg (rd := rd) (rd' := rd') (fun i hi => hd i (by omega))]
        · have hb : Nat.ble q.1.length 8 = false := by cases hh : Nat.ble q.1.length 8 with
            | false => rfl
            | true => rw [Nat.ble_eq] at hh; omega
          simp only [hb, Bool.and_false, Bool.false_eq_true, if_false]
          repeat' split
          all_goals rfl
    · rfl
  · rfl

theorem giveArgs_cg : ∀ {ms : List Mode} {vs : List (Option V)} {rd rd' : Nat → Option Root}, (∀ v, v ∈ vs → ∀ k, k ∈ ovKeys v → rd k = rd' k) → giveArgs rd ms vs = giveArgs rd' ms vs := by
  intro ms
  induction ms with
  | nil => intro vs rd rd' _; rfl
  | cons m ms ih =>
    intro vs rd rd' h
    cases vs with
    | nil => cases m <;> rfl
    | cons v vs =>
      have h2 : ∀ u, u ∈ vs → ∀ k, k ∈ ovKeys u → rd k = rd' k := fun u hu => h u (by simp [hu])
      have ih2 := ih h2
      cases m with
      | g =>
        cases v with
        | none => simp only [giveArgs]; rw [ih2]
        | some x =>
          simp only [giveArgs]
          have hg : give rd x = give rd' x := give_cg (fun k hk => h (some x) (by simp) k (by simpa [ovKeys] using hk))
          rw [hg]
          split
          · rename_i y us _
            rw [ih (rd := updR rd us) (rd' := updR rd' us) (fun u hu k hk => updR_cg (h2 u hu k hk))]
          · rw [ih2]
      | _ => simp only [giveArgs]; rw [ih2]

theorem giveArgs_keys : ∀ {ms : List Mode} {vs : List (Option V)} {rd : Nat → Option Root}, ∀ v, v ∈ (giveArgs rd ms vs).1 → ∀ k, k ∈ ovKeys v → ∃ v', v' ∈ vs ∧ k ∈ ovKeys v' := by
  intro ms
  induction ms with
  | nil => intro vs rd v hv k hk; exact ⟨v, hv, hk⟩
  | cons m ms ih =>
    intro vs rd v hv k hk
    cases vs with
    | nil => cases m <;> simp [giveArgs] at hv
    | cons u vs =>
      have keep : ∀ {rd' : Nat → Option Root}, v ∈ u :: (giveArgs rd' ms vs).1 → ∃ v', v' ∈ u :: vs ∧ k ∈ ovKeys v' := by
        intro rd' hv
        rcases List.mem_cons.1 hv with rfl | hv
        · exact ⟨_, by simp, hk⟩
        · obtain ⟨v', h1, h2⟩ := ih v hv k hk; exact ⟨v', by simp [h1], h2⟩
      cases m with
      | g =>
        cases u with
        | none => exact keep hv
        | some x =>
          simp only [giveArgs] at hv
          split at hv
          · rcases List.mem_cons.1 hv with rfl | hv
            · simp [ovKeys, V.keys, A.keys] at hk
            · obtain ⟨v', h1, h2⟩ := ih v hv k hk; exact ⟨v', by simp [h1], h2⟩
          · exact keep hv
      | _ => exact keep hv

theorem callG_cg {sp : Sp} (hs : sp.Nat') {dk : Nat} {vs : List (Option V)} (hd : ∀ i, i < 8 → rd (dk + i) = rd' (dk + i)) (hv : ∀ v, v ∈ vs → ∀ k, k ∈ ovKeys v → rd k = rd' k) : callG rd dk κ sp vs = callG rd' dk κ sp vs := by
  unfold callG
  rw [← giveArgs_cg hv]
  have hk := giveArgs_keys (ms := sp.modes) (vs := vs) (rd := rd)
  generalize giveArgs rd sp.modes vs = q at hk
  obtain ⟨vs', us⟩ := q
  simp only at hk ⊢
  refine callA_cg (Sp.base_nat hs) (fun i hi => updR_cg (hd i hi)) fun v hv' k hk' => ?_
  obtain ⟨v', h1, h2⟩ := hk v hv' k hk'
  exact updR_cg (hv v' h1 k h2)

theorem copyA_cg {S : Ty} {k g ver : Nat} {p : Path} {lo n : Nat} {y : A} (hx : rd k = rd' k) (hy : ∀ k, k ∈ y.keys → rd k = rd' k) : copyA rd κ S k g ver p lo n y = copyA rd' κ S k g ver p lo n y := by
  unfold copyA
  rw [live_cg hx, snap_cg hy]

/-- The operands of an operation. -/
def opnds : Op → List Operand
  | .move x => [x]
  | .assign x => [x]
  | .pick c a b => [c, a, b]
  | .box _ x => [x]
  | .build _ p => p.toList.map (·.2)
  | .buildSlice _ _ p => p.toList.map (·.2)
  | .load _ a => [a]
  | .store _ a x => [a, x]
  | .nilCheck x => [x]
  | .binOp _ _ x y _ => [x, y]
  | .unOp _ _ x => [x]
  | .convert _ _ x => [x]
  | .makeInterface _ x => [x]
  | .makeFunc _ _ c => c.toList
  | .makeSlice _ l c => [l, c]
  | .slice _ x lo hi _ => x :: (lo.toList ++ hi.toList)
  | .fieldAddr _ x _ => [x]
  | .field _ x _ => [x]
  | .indexAddr _ x i => [x, i]
  | .index _ x i => [x, i]
  | .extract x _ => [x]
  | .call c => (match c.callee with | .value f => [f] | _ => []) ++ c.args.toList
  | _ => []

theorem map_cg {F F' : Nat → Option V} {l : List Operand} (h : ∀ x, x ∈ l → opv F x = opv F' x) : l.map (opv F) = l.map (opv F') := List.map_congr_left h

theorem opA_cg {E : Env} (hE : E.Nat') {dk : Nat} {F F' : Nat → Option V} {o : Op} (hF : ∀ x, x ∈ opnds o → opv F x = opv F' x) (hk : ∀ x, x ∈ opnds o → ∀ k, k ∈ ovKeys (opv F x) → rd k = rd' k) (hd : ∀ i, i < 8 → rd (dk + i) = rd' (dk + i)) :
    opA E rd dk κ F o = opA E rd' dk κ F' o := by
  have hd0 : rd dk = rd' dk := by simpa using hd 0 (by omega)
  cases o with
  | move x => simp only [opA]; rw [hF x (by simp [opnds])]
  | assign x =>
    simp only [opA]; rw [← hF x (by simp [opnds]), nextG_cg hd0]
    have := hk x (by simp [opnds])
    cases hx : opv F x with
    | none => rfl
    | some v =>
      rw [hx] at this
      cases v with
      | a y =>
        cases y with
        | hdr k g ver p => cases p <;> simp only <;> rw [liveH_cg (this k (by simp [ovKeys, V.keys, A.keys]))]
        | _ => rfl
      | _ => rfl
  | pick c a b => simp only [opA]; rw [hF c (by simp [opnds]), hF a (by simp [opnds]), hF b (by simp [opnds])]
  | alloc t => simp only [opA]; rw [nextG_cg hd0]
  | box t x => simp only [opA]; rw [nextG_cg hd0, hF x (by simp [opnds])]
  | build t p =>
    simp only [opA]
    have := fun (okI : Nat → Bool) (path : Nat → Path) (x : TV) => buildA_cg (rd := rd) (rd' := rd') (okI := okI) (path := path) (x := x) (l := p.toList) (ev := opv F) (ev' := opv F') (fun o ho => ⟨hF o ho, hk o ho⟩)
    simp only [this]
  | buildSlice t n p =>
    simp only [opA]
    have h1 := fun (T : Ty) (i : Nat) => elemsA_cg (rd := rd) (rd' := rd') (T := T) (i := i) (l := p.toList) (ev := opv F) (ev' := opv F') (fun o ho => ⟨hF o ho, hk o ho⟩)
    simp only [h1, nextG_cg hd0]
    split
    · split
      · split
        · split
          · rename_i o1 hp
            have ho : o1 ∈ opnds (.buildSlice t n p) := by simp only [opnds, hp]; simp
            rw [← hF o1 ho]
            have := hk o1 ho
            cases hx : opv F o1 with
            | none => rfl
            | some v =>
              rw [hx] at this
              cases v with
              | a y =>
                cases y with
                | hdr k g ver p => cases p <;> simp only <;> rw [liveH_cg (this k (by simp [ovKeys, V.keys, A.keys]))]
                | _ => rfl
              | _ => rfl
          · rfl
        · rfl
      · rfl
    · rfl
  | load t x => simp only [opA]; rw [← hF x (by simp [opnds])]; split <;> first | rfl | exact loadA_cg (hk x (by simp [opnds]))
  | store t x y => simp only [opA]; rw [← hF x (by simp [opnds]), ← hF y (by simp [opnds])]; split <;> first | rfl | exact storeG_cg (hk x (by simp [opnds])) (hk y (by simp [opnds]))
  | nilCheck x =>
    simp only [opA]; rw [← hF x (by simp [opnds])]
    have := hk x (by simp [opnds])
    cases hx : opv F x with
    | none => rfl
    | some v =>
      rw [hx] at this
      cases v with
      | a y =>
        cases y with
        | ref k g ver p => simp only; rw [live_cg (this k (by simp [ovKeys, V.keys, A.keys]))]
        | _ => rfl
      | _ => rfl
  | binOp op t x y z => simp only [opA]; rw [hF x (by simp [opnds]), hF y (by simp [opnds])]
  | unOp op t x => simp only [opA]; rw [hF x (by simp [opnds])]
  | convert s d x => simp only [opA]; rw [hF x (by simp [opnds])]
  | makeInterface t x => simp only [opA]; rw [hF x (by simp [opnds])]
  | makeFunc f a b => cases f <;> simp only [opA]; rw [map_cg (fun x hx => hF x (by simpa [opnds] using hx))]
  | makeSlice t a b => simp only [opA]; rw [hF a (by simp [opnds]), hF b (by simp [opnds]), nextG_cg hd0]
  | slice t x lo hi mx =>
    cases mx with
    | some _ => rfl
    | none =>
      simp only [opA, sliceF_eq]
      rw [← hF x (by simp [opnds])]
      have hs := hk x (by simp [opnds])
      cases hx : opv F x with
      | none => cases E.Γ t <;> rfl
      | some v =>
        rw [hx] at hs
        cases v with
        | a y =>
          have hs : ∀ k, k ∈ y.keys → rd k = rd' k := hs
          have h2 := fun (S : Ty) (i j : Option Int) => sliceA_cg (κ := κ) (S := S) (i := i) (j := j) hs
          have h3 : ∀ a, lo = some a → opv F a = opv F' a := fun a ha => hF a (by simp [opnds, ha])
          have h4 : ∀ a, hi = some a → opv F a = opv F' a := fun a ha => hF a (by simp [opnds, ha])
          cases E.Γ t with
          | none => rfl
          | some S =>
          cases lo with
          | none =>
            cases hi with
            | none => simp only [h2]
            | some b => have e2 := h4 b rfl; simp only [h2, e2]
          | some a =>
            have e1 := h3 a rfl
            cases hi with
            | none => simp only [h2, e1]
            | some b => have e2 := h4 b rfl; simp only [h2, e1, e2]
        | _ => cases E.Γ t <;> rfl
  | fieldAddr t x f =>
    simp only [opA]; rw [← hF x (by simp [opnds])]
    have := hk x (by simp [opnds])
    cases hx : opv F x with
    | none => cases E.Γ t <;> rfl
    | some v =>
      rw [hx] at this
      cases v with
      | a y =>
        cases y with
        | ref k g ver p =>
          cases E.Γ t with
          | none => rfl
          | some S => simp only; rw [live_cg (this k (by simp [ovKeys, V.keys, A.keys]))]
        | val T z => cases E.Γ t <;> rfl
        | _ => cases E.Γ t <;> rfl
      | _ => cases E.Γ t <;> rfl
  | field t x f => simp only [opA]; rw [hF x (by simp [opnds])]
  | indexAddr t x i =>
    simp only [opA]; rw [← hF x (by simp [opnds]), ← hF i (by simp [opnds])]
    have hs := hk x (by simp [opnds])
    cases hx : opv F x with
    | none => cases E.Γ t <;> rfl
    | some v =>
      rw [hx] at hs
      cases v with
      | a y =>
        have hs : ∀ k, k ∈ y.keys → rd k = rd' k := hs
        have h2 := fun (S : Ty) (i : Int) => indexA_cg (κ := κ) (S := S) (i := i) hs
        cases E.Γ t with
        | none => rfl
        | some S =>
          cases intOfA (opv F i) with
          | none => rfl
          | some n => exact h2 S n
      | _ => cases E.Γ t <;> rfl
  | index t x i => simp only [opA]; rw [hF x (by simp [opnds]), hF i (by simp [opnds])]
  | extract x i => simp only [opA]; rw [hF x (by simp [opnds])]
  | call c =>
    have ha : ∀ x, x ∈ c.args.toList → x ∈ opnds (.call c) := fun x hx => by simp only [opnds]; exact List.mem_append.2 (.inr hx)
    have hm := map_cg (fun x hx => hF x (ha x hx))
    have hkm : ∀ v, v ∈ c.args.toList.map (opv F) → ∀ k, k ∈ ovKeys v → rd k = rd' k := by
      intro v hv
      obtain ⟨x, hx, rfl⟩ := List.mem_map.1 hv
      exact hk x (ha x hx)
    simp only [opA]
    split
    · rename_i f hc
      have hf : f ∈ opnds (.call c) := by simp only [opnds, hc]; simp
      have hcal : calleeA (opv F) f = calleeA (opv F') f := by
        have := hF f hf
        unfold calleeA
        cases f <;> first | rfl | (simp only; rw [this])
      rw [← hcal, ← hm]
      split
      · rename_i n l hcl
        have hkl : ∀ k, k ∈ l.flatMap A.keys → rd k = rd' k := by
          unfold calleeA at hcl
          split at hcl
          · cases hcl; intro k hk; simp at hk
          · split at hcl
            · rename_i f0 l0 hv
              cases hcl
              have := hk f hf
              rw [hv] at this
              exact this
            · cases hcl
        split
        · rename_i sp hsp
          refine callG_cg (hE _ _ hsp) hd fun v hv => ?_
          rcases List.mem_append.1 hv with hv | hv
          · exact hkm v hv
          · simp only [capsV, List.mem_map] at hv
            obtain ⟨x, hx, rfl⟩ := hv
            intro k hk
            exact hkl k (List.mem_flatMap.2 ⟨x, hx, hk⟩)
        · rfl
      · rfl
    · rw [← hm]
      split
      · rename_i x h1 h2
        have := hkm (some (.a x)) (by rw [h2]; simp)
        rw [lenA_cg this]
      · rfl
    · rw [← hm]
      split
      · rename_i t t' s u h1 h2
        split
        · exact appendA_cg hd0 (hkm s (by rw [h2]; simp)) (hkm u (by rw [h2]; simp))
        · rfl
      · rfl
    · rw [← hm]
      split
      · rename_i S S' k g ver p lo n y h1 h2
        exact copyA_cg (hkm (some (.a (.lsl k g ver p lo n))) (by rw [h2]; simp) k (by simp [ovKeys, V.keys, A.keys])) (hkm (some (.a y)) (by rw [h2]; simp))
      · rfl
    all_goals first | rfl | (rw [← hm]; done)
  | _ => rfl
end
end Go.Ev
end

section
set_option linter.all false
set_option linter.unusedSimpArgs false
set_option linter.unusedVariables false
namespace Go.Ev
open Go
set_option linter.unusedVariables false
set_option linter.unusedSimpArgs false

inductive All2 {α β : Type} (p : α → β → Prop) : List α → List β → Prop where
  | nil : All2 p [] []
  | cons {a : α} {b : β} {l : List α} {m : List β} : p a b → All2 p l m → All2 p (a :: l) (b :: m)

theorem All2.length {α β : Type} {p : α → β → Prop} {l : List α} {m : List β} (h : All2 p l m) : l.length = m.length := by
  induction h with
  | nil => rfl
  | cons _ _ ih => simp [ih]

theorem All2.imp {α β : Type} {p q : α → β → Prop} {l : List α} {m : List β} (h : All2 p l m) (hi : ∀ a b, p a b → q a b) : All2 q l m := by
  induction h with
  | nil => exact .nil
  | cons h _ ih => exact .cons (hi _ _ h) ih

/-- The row that a pointer, or a slice, looks into. -/
def rowsOf : Value → List Nat
  | .pointer (some a) => [a.block]
  | .slice (some a) _ _ => [a.block]
  | _ => []

section
variable (eT : TypeId) (w : World) (J : Nat → Prop)

def CapRel : Bool × TV → Value → Prop
  | (false, y), v => ∃ cs, Cn eT w J y.T y.x cs [] ∧ v = conc y.T cs
  | (true, y), v => ∃ b o, v = .pointer (some ⟨b, o, none⟩) ∧ J b ∧ Cn eT w J y.T y.x (cellsAt w b o y.T.size) []

def ArgRel : Arg → Value → Prop
  | .v T x, v => ∃ cs, Cn eT w J T x cs [] ∧ v = conc T cs
  | .p T x, v => T.pure = true ∧ ∃ b, v = .pointer (some ⟨b, 0, none⟩) ∧ ownB w b T.size ∧ Cn eT w J T x (cellsAt w b 0 T.size) []
  | .pin T x, v => ∃ b o, v = .pointer (some ⟨b, o, none⟩) ∧ J b ∧ Cn eT w J T x (cellsAt w b o T.size) []
  | .s E l, v => E.pure = true ∧ Cn eT w J (.own E) l [v] (rowsOf v)
  | .clo f l, v => ∃ vs : List Value, v = .func (.func f) #[] vs.toArray ∧ All2 (CapRel eT w J) l vs
end

def wrRows : Arg → Value → List Nat
  | .p _ _, v => rowsOf v
  | .s _ _, v => rowsOf v
  | _, _ => []

def wrAll : List Arg → List Value → List Nat
  | a :: as, v :: vs => wrRows a v ++ wrAll as vs
  | _, _ => []

/-- The arguments that may be written. -/
def wrArgs : List Arg → List Value → List (Arg × Value)
  | a :: as, v :: vs => (match a with | .p _ _ => [(a, v)] | .s _ _ => [(a, v)] | _ => []) ++ wrArgs as vs
  | _, _ => []

section
variable (eT : TypeId) (w : World) (J : Nat → Prop)

/-- What an argument that may be written holds behind the call. -/
def UpdRel : Arg × Value → TV → Prop
  | (.p T _, v), y => y.T.era = T.era ∧ y.T.pure = true ∧ ∃ b, v = .pointer (some ⟨b, 0, none⟩) ∧ ownB w b y.T.size ∧ Cn eT w J y.T y.x (cellsAt w b 0 y.T.size) []
  | (.s E l, v), y => ∃ l' : List E.den, y = ⟨.own E, l'⟩ ∧ l'.length = l.length ∧ Cn eT w J (.own E) l' [v] (rowsOf v)
  | _, _ => False

/-- A result, and the rows that come with it. -/
def ResRel : TV → Value → List Nat → Prop
  | ⟨.own E, l⟩, v, fs => Cn eT w J (.own E) l [v] fs
  | ⟨T, x⟩, v, fs => T.pure = true ∧ fs = [] ∧ ∃ cs, Cn eT w J T x cs [] ∧ v = conc T cs

inductive ResAll : List TV → List Value → List (List Nat) → Prop where
  | nil : ResAll [] [] []
  | cons {y : TV} {v : Value} {fs : List Nat} {ys : List TV} {vs : List Value} {fss : List (List Nat)} : ResRel eT w J y v fs → ResAll ys vs fss → ResAll (y :: ys) (v :: vs) (fs :: fss)
end

def tupleOf : List Value → Value
  | [v] => v
  | vs => .tuple vs.toArray

/-- What holds behind a call. -/
structure Post (eT : TypeId) (w : World) (J : Nat → Prop) (args : List Arg) (vs : List Value) (w' : World) (v : Value) (res upd : List TV) : Prop where
  os : w'.os = w.os
  tape : w'.tape = w.tape
  output : w'.output = w.output
  size : w.heap.size ≤ w'.heap.size
  block : ∀ b, b < w.heap.size → b ∉ wrAll args vs → w'.heap[b]? = w.heap[b]?
  out : ∃ (J' : Nat → Prop) (rs : List Value) (fss : List (List Nat)), (∀ b, J b → J' b) ∧ (∀ b, J' b → b < w'.heap.size ∧ (J b ∨ w.heap.size ≤ b)) ∧
    All2 (UpdRel eT w' J') (wrArgs args vs) upd ∧ v = tupleOf rs ∧ ResAll eT w' J' res rs fss ∧ fss.flatten.Nodup ∧ ∀ b, b ∈ fss.flatten → ¬ J' b ∧ b < w'.heap.size ∧ w.heap.size ≤ b

/-- A call: of a function with a body, or of one without. -/
def Enters (P : Program) (f : FuncId) (args : Array Value) (w : World) (Q : Value → World → Prop) : Prop :=
  ((callFunc f args).run P w = .ok (.enter f args) w ∧ Calls P f args w fun e w' => ∃ v, e = .returned v ∧ Q v w') ∨
    ∃ v w', (callFunc f args).run P w = .ok (.value v) w' ∧ Q v w'

theorem Enters.mono {P : Program} {f : FuncId} {args : Array Value} {w : World} {Q Q' : Value → World → Prop} (h : Enters P f args w Q) (hq : ∀ v w', Q v w' → Q' v w') : Enters P f args w Q' := by
  rcases h with ⟨h1, h2⟩ | ⟨v, w', h1, h2⟩
  · exact .inl ⟨h1, Calls.mono h2 fun e w' ⟨v, he, hv⟩ => ⟨v, he, hq v w' hv⟩⟩
  · exact .inr ⟨v, w', h1, hq v w' h2⟩

/-- A row that stands as it was laid, and that nobody writes. -/
def Held (hd : Option (Nat × Value)) (w : World) (J : Nat → Prop) : Prop := ∀ b o, hd = some (b, o) → J b ∧ w.cell? ⟨b, 0, none⟩ = some o

theorem Held.now {hd : Option (Nat × Value)} {eT : TypeId} {G : Gh} {M : Nat → Option Root} {w : World} {J : Nat → Prop} {anc : Nat → Pl} {fp : Nat → List Nat} (h : Held hd G.w0 G.J0) (m : MOk eT G M w J anc fp) : Held hd w J := by
  intro b o hb
  obtain ⟨h1, h2⟩ := h b o hb
  have hj := m.j0 b h1
  refine ⟨hj, ?_⟩
  have hlt : b < G.w0.heap.size := by
    rcases Nat.lt_or_ge b G.w0.heap.size with hb | hb
    · exact hb
    · simp [World.cell?, Array.getElem?_eq_none hb] at h2
  unfold World.cell? at h2 ⊢
  rw [m.block b hlt (m.jw b hj)]
  exact h2

/-- What is known of a function holds of it. -/
def Contract (P : Program) (eT : TypeId) (hd : Option (Nat × Value)) (f : FuncId) (sp : Sp) : Prop :=
  ∀ (args : List Arg) (res upd : List TV), (sp.run args fun a b => some (a, b)) = some (res, upd) → ∀ (w : World) (J : Nat → Prop) (vs : List Value), Held hd w J → All2 (ArgRel eT w J) args vs → (wrAll args vs).Nodup →
    (∀ b, b ∈ wrAll args vs → ¬ J b ∧ b < w.heap.size) → (∀ b, J b → b < w.heap.size) → Enters P f vs.toArray w fun v w' => Post eT w J args vs w' v res upd

section
variable {eT : TypeId} {G : Gh} {M : Nat → Option Root} {w : World} {J : Nat → Prop} {anc : Nat → Pl} {fp : Nat → List Nat} {P : Program} {R : Type}

/-- The rows that are looked at while a callee runs. -/
def lookJ (J : Nat → Prop) (fp : Nat → List Nat) (ks : List Nat) : Nat → Prop := fun b => J b ∨ ∃ k, k ∈ ks ∧ b ∈ fp k

theorem Cn_J {J' : Nat → Prop} (hJ : ∀ b, J b → J' b) {T : Ty} {x : T.den} {cs : List Value} {fs : List Nat} (h : Cn eT w J T x cs fs) : Cn eT w J' T x cs fs :=
  Cn_congr (fun b hb => ⟨hJ b hb, rfl⟩) (fun _ _ => rfl) h

theorem imm_size (T : Ty) : T.imm.size = T.size := Ty.size_imm T

theorem conc_imm (T : Ty) (cs : List Value) : conc T.imm cs = conc T cs := by unfold conc; rw [Ty.agg_imm]

/-- A value, as one that nobody writes meanwhile. -/
theorem snap_ok (h : MOk eT G M w J anc fp) {x : A} {val : Value} (hv : ARel eT w J M anc x val) {y : TV} {ks : List Nat} (hs : snap M x = some (y, ks)) :
    (∀ k, k ∈ ks → ∃ r, M k = some r) ∧ ∀ J', (∀ b, J b → J' b) → (∀ k, k ∈ ks → ∀ b, b ∈ fp k → J' b) → ∃ cs, Cn eT w J' y.T y.x cs [] ∧ val = conc y.T cs := by
  unfold snap at hs
  split at hs
  · split at hs
    · cases hs
      obtain ⟨cs, h1, h2⟩ := hv
      exact ⟨fun k hk => by simp at hk, fun J' hJ _ => ⟨cs, Cn_J hJ h1, h2⟩⟩
    · cases hs
  · rename_i k g ver p
    split at hs
    · rename_i r hl
      split at hs
      · rename_i E l hgp
        split at hs
        · rename_i hp
          cases hs
          obtain ⟨hk, _, _, a, cap, f, rfl, hcn, hf, _⟩ := hdr_at h hv hl hgp
          refine ⟨fun k' hk' => by simp at hk'; subst hk'; exact ⟨r, hk⟩, fun J' hJ hks => ⟨[.slice a l.length cap], ?_, rfl⟩⟩
          exact Cn_toImm (T := .own E) (fun b hb => hJ b hb) (by simp) (fun b hb => hks k (by simp) b (hf b hb)) hcn (by simp only [Ty.imm, Ty.pure]; exact hp)
        · cases hs
      · cases hs
    · cases hs
  · rename_i k g ver p lo n
    split at hs
    · rename_i r hl
      split at hs
      · rename_i E l hel
        split at hs
        · rename_i hp
          cases hs
          obtain ⟨hk, _, a, cap, rfl, hcap, hn, hall⟩ := lsl_elems h hv hl hel
          refine ⟨fun k' hk' => by simp at hk'; subst hk'; exact ⟨r, hk⟩, fun J' hJ hks => ?_⟩
          have hlen : List.length (Ty.toImm (.own E) ((l.drop lo).take n)) = ((l.drop lo).take n).length := cast_length E.den_imm.symm _
          refine ⟨[.slice a n cap], ?_, rfl⟩
          simp only [Ty.imm, Cn]
          refine ⟨by trivial, a, cap, by rw [hlen, hn], by rw [hlen, hn]; exact hcap, fun i hi => ?_⟩
          have hi' : i < ((l.drop lo).take n).length := by rw [← hlen]; exact hi
          obtain ⟨b, o, f, hab, hcn, hb, hf⟩ := hall i hi'
          refine ⟨b, o, hab, hks k (by simp) b hb, ?_⟩
          rw [E.size_imm]
          rw [show List.get (Ty.toImm (.own E) ((l.drop lo).take n)) ⟨i, hi⟩ = E.toImm (List.get ((l.drop lo).take n) ⟨i, hi'⟩) from cast_get E.den_imm.symm _ i _ hi']
          exact Cn_toImm (fun b hb => hJ b hb) (by rintro rfl; simp [Ty.imm, Ty.pure] at hp) (fun b hb => hks k (by simp) b (hf b hb)) hcn hp
        · cases hs
      · cases hs
    · cases hs
  · rename_i k g wr p
    split at hs
    · rename_i r hl
      simp only at hs
      split at hs
      · rename_i hp
        cases hs
        obtain ⟨h1, h2, h3⟩ := liveV_some hl
        obtain ⟨r', g1, g2, g3⟩ := hv
        rw [h1] at g1; cases g1
        obtain ⟨g4, g5⟩ := g3 h2
        obtain ⟨hok, b, o, ha, rfl⟩ := g5 h3
        obtain ⟨f, hcn, hf, hb, _⟩ := at_place h h1 hok ha
        refine ⟨fun k' hk' => by simp at hk'; subst hk'; exact ⟨r, h1⟩, fun J' hJ hks => ⟨_, Cn_toImm (fun b hb => hJ b hb) (by intro e; rw [e] at hp; simp [Ty.imm, Ty.pure] at hp) (fun b hb => hks k (by simp) b (hf b hb)) hcn hp, ?_⟩⟩
        rw [conc_imm, getP_T]
      · cases hs
    · cases hs
  · cases hs
end
end Go.Ev
end

section
set_option linter.all false
set_option linter.unusedSimpArgs false
set_option linter.unusedVariables false
namespace Go.Ev
open Go
set_option linter.unusedVariables false
set_option linter.unusedSimpArgs false
section
variable {E : Env} {eT : TypeId} {G : Gh} {M : Nat → Option Root} {w : World} {J : Nat → Prop} {anc : Nat → Pl} {fp : Nat → List Nat} {P : Program} {R : Type} {dk : Nat} {κ : Option V → List (Nat × Root) → Option R} {r : R} {F : Nat → Option V} {ρ : Operand → Value} {o : Oper}

theorem setCells_same_as (b : Nat) : ∀ (vs : List Value) (o : Nat) (w : World), w.setCells b o vs = setCells w b o vs := by
  intro vs
  induction vs with
  | nil => intro o w; rfl
  | cons v vs ih => intro o w; simp only [World.setCells, setCells]; exact ih _ _

theorem setCells_append (b : Nat) : ∀ (xs ys : List Value) (o : Nat) (w : World), setCells w b o (xs ++ ys) = setCells (setCells w b o xs) b (o + xs.length) ys := by
  intro xs
  induction xs with
  | nil => intro ys o w; rfl
  | cons x xs ih => intro ys o w; simp only [List.cons_append, setCells]; rw [ih]; simp only [List.length_cons]; rw [show o + 1 + xs.length = o + (xs.length + 1) by omega]

theorem setCells_id (b : Nat) : ∀ (vs : List Value) (o : Nat) (w : World), (∀ j v, vs[j]? = some v → w.cell? ⟨b, o + j, none⟩ = some v) → setCells w b o vs = w := by
  intro vs
  induction vs with
  | nil => intro o w _; rfl
  | cons v vs ih =>
    intro o w h
    simp only [setCells]
    rw [setCell_id w b o v (h 0 v rfl)]
    exact ih (o + 1) w fun j u hu => by have := h (j + 1) u (by simpa using hu); rw [show o + 1 + j = o + (j + 1) by omega]; exact this

theorem okP_left (p q : Path) : ∀ (T : Ty) (x : T.den), okP T x (p ++ q) → okP T x p ∧ okP (getP T x p).T (getP T x p).x q := by
  induction p with
  | nil => intro T x h; rw [getP_nil]; exact ⟨okP_nil _ _, h⟩
  | cons s p ih =>
    intro T x h
    cases T <;> cases s <;> simp only [List.cons_append, okP, getP] at h ⊢ <;> first | exact ih _ _ h | exact ⟨⟨h.1, (ih _ _ h.2).1⟩, (ih _ _ h.2).2⟩

/-- The cells of numbers. -/
def intCells (k : IntKind) (l : List Int) : List Value := l.map (.int k)

theorem Cn_ints {k : IntKind} {n : Nat} {l : List Int} {cs : List Value} {fs : List Nat} (h : Cn eT w J (.arr n (.int k)) l cs fs) : cs = intCells k l ∧ fs = [] ∧ l.length = n := by
  have hfs : fs = [] := Cn_pure (T := .arr n (.int k)) rfl h
  simp only [Cn] at h
  obtain ⟨h1, h2, fss, h3, h4, h5⟩ := h
  refine ⟨?_, hfs, h1⟩
  refine List.ext_getElem? fun i => ?_
  unfold intCells
  simp only [Ty.size, Nat.mul_one] at h2 h5
  have h1 : List.length l = n := h1
  rw [List.getElem?_map]
  by_cases hi : i < List.length l
  · have := (h5 i hi).1
    rw [List.getElem?_eq_getElem hi, Option.map_some]
    have e : (List.take 1 (List.drop i cs))[0]? = some (Value.int k (List.get l ⟨i, hi⟩)) := by rw [this]; rfl
    simp only [List.getElem?_take, List.getElem?_drop, Nat.add_zero, Nat.zero_lt_one, if_true] at e
    exact e
  · rw [List.getElem?_eq_none (by omega), List.getElem?_eq_none (by omega)]; rfl

theorem Cn_ints_mk {k : IntKind} {n : Nat} {l : List Int} (hl : l.length = n) : Cn eT w J (.arr n (.int k)) l (intCells k l) [] := by
  simp only [Cn]
  refine ⟨hl, by simp [intCells, Ty.size, hl], List.replicate n [], by simp, by simp, fun i hi => ?_⟩
  have hi' : i < l.length := hi
  refine ⟨?_, ?_⟩
  · simp only [Ty.size, Nat.mul_one]
    refine List.ext_getElem? fun j => ?_
    simp only [List.getElem?_take, List.getElem?_drop, intCells, List.getElem?_map]
    cases j with
    | zero => simp [hi']
    | succ j => simp
  · simp only [List.getD_eq_getElem?_getD, List.getElem?_replicate]; split <;> rfl

theorem copy_ok (h : MOk eT G M w J anc fp) {dT sT ty d : TypeId} {S : Ty} {q : Nat} (hu : P.underlying dT = some (.slice d)) (hd : tyOk P q d S = true) {k g ver : Nat} {p : Path} {lo n : Nat} {y : A} {vd vs : Value} (hvd : ARel eT w J M anc (.lsl k g ver p lo n) vd)
    (hvs : ARel eT w J M anc y vs) (hr : copyA M κ S k g ver p lo n y = some r) :
    ∃ v us val w', κ v us = some r ∧ After eT G M w J anc v us val w' ∧ (Builtin.copy_ #[dT, sT] ty #[vd, vs]).run P w = .ok val w' := by
  unfold copyA at hr
  split at hr
  · rename_i r0 K' m ks hl hsn
    split at hr
    · rename_i N K l hgp
      split at hr
      · rename_i hc
        simp only [Bool.and_eq_true, Bool.not_eq_true', decide_eq_true_eq] at hc
        obtain ⟨⟨⟨hvec, hks⟩, hKK⟩, hS⟩ := hc
        subst hKK hS
        obtain ⟨hb, hr⟩ := bif_some hr
        simp only [Bool.and_eq_true, decide_eq_true_eq] at hb
        obtain ⟨hn0, hm0⟩ := hb
        have hm0 : 0 < List.length m := hm0
        split at hr
        · rename_i z hz
          -- where it lies
          obtain ⟨l1, l2, l3⟩ := live_some hl
          obtain ⟨r1, v1, v2, v3⟩ := hvd
          rw [l1] at v1; cases v1
          obtain ⟨_, v5⟩ := v3 l2
          obtain ⟨a, cap, rfl, hcap, hok, hadr⟩ := v5 l3
          obtain ⟨b1, o1, hadr1, rfl⟩ := hadr hn0
          have hpok : okP r0.T r0.x p := (okP_left p _ _ _ (hok 0 hn0)).1
          have hlen : ∀ j, j < n → lo + j < List.length l := by
            intro j hj
            have := (okP_left p _ _ _ (hok j hj)).2
            rw [hgp] at this
            exact this.1
          have hpath : pathOk r0 p := fun hv => by rw [hvec] at hv; cases hv
          obtain ⟨fs', b0, o0, ll, f, rr, hfp, hcn, L, hbm⟩ := rootLens (h.roots k r0 l1) (h.nodup k r0 l1) hpok hpath
          have hty : typeAt r0.T p = .arr N (.int K) := by rw [← getP_T p r0.T r0.x, hgp]
          have hg := L.get
          rw [hgp] at hg
          obtain ⟨hcs, hf, hlN⟩ := Cn_ints hg
          have ho1 : b1 = b0 ∧ o1 = o0 + lo := by
            rw [Adr_append w p _ _ _ _ _ L.adr, hty] at hadr1
            simp only [Adr, Ty.size, Nat.mul_one, Option.some.injEq, Prod.mk.injEq] at hadr1
            exact ⟨hadr1.1.symm, hadr1.2.symm⟩
          obtain ⟨rfl, rfl⟩ := ho1
          -- what is laid there
          have hcell : ∀ i (hi : i < List.length l), w.cell? ⟨b1, o0 + i, none⟩ = some (.int K (List.get l ⟨i, hi⟩)) := by
            intro i hi
            refine cell_cellsAt (n := N) ?_
            have e : (Ty.arr N (Ty.int K)).size = N := by simp [Ty.size]
            rw [e] at hcs
            rw [hcs]
            simp [intCells, hi]
          let new : List Int := List.take lo l ++ (List.take n m ++ List.drop (lo + (List.take n m).length) l)
          have hc : (List.take n m).length ≤ n := List.length_take_le _ _
          have hnlo : lo + n ≤ List.length l := by
            have := hlen (n - 1) (by omega); omega
          have hnewlen : new.length = N := by
            simp only [new, List.length_append, List.length_take, List.length_drop]
            have hlN : List.length l = N := hlN
            have hc : min n (List.length m) ≤ n := Nat.min_le_left _ _
            omega
          obtain ⟨b2, o2, hadr2, hown, hvl, m1, k1⟩ := h.write l1 hpok hpath (n := ⟨.arr N (.int K), new⟩) (y := z) (vs := intCells K new) (by rw [hty]; rfl) rfl (by rw [hty]) hz (Cn_ints_mk hnewlen)
          have hbo : b2 = b1 ∧ o2 = o0 := by rw [L.adr] at hadr2; cases hadr2; exact ⟨rfl, rfl⟩
          obtain ⟨rfl, rfl⟩ := hbo
          have hset : setCells w b2 o2 (intCells K new) = setCells w b2 (o2 + lo) (intCells K (List.take n m)) := by
            simp only [new, intCells, List.map_append]
            rw [setCells_append, setCells_append]
            have hl0 : (List.map (Value.int K) (List.take lo l)).length = lo := by simp; omega
            rw [hl0, setCells_id b2 (List.map (Value.int K) (List.take lo l)) o2 w ?_]
            · refine setCells_id _ _ _ _ fun j v hv => ?_
              simp only [List.getElem?_map, List.getElem?_drop, Option.map_eq_some_iff] at hv
              obtain ⟨x, hx, rfl⟩ := hv
              obtain ⟨hx1, hx2⟩ := List.getElem?_eq_some_iff.1 hx
              rw [← setCells_same_as, World.cell?_setCells_out _ _ _ _ _ (fun _ _ => .inr (by simp))]
              have := hcell (lo + (List.take n m).length + j) hx1
              simp only [List.length_map] at this ⊢
              rw [show o2 + lo + (List.take n m).length + j = o2 + (lo + (List.take n m).length + j) by omega, this]
              simp only [List.get_eq_getElem, hx2]
            · intro j v hv
              simp only [List.getElem?_map, List.getElem?_take, Option.map_eq_some_iff] at hv
              obtain ⟨x, hx, rfl⟩ := hv
              split at hx
              · obtain ⟨hx1, hx2⟩ := List.getElem?_eq_some_iff.1 hx
                rw [hcell j hx1]; simp only [List.get_eq_getElem, hx2]
              · cases hx
          -- what is read
          obtain ⟨s1, s2⟩ := snap_ok h hvs hsn
          obtain ⟨cs, hcs2, hval⟩ := s2 (lookJ J fp ks) (fun b hb => .inl hb) (fun k hk b hb => .inr ⟨k, hk, hb⟩)
          simp only [Cn] at hcs2
          obtain ⟨_, a2, cap2, rfl, hcap2, hel⟩ := hcs2
          have hval : vs = .slice a2 m.length cap2 := by rw [hval]; rfl
          subst hval
          obtain ⟨b3, o3, rfl, _, _⟩ := hel 0 hm0
          have hsz : (P.info? d).map (·.size) = some 1 := by
            obtain ⟨i, hi, hs, _⟩ := (tyOk_F hd).info
            rw [hi]; simp only [Option.map_some, hs]; rfl
          have hrun := run_copy_cells (P := P) w dT sT ty d b2 (o2 + lo) n cap ⟨b3, o3, none⟩ m.length cap2 (intCells K (List.take n m)) hu hsz (by simp [intCells, Nat.min_comm]) (fun j v hv => by
              simp only [intCells, List.getElem?_map, List.getElem?_take, Option.map_eq_some_iff] at hv
              obtain ⟨x, hx, rfl⟩ := hv
              split at hx
              · obtain ⟨hx1, hx2⟩ := List.getElem?_eq_some_iff.1 hx
                obtain ⟨b4, o4, e4, _, hc4⟩ := hel j hx1
                cases e4
                simp only [Ty.size, Nat.mul_one] at hc4
                have := cell_of_cellsAt hc4.1
                rw [add_at, this]
                simp only [List.get_eq_getElem, hx2]
              · cases hx) (fun j hj => by
              have hj' : j < (List.take n m).length := by simpa [intCells] using hj
              rw [Nat.add_assoc, hcell (lo + j) (hlen j (by omega))]; rfl) (fun j hj => by
              obtain ⟨c, e, h1, _⟩ := hown
              unfold World.frozen?; simp [h1]) (fun v hv => by
              simp only [intCells, List.mem_map] at hv
              obtain ⟨x, _, rfl⟩ := hv; rfl)
          rw [setCells_same_as, ← hset] at hrun
          refine ⟨_, _, _, _, hr, ⟨J, anc, fp, m1, k1, fun x hx => ?_⟩, hrun⟩
          cases hx
          have : (intCells K (List.take n m)).length = (List.take n m).length := by simp [intCells]
          rw [this]
          exact vrel_int
        · cases hr
      · cases hr
    · cases hr
  · cases hr
end
end Go.Ev
end

section
set_option linter.all false
set_option linter.unusedSimpArgs false
set_option linter.unusedVariables false
namespace Go.Ev
open Go
section
variable {E : Env} {G : Gh} {M : Nat → Option Root} {w : World} {J : Nat → Prop} {anc : Nat → Pl} {fp : Nat → List Nat} {R : Type} {dk : Nat} {κ : Option V → List (Nat × Root) → Option R} {r : R} {F : Nat → Option V} {ρ : Operand → Value} {o : Oper}

/-- A call of a builtin. -/
theorem op_builtin (hE : EnvTy E) (h : MOk E.eT G M w J anc fp) (hev : ∀ x v, opv F x = some v → VRel E.eT w J M anc v (ρ x)) {c : Call} (ho : o.op = .call c) {b : Builtin} (hc : c.callee = .builtin b) (hr : opA E M dk κ F (.call c) = some r) : OpRes E.P E.eT G M w J anc ρ o κ r := by
  have hmap : ∀ l : List Operand, c.args.toList = l → c.args.map ρ = (l.map ρ).toArray := by rintro l rfl; exact Array.ext' (by simp)
  have one : ∀ x : Option V, c.args.toList.map (opv F) = [x] → ∃ a, c.args.map ρ = #[ρ a] ∧ opv F a = x := by
    intro x hx
    match hl : c.args.toList with
    | [a] => rw [hl] at hx; exact ⟨a, hmap _ hl, by simpa using hx⟩
    | [] => rw [hl] at hx; simp at hx
    | _ :: _ :: _ => rw [hl] at hx; simp at hx
  have two : ∀ x y : Option V, c.args.toList.map (opv F) = [x, y] → ∃ a b, c.args.map ρ = #[ρ a, ρ b] ∧ opv F a = x ∧ opv F b = y := by
    intro x y hx
    match hl : c.args.toList with
    | [a, b] => rw [hl] at hx; simp at hx; exact ⟨a, b, hmap _ hl, hx.1, hx.2⟩
    | [] => rw [hl] at hx; simp at hx
    | [_] => rw [hl] at hx; simp at hx
    | _ :: _ :: _ :: _ => rw [hl] at hx; simp at hx
  have three : ∀ x y z : Option V, c.args.toList.map (opv F) = [x, y, z] → ∃ a b d, c.args.map ρ = #[ρ a, ρ b, ρ d] ∧ opv F a = x ∧ opv F b = y ∧ opv F d = z := by
    intro x y z hx
    match hl : c.args.toList with
    | [a, b, d] => rw [hl] at hx; simp at hx; exact ⟨a, b, d, hmap _ hl, hx.1, hx.2.1, hx.2.2⟩
    | [] => rw [hl] at hx; simp at hx
    | [_] => rw [hl] at hx; simp at hx
    | [_, _] => rw [hl] at hx; simp at hx
    | _ :: _ :: _ :: _ :: _ => rw [hl] at hx; simp at hx
  simp only [opA, hc] at hr
  cases b <;> simp only [reduceCtorEq] at hr
  case append =>
    split at hr
    · rename_i t t' s u hat hargs
      split at hr
      · rename_i S S' by_ hS hS' hby
        obtain ⟨a, b, h1, rfl, rfl⟩ := two _ _ hargs
        exact op_append hE h ho hc hat hS hS' hby h1 (fun v hv => hev a v hv) (fun v hv => hev b v hv) hr
      · cases hr
    · cases hr
  case len =>
    split at hr
    · rename_i S x hat hargs
      split at hr
      · rename_i n hn
        obtain ⟨a, h1, h2⟩ := one _ hargs
        obtain ⟨t, htl, ht⟩ : ∃ t, c.argTypes = #[t] ∧ E.Γ t = some (.slice S) := by
          match hl : c.argTypes.toList with
          | [t] => rw [hl] at hat; simp at hat; exact ⟨t, by rw [← Array.toList_inj, hl], hat⟩
          | [] => rw [hl] at hat; simp at hat
          | _ :: _ :: _ => rw [hl] at hat; simp at hat
        obtain ⟨_, q, hty⟩ := hE.ty t _ ht
        obtain ⟨d, e, hut, _⟩ := tyOk_selem hty
        have hv : ARel E.eT w J M anc x (ρ a) := hev _ _ h2
        have hval : ∃ a' cap, ρ a = .slice a' n cap := by
          unfold lenA at hn
          split at hn
          · cases hn
            exact ⟨none, 0, arel_nil.1 hv⟩
          · cases hn
            obtain ⟨a', cap, h3, _⟩ := arel_slice hv
            exact ⟨a', cap, h3⟩
          · split at hn
            · rename_i r0 hl
              split at hn
              · rename_i T l hgp
                cases hn
                obtain ⟨_, _, _, a', cap, f, h3, _⟩ := hdr_at h hv hl hgp
                exact ⟨a', cap, h3⟩
              · cases hn
            · cases hn
          · split at hn
            · rename_i r0 hl
              cases hn
              obtain ⟨h1, h2, h3⟩ := live_some hl
              obtain ⟨r', g1, g2, g3⟩ := hv
              rw [h1] at g1; cases g1
              obtain ⟨g4, g5⟩ := g3 h2
              obtain ⟨a', cap, h5, _⟩ := g5 h3
              exact ⟨a', cap, h5⟩
            · cases hn
          · cases hn
        obtain ⟨a', cap, hval⟩ := hval
        refine .quiet h hr (fun z hz => by cases hz; exact vrel_int) ?_
        rw [run_builtin E.P ho hc, h1, htl]
        simp [builtin, Builtin.len_, run_underlying hut, hval, goInt]
      · cases hr
    · cases hr
  case copy =>
    split at hr
    · rename_i S S' k g ver p lo n y hat hargs
      obtain ⟨a, b, h1, ha, hb⟩ := two _ _ hargs
      obtain ⟨t, t', htl, ht⟩ : ∃ t t', c.argTypes = #[t, t'] ∧ E.Γ t = some (.slice S) := by
        match hl : c.argTypes.toList with
        | [t, t'] => rw [hl] at hat; simp at hat; exact ⟨t, t', by rw [← Array.toList_inj, hl], hat.1⟩
        | [] => rw [hl] at hat; simp at hat
        | [_] => rw [hl] at hat; simp at hat
        | _ :: _ :: _ :: _ => rw [hl] at hat; simp at hat
      obtain ⟨_, q, hty⟩ := hE.ty t _ ht
      obtain ⟨d, e, hut, hde, _⟩ := tyOk_selem hty
      obtain ⟨v, us, val, w', g1, g2, g3⟩ := copy_ok (P := E.P) (dT := t) (sT := t') (ty := o.type) h hut hde (hev _ _ ha) (hev _ _ hb) hr
      refine ⟨v, us, val, w', g1, g2, .inl ?_⟩
      rw [run_builtin E.P ho hc, h1, htl]
      simp only [builtin, Sem.run_bind, g3, Result.andThen_ok, Sem.run_pure]
    · cases hr
  case max =>
    split at hr
    · rename_i k a k' b hargs
      obtain ⟨x, y, h1, hx, hy⟩ := two _ _ hargs
      refine .quiet h hr (fun z hz => by cases hz; exact vrel_int) ?_
      rw [run_builtin E.P ho hc, h1, vrel_int' (hev _ _ hx), vrel_int' (hev _ _ hy)]
      simp [builtin, Builtin.max_, Builtin.max2, Bool.cond_decide]
    · rename_i k a k' b k'' d hargs
      obtain ⟨x, y, z, h1, hx, hy, hz⟩ := three _ _ _ hargs
      refine .quiet h hr (fun z hz => by cases hz; exact vrel_int) ?_
      rw [run_builtin E.P ho hc, h1, vrel_int' (hev _ _ hx), vrel_int' (hev _ _ hy), vrel_int' (hev _ _ hz)]
      simp [builtin, Builtin.max_, Builtin.max2, Bool.cond_decide]
    · cases hr
  case min =>
    split at hr
    · rename_i k a k' b hargs
      obtain ⟨x, y, h1, hx, hy⟩ := two _ _ hargs
      refine .quiet h hr (fun z hz => by cases hz; exact vrel_int) ?_
      rw [run_builtin E.P ho hc, h1, vrel_int' (hev _ _ hx), vrel_int' (hev _ _ hy)]
      simp [builtin, Builtin.min_, Builtin.min2, Bool.cond_decide]
    · cases hr
end
end Go.Ev
end

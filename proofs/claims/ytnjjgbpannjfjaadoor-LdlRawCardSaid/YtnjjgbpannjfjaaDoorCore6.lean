/- A part of the proof of the claim: Core6. -/
import Derived.Test.YtnjjgbpannjfjaaDoorCore5
section
set_option linter.all false
set_option linter.unusedSimpArgs false
set_option linter.unusedVariables false
namespace Go.Ev
open Go
set_option linter.unusedVariables false
set_option linter.unusedSimpArgs false
section
variable {eT : TypeId} {G : Gh} {M : Nat → Option Root} {w : World} {J : Nat → Prop} {anc : Nat → Pl} {fp : Nat → List Nat} {P : Program} {R : Type}

theorem snapPin_ok (h : MOk eT G M w J anc fp) {x : A} {val : Value} (hv : ARel eT w J M anc x val) {y : TV} {ks : List Nat} (hs : snapPin M x = some (y, ks)) :
    (∀ k, k ∈ ks → ∃ r, M k = some r) ∧ ∀ J' : Nat → Prop, (∀ b, J b → J' b) → (∀ k, k ∈ ks → ∀ b, b ∈ fp k → J' b) → ∃ b o, val = .pointer (some ⟨b, o, none⟩) ∧ J' b ∧ Cn eT w J' y.T y.x (cellsAt w b o y.T.size) [] := by
  unfold snapPin at hs
  split at hs
  · cases hs
    obtain ⟨b, o, h1, h2, h3⟩ := hv
    exact ⟨fun k hk => by simp at hk, fun J' hJ _ => ⟨b, o, h1, hJ b h2, Cn_J hJ h3⟩⟩
  · rename_i k g ver p
    split at hs
    · rename_i r hl
      simp only at hs
      split at hs
      · rename_i hp
        cases hs
        obtain ⟨hk, _, hok, b, o, ha, rfl⟩ := ref_live (eT := eT) (J := J) hv hl
        obtain ⟨f, hcn, hf, hb, _⟩ := at_place h hk hok ha
        refine ⟨fun k' hk' => by simp at hk'; subst hk'; exact ⟨r, hk⟩, fun J' hJ hks => ⟨b, o, rfl, hks k (by simp) b hb, ?_⟩⟩
        have := Cn_toImm (fun b hb => hJ b hb) (by intro e; rw [e] at hp; simp [Ty.imm, Ty.pure] at hp) (fun b hb => hks k (by simp) b (hf b hb)) hcn hp
        simp only [Ty.size_imm]; exact this
      · cases hs
    · cases hs
  · cases hs

theorem capOf_ok (h : MOk eT G M w J anc fp) : ∀ {l : List A} {vs : List Value} {cs : List (Bool × TV)} {ks : List Nat}, AsRel eT w J M anc l vs → capOf M l = some (cs, ks) →
    (∀ k, k ∈ ks → ∃ r, M k = some r) ∧ ∀ J' : Nat → Prop, (∀ b, J b → J' b) → (∀ k, k ∈ ks → ∀ b, b ∈ fp k → J' b) → All2 (CapRel eT w J') cs vs := by
  intro l
  induction l with
  | nil =>
    intro vs cs ks ha hc
    simp only [capOf] at hc; cases hc
    have : vs = [] := List.eq_nil_of_length_eq_zero (by simpa using ha.1)
    subst this
    exact ⟨fun k hk => by simp at hk, fun _ _ _ => .nil⟩
  | cons x l ih =>
    intro vs cs ks ha hc
    cases vs with
    | nil => simp [AsRel] at ha
    | cons v vs =>
      have hx : ARel eT w J M anc x v := ha.2 0 (by simp)
      have hl : AsRel eT w J M anc l vs := ⟨by simpa using ha.1, fun i hi => by have := ha.2 (i + 1) (by simpa using hi); simpa using this⟩
      simp only [capOf] at hc
      split at hc
      · rename_i T y r ks' hr
        split at hc
        · cases hc
          obtain ⟨h1, h2⟩ := ih hl hr
          refine ⟨h1, fun J' hJ hks => .cons ?_ (h2 J' hJ hks)⟩
          obtain ⟨cs, h3, h4⟩ := hx
          exact ⟨cs, Cn_J hJ h3, h4⟩
        · cases hc
      · rename_i x r ks' hne hr
        split at hc
        · rename_i y k hs
          cases hc
          obtain ⟨h1, h2⟩ := ih hl hr
          obtain ⟨h3, h4⟩ := snapPin_ok h hx hs
          refine ⟨fun k hk => ?_, fun J' hJ hks => .cons (h4 J' hJ (fun k hk => hks k (by simp [hk]))) (h2 J' hJ (fun k hk => hks k (by simp [hk])))⟩
          rcases List.mem_append.1 hk with hk | hk
          · exact h3 k hk
          · exact h1 k hk
        · cases hc
      · cases hc

theorem Cn_rows {E : Ty} (hp : E.pure = true) {l : List E.den} {v : Value} {fs : List Nat} (h : Cn eT w J (.own E) l [v] fs) : fs = rowsOf v := by
  simp only [Cn] at h
  obtain ⟨a, cap, hcs, hcap, hor⟩ := h
  cases hcs
  rcases hor with ⟨rfl, _, rfl⟩ | ⟨b, o, fss, rfl, _, hl, rfl, hel⟩
  · rfl
  · have : fss.flatten = [] := by
      rw [List.flatten_eq_nil_iff]
      intro f hf
      obtain ⟨i, hi, rfl⟩ := List.mem_iff_getElem.1 hf
      have := Cn_pure hp (hel i (by omega))
      rw [List.getD_eq_getElem?_getD, List.getElem?_eq_getElem hi] at this
      exact this
    rw [this]; rfl

/-- An argument. -/
theorem argOf_ok (h : MOk eT G M w J anc fp) {m : Mode} {v : Option V} {val : Value} (hv : ∀ x, v = some x → VRel eT w J M anc x val) {x : ArgIn} (ha : argOf M m v = some x) :
    (∀ k, k ∈ x.look ++ x.wri → ∃ r, M k = some r) ∧ wrRows x.arg val = x.wri.flatMap fp ∧ (∀ J' : Nat → Prop, (∀ b, J b → J' b) → (∀ k, k ∈ x.look → ∀ b, b ∈ fp k → J' b) → ArgRel eT w J' x.arg val) := by
  unfold argOf at ha
  split at ha
  · split at ha
    · rename_i y ks hs
      cases ha
      obtain ⟨h1, h2⟩ := snap_ok h (hv _ rfl) hs
      exact ⟨by simpa using h1, rfl, fun J' hJ hks => h2 J' hJ hks⟩
    · cases ha
  · split at ha
    · rename_i y ks hs
      cases ha
      obtain ⟨h1, h2⟩ := snapPin_ok h (hv _ rfl) hs
      exact ⟨by simpa using h1, rfl, fun J' hJ hks => h2 J' hJ hks⟩
    · cases ha
  · rename_i k g ver
    split at ha
    · rename_i r hl
      split at ha
      · rename_i hc
        cases ha
        simp only [Bool.and_eq_true, Bool.not_eq_true'] at hc
        obtain ⟨hk, _, hok, b, o, hadr, rfl⟩ := ref_live (eT := eT) (J := J) (hv _ rfl) hl
        obtain ⟨hpl, fs', hfp, hcn⟩ := h.roots k r hk
        rcases hpl with ⟨v', _, h2, _⟩ | ⟨b', h1, _, h3⟩
        · rw [hc.1] at h2; cases h2
        · rw [h1] at hadr hcn hfp
          have e : (b', 0) = (b, o) := by cases hT : r.T <;> rw [hT] at hadr <;> simpa [Adr] using hadr
          cases e
          have := Cn_pure hc.2 hcn; subst this
          refine ⟨fun k' hk' => by simp at hk'; subst hk'; exact ⟨r, hk⟩, by simp [wrRows, rowsOf, hfp, Pl.row], fun J' hJ hks => ⟨hc.2, _, rfl, h3, Cn_J hJ hcn⟩⟩
      · cases ha
    · cases ha
  · rename_i k g ver
    split at ha
    · rename_i r hl
      split at ha
      · rename_i hvec
        split at ha
        · rename_i E l hT hx
          split at ha
          · rename_i hp
            cases ha
            obtain ⟨vec, par, g0, ver0, wr0, T, x⟩ := r
            simp only at hT hx hvec
            subst hT
            have hx' := eq_of_heq hx
            subst hx'
            obtain ⟨hk, _, _, a, cap, f, rfl, hcn, _, _, hf, _⟩ := hdr_at h (hv _ rfl) hl (getP_nil _ _)
            obtain ⟨hf, hanc⟩ := hf rfl hvec
            subst hf
            have hrows := Cn_rows hp hcn
            refine ⟨fun k' hk' => by simp at hk'; subst hk'; exact ⟨_, hk⟩, by simp [wrRows, hrows], fun J' hJ hks => ⟨hp, ?_⟩⟩
            rw [← hrows]; exact Cn_J hJ hcn
          · cases ha
        · cases ha
      · cases ha
    · cases ha
  · rename_i f l
    split at ha
    · rename_i r ks hc
      cases ha
      obtain ⟨vs, hval, hr⟩ := hv _ rfl
      obtain ⟨h1, h2⟩ := capOf_ok h hr hc
      exact ⟨by simpa using h1, rfl, fun J' hJ hks => ⟨vs, hval, h2 J' hJ hks⟩⟩
    · cases ha
  · cases ha

theorem argsOf_ok (h : MOk eT G M w J anc fp) : ∀ {ms : List Mode} {vs : List (Option V)} {vals : List Value} {args : List Arg} {ls ws : List Nat}, vals.length = vs.length →
    (∀ i, ∀ x, vs[i]? = some (some x) → VRel eT w J M anc x (vals.getD i undef)) → argsOf M ms vs = some (args, ls, ws) →
    (∀ k, k ∈ ls ++ ws → ∃ r, M k = some r) ∧ wrAll args vals = ws.flatMap fp ∧ (∀ J' : Nat → Prop, (∀ b, J b → J' b) → (∀ k, k ∈ ls → ∀ b, b ∈ fp k → J' b) → All2 (ArgRel eT w J') args vals) := by
  intro ms
  induction ms with
  | nil =>
    intro vs vals args ls ws hl hv ha
    cases vs with
    | nil =>
      simp only [argsOf] at ha; cases ha
      have : vals = [] := List.eq_nil_of_length_eq_zero (by simpa using hl)
      subst this
      exact ⟨by simp, rfl, fun _ _ _ => .nil⟩
    | cons v vs => simp [argsOf] at ha
  | cons m ms ih =>
    intro vs vals args ls ws hl hv ha
    match vs, vals, hl with
    | [], _, _ => simp [argsOf] at ha
    | v :: vs, val :: vals, hl =>
      simp only [argsOf] at ha
      split at ha
      · rename_i x as ls' ws' h1 h2
        cases ha
        obtain ⟨a1, a2, a3⟩ := argOf_ok h (val := val) (fun y hy => by have := hv 0 y (by simp [hy]); simpa using this) h1
        obtain ⟨b1, b2, b3⟩ := ih (vals := vals) (by simpa using hl) (fun i y hy => by have := hv (i + 1) y (by simpa using hy); simpa using this) h2
        refine ⟨fun k hk => ?_, ?_, fun J' hJ hks => .cons (a3 J' hJ (fun k hk => hks k (by simp [hk]))) (b3 J' hJ (fun k hk => hks k (by simp [hk])))⟩
        · simp only [List.mem_append] at hk a1 b1
          rcases hk with (hk | hk) | (hk | hk)
          · exact a1 k (.inl hk)
          · exact b1 k (.inl hk)
          · exact a1 k (.inr hk)
          · exact b1 k (.inr hk)
        · simp only [wrAll, a2, b2, List.flatMap_append]
      · cases ha
end
end Go.Ev
end

section
set_option linter.all false
set_option linter.unusedSimpArgs false
set_option linter.unusedVariables false
namespace Go.Ev
open Go
set_option linter.unusedVariables false
set_option linter.unusedSimpArgs false
section
variable {eT : TypeId} {G : Gh} {M : Nat → Option Root} {w : World} {J : Nat → Prop} {anc : Nat → Pl} {fp : Nat → List Nat} {P : Program} {R : Type}

/-- Where no slice is inside, it does not matter which rows nobody writes. -/
theorem Cn_noSlice {J2 : Nat → Prop} : ∀ {T : Ty} {x : T.den} {cs : List Value} {fs : List Nat}, T.noSlice = true → Cn eT w J T x cs fs → Cn eT w J2 T x cs fs := by
  intro T
  induction T with
  | slice T ih => intro x cs fs hp; simp [Ty.noSlice] at hp
  | dead => intro x cs fs hp; simp [Ty.noSlice] at hp
  | own T ih =>
    intro x cs fs hp h
    simp only [Cn] at h ⊢
    obtain ⟨a, cap, h1, h2, h3⟩ := h
    refine ⟨a, cap, h1, h2, ?_⟩
    rcases h3 with h3 | ⟨b, o, fss, e, hb, hl, hf, hc⟩
    · exact .inl h3
    · exact .inr ⟨b, o, fss, e, hb, hl, hf, fun i hi => ih hp (hc i hi)⟩
  | arr n T ih =>
    intro x cs fs hp h
    simp only [Cn] at h ⊢
    obtain ⟨h1, h2, fss, h3, h4, h5⟩ := h
    exact ⟨h1, h2, fss, h3, h4, fun i hi => ih hp (h5 i hi)⟩
  | pair A B ha hb =>
    intro x cs fs hp h
    simp only [Ty.noSlice, Bool.and_eq_true] at hp
    simp only [Cn] at h ⊢
    obtain ⟨f1, f2, h1, h2, h3⟩ := h
    exact ⟨f1, f2, h1, ha hp.1 h2, hb hp.2 h3⟩
  | err => intro x cs fs hp h; cases x <;> exact h
  | _ => intro x cs fs hp h; exact h

/-- A key, and the argument that it stands for. -/
def KeyArg (M : Nat → Option Root) (anc : Nat → Pl) (k : Nat) : Arg × Value → Prop
  | (.p T x, v) => ∃ r b, M k = some r ∧ r.vec = false ∧ r.T = T ∧ T.pure = true ∧ anc k = .at b 0 ∧ v = .pointer (some ⟨b, 0, none⟩)
  | (.s E l, v) => ∃ r, M k = some r ∧ r.vec = true ∧ (⟨r.T, r.x⟩ : TV) = ⟨.own E, l⟩ ∧ E.pure = true ∧ anc k = .hd v
  | _ => False

theorem argsOf_keys (h : MOk eT G M w J anc fp) : ∀ {ms : List Mode} {vs : List (Option V)} {vals : List Value} {args : List Arg} {ls ws : List Nat}, vals.length = vs.length →
    (∀ i, ∀ x, vs[i]? = some (some x) → VRel eT w J M anc x (vals.getD i undef)) → argsOf M ms vs = some (args, ls, ws) → All2 (KeyArg M anc) ws (wrArgs args vals) := by
  intro ms
  induction ms with
  | nil =>
    intro vs vals args ls ws hl hv ha
    cases vs with
    | nil => simp only [argsOf] at ha; cases ha; exact .nil
    | cons v vs => simp [argsOf] at ha
  | cons m ms ih =>
    intro vs vals args ls ws hl hv ha
    match vs, vals, hl with
    | [], _, _ => simp [argsOf] at ha
    | v :: vs, val :: vals, hl =>
      simp only [argsOf] at ha
      split at ha
      · rename_i x as ls' ws' h1 h2
        cases ha
        have hrec := ih (vals := vals) (by simpa using hl) (fun i y hy => by have := hv (i + 1) y (by simpa using hy); simpa using this) h2
        have hv0 : ∀ y, v = some y → VRel eT w J M anc y val := fun y hy => by have := hv 0 y (by simp [hy]); simpa using this
        simp only [wrArgs]
        unfold argOf at h1
        split at h1
        · split at h1
          · cases h1; exact hrec
          · cases h1
        · split at h1
          · cases h1; exact hrec
          · cases h1
        · rename_i k g ver
          split at h1
          · rename_i r hl
            split at h1
            · rename_i hc
              cases h1
              simp only [Bool.and_eq_true, Bool.not_eq_true'] at hc
              obtain ⟨hk, _, hok, b, o, hadr, rfl⟩ := ref_live (eT := eT) (J := J) (hv0 _ rfl) hl
              obtain ⟨hpl, _⟩ := h.roots k r hk
              rcases hpl with ⟨v', _, h2, _⟩ | ⟨b', h1, _, h3⟩
              · rw [hc.1] at h2; cases h2
              · rw [h1] at hadr
                have e : (b', 0) = (b, o) := by cases hT : r.T <;> rw [hT] at hadr <;> simpa [Adr] using hadr
                cases e
                exact .cons ⟨r, _, hk, hc.1, rfl, hc.2, h1, rfl⟩ hrec
            · cases h1
          · cases h1
        · rename_i k g ver
          split at h1
          · rename_i r hl
            split at h1
            · rename_i hvec
              split at h1
              · rename_i E l hT hx
                split at h1
                · rename_i hp
                  cases h1
                  obtain ⟨vec, par, g0, ver0, wr0, T, x⟩ := r
                  simp only at hT hx hvec
                  subst hT
                  have hx' := eq_of_heq hx
                  subst hx'
                  obtain ⟨hk, _, _, a, cap, f, rfl, hcn, _, _, hf, _⟩ := hdr_at h (hv0 _ rfl) hl (getP_nil _ _)
                  exact .cons ⟨_, hk, hvec, rfl, hp, (hf rfl hvec).2⟩ hrec
                · cases h1
              · cases h1
            · cases h1
          · cases h1
        · split at h1
          · cases h1; exact hrec
          · cases h1
        · cases h1
      · cases ha

/-- What the written keys hold then. -/
theorem wrote_at : ∀ {ws : List Nat} {upd : List TV} {us : List (Nat × Root)}, wrote M ws upd = some us → ws.Nodup → (∀ k, k ∉ ws → updM M us k = M k) ∧ (∀ k, k ∈ us.map (·.1) → k ∈ ws) ∧
    ∀ {avs : List (Arg × Value)} {p : Arg × Value → TV → Prop}, All2 (KeyArg M anc) ws avs → All2 p avs upd →
      ∀ k, k ∈ ws → ∃ r av y, M k = some r ∧ updM M us k = some { r with wr := r.wr + 1, T := y.T, x := y.x } ∧ KeyArg M anc k av ∧ p av y := by
  have gen : ∀ (ws : List Nat) (upd : List TV) (us : List (Nat × Root)) (M1 : Nat → Option Root), wrote M ws upd = some us → ws.Nodup →
      (∀ k, k ∉ ws → updM M1 us k = M1 k) ∧ (∀ k, k ∈ us.map (·.1) → k ∈ ws) ∧
      ∀ {avs : List (Arg × Value)} {p : Arg × Value → TV → Prop}, All2 (KeyArg M anc) ws avs → All2 p avs upd →
        ∀ k, k ∈ ws → ∃ r av y, M k = some r ∧ updM M1 us k = some { r with wr := r.wr + 1, T := y.T, x := y.x } ∧ KeyArg M anc k av ∧ p av y := by
    intro ws
    induction ws with
    | nil =>
      intro upd us M1 h hn
      cases upd <;> simp only [wrote, reduceCtorEq] at h
      cases h
      exact ⟨fun _ _ => rfl, by simp, fun _ _ k hk => by simp at hk⟩
    | cons k0 ws ih =>
      intro upd us M1 h hn
      cases upd with
      | nil => simp [wrote] at h
      | cons y upd =>
        simp only [wrote] at h
        split at h
        · rename_i r l h1 h2
          split at h
          · cases h
            have hn' := List.nodup_cons.1 hn
            obtain ⟨g1, g2, g3⟩ := ih upd l (Go.Ev.upd M1 k0 (some { r with wr := r.wr + 1, T := y.T, x := y.x })) h2 hn'.2
            refine ⟨fun k hk => ?_, fun k hk => ?_, fun {avs p} ha hp k hk => ?_⟩
            · simp only [List.mem_cons, not_or] at hk
              rw [updM_cons, g1 k hk.2, upd_other _ _ hk.1]
            · simp only [List.map_cons, List.mem_cons] at hk ⊢
              rcases hk with rfl | hk
              · exact .inl rfl
              · exact .inr (g2 k hk)
            · cases ha with
              | cons ha1 ha2 =>
                cases hp with
                | cons hp1 hp2 =>
                  rcases List.mem_cons.1 hk with rfl | hk
                  · exact ⟨r, _, y, h1, by rw [updM_cons, g1 _ hn'.1, upd_same], ha1, hp1⟩
                  · rw [updM_cons]; exact g3 ha2 hp2 k hk
          · cases h
        · cases h
  intro ws upd us h hn
  exact gen ws upd us M h hn

/-- What a written key's root is behind the call. -/
theorem key_root {w' : World} {J' : Nat → Prop} (h : MOk eT G M w J anc fp) (hJ : ∀ b, J b → J' b) {k : Nat} {av : Arg × Value} {y : TV} {r : Root} (hk : M k = some r) (ha : KeyArg M anc k av) (hu : UpdRel eT w' J' av y) :
    RootOk eT w' J' { r with wr := r.wr + 1, T := y.T, x := y.x } (anc k) (fp k) ∧ Stay w w' r { r with wr := r.wr + 1, T := y.T, x := y.x } (anc k) (anc k) := by
  obtain ⟨a, v⟩ := av
  cases a with
  | p T x =>
    obtain ⟨r0, b, h1, h2, h3, h4, h5, h6⟩ := ha
    rw [hk] at h1; cases h1
    subst h3
    obtain ⟨he, hyp, b', h7, h8, h9⟩ := hu
    rw [h6] at h7; cases h7
    obtain ⟨hpl, fs', hfp, hcn⟩ := h.roots k r hk
    rw [h5] at hcn hfp
    have := Cn_pure h4 hcn; subst this
    refine ⟨⟨.inr ⟨b, h5, h2, h8⟩, [], by rw [hfp, h5], by rw [h5]; exact h9⟩, ?_⟩
    rw [h5]
    refine ⟨rfl, Nat.le_refl _, Nat.le_succ _, fun p => crossR_era he (fun hv => by rw [h2] at hv; cases hv) p, fun p _ hok => ?_, fun p v _ hok ht hv => ?_, fun p b o hw => by simp at hw⟩
    · exact noncross p r.T y.T r.x y.x _ _ _ _ b 0 he.symm hcn h9 (crosses_pure p _ _ h4 hok) hok
    · obtain ⟨E, hE⟩ := ht (by rw [h2]; simp)
      exact (typeAt_pure p _ E h4 hE).elim
  | s E l =>
    obtain ⟨r0, h1, h2, h3, h4, h5⟩ := ha
    rw [hk] at h1; cases h1
    obtain ⟨vec, par, g0, ver0, wr0, T, x⟩ := r
    simp only at h2 h3
    cases h3
    obtain ⟨l', rfl, hlen, hcn'⟩ := hu
    obtain ⟨hpl, fs', hfp, hcn⟩ := h.roots k _ hk
    rw [h5] at hcn hfp
    simp only [Pl.cells, Pl.row, List.nil_append] at hcn hfp
    subst hfp
    have hrows := Cn_rows h4 hcn
    refine ⟨⟨.inl ⟨v, h5, h2, rfl⟩, rowsOf v, by rw [h5, hrows]; rfl, by rw [h5]; exact hcn'⟩, ?_⟩
    rw [h5]
    refine ⟨rfl, Nat.le_refl _, Nat.le_succ _, fun p => rfl, fun p _ hok => ?_, fun p u _ hok ht hv => ?_, fun p b o hw => by simp at hw⟩
    · cases p with
      | nil => exact ⟨okP_nil _ _, rfl⟩
      | cons st q =>
        cases st with
        | fst => simp [okP] at hok
        | snd => simp [okP] at hok
        | idx i =>
          obtain ⟨hi, hok⟩ := hok
          have hi' : i < List.length l' := by rw [hlen]; exact hi
          simp only [Cn] at hcn hcn'
          obtain ⟨a, cap, hcs, _, hor⟩ := hcn
          obtain ⟨a', cap', hcs', _, hor'⟩ := hcn'
          rcases hor with ⟨_, hc0, _⟩ | ⟨b1, o1, fss, hab, _, _, _, hel⟩
          · omega
          rcases hor' with ⟨_, hc0, _⟩ | ⟨b2, o2, fss', hab', _, _, _, hel'⟩
          · omega
          rw [getD_get hi] at hok
          have := noncross (w := w) (w' := w') q E E _ (List.get l' ⟨i, hi'⟩) _ _ _ _ b1 (o1 + i * E.size) rfl (hel i hi) (hel' i hi') (crosses_pure q _ _ h4 hok) hok
          refine ⟨⟨hi', by rw [getD_get hi']; exact this.1⟩, ?_⟩
          simp only [List.cons.injEq, and_true] at hcs hcs'
          subst hcs
          simp only [Adr, Pl.hdr, hab]
          exact this.2
    · cases p with
      | nil => exact ⟨okP_nil _ _, fun hne => absurd ⟨h2, rfl⟩ hne, hv⟩
      | cons st q =>
        obtain ⟨E', hE⟩ := ht (by simp)
        cases st with
        | fst => simp [okP] at hok
        | snd => simp [okP] at hok
        | idx i => exact (typeAt_pure q E E' h4 hE).elim
  | v T x => exact hu.elim
  | pin T x => exact hu.elim
  | clo f l => exact hu.elim

/-- The memory behind a call, ahead of its results. -/
theorem MOk.called (h : MOk eT G M w J anc fp) {w' : World} {Jn : Nat → Prop} {ws : List Nat} {us : List (Nat × Root)} (hos : w'.os = w.os) (htape : w'.tape = w.tape) (hout : w'.output = w.output) (hsize : w.heap.size ≤ w'.heap.size)
    (hblock : ∀ b, b < w.heap.size → b ∉ ws.flatMap fp → w'.heap[b]? = w.heap[b]?) (hws : ∀ k, k ∈ ws → ∃ r, M k = some r) (hJ : ∀ b, J b → Jn b) (hJn : ∀ b, Jn b → b < w'.heap.size ∧ (J b ∨ w.heap.size ≤ b))
    (hu1 : ∀ k, k ∉ ws → updM M us k = M k) (hu2 : ∀ k, k ∈ ws → ∃ r av y, M k = some r ∧ updM M us k = some { r with wr := r.wr + 1, T := y.T, x := y.x } ∧ KeyArg M anc k av ∧ UpdRel eT w' Jn av y) :
    MOk eT G (updM M us) w' Jn anc fp ∧ ∀ x v, ARel eT w J M anc x v → ARel eT w' Jn (updM M us) anc x v := by
  have hJb : ∀ b, J b → Jn b ∧ w.heap[b]? = w'.heap[b]? := fun b hb => ⟨hJ b hb, (hblock b (h.jlt b hb) (fun hm => by
    obtain ⟨k, hk, hbk⟩ := List.mem_flatMap.1 hm
    obtain ⟨r, hr⟩ := hws k hk
    exact (h.owned k r hr b hbk).1 hb)).symm⟩
  have hoth : ∀ k r, k ∉ ws → M k = some r → ∀ b, b ∈ fp k → w'.heap[b]? = w.heap[b]? := fun k r hk hr b hb => hblock b (h.owned k r hr b hb).2.1 (fun hm => by
    obtain ⟨k', hk', hbk⟩ := List.mem_flatMap.1 hm
    obtain ⟨r', hr'⟩ := hws k' hk'
    exact h.apart k k' r r' (fun e => hk (by rw [e]; exact hk')) hr hr' b hb hbk)
  have hback : ∀ k r, updM M us k = some r → ∃ r0, M k = some r0 ∧ r0.par = r.par := by
    intro k r hk
    by_cases hm : k ∈ ws
    · obtain ⟨r0, av, y, h1, h2, _⟩ := hu2 k hm
      rw [h2] at hk; cases hk; exact ⟨r0, h1, rfl⟩
    · rw [hu1 k hm] at hk; exact ⟨r, hk, rfl⟩
  constructor
  · refine ⟨fun k r hk => ?_, fun k r hk => ?_, fun k k' r r' hne hk hk' => ?_, fun k r hk b hb => ?_, fun b hb => (hJn b hb).1, fun b hb => ?_, fun b hb => hJ b (h.j0 b hb), fun b hb => ?_, hos.trans h.os, htape.trans h.tape, hout.trans h.output, Nat.le_trans h.size hsize, fun b hb hW => ?_, h.wlt⟩
    · by_cases hm : k ∈ ws
      · obtain ⟨r0, av, y, h1, h2, h3, h4⟩ := hu2 k hm
        rw [h2] at hk; cases hk
        exact (key_root h hJ h1 h3 h4).1
      · rw [hu1 k hm] at hk
        exact (h.roots k r hk).congr hJb (fun b hb => (hoth k r hm hk b hb).symm)
    · obtain ⟨r0, h0, _⟩ := hback k r hk; exact h.nodup k r0 h0
    · obtain ⟨r0, h0, _⟩ := hback k r hk
      obtain ⟨r1, h1, _⟩ := hback k' r' hk'
      exact h.apart k k' r0 r1 hne h0 h1
    · obtain ⟨r0, h0, hp⟩ := hback k r hk
      obtain ⟨o1, o2, o3⟩ := h.owned k r0 h0 b hb
      rw [hp] at o3
      exact ⟨fun hj => (hJn b hj).2.elim o1 (fun h1 => by omega), by omega, o3⟩
    · rcases (hJn b hb).2 with h1 | h1
      · exact h.jw b h1
      · intro hW; have := h.wlt b hW; have := h.size; omega
    · rcases (hJn b hb).2 with h1 | h1
      · exact h.jnew b h1
      · exact .inr (by have := h.size; omega)
    · rw [hblock b (by have := h.size; omega) (fun hm => by
        obtain ⟨k, hk, hbk⟩ := List.mem_flatMap.1 hm
        obtain ⟨r, hr⟩ := hws k hk
        rcases (h.owned k r hr b hbk).2.2 with h1 | h1
        · omega
        · exact hW h1.2)]
      exact h.block b hb hW
  · refine keepsA hJb fun k r hk => ?_
    by_cases hm : k ∈ ws
    · obtain ⟨r0, av, y, h1, h2, h3, h4⟩ := hu2 k hm
      rw [hk] at h1; cases h1
      exact ⟨_, h2, Nat.le_refl _, fun _ => (key_root h hJ hk h3 h4).2⟩
    · exact ⟨r, by rw [hu1 k hm]; exact hk, Nat.le_refl _, fun _ => Stay.same (h.roots k r hk) (h.nodup k r hk) (hoth k r hm hk)⟩
end
end Go.Ev
end

section
set_option linter.all false
set_option linter.unusedSimpArgs false
set_option linter.unusedVariables false
namespace Go.Ev
open Go
set_option linter.unusedVariables false
set_option linter.unusedSimpArgs false
section
variable {eT : TypeId} {G : Gh} {M : Nat → Option Root} {w : World} {J : Nat → Prop} {anc : Nat → Pl} {fp : Nat → List Nat} {P : Program} {R : Type}

theorem resA_keys {M0 : Nat → Option Root} : ∀ {res : List TV} {dk : Nat} {as : List A} {us : List (Nat × Root)}, resA M0 dk res = some (as, us) → ∀ u, u ∈ us → dk ≤ u.1 := by
  intro res
  induction res with
  | nil => intro dk as us h; simp only [resA] at h; cases h; simp
  | cons y ys ih =>
    intro dk as us h
    simp only [resA] at h
    split at h
    · rename_i as' us' hrec
      have := ih hrec
      split at h
      · cases h
        intro u hu
        rcases List.mem_cons.1 hu with rfl | hu
        · exact Nat.le_refl _
        · have := this u hu; omega
      · split at h
        · cases h; intro u hu; have := this u hu; omega
        · cases h
    · cases h

/-- The results of a call. -/
theorem resA_ok : ∀ {res : List TV} {rs : List Value} {fss : List (List Nat)}, ResAll eT w J res rs fss → ∀ {M0 : Nat → Option Root} {dk : Nat} {as : List A} {us : List (Nat × Root)} (M : Nat → Option Root) (anc : Nat → Pl) (fp : Nat → List Nat), MOk eT G M w J anc fp →
    fss.flatten.Nodup → Free G M w J fp fss.flatten → resA M0 dk res = some (as, us) → (∀ u, u ∈ us → M u.1 = M0 u.1) →
    ∃ anc' fp', MOk eT G (updM M us) w J anc' fp' ∧ (∀ x v, ARel eT w J M anc x v → ARel eT w J (updM M us) anc' x v) ∧ AsRel eT w J (updM M us) anc' as rs := by
  intro res rs fss hres
  induction hres with
  | nil =>
    intro M0 dk as us M anc fp h hn hf hr hM
    simp only [resA] at hr; cases hr
    exact ⟨anc, fp, h, fun _ _ h => h, ⟨rfl, fun i hi => by simp at hi⟩⟩
  | @cons y v fs ys vs fss hy hys ih =>
    intro M0 dk as us M anc fp h hn hf hr hM
    simp only [List.flatten_cons] at hn hf
    have hn2 := (List.nodup_append.1 hn)
    simp only [resA] at hr
    split at hr
    · rename_i as' us' hrec
      have hkeys := resA_keys hrec
      have cons : ∀ (M1 : Nat → Option Root) (anc1 : Nat → Pl) (x : A), ARel eT w J M1 anc1 x v → AsRel eT w J M1 anc1 as' vs → AsRel eT w J M1 anc1 (x :: as') (v :: vs) := by
        intro M1 anc1 x hx ha
        refine ⟨by simp [ha.1], fun i hi => ?_⟩
        cases i with
        | zero => exact hx
        | succ i => have := ha.2 i (by simpa using hi); simpa using this
      obtain ⟨T, x⟩ := y
      have other : T.pure = true → fs = [] → (∃ cs, Cn eT w J T x cs [] ∧ v = conc T cs) → some (A.val T x :: as', us') = some (as, us) →
          ∃ anc' fp', MOk eT G (updM M us) w J anc' fp' ∧ (∀ x v, ARel eT w J M anc x v → ARel eT w J (updM M us) anc' x v) ∧ AsRel eT w J (updM M us) anc' as (v :: vs) := by
        intro hp hfs hc hr
        cases hr
        subst hfs
        obtain ⟨anc', fp', m, k, a⟩ := ih M anc fp h (by simpa using hn) (by simpa using hf) hrec hM
        exact ⟨anc', fp', m, k, cons _ _ _ (k _ _ hc) a⟩
      cases T
      case own E =>
        simp only at hr
        cases hr
        have hy : Cn eT w J (.own E) x [v] fs := hy
        have hg : nextG M0 dk = nextG M dk := nextG_cg (hM (dk, ⟨true, false, nextG M0 dk, 0, 0, .own E, x⟩) (by simp)).symm
        have hroot : RootOk eT w J ⟨true, false, nextG M0 dk, 0, 0, .own E, x⟩ (.hd v) fs := ⟨.inl ⟨_, rfl, rfl, rfl⟩, fs, rfl, by simp only [Pl.cells]; exact hy⟩
        obtain ⟨k1, k2⟩ := after_new h (Grow.refl w) (dk := dk) hroot hn2.1 hg (fun b hb => .inr (hf b (List.mem_append.2 (.inl hb))))
        have hf1 : Free G (upd M dk (some ⟨true, false, nextG M0 dk, 0, 0, .own E, x⟩)) w J (upd fp dk fs) fss.flatten := by
          intro b hb
          obtain ⟨h1, h2⟩ := hf b (List.mem_append.2 (.inr hb))
          refine ⟨fun k' r' hk' hb' => ?_, h2⟩
          by_cases e : k' = dk
          · subst e; rw [upd_same] at hb'; exact hn2.2.2 b hb' b hb rfl
          · rw [upd_other _ _ e] at hk' hb'; exact h1 k' r' hk' hb'
        obtain ⟨anc', fp', m, k, a⟩ := ih _ _ _ k1 hn2.2.1 hf1 hrec (fun u hu => by
          have := hkeys u hu
          rw [upd_other _ _ (by omega)]; exact hM u (by simp [hu]))
        refine ⟨anc', fp', m, fun x v hx => k x v (k2 x v hx), cons _ _ _ (k _ _ ?_) a⟩
        refine ⟨_, upd_same _ _ _, Nat.le_refl _, fun _ => ⟨Nat.le_refl _, fun _ => ⟨okP_nil _ _, fun hne => absurd ⟨rfl, rfl⟩ hne, ?_⟩⟩⟩
        rw [upd_same]; rfl
      all_goals
        simp only at hr
        split at hr
        · exact other hy.1 hy.2.1 hy.2.2 hr
        · cases hr
    · cases hr

theorem All2.mem_left {α β : Type} {p : α → β → Prop} {l : List α} {m : List β} (h : All2 p l m) : ∀ b, b ∈ m → ∃ a, a ∈ l ∧ p a b := by
  induction h with
  | nil => intro b hb; simp at hb
  | cons h _ ih =>
    intro b hb
    rcases List.mem_cons.1 hb with rfl | hb
    · exact ⟨_, by simp, h⟩
    · obtain ⟨a, ha, hp⟩ := ih b hb; exact ⟨a, by simp [ha], hp⟩

theorem UpdRel.noSlice {J2 : Nat → Prop} {av : Arg × Value} {y : TV} (hn : y.T.noSlice = true) (h : UpdRel eT w J av y) : UpdRel eT w J2 av y := by
  obtain ⟨a, v⟩ := av
  cases a with
  | p T x => obtain ⟨h1, h2, b, h3, h4, h5⟩ := h; exact ⟨h1, h2, b, h3, h4, Cn_noSlice hn h5⟩
  | s E l => obtain ⟨l', rfl, h1, h2⟩ := h; exact ⟨l', rfl, h1, Cn_noSlice hn h2⟩
  | v T x => exact h.elim
  | pin T x => exact h.elim
  | clo f l => exact h.elim

theorem All2.noSlice {J2 : Nat → Prop} {l : List (Arg × Value)} {m : List TV} (h : All2 (UpdRel eT w J) l m) (hn : (m.all fun y => y.T.noSlice) = true) : All2 (UpdRel eT w J2) l m := by
  induction h with
  | nil => exact .nil
  | cons h _ ih => simp only [List.all_cons, Bool.and_eq_true] at hn; exact .cons (h.noSlice hn.1) (ih hn.2)

theorem ResAll.noSlice {J2 : Nat → Prop} {res : List TV} {rs : List Value} {fss : List (List Nat)} (h : ResAll eT w J res rs fss) (hn : (res.all fun y => y.T.noSlice) = true) : ResAll eT w J2 res rs fss := by
  induction h with
  | nil => exact .nil
  | @cons y v fs ys vs fss h _ ih =>
    simp only [List.all_cons, Bool.and_eq_true] at hn
    refine .cons ?_ (ih hn.2)
    obtain ⟨T, x⟩ := y
    cases T
    case own E => exact Cn_noSlice (T := .own E) hn.1 h
    all_goals
      obtain ⟨h1, h2, cs, h3, h4⟩ := h
      exact ⟨h1, h2, cs, Cn_noSlice hn.1 h3, h4⟩

/-- A call, by what is known of the callee. -/
theorem callA_ok {hd : Option (Nat × Value)} {f : FuncId} {sp : Sp} (hC : Contract P eT hd f sp) (hH : Held hd w J) (hN : sp.Nat') (h : MOk eT G M w J anc fp) {dk : Nat} {vs : List (Option V)} {vals : List Value} (hl : vals.length = vs.length) (hv : ∀ i, ∀ x, vs[i]? = some (some x) → VRel eT w J M anc x (vals.getD i undef))
    {κ : Option V → List (Nat × Root) → Option R} {r : R} (hr : callA M dk κ sp vs = some r) :
    Enters P f vals.toArray w fun v w' => ∃ u us, κ u us = some r ∧ After eT G M w J anc u us v w' := by
  unfold callA at hr
  split at hr
  · rename_i args ls ws hargs
    split at hr
    · rename_i hc
      simp only [Bool.and_eq_true, Bool.not_eq_true'] at hc
      rw [hN] at hr
      cases hq : (sp.run args fun a b => some (a, b)) with
      | none => rw [hq] at hr; cases hr
      | some q =>
        obtain ⟨res, upd⟩ := q
        rw [hq] at hr
        simp only [Option.bind_some] at hr
        split at hr
        · rename_i us as us' hw hres
          split at hr
          · rename_i hcond
            simp only [Bool.and_eq_true, Bool.not_eq_true'] at hcond
            obtain ⟨⟨hsl, hdis⟩, _⟩ := hcond
            obtain ⟨a1, a2, a3⟩ := argsOf_ok h hl hv hargs
            have hkeys := argsOf_keys h hl hv hargs
            have hwn := nodupB_nodup hc.1
            have hls : ∀ k, k ∈ ws → k ∉ ls := fun k hk hk' => by
              have := List.any_eq_false.1 hc.2 k hk
              exact this (List.any_eq_true.2 ⟨k, hk', Nat.beq_refl k⟩)
            have hrow : ∀ b, b ∈ ws.flatMap fp → ¬ lookJ J fp ls b ∧ b < w.heap.size := by
              intro b hb
              obtain ⟨k, hk, hbk⟩ := List.mem_flatMap.1 hb
              obtain ⟨r0, hr0⟩ := a1 k (by simp [hk])
              obtain ⟨o1, o2, _⟩ := h.owned k r0 hr0 b hbk
              refine ⟨fun hj => ?_, o2⟩
              rcases hj with hj | ⟨k', hk', hb'⟩
              · exact o1 hj
              · obtain ⟨r1, hr1⟩ := a1 k' (by simp [hk'])
                exact h.apart k k' r0 r1 (fun e => hls k hk (by rw [e]; exact hk')) hr0 hr1 b hbk hb'
            have hnd : (ws.flatMap fp).Nodup := by
              have key : ∀ l : List Nat, l.Nodup → (∀ k, k ∈ l → ∃ r, M k = some r) → (l.flatMap fp).Nodup := by
                intro l
                induction l with
                | nil => intro _ _; simp
                | cons k l ih =>
                  intro hn hk
                  have hn' := List.nodup_cons.1 hn
                  rw [List.flatMap_cons, List.nodup_append]
                  obtain ⟨r0, hr0⟩ := hk k (by simp)
                  refine ⟨h.nodup k r0 hr0, ih hn'.2 (fun k hk' => hk k (by simp [hk'])), fun a ha b hb e => ?_⟩
                  subst e
                  obtain ⟨k', hk', hb'⟩ := List.mem_flatMap.1 hb
                  obtain ⟨r1, hr1⟩ := hk k' (by simp [hk'])
                  exact h.apart k k' r0 r1 (fun e => hn'.1 (by rw [e]; exact hk')) hr0 hr1 a ha hb'
              exact key ws hwn (fun k hk => a1 k (by simp [hk]))
            have hlookJ : ∀ b, J b → lookJ J fp ls b := fun b hb => .inl hb
            refine Enters.mono (hC args res upd hq w (lookJ J fp ls) vals (fun b o hb => ⟨.inl (hH b o hb).1, (hH b o hb).2⟩) (a3 _ hlookJ (fun k hk b hb => .inr ⟨k, hk, hb⟩)) (by rw [a2]; exact hnd) (by rw [a2]; exact hrow) (fun b hb => ?_)) ?_
            · rcases hb with hb | ⟨k, hk, hb⟩
              · exact h.jlt b hb
              · obtain ⟨r0, hr0⟩ := a1 k (by simp [hk]); exact (h.owned k r0 hr0 b hb).2.1
            intro v w' hp
            obtain ⟨J', rs, fss, j1, j2, hupd, hv0, hall, hfn, hfree⟩ := hp.out
            -- what nobody writes from now on
            obtain ⟨Jn, n1, n2, n3, n4, n5⟩ : ∃ Jn : Nat → Prop, (∀ b, J b → Jn b) ∧ (∀ b, Jn b → b < w'.heap.size ∧ (J b ∨ w.heap.size ≤ b)) ∧ (∀ b, Jn b → J' b) ∧ All2 (UpdRel eT w' Jn) (wrArgs args vals) upd ∧ ResAll eT w' Jn res rs fss := by
              rcases Bool.eq_false_or_eq_true ls.isEmpty with he | he
              · have hls0 : ls = [] := List.isEmpty_iff.1 he
                subst hls0
                exact ⟨J', fun b hb => j1 b (.inl hb), fun b hb => ⟨(j2 b hb).1, (j2 b hb).2.imp (fun h => h.elim id (fun ⟨k, hk, _⟩ => by simp at hk)) id⟩, fun _ h => h, hupd, hall⟩
              · rw [he] at hsl
                simp only [Bool.false_or, Bool.and_eq_true] at hsl
                exact ⟨J, fun _ h => h, fun b hb => ⟨by have := h.jlt b hb; have := hp.size; omega, .inl hb⟩, fun b hb => j1 b (.inl hb), hupd.noSlice hsl.2, hall.noSlice hsl.1⟩
            obtain ⟨g1, g2, g3⟩ := wrote_at (anc := anc) hw hwn
            obtain ⟨m1, k1⟩ := h.called (w' := w') (Jn := Jn) (ws := ws) (us := us) hp.os hp.tape hp.output hp.size (fun b hb hm => hp.block b hb (by rw [a2]; exact hm)) (fun k hk => a1 k (by simp [hk])) n1 n2 g1 (g3 hkeys n4)
            have hfr : Free G (updM M us) w' Jn fp fss.flatten := by
              intro b hb
              obtain ⟨f1, f2, f3⟩ := hfree b hb
              refine ⟨fun k r0 hk hbk => ?_, fun hj => f1 (n3 b hj), f2, by have := h.size; omega⟩
              have : ∃ r1, M k = some r1 := by
                by_cases hm : k ∈ ws
                · exact a1 k (by simp [hm])
                · rw [g1 k hm] at hk; exact ⟨r0, hk⟩
              obtain ⟨r1, hr1⟩ := this
              have := (h.owned k r1 hr1 b hbk).2.1
              omega
            obtain ⟨anc', fp', m2, k2, a4⟩ := resA_ok n5 _ _ _ m1 hfn hfr hres (fun u hu => by
              refine g1 u.1 fun hm => ?_
              have := List.any_eq_false.1 hdis u hu
              exact this (List.any_eq_true.2 ⟨u.1, hm, Nat.beq_refl _⟩))
            refine ⟨_, _, hr, Jn, anc', fp', by rw [updM_append]; exact m2, fun x u hx => by rw [updM_append]; exact k2 x u (k1 x u hx), fun x hx => ?_⟩
            rw [updM_append]
            unfold resV at hx
            split at hx
            · cases hx
            · rename_i y
              cases hx
              match rs, a4 with
              | [v1], a4 => rw [hv0]; exact a4.2 0 (by simp)
              | [], a4 => simp [AsRel] at a4
              | _ :: _ :: _, a4 => simp [AsRel] at a4
            · rename_i h0 h1
              cases hx
              refine ⟨rs, ?_, a4⟩
              rw [hv0]
              match rs, a4 with
              | [], a4 => rfl
              | [v1], a4 => 
                have hla : as.length = 1 := by have := a4.1; simpa using this.symm
                match as, hla with
                | [y], _ => exact (h1 y rfl).elim
              | _ :: _ :: _, a4 => rfl
          · cases hr
        · cases hr
    · cases hr
  · cases hr

/-- Arguments that are given up. -/
theorem giveArgs_ok : ∀ {ms : List Mode} {vs : List (Option V)} {vals : List Value} {M : Nat → Option Root} {J : Nat → Prop} {anc : Nat → Pl} {fp : Nat → List Nat}, MOk eT G M w J anc fp → vals.length = vs.length →
    (∀ i, ∀ x, vs[i]? = some (some x) → VRel eT w J M anc x (vals.getD i undef)) →
    ∃ J' anc' fp', MOk eT G (updM M (giveArgs M ms vs).2) w J' anc' fp' ∧ (∀ b, J b → J' b) ∧ (∀ x u, ARel eT w J M anc x u → ARel eT w J' (updM M (giveArgs M ms vs).2) anc' x u) ∧
      vals.length = (giveArgs M ms vs).1.length ∧ (∀ i, ∀ x, (giveArgs M ms vs).1[i]? = some (some x) → VRel eT w J' (updM M (giveArgs M ms vs).2) anc' x (vals.getD i undef)) := by
  intro ms
  induction ms with
  | nil => intro vs vals M J anc fp h hl hv; exact ⟨J, anc, fp, h, fun _ h => h, fun _ _ h => h, hl, hv⟩
  | cons m ms ih =>
    intro vs vals M J anc fp h hl hv
    cases vs with
    | nil => exact ⟨J, anc, fp, by cases m <;> exact h, fun _ h => h, fun _ _ h => by cases m <;> exact h, by cases m <;> simpa [giveArgs] using hl, fun i x hx => by cases m <;> simp [giveArgs] at hx⟩
    | cons v vs =>
      cases vals with
      | nil => simp at hl
      | cons val vals =>
        have hv2 : ∀ i, ∀ x, vs[i]? = some (some x) → VRel eT w J M anc x (vals.getD i undef) := fun i x hx => by have := hv (i + 1) x (by simpa using hx); simpa using this
        have hl2 : vals.length = vs.length := by simpa using hl
        -- an argument that stays
        have keep : ∃ J' anc' fp', MOk eT G (updM M (giveArgs M ms vs).2) w J' anc' fp' ∧ (∀ b, J b → J' b) ∧ (∀ x u, ARel eT w J M anc x u → ARel eT w J' (updM M (giveArgs M ms vs).2) anc' x u) ∧
            (val :: vals).length = (v :: (giveArgs M ms vs).1).length ∧ (∀ i, ∀ x, (v :: (giveArgs M ms vs).1)[i]? = some (some x) → VRel eT w J' (updM M (giveArgs M ms vs).2) anc' x ((val :: vals).getD i undef)) := by
          obtain ⟨J', anc', fp', m1, j1, k1, l1, v1⟩ := ih h hl2 hv2
          refine ⟨J', anc', fp', m1, j1, k1, by simpa using l1, fun i x hx => ?_⟩
          cases i with
          | zero => simp at hx; subst hx; exact keepsV k1 _ _ (hv 0 x (by simp))
          | succ i => have := v1 i x (by simpa using hx); simpa using this
        cases m with
        | g =>
          cases v with
          | none => exact keep
          | some x =>
            simp only [giveArgs]
            split
            · rename_i y us hg
              have hx0 : VRel eT w J M anc x val := by have := hv 0 x (by simp); simpa using this
              obtain ⟨J1, anc1, fp1, m1, j1, k1, _, cs, hc, hval⟩ := give_ok h hx0 hg
              rw [updR_eq]
              obtain ⟨J', anc', fp', m2, j2, k2, l2, v2⟩ := ih (vs := vs) (vals := vals) m1 hl2 (fun i z hz => keepsV k1 _ _ (hv2 i z hz))
              refine ⟨J', anc', fp', by rw [updM_append]; exact m2, fun b hb => j2 b (j1 b hb), fun z u hz => by rw [updM_append]; exact k2 z u (k1 z u hz), by simpa using l2, fun i z hz => ?_⟩
              rw [updM_append]
              cases i with
              | zero =>
                simp at hz; subst hz
                have hz0 : ARel eT w J1 (updM M us) anc1 (.val y.T y.x) val := ⟨cs, hc, hval⟩
                exact k2 _ _ hz0
              | succ i => have := v2 i z (by simpa using hz); simpa using this
            · exact keep
        | _ => exact keep

/-- A call some of whose arguments are given up. -/
theorem callG_ok {hd : Option (Nat × Value)} {f : FuncId} {sp : Sp} (hC : Contract P eT hd f sp) (hH0 : Held hd G.w0 G.J0) (hN : sp.Nat') (h : MOk eT G M w J anc fp) {dk : Nat} {vs : List (Option V)} {vals : List Value} (hl : vals.length = vs.length) (hv : ∀ i, ∀ x, vs[i]? = some (some x) → VRel eT w J M anc x (vals.getD i undef))
    {κ : Option V → List (Nat × Root) → Option R} {r : R} (hr : callG M dk κ sp vs = some r) :
    Enters P f vals.toArray w fun v w' => ∃ u us, κ u us = some r ∧ After eT G M w J anc u us v w' := by
  obtain ⟨J', anc', fp', m1, j1, k1, l1, v1⟩ := giveArgs_ok (ms := sp.modes) h hl hv
  unfold callG at hr
  generalize giveArgs M sp.modes vs = q at hr m1 k1 l1 v1
  obtain ⟨vs', us⟩ := q
  simp only at hr m1 k1 l1 v1
  rw [updR_eq] at hr
  have hC' : Contract P eT hd f sp.base := hC
  have := callA_ok hC' (hH0.now m1) (Sp.base_nat hN) m1 l1 v1 hr
  refine Enters.mono this ?_
  rintro v w' ⟨u, us', h1, h2⟩
  exact ⟨u, us ++ us', h1, After.of_keeps rfl k1 h2⟩
end
end Go.Ev
end

section
set_option linter.all false
set_option linter.unusedSimpArgs false
set_option linter.unusedVariables false
namespace Go.Ev
open Go
set_option linter.unusedVariables false
set_option linter.unusedSimpArgs false
section
variable {E : Env} {G : Gh} {M : Nat → Option Root} {w : World} {J : Nat → Prop} {anc : Nat → Pl} {fp : Nat → List Nat} {R : Type} {dk : Nat} {κ : Option V → List (Nat × Root) → Option R} {r : R} {F : Nat → Option V} {o : Oper}

/-- All that is asked of the tables. -/
structure EnvOk (E : Env) (G : Gh) : Prop extends EnvTy E where
  nat : E.Nat'
  con : ∀ n sp, E.tbl n = some sp → Contract E.P E.eT E.hd n sp
  held : Held E.hd G.w0 G.J0
  kept : ∀ t v, G.pv t = some v → t ∈ E.kp

theorem op_ok (hE : EnvOk E G) (h : MOk E.eT G M w J anc fp) {ρ : Operand → Value} (hev : ∀ x v, opv F x = some v → VRel E.eT w J M anc v (ρ x)) (hρ : ∀ c, ρ (.const c) = c) (hr : opA E M dk κ F o.op = some r)
    (hne : ∀ c f, o.op = .call c → c.callee ≠ .value f) : OpRes E.P E.eT G M w J anc ρ o κ r := by
  have hT := hE.toEnvTy
  cases ho : o.op with
  | call c =>
    rw [ho] at hr
    cases hc : c.callee with
    | value f => exact absurd hc (hne c f ho)
    | builtin b => exact op_builtin hT h hev ho hc hr
    | invoke _ _ => simp [opA, hc] at hr
  | move x => rw [ho] at hr; exact op_move h hev ho hr
  | assign x => rw [ho] at hr; exact op_assign h hev ho hr
  | pick c a b => rw [ho] at hr; exact op_pick h hev ho hr
  | alloc t => rw [ho] at hr; exact op_alloc hT h ho hr
  | box t x => rw [ho] at hr; exact op_box h hev ho hr
  | build t p => rw [ho] at hr; exact op_build hT h hev ho hr
  | buildSlice t n p => rw [ho] at hr; exact op_buildSlice hT h hev ho hr
  | load t x => rw [ho] at hr; exact op_load hT h hev ho hr
  | store t x y => rw [ho] at hr; exact op_store hT h hev ho hr
  | nilCheck x => rw [ho] at hr; exact op_nilCheck h hev ho hr
  | binOp op t x y z => rw [ho] at hr; exact op_binOp hT h hev hρ ho hr
  | unOp op t x => rw [ho] at hr; exact op_unOp h hev ho hr
  | convert s d x => rw [ho] at hr; exact op_convert hT h hev ho hr
  | makeInterface t x => rw [ho] at hr; exact op_makeInterface hT h hev ho hr
  | makeFunc f a b => rw [ho] at hr; exact op_makeFunc h hev ho hr
  | makeSlice t a b => rw [ho] at hr; exact op_makeSlice hT h hev ho hr
  | slice t x a b c =>
    rw [ho] at hr
    cases c with
    | none => exact op_slice hT h hev ho hr
    | some _ => simp [opA] at hr
  | fieldAddr t x f => rw [ho] at hr; exact op_fieldAddr hT h hev ho hr
  | field t x f => rw [ho] at hr; exact op_field hT h hev ho hr
  | indexAddr t x i => rw [ho] at hr; exact op_indexAddr hT h hev ho hr
  | index t x i => rw [ho] at hr; exact op_index hT h hev ho hr
  | extract x i => rw [ho] at hr; exact op_extract h hev ho hr
  | _ => rw [ho] at hr; simp [opA] at hr

/-- One operation, in the calculus. -/
theorem oper_ok (hE : EnvOk E G) (h : MOk E.eT G M w J anc fp) {a : Act} (hF : ∀ t v, F t = some v → VRel E.eT w J M anc v (a.tmps.getD t undef)) (hr : opA E M dk κ F o.op = some r) {next : Act → World → Prop} {Q : Exit → Act → World → Prop}
    (hnext : ∀ v us val w', κ v us = some r → After E.eT G M w J anc v us val w' → next (a.put o.dst val) w') : o.wp E.P a w next Q := by
  have hev : ∀ x v, opv F x = some v → VRel E.eT w J M anc v (a.eval x) := fun x v hx => opv_rel hF hx
  by_cases hcall : ∃ c f, o.op = .call c ∧ c.callee = .value f
  · obtain ⟨c, f, ho, hc⟩ := hcall
    rw [ho] at hr
    simp only [opA, hc] at hr
    split at hr
    · rename_i n l hcal
      split at hr
      · rename_i sp hsp
        obtain ⟨cv, hfv, hcr⟩ : ∃ cv : List Value, a.eval f = .func (.func n) #[] cv.toArray ∧ AsRel E.eT w J M anc l cv := by
          unfold calleeA at hcal
          split at hcal
          · cases hcal; exact ⟨[], rfl, rfl, fun i hi => by simp at hi⟩
          · split at hcal
            · rename_i f0 l0 hv
              cases hcal
              exact hev _ _ hv
            · cases hcal
        have hargs := callG_ok (hE.con n sp hsp) hE.held (hE.nat n sp hsp) h (vals := (c.args.map a.eval).toList ++ cv) (by simp [capsV, hcr.1]) (fun i x hx => by
          by_cases hi : i < c.args.size
          · rw [List.getElem?_append_left (by simpa using hi)] at hx
            have e : ((c.args.map a.eval).toList ++ cv).getD i undef = a.eval c.args[i] := by
              simp [List.getD_eq_getElem?_getD, List.getElem?_append, hi]
            rw [e]
            refine hev _ _ ?_
            simpa [hi] using hx
          · rw [List.getElem?_append_right (by simpa using hi)] at hx
            simp only [capsV, List.length_map, Array.length_toList, List.getElem?_map, Option.map_eq_some_iff] at hx
            obtain ⟨y, hy, hyx⟩ := hx
            cases hyx
            obtain ⟨hi2, hy⟩ := List.getElem?_eq_some_iff.1 hy
            have e : ((c.args.map a.eval).toList ++ cv).getD i undef = cv.getD (i - c.args.size) undef := by
              simp [List.getD_eq_getElem?_getD, List.getElem?_append, hi]
            rw [e, ← hy]
            exact hcr.2 _ hi2) hr
        have harr : ((c.args.map a.eval).toList ++ cv).toArray = c.args.map a.eval ++ cv.toArray := by simp
        rw [harr] at hargs
        have hexec : (execOp a.eval o).run E.P w = (callFunc n (c.args.map a.eval ++ cv.toArray)).run E.P w := by
          simp only [execOp, ho, resolve, hc, hfv, Deferred.ofValue, Sem.run_bind, Sem.run_pure, Result.andThen_ok, invoke]
          congr 2
          simp
        unfold Oper.wp
        rw [hexec]
        rcases hargs with ⟨h1, h2⟩ | ⟨v, w', h1, u, us, h3, h4⟩
        · rw [h1, Oper.upon_enter]
          refine Calls.mono h2 ?_
          rintro e w' ⟨v, rfl, u, us, h3, h4⟩
          exact hnext u us v w' h3 h4
        · rw [h1, Oper.upon_value]
          exact hnext u us v w' h3 h4
      · cases hr
    · cases hr
  · obtain ⟨v, us, val, w', h1, h2, h3⟩ := op_ok hE h hev (fun c => rfl) hr (fun c f h1 h2 => hcall ⟨c, f, h1, h2⟩)
    unfold Oper.wp
    rcases h3 with h3 | ⟨h3, hv⟩
    · rw [h3, Oper.upon_value]; exact hnext v us val w' h1 h2
    · rw [h3, Oper.upon_skip]
      subst hv
      obtain ⟨J', anc', fp', m, k, _⟩ := h2
      exact hnext none us undef w' h1 ⟨J', anc', fp', m, k, fun x hx => by cases hx⟩
end
end Go.Ev
end

section
set_option linter.all false
set_option linter.unusedSimpArgs false
set_option linter.unusedVariables false
namespace Go.Ev
open Go
set_option linter.unusedVariables false
set_option linter.unusedSimpArgs false

/-- What an operation does to what is known: the slot of its result, and roots. -/
structure Eff where
  dst : Option Nat
  v : Option V
  us : List (Nat × Root)

structure Ab where
  F : Nat → Option V
  rd : Nat → Option Root

def Eff.on (e : Eff) (S : Ab) : Ab := ⟨match e.dst with | some d => upd S.F d e.v | none => S.F, updM S.rd e.us⟩

def Eff.slotB (e : Eff) (t : Nat) : Bool := match e.dst with | some d => Nat.beq d t | none => false
def Eff.keyB (e : Eff) (k : Nat) : Bool := e.us.any fun u => Nat.beq u.1 k

theorem Eff.on_slot {e : Eff} {S : Ab} {t : Nat} (h : e.slotB t = false) : (e.on S).F t = S.F t := by
  unfold Eff.on Eff.slotB at *
  cases hd : e.dst with
  | none => rfl
  | some d =>
    rw [hd] at h
    simp only
    refine upd_other _ _ fun e => ?_
    subst e
    simp [Nat.beq_refl] at h

theorem Eff.on_key {e : Eff} {S : Ab} {k : Nat} (h : e.keyB k = false) : (e.on S).rd k = S.rd k := updM_other e.us S.rd k h

theorem Eff.slot_same {e : Eff} {S S' : Ab} {t : Nat} (h : e.slotB t = true) : (e.on S).F t = (e.on S').F t := by
  unfold Eff.on Eff.slotB at *
  cases hd : e.dst with
  | none => rw [hd] at h; cases h
  | some d =>
    rw [hd] at h
    simp only [Nat.beq_eq] at h
    subst h
    simp only [upd_same]

theorem updM_same : ∀ (us : List (Nat × Root)) (M M' : Nat → Option Root) (k : Nat), (us.any fun u => Nat.beq u.1 k) = true → updM M us k = updM M' us k := by
  intro us
  induction us with
  | nil => intro M M' k h; simp at h
  | cons u us ih =>
    intro M M' k h
    rw [updM_cons, updM_cons]
    cases hb : us.any fun u => Nat.beq u.1 k with
    | true => exact ih _ _ k hb
    | false =>
      rw [updM_other _ _ _ hb, updM_other _ _ _ hb]
      simp only [List.any_cons, hb, Bool.or_false, Nat.beq_eq] at h
      subst h
      rw [upd_same, upd_same]

theorem Eff.key_same {e : Eff} {S S' : Ab} {k : Nat} (h : e.keyB k = true) : (e.on S).rd k = (e.on S').rd k := updM_same _ _ _ _ h

/-- The effects of those operations that are listed, in the order of the text. -/
def overlay (es : List Eff) (on : Nat → Bool) (S : Ab) : Nat → Ab
  | 0 => S
  | n + 1 => match es[n]? with
    | some e => if on n then e.on (overlay es on S n) else overlay es on S n
    | none => overlay es on S n

theorem overlay_slot {es : List Eff} {on on' : Nat → Bool} {S : Ab} {t : Nat} : ∀ n, (∀ j e, j < n → es[j]? = some e → on j ≠ on' j → e.slotB t = false) → (overlay es on S n).F t = (overlay es on' S n).F t := by
  intro n
  induction n with
  | zero => intro _; rfl
  | succ n ih =>
    intro h
    have hi := ih (fun j e hj => h j e (by omega))
    simp only [overlay]
    cases he : es[n]? with
    | none => exact hi
    | some e =>
      simp only
      have hn := h n e (by omega) he
      cases h1 : on n <;> cases h2 : on' n <;> simp only [Bool.false_eq_true, if_false, if_true]
      · exact hi
      · rw [Eff.on_slot (hn (by rw [h1, h2]; simp))]; exact hi
      · rw [Eff.on_slot (hn (by rw [h1, h2]; simp))]; exact hi
      · cases hb : e.slotB t with
        | true => exact Eff.slot_same hb
        | false => rw [Eff.on_slot hb, Eff.on_slot hb]; exact hi

theorem overlay_key {es : List Eff} {on on' : Nat → Bool} {S : Ab} {k : Nat} : ∀ n, (∀ j e, j < n → es[j]? = some e → on j ≠ on' j → e.keyB k = false) → (overlay es on S n).rd k = (overlay es on' S n).rd k := by
  intro n
  induction n with
  | zero => intro _; rfl
  | succ n ih =>
    intro h
    have hi := ih (fun j e hj => h j e (by omega))
    simp only [overlay]
    cases he : es[n]? with
    | none => exact hi
    | some e =>
      simp only
      have hn := h n e (by omega) he
      cases h1 : on n <;> cases h2 : on' n <;> simp only [Bool.false_eq_true, if_false, if_true]
      · exact hi
      · rw [Eff.on_key (hn (by rw [h1, h2]; simp))]; exact hi
      · rw [Eff.on_key (hn (by rw [h1, h2]; simp))]; exact hi
      · cases hb : e.keyB k with
        | true => exact Eff.key_same hb
        | false => rw [Eff.on_key hb, Eff.on_key hb]; exact hi

/-- An operation more: its effect comes last, whatever its place in the text. -/
theorem overlay_add {es : List Eff} {on : Nat → Bool} {S : Ab} {i n : Nat} {e : Eff} (hi : i < n) (he : es[i]? = some e) (hoff : on i = false)
    (hs : ∀ j f, i < j → j < n → es[j]? = some f → on j = true → (∀ t, e.slotB t = true → f.slotB t = false) ∧ ∀ k, e.keyB k = true → f.keyB k = false) :
    overlay es (fun j => if j = i then true else on j) S n = e.on (overlay es on S n) := by
  have hF : ∀ t, (overlay es (fun j => if j = i then true else on j) S n).F t = (e.on (overlay es on S n)).F t := by
    intro t
    cases hb : e.slotB t with
    | false =>
      rw [Eff.on_slot hb]
      refine overlay_slot n fun j f hj hf hne => ?_
      by_cases hji : j = i
      · subst hji; rw [he] at hf; cases hf; exact hb
      · simp [hji] at hne
    | true =>
      -- the last that writes it is e
      have key : ∀ m, i < m → m ≤ n → (overlay es (fun j => if j = i then true else on j) S m).F t = (e.on (overlay es on S n)).F t := by
        intro m
        induction m with
        | zero => intro h; omega
        | succ m ih =>
          intro h1 h2
          simp only [overlay]
          by_cases hm : m = i
          · subst hm; rw [he]; simp only [if_true]; exact Eff.slot_same hb
          · cases hf : es[m]? with
            | none => exact ih (by omega) (by omega)
            | some f =>
              simp only [hm, if_false]
              cases ho : on m with
              | false => simpa using ih (by omega) (by omega)
              | true =>
                simp only [if_true]
                rw [Eff.on_slot ((hs m f (by omega) (by omega) hf ho).1 t hb)]
                exact ih (by omega) (by omega)
      exact key n hi (Nat.le_refl _)
  have hR : ∀ k, (overlay es (fun j => if j = i then true else on j) S n).rd k = (e.on (overlay es on S n)).rd k := by
    intro k
    cases hb : e.keyB k with
    | false =>
      rw [Eff.on_key hb]
      refine overlay_key n fun j f hj hf hne => ?_
      by_cases hji : j = i
      · subst hji; rw [he] at hf; cases hf; exact hb
      · simp [hji] at hne
    | true =>
      have key : ∀ m, i < m → m ≤ n → (overlay es (fun j => if j = i then true else on j) S m).rd k = (e.on (overlay es on S n)).rd k := by
        intro m
        induction m with
        | zero => intro h; omega
        | succ m ih =>
          intro h1 h2
          simp only [overlay]
          by_cases hm : m = i
          · subst hm; rw [he]; simp only [if_true]; exact Eff.key_same hb
          · cases hf : es[m]? with
            | none => exact ih (by omega) (by omega)
            | some f =>
              simp only [hm, if_false]
              cases ho : on m with
              | false => simpa using ih (by omega) (by omega)
              | true =>
                simp only [if_true]
                rw [Eff.on_key ((hs m f (by omega) (by omega) hf ho).2 k hb)]
                exact ih (by omega) (by omega)
      exact key n hi (Nat.le_refl _)
  cases hA : overlay es (fun j => if j = i then true else on j) S n with
  | mk F1 r1 =>
    cases hB : e.on (overlay es on S n) with
    | mk F2 r2 =>
      rw [hA, hB] at hF hR
      congr
      · exact funext hF
      · exact funext hR
end Go.Ev
end

section
set_option linter.all false
set_option linter.unusedSimpArgs false
set_option linter.unusedVariables false
namespace Go.Ev
open Go
set_option linter.unusedVariables false
set_option linter.unusedSimpArgs false

def dkey (o : Oper) : Nat := match o.dst with | some d => 8 * d | none => 7

/-- Is an operation carried out? -/
def wantA (ops : Array Oper) (o : Oper) (F : Nat → Option V) : Option Bool :=
  match o.guard with
  | none => some true
  | some (j, want) =>
    match (ops[j]?).bind (·.dst) with
    | some d =>
      match F d with
      | some (.a (.val .bool b)) => some ((b : Bool) == want)
      | some (.tup []) => some false
      | _ => none
    | none => none

/-- An operation's effect, where it is met. -/
def Loc (E : Env) (ops : Array Oper) (o : Oper) (S : Ab) (e : Eff) : Prop :=
  e.dst = o.dst ∧ ((wantA ops o S.F = some true ∧ opA E S.rd (dkey o) (fun v us => some (v, us)) S.F o.op = some (e.v, e.us)) ∨ (wantA ops o S.F = some false ∧ e.v = some (.tup []) ∧ e.us = []))

/-- The slots that are never written. -/
def Kp (G : Gh) (N : Nat) (a : Act) : Prop := a.tmps.size = N ∧ ∀ t v, G.pv t = some v → a.tmps.getD t undef = v

def RelA (eT : TypeId) (G : Gh) (N : Nat) (S : Ab) (a : Act) (w : World) : Prop :=
  ∃ J anc fp, (∀ t v, S.F t = some v → t < N ∧ VRel eT w J S.rd anc v (a.tmps.getD t undef)) ∧ MOk eT G S.rd w J anc fp ∧ a.defers = [] ∧ Kp G N a

section
variable {E : Env} {G : Gh} {N : Nat} {S : Ab} {a : Act} {w : World} {ops : Array Oper} {o : Oper} {e : Eff}

theorem put_size (a : Act) (d : Option Nat) (v : Value) : (a.put d v).tmps.size = a.tmps.size := by cases d <;> simp [Act.put]
theorem put_defers (a : Act) (d : Option Nat) (v : Value) : (a.put d v).defers = a.defers := by cases d <;> rfl
theorem put_same {a : Act} {d : Nat} (v : Value) (h : d < a.tmps.size) : (a.put (some d) v).tmps.getD d undef = v := by simp [Act.put, Array.getD_eq_getD_getElem?, h]
theorem put_other {a : Act} {d t : Nat} (v : Value) (h : t ≠ d) : (a.put (some d) v).tmps.getD t undef = a.tmps.getD t undef := by
  simp only [Act.put, Array.getD_eq_getD_getElem?]; rw [Array.getElem?_setIfInBounds_ne (Ne.symm h)]

/-- Behind an operation. -/
theorem rel_after {J : Nat → Prop} {anc : Nat → Pl} (hF : ∀ t v, S.F t = some v → t < N ∧ VRel E.eT w J S.rd anc v (a.tmps.getD t undef)) (hd : a.defers = []) (hs : Kp G N a) (hdst : ∀ d, o.dst = some d → d < N ∧ G.pv d = none) (he : e.dst = o.dst) {val : Value} {w' : World}
    (h : After E.eT G S.rd w J anc e.v e.us val w') : RelA E.eT G N (e.on S) (a.put o.dst val) w' := by
  obtain ⟨J', anc', fp', m, k, hv⟩ := h
  refine ⟨J', anc', fp', fun t v ht => ?_, m, by rw [put_defers]; exact hd, by rw [put_size]; exact hs.1, fun t v ht => ?_⟩
  case refine_2 =>
    cases hdd : o.dst with
    | none => exact hs.2 t v ht
    | some d =>
      have hne : t ≠ d := by rintro rfl; rw [(hdst t hdd).2] at ht; cases ht
      rw [put_other _ hne]; exact hs.2 t v ht
  unfold Eff.on at ht ⊢
  rw [he] at ht
  cases hdd : o.dst with
  | none =>
    rw [hdd] at ht
    obtain ⟨h1, h2⟩ := hF t v ht
    exact ⟨h1, keepsV k _ _ h2⟩
  | some d =>
    rw [hdd] at ht
    simp only at ht
    by_cases htd : t = d
    · subst htd
      rw [upd_same] at ht
      exact ⟨(hdst t hdd).1, by rw [put_same _ (by rw [hs.1]; exact (hdst t hdd).1)]; exact hv v ht⟩
    · rw [upd_other _ _ htd] at ht
      obtain ⟨h1, h2⟩ := hF t v ht
      exact ⟨h1, by rw [put_other _ htd]; exact keepsV k _ _ h2⟩

theorem wantA_wanted {J : Nat → Prop} {anc : Nat → Pl} (hF : ∀ t v, S.F t = some v → t < N ∧ VRel E.eT w J S.rd anc v (a.tmps.getD t undef)) (hs : a.tmps.size = N) {b : Bool} (h : wantA ops o S.F = some b) : Region.wanted o (yielded ops a.tmps) = b := by
  unfold wantA at h
  unfold Region.wanted
  split at h
  · rename_i hg; cases h; simp [hg]
  · rename_i j want hg
    simp only [hg]
    split at h
    · rename_i d hd
      split at h
      · rename_i b0 hb
        cases h
        obtain ⟨h1, h2⟩ := hF d _ hb
        have h2 : a.tmps.getD d undef = .bool b0 := vrel_bool' h2
        have h3 : a.tmps[d]? = some (.bool b0) := by
          rw [Array.getD_eq_getD_getElem?] at h2
          rw [Array.getElem?_eq_getElem (by omega)] at h2 ⊢
          simp only [Option.getD_some] at h2; rw [h2]
        unfold yielded; rw [hd]; simp only [Option.bind_some, h3]
        cases b0 <;> cases want <;> rfl
      · rename_i hb
        cases h
        obtain ⟨h1, vs, h2, h4⟩ := hF d _ hb
        have hvs : vs = [] := List.eq_nil_of_length_eq_zero (by simpa using h4.1)
        subst hvs
        have h3 : a.tmps[d]? = some (.tuple #[]) := by
          rw [Array.getD_eq_getD_getElem?] at h2
          rw [Array.getElem?_eq_getElem (by omega)] at h2 ⊢
          simp only [Option.getD_some] at h2; rw [h2]
        unfold yielded; rw [hd]; simp only [Option.bind_some, h3]
        rfl
      · cases h
    · cases h

/-- One operation of a region. -/
theorem loc_ok (hE : EnvOk E G) {i : Nat} (ho : ops[i]? = some o) (hdst : ∀ d, o.dst = some d → d < N ∧ G.pv d = none) (hr : RelA E.eT G N S a w) (hl : Loc E ops o S e) {K : Act → World → Prop} {Q : Exit → Act → World → Prop}
    (hK : ∀ a' w', RelA E.eT G N (e.on S) a' w' → K a' w') : wpOp E.P ops Q i K a w := by
  obtain ⟨J, anc, fp, hF, m, hd, hs⟩ := hr
  obtain ⟨he, hl⟩ := hl
  unfold wpOp
  rw [ho]
  simp only
  rcases hl with ⟨h1, h2⟩ | ⟨h1, h2, h3⟩
  · rw [wantA_wanted hF hs.1 h1]
    simp only [if_true]
    refine .inl (oper_ok hE m (fun t v ht => (hF t v ht).2) h2 fun v us val w' hv haft => hK _ _ ?_)
    cases hv
    exact rel_after hF hd hs hdst he haft
  · rw [wantA_wanted hF hs.1 h1]
    simp only [Bool.false_eq_true, if_false]
    refine hK _ _ (rel_after hF hd hs hdst he ?_)
    rw [h2, h3]
    exact ⟨J, anc, fp, m, fun _ _ h => h, fun x hx => by cases hx; exact ⟨[], rfl, rfl, fun i hi => by simp at hi⟩⟩
end
end Go.Ev
end

section
set_option linter.all false
set_option linter.unusedSimpArgs false
set_option linter.unusedVariables false
namespace Go.Ev
open Go
set_option linter.unusedVariables false
set_option linter.unusedSimpArgs false

/-- The slots that an operation looks at. -/
def slotsOf (ops : Array Oper) (o : Oper) : List Nat :=
  ((opnds o.op).filterMap fun x => match x with | .tmp t => some t | _ => none) ++ (match o.guard with | some (j, _) => ((ops[j]?).bind (·.dst)).toList | none => [])

/-- The roots that an operation looks at: none where it only hands a value on. -/
def opKeys (F : Nat → Option V) (o : Oper) : List Nat :=
  match o.op with
  | .move _ => []
  | .pick _ _ _ => []
  | .extract _ _ => []
  | op => (opnds op).flatMap fun x => ovKeys (opv F x)

section
variable {E : Env} {G : Gh} {N : Nat} {S S' : Ab} {a : Act} {w : World} {ops : Array Oper} {o : Oper} {e : Eff}

theorem opv_slot {x : Operand} (hx : x ∈ opnds o.op) (h : ∀ t, t ∈ slotsOf ops o → S.F t = S'.F t) : opv S.F x = opv S'.F x := by
  cases x with
  | tmp t => exact h t (by simp only [slotsOf, List.mem_append, List.mem_filterMap]; exact .inl ⟨_, hx, rfl⟩)
  | _ => rfl

/-- An operation does the same where what it looks at is the same. -/
theorem Loc.cg (hE : E.Nat') (hF : ∀ t, t ∈ slotsOf ops o → S.F t = S'.F t) (hk : ∀ k, k ∈ opKeys S.F o → S.rd k = S'.rd k) (hd : ∀ i, i < 8 → S.rd (dkey o + i) = S'.rd (dkey o + i)) (h : Loc E ops o S e) : Loc E ops o S' e := by
  obtain ⟨h1, h2⟩ := h
  have hw : wantA ops o S.F = wantA ops o S'.F := by
    unfold wantA
    split
    · rfl
    · rename_i j want hg
      split
      · rename_i d hdd
        rw [hF d (by simp only [slotsOf, hg, hdd]; simp)]
      · rfl
  refine ⟨h1, ?_⟩
  rw [← hw]
  rcases h2 with ⟨h2, h3⟩ | h2
  · refine .inl ⟨h2, ?_⟩
    rw [← h3]
    have hop : ∀ x, x ∈ opnds o.op → opv S.F x = opv S'.F x := fun x hx => opv_slot hx hF
    have gen : (∀ k, k ∈ (opnds o.op).flatMap (fun x => ovKeys (opv S.F x)) → S.rd k = S'.rd k) → opA E S'.rd (dkey o) (fun v us => some (v, us)) S'.F o.op = opA E S.rd (dkey o) (fun v us => some (v, us)) S.F o.op := fun hk =>
      (opA_cg hE hop (fun x hx k hkx => hk k (List.mem_flatMap.2 ⟨x, hx, hkx⟩)) hd).symm
    unfold opKeys at hk
    revert hk hop gen
    generalize o.op = op
    intro hk hop gen
    cases op with
    | move x => simp only [opA]; rw [hop x (by simp [opnds])]
    | pick c a b => simp only [opA]; rw [hop c (by simp [opnds]), hop a (by simp [opnds]), hop b (by simp [opnds])]
    | extract x i => simp only [opA]; rw [hop x (by simp [opnds])]
    | _ => exact gen hk
  · exact .inr h2

/-- The run of a region in the order of the text: its effects. -/
structure Run (E : Env) (G : Gh) (N : Nat) (ops : Array Oper) (S : Ab) (es : List Eff) : Prop where
  len : es.length = ops.size
  loc : ∀ (i : Nat) (o : Oper) (e : Eff), ops[i]? = some o → es[i]? = some e → Loc E ops o (overlay es (fun _ => true) S i) e
  dst : ∀ (i : Nat) (o : Oper) (d : Nat), ops[i]? = some o → o.dst = some d → d < N ∧ G.pv d = none

/-- In the order of the text. -/
theorem run_ok (hE : EnvOk E G) {es : List Eff} (hrun : Run E G N ops S es) {Q : Exit → Act → World → Prop} (hQ : ∀ a w, RelA E.eT G N (overlay es (fun _ => true) S ops.size) a w → Q .normal a w) :
    ∀ n, n ≤ ops.size → ∀ a w, RelA E.eT G N (overlay es (fun _ => true) S (ops.size - n)) a w → wpOps E.P ops Q ((List.range' (ops.size - n) n)) a w := by
  intro n
  induction n with
  | zero => intro _ a w h; simp only [List.range'_zero, wpOps]; exact hQ a w h
  | succ n ih =>
    intro hn a w h
    rw [List.range'_succ, wpOps_cons]
    obtain ⟨o, ho⟩ : ∃ o, ops[ops.size - (n + 1)]? = some o := ⟨ops[ops.size - (n + 1)], Array.getElem?_eq_getElem (by omega)⟩
    obtain ⟨e, he⟩ : ∃ e, es[ops.size - (n + 1)]? = some e := ⟨es[ops.size - (n + 1)]'(by have := hrun.len; omega), List.getElem?_eq_getElem _⟩
    refine loc_ok hE ho (fun d hd => hrun.dst _ o d ho hd) h (hrun.loc _ o e ho he) fun a' w' hr => ?_
    rw [show ops.size - (n + 1) + 1 = ops.size - n by omega]
    refine ih (by omega) a' w' ?_
    have : overlay es (fun _ => true) S (ops.size - n) = e.on (overlay es (fun _ => true) S (ops.size - (n + 1))) := by
      rw [show ops.size - n = (ops.size - (n + 1)) + 1 by omega]
      simp only [overlay, he, if_true]
    rw [this]; exact hr

/-- Which operations have to come ahead of which (by the edges, and what follows from them). -/
def edgeB (ops : Array Oper) (i j : Nat) : Bool := match ops[i]? with | some o => o.after.any fun e => Region.binds .any e && Nat.beq e.on j | none => false

/-- What is asked of a region whose operations may come in other orders: 'ahead i j': j has to come ahead of i. -/
structure Apart (ops : Array Oper) (S : Ab) (es : List Eff) (ahead : Nat → Nat → Bool) : Prop where
  sound : ∀ i j, ahead i j = true → ∀ on : Nat → Bool, (∀ i' j', i' < ops.size → on i' = true → edgeB ops i' j' = true → on j' = true) → (∀ j', edgeB ops i j' = true → on j' = true) → on j = true
  back : ∀ i j, i < ops.size → edgeB ops i j = true → j < i
  sep : ∀ (i j : Nat) (o o' : Oper) (e e' : Eff), i < j → ahead j i = false → ops[i]? = some o → ops[j]? = some o' → es[i]? = some e → es[j]? = some e' →
    (∀ t, e.slotB t = true → t ∉ slotsOf ops o' ∧ e'.slotB t = false) ∧ (∀ t, e'.slotB t = true → t ∉ slotsOf ops o ∧ e.slotB t = false) ∧
    (∀ k, e.keyB k = true → k ∉ opKeys (overlay es (fun _ => true) S j).F o' ∧ (∀ q, q < 8 → k ≠ dkey o' + q) ∧ e'.keyB k = false) ∧
    (∀ k, e'.keyB k = true → k ∉ opKeys (overlay es (fun _ => true) S i).F o ∧ (∀ q, q < 8 → k ≠ dkey o + q) ∧ e.keyB k = false)

theorem ready_iff {listed : Array Bool} {i : Nat} (hi : i ∈ Region.ready .any ops listed) (hsz : listed.size = ops.size) : i < ops.size ∧ listed.getD i true = false ∧ ∀ j, edgeB ops i j = true → listed.getD j false = true := by
  unfold Region.ready at hi
  rw [List.mem_filter, List.mem_range] at hi
  obtain ⟨h1, h2⟩ := hi
  rw [Array.getElem?_eq_getElem h1] at h2
  simp only [Option.map_some, Option.getD_some, Bool.and_eq_true, Bool.not_eq_true', Array.all_eq_true'] at h2
  refine ⟨h1, h2.1, fun j hj => ?_⟩
  unfold edgeB at hj
  rw [Array.getElem?_eq_getElem h1] at hj
  simp only at hj
  obtain ⟨e, he, hb⟩ := Array.any_eq_true'.1 hj
  simp only [Bool.and_eq_true, Nat.beq_eq] at hb
  have := h2.2 e he
  simp only [Bool.or_eq_true, Bool.not_eq_true'] at this
  rcases this with h3 | h3
  · rw [hb.1] at h3; cases h3
  · rw [← hb.2]; exact h3
end
end Go.Ev
end

section
set_option linter.all false
set_option linter.unusedSimpArgs false
set_option linter.unusedVariables false
namespace Go.Ev
open Go
set_option linter.unusedVariables false
set_option linter.unusedSimpArgs false
section
variable {E : Env} {G : Gh} {N : Nat} {S : Ab} {a : Act} {w : World} {ops : Array Oper} {o : Oper} {e : Eff}

theorem overlay_on {es : List Eff} {on on' : Nat → Bool} {S : Ab} : ∀ n, (∀ j, j < n → on j = on' j) → overlay es on S n = overlay es on' S n := by
  intro n
  induction n with
  | zero => intro _; rfl
  | succ n ih => intro h; simp only [overlay]; rw [ih (fun j hj => h j (by omega)), h n (by omega)]

theorem overlay_cut {es : List Eff} {S : Ab} {i : Nat} : ∀ n, i ≤ n → overlay es (fun j => decide (j < i)) S n = overlay es (fun _ => true) S i := by
  intro n
  induction n with
  | zero => intro h; have : i = 0 := by omega
            subst this; rfl
  | succ n ih =>
    intro h
    by_cases hi : i = n + 1
    · subst hi; exact overlay_on _ fun j hj => by simp [hj]
    · simp only [overlay]
      have : ¬ n < i := by omega
      simp only [this, decide_false, Bool.false_eq_true, if_false]
      rw [ih (by omega)]
      cases es[n]? <;> rfl

theorem any_ok (hE : EnvOk E G) {es : List Eff} (hrun : Run E G N ops S es) {ahead : Nat → Nat → Bool} (hap : Apart ops S es ahead) {Q : Exit → Act → World → Prop} (hQ : ∀ a w, RelA E.eT G N (overlay es (fun _ => true) S ops.size) a w → Q .normal a w) :
    ∀ fuel (listed : Array Bool) (a : Act) (w : World), listed.size = ops.size → ((List.range ops.size).filter fun j => !listed.getD j false).length ≤ fuel → (∀ i j, i < ops.size → listed.getD i false = true → edgeB ops i j = true → listed.getD j false = true) →
      RelA E.eT G N (overlay es (fun j => listed.getD j false) S ops.size) a w → wpAny E.P .any ops Q fuel listed a w := by
  have hall : ∀ listed : Array Bool, listed.size = ops.size → Region.ready .any ops listed = [] → ∀ j, j < ops.size → listed.getD j false = true := by
    intro listed hsz hr j
    induction j using Nat.strongRecOn with
    | _ j ih =>
      intro hj
      cases hl : listed.getD j false with
      | true => rfl
      | false =>
        exfalso
        have hm : j ∈ Region.ready .any ops listed := by
          unfold Region.ready
          rw [List.mem_filter, List.mem_range]
          refine ⟨hj, ?_⟩
          have h1 : listed.getD j true = false := by
            rw [Array.getD_eq_getD_getElem?] at hl ⊢
            rw [Array.getElem?_eq_getElem (by omega)] at hl ⊢
            exact hl
          rw [h1, Array.getElem?_eq_getElem hj]
          simp only [Bool.not_false, Option.map_some, Option.getD_some, Bool.true_and, Array.all_eq_true']
          intro e he
          cases hb : Region.binds .any e with
          | false => simp
          | true =>
            have hedge : edgeB ops j e.on = true := by
              unfold edgeB
              rw [Array.getElem?_eq_getElem hj]
              exact Array.any_eq_true'.2 ⟨e, he, by simp [hb, Nat.beq_refl]⟩
            have hlt := hap.back j e.on hj hedge
            simp [ih e.on hlt (by omega)]
        rw [hr] at hm; simp at hm
  have fin : ∀ (listed : Array Bool) (a : Act) (w : World), listed.size = ops.size → RelA E.eT G N (overlay es (fun j => listed.getD j false) S ops.size) a w → Region.ready .any ops listed = [] → Q .normal a w := by
    intro listed a w hsz hrel hr
    refine hQ a w ?_
    rw [← overlay_on (on := fun j => listed.getD j false) ops.size (fun j hj => hall listed hsz hr j hj)]
    exact hrel
  intro fuel
  induction fuel with
  | zero =>
    intro listed a w hsz hc hcl hrel
    have hr : Region.ready .any ops listed = [] := by
      rw [List.eq_nil_iff_forall_not_mem]
      intro i hi
      obtain ⟨h1, h2, _⟩ := ready_iff hi hsz
      have h3 : listed.getD i false = false := by
        rw [Array.getD_eq_getD_getElem?] at h2 ⊢
        rw [Array.getElem?_eq_getElem (by omega)] at h2 ⊢
        exact h2
      have hm : i ∈ (List.range ops.size).filter fun j => !listed.getD j false := by
        rw [List.mem_filter, List.mem_range]; exact ⟨h1, by rw [h3]; rfl⟩
      have := List.length_pos_of_mem hm
      omega
    exact ⟨hr, fin listed a w hsz hrel hr⟩
  | succ fuel ih =>
    intro listed a w hsz hc hcl hrel
    refine ⟨fin listed a w hsz hrel, fun i hi => ?_⟩
    obtain ⟨h1, h2, h3⟩ := ready_iff hi hsz
    have hoff : listed.getD i false = false := by
      rw [Array.getD_eq_getD_getElem?] at h2 ⊢
      rw [Array.getElem?_eq_getElem (by omega)] at h2 ⊢
      exact h2
    obtain ⟨o, ho⟩ : ∃ o, ops[i]? = some o := ⟨ops[i], Array.getElem?_eq_getElem h1⟩
    obtain ⟨e, he⟩ : ∃ e, es[i]? = some e := ⟨es[i]'(by have := hrun.len; omega), List.getElem?_eq_getElem _⟩
    -- what stands apart
    have before : ∀ j, j < i → listed.getD j false = false → ahead i j = false := by
      intro j hj hl
      cases hah : ahead i j with
      | false => rfl
      | true =>
        have := hap.sound i j hah (fun j => listed.getD j false) hcl h3
        rw [hl] at this; cases this
    have behind : ∀ j, i < j → j < ops.size → listed.getD j false = true → ahead j i = false := by
      intro j hj hjs hl
      cases hah : ahead j i with
      | false => rfl
      | true =>
        have := hap.sound j i hah (fun j => listed.getD j false) hcl (fun j' hj' => hcl j j' hjs hl hj')
        rw [hoff] at this; cases this
    have opAt : ∀ j, j < ops.size → ∃ o', ops[j]? = some o' := fun j hj => ⟨ops[j], Array.getElem?_eq_getElem hj⟩
    have hS : ∀ t, t ∈ slotsOf ops o → (overlay es (fun _ => true) S i).F t = (overlay es (fun j => listed.getD j false) S ops.size).F t := by
      intro t ht
      rw [← overlay_cut ops.size (by omega)]
      refine overlay_slot ops.size fun j f hj hf hne => ?_
      obtain ⟨o', ho'⟩ := opAt j hj
      cases hb : f.slotB t with
      | false => rfl
      | true =>
        exfalso
        by_cases hji : j < i
        · have hl : listed.getD j false = false := by cases hl : listed.getD j false with
            | false => rfl
            | true => simp [hji, hl] at hne
          exact ((hap.sep j i o' o f e hji (before j hji hl) ho' ho hf he).1 t hb).1 ht
        · have hl : listed.getD j false = true := by cases hl : listed.getD j false with
            | true => rfl
            | false => simp [hji, hl] at hne
          have hij : i < j := by
            rcases Nat.lt_or_ge i j with h | h
            · exact h
            · have : j = i := by omega
              rw [this, hoff] at hl; cases hl
          exact ((hap.sep i j o o' e f hij (behind j hij hj hl) ho ho' he hf).2.1 t hb).1 ht
    have hR : ∀ k, (k ∈ opKeys (overlay es (fun _ => true) S i).F o ∨ ∃ q, q < 8 ∧ k = dkey o + q) → (overlay es (fun _ => true) S i).rd k = (overlay es (fun j => listed.getD j false) S ops.size).rd k := by
      intro k hk
      rw [← overlay_cut ops.size (by omega)]
      refine overlay_key ops.size fun j f hj hf hne => ?_
      obtain ⟨o', ho'⟩ := opAt j hj
      cases hb : f.keyB k with
      | false => rfl
      | true =>
        exfalso
        by_cases hji : j < i
        · have hl : listed.getD j false = false := by cases hl : listed.getD j false with
            | false => rfl
            | true => simp [hji, hl] at hne
          have := (hap.sep j i o' o f e hji (before j hji hl) ho' ho hf he).2.2.1 k hb
          rcases hk with hk | ⟨q, hq, hk⟩
          · exact this.1 hk
          · exact this.2.1 q hq hk
        · have hl : listed.getD j false = true := by cases hl : listed.getD j false with
            | true => rfl
            | false => simp [hji, hl] at hne
          have hij : i < j := by
            rcases Nat.lt_or_ge i j with h | h
            · exact h
            · have : j = i := by omega
              rw [this, hoff] at hl; cases hl
          have := (hap.sep i j o o' e f hij (behind j hij hj hl) ho ho' he hf).2.2.2 k hb
          rcases hk with hk | ⟨q, hq, hk⟩
          · exact this.1 hk
          · exact this.2.1 q hq hk
    have hloc := (hrun.loc i o e ho he).cg hE.nat (S' := overlay es (fun j => listed.getD j false) S ops.size) hS (fun k hk => hR k (.inl hk)) (fun q hq => hR _ (.inr ⟨q, hq, rfl⟩))
    refine loc_ok hE ho (fun d hd => hrun.dst i o d ho hd) hrel hloc fun a' w' hrel' => ?_
    have hget : ∀ j, (listed.setIfInBounds i true).getD j false = if j = i then true else listed.getD j false := by
      intro j
      simp only [Array.getD_eq_getD_getElem?, Array.getElem?_setIfInBounds]
      by_cases hji : i = j
      · subst hji; simp [hsz, h1]
      · simp [hji, Ne.symm hji]
    refine ih (listed.setIfInBounds i true) a' w' (by simpa using hsz) ?_ ?_ ?_
    · have hlt : ((List.range ops.size).filter fun j => !(listed.setIfInBounds i true).getD j false).length < ((List.range ops.size).filter fun j => !listed.getD j false).length := by
        have hsub : ((List.range ops.size).filter fun j => !(listed.setIfInBounds i true).getD j false) = ((List.range ops.size).filter fun j => !listed.getD j false).filter fun j => !(Nat.beq j i) := by
          rw [List.filter_filter]
          refine List.filter_congr fun j _ => ?_
          rw [hget j]
          by_cases hji : j = i
          · subst hji; simp [Nat.beq_refl]
          · have : Nat.beq j i = false := by cases hb : Nat.beq j i with
              | false => rfl
              | true => rw [Nat.beq_eq] at hb; exact absurd hb hji
            simp [hji, this]
        rw [hsub]
        refine List.length_filter_lt_length_iff_exists.2 ⟨i, ?_, by simp [Nat.beq_refl]⟩
        rw [List.mem_filter, List.mem_range]; exact ⟨h1, by rw [hoff]; rfl⟩
      omega
    · intro i' j' hi' hl' hedge
      rw [hget] at hl' ⊢
      split
      · rfl
      · rename_i hne
        split at hl'
        · rename_i heq; subst heq; exact h3 j' hedge
        · exact hcl i' j' hi' hl' hedge
    · have hadd := overlay_add (es := es) (on := fun j => listed.getD j false) (S := S) (n := ops.size) h1 he hoff (fun j f hij hj hf hl => by
        obtain ⟨o', ho'⟩ := opAt j hj
        have := hap.sep i j o o' e f hij (behind j hij hj hl) ho ho' he hf
        exact ⟨fun t ht => (this.1 t ht).2, fun k hk => (this.2.2.1 k hk).2.2⟩)
      have heq : (fun j => (listed.setIfInBounds i true).getD j false) = fun j => if j = i then true else listed.getD j false := funext hget
      rw [heq, hadd]; exact hrel'
end
end Go.Ev
end

section
set_option linter.all false
set_option linter.unusedSimpArgs false
set_option linter.unusedVariables false
namespace Go.Ev
open Go
set_option linter.unusedVariables false
set_option linter.unusedSimpArgs false

/-- What is known, as functions. -/
def St.ab (st : St) : Ab := ⟨lk st.fr, lk st.mem⟩

def insAll : List (Nat × Root) → List (Nat × Root) → List (Nat × Root)
  | m, [] => m
  | m, u :: us => insAll (ins m u.1 u.2) us

def St.after (st : St) (dst : Option Nat) (v : Option V) (us : List (Nat × Root)) : St :=
  ⟨match dst with | some d => (match v with | some x => ins st.fr d x | none => del st.fr d) | none => st.fr, insAll st.mem us⟩

theorem insAll_lk : ∀ (us m : List (Nat × Root)), lk (insAll m us) = updM (lk m) us := by
  intro us
  induction us with
  | nil => intro m; rfl
  | cons u us ih => intro m; simp only [insAll]; rw [ih, updM_cons, lk_ins']

theorem St.after_ab (st : St) (dst : Option Nat) (v : Option V) (us : List (Nat × Root)) : (st.after dst v us).ab = (⟨dst, v, us⟩ : Eff).on st.ab := by
  unfold St.after St.ab Eff.on
  congr 1
  · cases dst with
    | none => rfl
    | some d =>
      cases v with
      | some x => simp only; rw [lk_ins']
      | none => simp only; funext s; rw [lk_del]; rfl
  · exact insAll_lk us st.mem

/-- What an operation of a DRAW region was seen to look at, and to write. -/
structure Ent where
  slot : Option Nat
  keys : List Nat
  looks : List Nat
  reads : List Nat
  dk : Nat

def memB (k : Nat) (l : List Nat) : Bool := l.any (Nat.beq k)
def inDk (k d : Nat) : Bool := Nat.ble d k && Nat.blt k (d + 8)
def slotIn (s : Option Nat) (l : List Nat) : Bool := match s with | some t => memB t l | none => false
def slotEq (s s' : Option Nat) : Bool := match s, s' with | some t, some t' => Nat.beq t t' | _, _ => false

def halfB (x y : Ent) : Bool := !(slotIn x.slot y.looks) && !(slotEq x.slot y.slot) && x.keys.all fun k => !(memB k y.reads) && !(inDk k y.dk) && !(memB k y.keys)
def apartB (x y : Ent) : Bool := halfB x y && halfB y x

def entOf (ops : Array Oper) (o : Oper) (st : St) (us : List (Nat × Root)) : Ent := ⟨o.dst, us.map (·.1), slotsOf ops o, opKeys (lk st.fr) o, dkey o⟩

/-- A new entry against all the earlier ones. -/
def entOk (ahead : Nat → Nat → Bool) (i : Nat) (x : Ent) : List (Nat × Ent) → Bool
  | [] => true
  | (j, y) :: l => (ahead i j || apartB y x) && entOk ahead i x l

section
variable {R : Type} (E : Env) (ops : Array Oper) (draw : Bool) (ahead : Nat → Nat → Bool)

/-- The operations of a region, in the order of the text. -/
def goA : List Oper → Nat → List (Nat × Ent) → St → (St → Option R) → Option R
  | [], _, _, st, κ => κ st
  | o :: l, i, log, st, κ =>
    let run (st : St) : Option R := opA E (lk st.mem) (dkey o) (fun v us =>
      bif draw then (bif entOk ahead i (entOf ops o st us) log then goA l (i + 1) ((i, entOf ops o st us) :: log) (st.after o.dst v us) κ else none)
      else goA l (i + 1) log (st.after o.dst v us) κ) (lk st.fr) o.op
    let pass (st : St) : Option R :=
      bif draw then (bif entOk ahead i (entOf ops o st []) log then goA l (i + 1) ((i, entOf ops o st []) :: log) (st.after o.dst (some (.tup [])) []) κ else none)
      else goA l (i + 1) log (st.after o.dst (some (.tup [])) []) κ
    match o.guard with
    | none => run st
    | some (j, want) =>
      match (ops[j]?).bind (·.dst) with
      | some d =>
        match lk st.fr d with
        | some (.a (.val .bool b)) =>
          bif b then (if want then run ⟨ins st.fr d (.a (.val .bool true)), st.mem⟩ else pass ⟨ins st.fr d (.a (.val .bool true)), st.mem⟩)
          else (if want then pass ⟨ins st.fr d (.a (.val .bool false)), st.mem⟩ else run ⟨ins st.fr d (.a (.val .bool false)), st.mem⟩)
        | some (.tup []) => pass st
        | _ => none
      | none => none
end
end Go.Ev
end

section
set_option linter.all false
set_option linter.unusedSimpArgs false
set_option linter.unusedVariables false
namespace Go.Ev
open Go
set_option linter.unusedVariables false
set_option linter.unusedSimpArgs false

def entAt (ops : Array Oper) (o : Oper) (S : Ab) (e : Eff) : Ent := ⟨o.dst, e.us.map (·.1), slotsOf ops o, opKeys S.F o, dkey o⟩

theorem overlay_cons {e : Eff} {es : List Eff} {S : Ab} : ∀ n, overlay (e :: es) (fun _ => true) S (n + 1) = overlay es (fun _ => true) (e.on S) n := by
  intro n
  induction n with
  | zero => rfl
  | succ n ih =>
    rw [overlay, ih]
    simp only [List.getElem?_cons_succ, overlay]

theorem entOk_all {ahead : Nat → Nat → Bool} {i : Nat} {x : Ent} : ∀ {log : List (Nat × Ent)}, entOk ahead i x log = true → ∀ p, p ∈ log → ahead i p.1 = true ∨ apartB p.2 x = true := by
  intro log
  induction log with
  | nil => intro _ p hp; simp at hp
  | cons q log ih =>
    intro h p hp
    obtain ⟨j, y⟩ := q
    simp only [entOk, Bool.and_eq_true, Bool.or_eq_true] at h
    rcases List.mem_cons.1 hp with rfl | hp
    · exact h.1
    · exact ih h.2 p hp

theorem ins_same {α : Type} {l : List (Nat × α)} {d : Nat} {x : α} (h : lk l d = some x) : lk (ins l d x) = lk l := by
  funext s; rw [lk_ins]; split
  · rename_i e; rw [e, h]
  · rfl

section
variable {R : Type} {E : Env} {ops : Array Oper} {draw : Bool} {ahead : Nat → Nat → Bool}

/-- What a region's run in the order of the text comes to. -/
def RunFrom (E : Env) (ops : Array Oper) (draw : Bool) (ahead : Nat → Nat → Bool) (κ : St → Option R) (r : R) (l : List Oper) (i : Nat) (log : List (Nat × Ent)) (st : St) : Prop :=
    ∃ (es : List Eff) (st' : St), κ st' = some r ∧ es.length = l.length ∧ st'.ab = overlay es (fun _ => true) st.ab l.length ∧
      (∀ (n : Nat) (o : Oper) (e : Eff), l[n]? = some o → es[n]? = some e → Loc E ops o (overlay es (fun _ => true) st.ab n) e) ∧
      (draw = true → (∀ (n : Nat) (o : Oper) (e : Eff), l[n]? = some o → es[n]? = some e → ∀ p, p ∈ log → ahead (i + n) p.1 = true ∨ apartB p.2 (entAt ops o (overlay es (fun _ => true) st.ab n) e) = true) ∧
        ∀ (m n : Nat) (o o' : Oper) (e e' : Eff), m < n → l[m]? = some o → es[m]? = some e → l[n]? = some o' → es[n]? = some e' →
          ahead (i + n) (i + m) = true ∨ apartB (entAt ops o (overlay es (fun _ => true) st.ab m) e) (entAt ops o' (overlay es (fun _ => true) st.ab n) e') = true)

/-- The effects of a region's run in the order of the text. -/
theorem goA_ok (hE : E.Nat') {κ : St → Option R} {r : R} : ∀ (l : List Oper) (i : Nat) (log : List (Nat × Ent)) (st : St), goA E ops draw ahead l i log st κ = some r →
    RunFrom E ops draw ahead κ r l i log st := by
  intro l
  induction l with
  | nil =>
    intro i log st h
    exact ⟨[], st, h, rfl, rfl, fun n o e hn => by simp at hn, fun _ => ⟨fun n o e hn => by simp at hn, fun m n o o' e e' _ hn => by simp at hn⟩⟩
  | cons o l ih =>
    intro i log st h
    -- one effect, then the rest
    have fin : ∀ (st0 : St) (v : Option V) (us : List (Nat × Root)), st0.ab = st.ab → Loc E ops o st.ab ⟨o.dst, v, us⟩ →
        (bif draw then (bif entOk ahead i (entOf ops o st0 us) log then goA E ops draw ahead l (i + 1) ((i, entOf ops o st0 us) :: log) (st0.after o.dst v us) κ else none)
          else goA E ops draw ahead l (i + 1) log (st0.after o.dst v us) κ) = some r → RunFrom E ops draw ahead κ r (o :: l) i log st := by
      intro st0 v us hab hloc hgo
      obtain ⟨log', hlog, hgo⟩ : ∃ log', (draw = true → entOk ahead i (entAt ops o st.ab ⟨o.dst, v, us⟩) log = true ∧ log' = (i, entAt ops o st.ab ⟨o.dst, v, us⟩) :: log) ∧ goA E ops draw ahead l (i + 1) log' (st0.after o.dst v us) κ = some r := by
        have hent : entOf ops o st0 us = entAt ops o st.ab ⟨o.dst, v, us⟩ := by rw [← hab]; rfl
        rw [hent] at hgo
        cases draw with
        | true =>
          simp only [cond_true] at hgo
          obtain ⟨hb, hgo⟩ := bif_some hgo
          exact ⟨_, fun _ => ⟨hb, rfl⟩, hgo⟩
        | false => exact ⟨log, (fun h => by cases h), hgo⟩
      obtain ⟨es, st', k1, k2, k3, k4, k5⟩ := ih (i + 1) log' _ hgo
      rw [St.after_ab, hab] at k3 k4 k5
      refine ⟨⟨o.dst, v, us⟩ :: es, st', k1, by simp [k2], by rw [k3, List.length_cons, overlay_cons], fun n o' e hn he => ?_, fun hd => ?_⟩
      · cases n with
        | zero => simp at hn he; subst hn he; exact hloc
        | succ n => rw [overlay_cons]; exact k4 n o' e (by simpa using hn) (by simpa using he)
      · obtain ⟨hok, hlog⟩ := hlog hd
        obtain ⟨g1, g2⟩ := k5 hd
        subst hlog
        refine ⟨fun n o' e hn he p hp => ?_, fun m n o1 o2 e1 e2 hmn h1 h2 h3 h4 => ?_⟩
        · cases n with
          | zero => simp at hn he; subst hn he; exact entOk_all hok p hp
          | succ n =>
            rw [overlay_cons, show i + (n + 1) = i + 1 + n by omega]
            exact g1 n o' e (by simpa using hn) (by simpa using he) p (by simp [hp])
        · cases n with
          | zero => omega
          | succ n =>
            rw [overlay_cons, show i + (n + 1) = i + 1 + n by omega]
            cases m with
            | zero =>
              simp at h1 h2; subst h1 h2
              exact g1 n o2 e2 (by simpa using h3) (by simpa using h4) (i, entAt ops o st.ab ⟨o.dst, v, us⟩) (by simp)
            | succ m =>
              rw [overlay_cons, show i + (m + 1) = i + 1 + m by omega]
              exact g2 m n o1 o2 e1 e2 (by omega) (by simpa using h1) (by simpa using h2) (by simpa using h3) (by simpa using h4)
    have run : ∀ st0 : St, st0.ab = st.ab → wantA ops o st.ab.F = some true → opA E (lk st0.mem) (dkey o) (fun v us =>
        bif draw then (bif entOk ahead i (entOf ops o st0 us) log then goA E ops draw ahead l (i + 1) ((i, entOf ops o st0 us) :: log) (st0.after o.dst v us) κ else none)
        else goA E ops draw ahead l (i + 1) log (st0.after o.dst v us) κ) (lk st0.fr) o.op = some r → RunFrom E ops draw ahead κ r (o :: l) i log st := by
      intro st0 hab hw hr
      rw [nat_op E hE] at hr
      cases hp : opA E (lk st0.mem) (dkey o) (fun v us => some (v, us)) (lk st0.fr) o.op with
      | none => rw [hp] at hr; cases hr
      | some p =>
        rw [hp] at hr
        refine fin st0 p.1 p.2 hab ⟨rfl, .inl ⟨hw, ?_⟩⟩ hr
        rw [← hab]; exact hp
    have pass : ∀ st0 : St, st0.ab = st.ab → wantA ops o st.ab.F = some false →
        (bif draw then (bif entOk ahead i (entOf ops o st0 []) log then goA E ops draw ahead l (i + 1) ((i, entOf ops o st0 []) :: log) (st0.after o.dst (some (.tup [])) []) κ else none)
        else goA E ops draw ahead l (i + 1) log (st0.after o.dst (some (.tup [])) []) κ) = some r → RunFrom E ops draw ahead κ r (o :: l) i log st := fun st0 hab hw hr => fin st0 _ _ hab ⟨rfl, .inr ⟨hw, rfl, rfl⟩⟩ hr
    simp only [goA] at h
    split at h
    · rename_i hg
      exact run st rfl (by simp [wantA, hg]) h
    · rename_i j want hg
      split at h
      · rename_i d hd
        split at h
        · rename_i b hb
          have hab : ∀ c : Bool, c = b → (⟨ins st.fr d (.a (.val .bool c)), st.mem⟩ : St).ab = st.ab := by
            rintro c rfl; unfold St.ab; rw [ins_same hb]
          have hw : wantA ops o st.ab.F = some ((b : Bool) == want) := by
            simp only [wantA, hg, hd]
            have : st.ab.F d = some (.a (.val .bool b)) := hb
            rw [this]
          cases b with
          | true =>
            simp only [cond_true] at h
            cases want with
            | true => exact run _ (hab true rfl) (by rw [hw]; rfl) h
            | false => exact pass _ (hab true rfl) (by rw [hw]; rfl) h
          | false =>
            simp only [cond_false] at h
            cases want with
            | true => exact pass _ (hab false rfl) (by rw [hw]; rfl) h
            | false => exact run _ (hab false rfl) (by rw [hw]; rfl) h
        · rename_i hb
          refine pass st rfl ?_ h
          simp only [wantA, hg, hd]
          have : st.ab.F d = some (.tup []) := hb
          rw [this]
        · cases h
      · cases h
end
end Go.Ev
end

/- A part of the proof of the claim: Core8. -/
import Derived.Test.YtnjjgbpannjfjaaDoorCore7
import Derived.Laws.Externs
section
set_option linter.all false
set_option linter.unusedSimpArgs false
set_option linter.unusedVariables false
namespace Go.Ev
open Go
set_option linter.unusedVariables false
set_option linter.unusedSimpArgs false

/-- How a parameter comes, and of which type. -/
inductive PTy where
  | v (T : Ty)
  | p (T : Ty)
  | pin (T : Ty)
  | s (T : Ty)
  | clo (f : Nat) (l : List (Bool × Ty))
  | g (T : Ty)

def PTy.mode : PTy → Mode
  | .v _ => .v
  | .p _ => .p
  | .pin _ => .pin
  | .s _ => .s
  | .clo _ _ => .clo
  | .g _ => .g

def capsR : List (Bool × Ty) → List Ty → List Ty
  | [], l => l
  | c :: cs, l => c.2 :: capsR cs l
def PTy.tsR : PTy → List Ty → List Ty
  | .v T, l => T :: l
  | .p T, l => T :: l
  | .pin T, l => T :: l
  | .s T, l => .own T :: l
  | .clo _ cs, l => capsR cs l
  | .g T, l => T :: l
def sigTs : List PTy → List Ty
  | [] => []
  | p :: ps => p.tsR (sigTs ps)

def capIn : (cs : List (Bool × Ty)) → (l : List Ty) → List (Bool × TV) → HL l → Option (HL (capsR cs l))
  | [], _, [], h => some h
  | c :: cs, l, y :: ys, h =>
    match capIn cs l ys h with
    | some h' => if c.1 = y.1 ∧ y.2.T.pure = true then (match Ty.co y.2.T c.2 y.2.x with | some z => some (z, h') | none => none) else none
    | none => none
  | _, _, _, _ => none

def PTy.take : (p : PTy) → (l : List Ty) → Arg → HL l → Option (HL (p.tsR l))
  | .v T, _, .v T' x, h => if T'.pure then (match Ty.co T' T x with | some z => some (z, h) | none => none) else none
  | .p T, _, .p T' x, h => if T'.pure then (match Ty.co T' T x with | some z => some (z, h) | none => none) else none
  | .pin T, _, .pin T' x, h => if T'.pure then (match Ty.co T' T x with | some z => some (z, h) | none => none) else none
  | .s T, _, .s T' x, h => if e : T' = T then some (cast (congrArg (fun t => List (Ty.den t)) e) x, h) else none
  | .clo f cs, l, .clo f' ys, h => if Nat.beq f f' then capIn cs l ys h else none
  | .g T, _, .v T' x, h => if T'.pure then (match Ty.co T' T x with | some z => some (z, h) | none => none) else none
  | _, _, _, _ => none

def takeAll : (sig : List PTy) → List Arg → Option (HL (sigTs sig))
  | [], [] => some ()
  | p :: ps, a :: as => match takeAll ps as with | some h => p.take (sigTs ps) a h | none => none
  | _, _ => none

def capGet : (cs : List (Bool × Ty)) → (l : List Ty) → HL (capsR cs l) → List A × HL l
  | [], _, h => ([], h)
  | c :: cs, l, h => let q := capGet cs l h.2; ((bif c.1 then .pin c.2 h.1 else .val c.2 h.1) :: q.1, q.2)

/-- The state that a call begins in. -/
def initSt : (sig : List PTy) → (i : Nat) → HL (sigTs sig) → St
  | [], _, _ => ⟨[], []⟩
  | .v T :: ps, i, h => let s := initSt ps (i + 1) h.2; ⟨(i, .a (.val T h.1)) :: s.fr, s.mem⟩
  | .g T :: ps, i, h => let s := initSt ps (i + 1) h.2; ⟨(i, .a (.val T h.1)) :: s.fr, s.mem⟩
  | .p T :: ps, i, h => let s := initSt ps (i + 1) h.2; ⟨(i, .a (.ref (8 * i) 0 0 [])) :: s.fr, (8 * i, ⟨false, true, 0, 0, 0, T, h.1⟩) :: s.mem⟩
  | .pin T :: ps, i, h => let s := initSt ps (i + 1) h.2; ⟨(i, .a (.pin T h.1)) :: s.fr, s.mem⟩
  | .s T :: ps, i, h => let s := initSt ps (i + 1) h.2; ⟨(i, .a (.hdr (8 * i) 0 0 [])) :: s.fr, (8 * i, ⟨true, true, 0, 0, 0, .own T, h.1⟩) :: s.mem⟩
  | .clo f cs :: ps, i, h => let q := capGet cs (sigTs ps) h; let s := initSt ps (i + 1) q.2; ⟨(i, .clo f q.1) :: s.fr, s.mem⟩

def resIn (rd : Nat → Option Root) : (T : Ty) → A → Option (T.den × List Nat × List Nat)
  | .own E, .hdr k g ver [] =>
    match liveH rd k g ver [] with
    | some r => if r.vec && !r.par then (match r.T, r.x with | .own E', l => (if h : E' = E then some (cast (congrArg (fun t => List (Ty.den t)) h) l, [k], []) else none) | _, _ => none) else none
    | none => none
  | .own _, .val .nil _ => some ([], [], [])
  | T, x =>
    match snap rd x with
    | some (y, ks) => (match Ty.co y.T T y.x with | some z => some (z, [], ks) | none => none)
    | none => none

def retIn (rd : Nat → Option Root) : (Ts : List Ty) → List A → Option (HL Ts × List Nat × List Nat)
  | [], [] => some ((), [], [])
  | T :: Ts, x :: xs =>
    match retIn rd Ts xs, resIn rd T x with
    | some (h, os, ls), some (z, o, l) => some ((z, h), o ++ os, l ++ ls)
    | _, _ => none
  | _, _ => none

def resOf (E : Env) (rd : Nat → Option Root) (F : Nat → Option V) : ResultVar → Option A
  | .tmp t => match F t with | some (.a x) => some x | _ => none
  | .cell t ty =>
    match E.Γ ty with
    | some T => (match loadA rd (fun v _ => v) T (F t) with | some (.a x) => some x | _ => none)
    | none => none

def resAll (E : Env) (rd : Nat → Option Root) (F : Nat → Option V) : List ResultVar → Option (List A)
  | [] => some []
  | v :: vs => match resAll E rd F vs, resOf E rd F v with | some l, some x => some (x :: l) | _, _ => none

def updTs : List PTy → List Ty
  | [] => []
  | .p T :: ps => T :: updTs ps
  | .s T :: ps => .own T :: updTs ps
  | _ :: ps => updTs ps

def updP (rd : Nat → Option Root) (T : Ty) : Option V → Option T.den
  | some (.a (.ref k g ver [])) =>
    match live rd k g ver [] with
    | some r => if !r.vec && r.T.pure then Ty.co r.T T r.x else none
    | none => none
  | _ => none
def updS (rd : Nat → Option Root) (T : Ty) : Option V → Option (List T.den)
  | some (.a (.hdr k g ver [])) =>
    match liveH rd k g ver [] with
    | some r => if r.vec then (match r.T, r.x with | .own E', l => (if h : E' = T then some (cast (congrArg (fun t => List (Ty.den t)) h) l) else none) | _, _ => none) else none
    | none => none
  | _ => none

def updIn (rd : Nat → Option Root) (F : Nat → Option V) : (sig : List PTy) → (i : Nat) → Option (HL (updTs sig))
  | [], _ => some ()
  | .p T :: ps, i => match updIn rd F ps (i + 1), updP rd T (F i) with | some h, some z => some (z, h) | _, _ => none
  | .s T :: ps, i => match updIn rd F ps (i + 1), updS rd T (F i) with | some h, some z => some (z, h) | _, _ => none
  | .v _ :: ps, i => updIn rd F ps (i + 1)
  | .pin _ :: ps, i => updIn rd F ps (i + 1)
  | .clo _ _ :: ps, i => updIn rd F ps (i + 1)
  | .g _ :: ps, i => updIn rd F ps (i + 1)

section
variable {R : Type} (E : Env)

/-- What a call yields. -/
def retA (rvs : List ResultVar) (sig : List PTy) (Ts : List Ty) (κ : HL Ts → HL (updTs sig) → Option R) (st : St) : Option R :=
  match resAll E (lk st.mem) (lk st.fr) rvs with
  | some xs =>
    match retIn (lk st.mem) Ts xs, updIn (lk st.mem) (lk st.fr) sig 0 with
    | some (h, os, ls), some u =>
      if nodupB os && !(os.any fun k => ls.any (Nat.beq k)) && ls.all (fun k => match lk st.mem k with | some r => !r.par | none => false) then κ h u else none
    | _, _ => none
  | none => none

noncomputable def bodyA (N : Nat) (an : Ann) (c : Code) (rvs : List ResultVar) (sig : List PTy) (Ts : List Ty) (x : HL (sigTs sig)) (κ : HL Ts → HL (updTs sig) → Option R) : Option R :=
  fSt (initSt sig 0 x) fun st => exec E N an c st ⟨retA E rvs sig Ts κ, fun _ _ => none, retA E rvs sig Ts κ⟩
end

/-- What is told of a function, of its typed arguments. -/
def Sp.of (sig : List PTy) (Ts : List Ty) (body : {R : Type} → HL (sigTs sig) → (HL Ts → HL (updTs sig) → Option R) → Option R) : Sp :=
  ⟨sig.map PTy.mode, fun args κ => match takeAll sig args with | some x => body x (fun h u => κ (HL.tvs Ts h) (HL.tvs (updTs sig) u)) | none => none⟩

/-- The parameters that may be written stay in their slots. -/
def keptSig (kp : List Nat) : List PTy → Nat → Bool
  | [], _ => true
  | .p _ :: ps, i => memB i kp && keptSig kp ps (i + 1)
  | .s _ :: ps, i => memB i kp && keptSig kp ps (i + 1)
  | _ :: ps, i => keptSig kp ps (i + 1)

/-! ### Naturality -/
theorem nat_ret {E : Env} {rvs : List ResultVar} {sig : List PTy} {Ts : List Ty} {R S : Type} {κ : HL Ts → HL (updTs sig) → Option S} {f : S → Option R} {st : St} :
    (retA E rvs sig Ts κ st).bind f = retA E rvs sig Ts (fun h u => (κ h u).bind f) st := by
  unfold retA
  split
  · split
    · split <;> rfl
    · rfl
  · rfl

theorem nat_body {E : Env} (hE : E.Nat') {N : Nat} {an : Ann} {c : Code} {rvs : List ResultVar} {sig : List PTy} {Ts : List Ty} {x : HL (sigTs sig)} {R S : Type} {κ : HL Ts → HL (updTs sig) → Option S} {f : S → Option R} :
    (bodyA E N an c rvs sig Ts x κ).bind f = bodyA E N an c rvs sig Ts x (fun h u => (κ h u).bind f) := by
  unfold bodyA
  simp only [fSt_eq]
  rw [← nat_exec hE]
  simp only [nat_ret, Option.bind_none]

theorem Sp.of_nat {E : Env} (hE : E.Nat') {N : Nat} {an : Ann} {c : Code} {rvs : List ResultVar} {sig : List PTy} {Ts : List Ty} {body : {R : Type} → HL (sigTs sig) → (HL Ts → HL (updTs sig) → Option R) → Option R}
    (hrun : ∀ (R : Type) (x : HL (sigTs sig)) (κ : HL Ts → HL (updTs sig) → Option R), bodyA E N an c rvs sig Ts x κ = body x κ) : (Sp.of sig Ts body).Nat' := by
  intro R args κ
  simp only [Sp.of]
  split
  · rw [← hrun, ← hrun, nat_body hE]; rfl
  · rfl

/-! ### The beginning -/
section
variable {eT : TypeId} {w : World} {J : Nat → Prop}

/-- What stands in a slot when a call begins. -/
inductive SlotIn (eT : TypeId) (w : World) (J : Nat → Prop) (mem : Nat → Option Root) (t : Nat) : V → Value → Prop
  | val {x : V} {v : Value} (h : ∀ M anc, VRel eT w J M anc x v) : SlotIn eT w J mem t x v
  | ref {T : Ty} {y : T.den} {b : Nat} (h : mem (8 * t) = some ⟨false, true, 0, 0, 0, T, y⟩) : SlotIn eT w J mem t (.a (.ref (8 * t) 0 0 [])) (.pointer (some ⟨b, 0, none⟩))
  | hdr {T : Ty} {y : List T.den} {a : Option Addr} {n m : Nat} (h : mem (8 * t) = some ⟨true, true, 0, 0, 0, .own T, y⟩) : SlotIn eT w J mem t (.a (.hdr (8 * t) 0 0 [])) (.slice a n m)

inductive RootIn (eT : TypeId) (w : World) (J : Nat → Prop) : Root → Value → List Nat → Prop
  | p {T : Ty} {y : T.den} {b : Nat} (h : T.pure = true) (h1 : ownB w b T.size) (h2 : Cn eT w J T y (cellsAt w b 0 T.size) []) : RootIn eT w J ⟨false, true, 0, 0, 0, T, y⟩ (.pointer (some ⟨b, 0, none⟩)) [b]
  | s {T : Ty} {y : List T.den} {a : Option Addr} {n m : Nat} (h : T.pure = true) (h2 : Cn eT w J (.own T) y [.slice a n m] (rowsOf (.slice a n m))) : RootIn eT w J ⟨true, true, 0, 0, 0, .own T, y⟩ (.slice a n m) (rowsOf (.slice a n m))

theorem capIn_ok : ∀ {cs : List (Bool × Ty)} {l : List Ty} {ys : List (Bool × TV)} {h : HL l} {h' : HL (capsR cs l)}, capIn cs l ys h = some h' → ∀ {vs : List Value}, All2 (CapRel eT w J) ys vs →
    (∀ M anc, AsRel eT w J M anc (capGet cs l h').1 vs) ∧ (capGet cs l h').2 = h := by
  intro cs
  induction cs with
  | nil =>
    intro l ys h h' hp vs hv
    cases ys with
    | nil => simp only [capIn] at hp; cases hp; cases hv; exact ⟨fun M anc => ⟨rfl, fun i hi => absurd hi (Nat.not_lt_zero _)⟩, rfl⟩
    | cons _ _ => simp only [capIn] at hp; cases hp
  | cons c cs ih =>
    intro l ys h h' hp vs hv
    cases ys with
    | nil => simp only [capIn] at hp; cases hp
    | cons y ys =>
      simp only [capIn] at hp
      split at hp
      · rename_i h1 he
        split at hp
        · rename_i hc
          split at hp
          · rename_i z hz
            cases hp
            cases hv with
            | cons hv0 hvs =>
              rename_i v vs
              obtain ⟨g3, g4⟩ := ih he hvs
              simp only [capGet]
              refine ⟨fun M anc => ⟨by have := (g3 M anc).1; simpa using this, fun i hi => ?_⟩, g4⟩
              cases i with
              | zero =>
                simp only [List.getElem_cons_zero, List.getD_cons_zero]
                obtain ⟨yb, yt⟩ := y
                obtain ⟨cb, ct⟩ := c
                simp only at hc hz ⊢
                obtain ⟨rfl, hpu⟩ := hc
                cases cb with
                | false =>
                  obtain ⟨cs0, hcn, rfl⟩ := hv0
                  obtain ⟨k1, k2, _⟩ := co_Cn hz hpu hcn
                  exact ⟨cs0, k1, by unfold conc; rw [Ty.agg_of_era k2]⟩
                | true =>
                  obtain ⟨b, o, rfl, hJ, hcn⟩ := hv0
                  obtain ⟨k1, k2, _⟩ := co_Cn hz hpu hcn
                  exact ⟨b, o, rfl, hJ, by rw [Ty.size_of_era k2]; exact k1⟩
              | succ i => have := (g3 M anc).2 i (by simpa using hi); simpa using this
          · cases hp
        · cases hp
      · cases hp

def d0 : Arg := .v .unit ()

theorem takeAll_len : ∀ {sig : List PTy} {args : List Arg} {x : HL (sigTs sig)}, takeAll sig args = some x → args.length = sig.length := by
  intro sig
  induction sig with
  | nil => intro args x h; cases args <;> simp [takeAll] at h ⊢
  | cons p ps ih =>
    intro args x h
    cases args with
    | nil => simp [takeAll] at h
    | cons a as =>
      simp only [takeAll] at h
      split at h
      · rename_i h1 he; simp [ih he]
      · cases h

theorem init_ok : ∀ {sig : List PTy} {i : Nat} {args : List Arg} {vs : List Value} {x : HL (sigTs sig)}, takeAll sig args = some x → All2 (ArgRel eT w J) args vs →
    (∀ t v, lk (initSt sig i x).fr t = some v → i ≤ t ∧ t < i + vs.length ∧ SlotIn eT w J (lk (initSt sig i x).mem) t v (vs.getD (t - i) undef)) ∧
    (∀ k r, lk (initSt sig i x).mem k = some r → ∃ t, k = 8 * t ∧ i ≤ t ∧ t < i + vs.length ∧ RootIn eT w J r (vs.getD (t - i) undef) (wrRows (args.getD (t - i) d0) (vs.getD (t - i) undef))) := by
  intro sig
  induction sig with
  | nil =>
    intro i args vs x h hv
    exact ⟨fun t v ht => by simp [initSt, lk] at ht, fun k r hk => by simp [initSt, lk] at hk⟩
  | cons p ps ih =>
    intro i args vs x h hv
    cases args with
    | nil => simp [takeAll] at h
    | cons a as =>
      cases hv with
      | cons hv0 hvs =>
        rename_i v vs
        simp only [takeAll] at h
        split at h
        · rename_i h1 he
          obtain ⟨g1, g2⟩ := ih (i := i + 1) he hvs
          have sub : ∀ {t : Nat}, i + 1 ≤ t → (v :: vs).getD (t - i) undef = vs.getD (t - (i + 1)) undef := fun {t} ht => by
            rw [show t - i = (t - (i + 1)) + 1 by omega, List.getD_cons_succ]
          have subA : ∀ {t : Nat}, i + 1 ≤ t → (a :: as).getD (t - i) d0 = as.getD (t - (i + 1)) d0 := fun {t} ht => by
            rw [show t - i = (t - (i + 1)) + 1 by omega, List.getD_cons_succ]
          have lift : ∀ {mem mem' : Nat → Option Root} {t : Nat} {u : V} {val : Value}, mem' (8 * t) = mem (8 * t) → SlotIn eT w J mem t u val → SlotIn eT w J mem' t u val := by
            intro mem mem' t u val hm hs
            cases hs with
            | val h => exact .val h
            | ref h => exact .ref (by rw [hm]; exact h)
            | hdr h => exact .hdr (by rw [hm]; exact h)
          -- a slot that brings no root
          have quiet : ∀ {u : V} (hu : ∀ M anc, VRel eT w J M anc u v) {s : St}, s = initSt ps (i + 1) h1 →
              (∀ t u', lk ((i, u) :: s.fr) t = some u' → i ≤ t ∧ t < i + (v :: vs).length ∧ SlotIn eT w J (lk s.mem) t u' ((v :: vs).getD (t - i) undef)) ∧
              (∀ k r, lk s.mem k = some r → ∃ t, k = 8 * t ∧ i ≤ t ∧ t < i + (v :: vs).length ∧ RootIn eT w J r ((v :: vs).getD (t - i) undef) (wrRows ((a :: as).getD (t - i) d0) ((v :: vs).getD (t - i) undef))) := by
            rintro u hu s rfl
            refine ⟨fun t u' ht => ?_, fun k r hk => ?_⟩
            · simp only [lk] at ht
              split at ht
              · rename_i hb; rw [Nat.beq_eq] at hb; subst hb; cases ht
                exact ⟨Nat.le_refl _, by simp, by rw [Nat.sub_self]; exact .val hu⟩
              · obtain ⟨k1, k2, k3⟩ := g1 t u' ht
                exact ⟨by omega, by simp; omega, by rw [sub k1]; exact k3⟩
            · obtain ⟨t, k0, k1, k2, k3⟩ := g2 k r hk
              exact ⟨t, k0, by omega, by simp; omega, by rw [sub k1, subA k1]; exact k3⟩
          -- one that brings one
          have loud : ∀ {u : V} {r0 : Root} (hu : ∀ mem : Nat → Option Root, mem (8 * i) = some r0 → SlotIn eT w J mem i u v) (hr : RootIn eT w J r0 v (wrRows a v)) {s : St}, s = initSt ps (i + 1) h1 →
              (∀ t u', lk ((i, u) :: s.fr) t = some u' → i ≤ t ∧ t < i + (v :: vs).length ∧ SlotIn eT w J (lk ((8 * i, r0) :: s.mem)) t u' ((v :: vs).getD (t - i) undef)) ∧
              (∀ k r, lk ((8 * i, r0) :: s.mem) k = some r → ∃ t, k = 8 * t ∧ i ≤ t ∧ t < i + (v :: vs).length ∧ RootIn eT w J r ((v :: vs).getD (t - i) undef) (wrRows ((a :: as).getD (t - i) d0) ((v :: vs).getD (t - i) undef))) := by
            rintro u r0 hu hr s rfl
            refine ⟨fun t u' ht => ?_, fun k r hk => ?_⟩
            · simp only [lk] at ht
              split at ht
              · rename_i hb; rw [Nat.beq_eq] at hb; subst hb; cases ht
                exact ⟨Nat.le_refl _, by simp, by rw [Nat.sub_self]; exact hu _ (by simp only [lk, Nat.beq_refl, if_true])⟩
              · obtain ⟨k1, k2, k3⟩ := g1 t u' ht
                refine ⟨by omega, by simp; omega, ?_⟩
                rw [sub k1]
                refine lift ?_ k3
                simp only [lk]; rw [if_neg (show ¬ Nat.beq (8 * i) (8 * t) = true by rw [Nat.beq_eq]; omega)]
            · simp only [lk] at hk
              split at hk
              · rename_i hb; rw [Nat.beq_eq] at hb; subst hb; cases hk
                exact ⟨i, rfl, Nat.le_refl _, by simp, by rw [Nat.sub_self]; exact hr⟩
              · obtain ⟨t, k0, k1, k2, k3⟩ := g2 k r hk
                exact ⟨t, k0, by omega, by simp; omega, by rw [sub k1, subA k1]; exact k3⟩
          cases p with
          | v T =>
            cases a with
            | v T' y =>
              have h : (if T'.pure then (match Ty.co T' T y with | some z => some (z, h1) | none => none) else none) = some x := h
              split at h
              · rename_i hp
                split at h
                · rename_i z hz
                  cases h
                  obtain ⟨cs, hc, rfl⟩ := hv0
                  obtain ⟨k1, k2, _⟩ := co_Cn hz hp hc
                  exact quiet (u := .a (.val T z)) (fun M anc => ⟨cs, k1, by unfold conc; rw [Ty.agg_of_era k2]⟩) rfl
                · cases h
              · cases h
            | _ => cases h
          | g T =>
            cases a with
            | v T' y =>
              have h : (if T'.pure then (match Ty.co T' T y with | some z => some (z, h1) | none => none) else none) = some x := h
              split at h
              · rename_i hp
                split at h
                · rename_i z hz
                  cases h
                  obtain ⟨cs, hc, rfl⟩ := hv0
                  obtain ⟨k1, k2, _⟩ := co_Cn hz hp hc
                  exact quiet (u := .a (.val T z)) (fun M anc => ⟨cs, k1, by unfold conc; rw [Ty.agg_of_era k2]⟩) rfl
                · cases h
              · cases h
            | _ => cases h
          | p T =>
            cases a with
            | p T' y =>
              have h : (if T'.pure then (match Ty.co T' T y with | some z => some (z, h1) | none => none) else none) = some x := h
              split at h
              · rename_i hp
                split at h
                · rename_i z hz
                  cases h
                  obtain ⟨_, b, rfl, ho, hc⟩ := hv0
                  obtain ⟨k1, k2, k3⟩ := co_Cn hz hp hc
                  refine loud (r0 := ⟨false, true, 0, 0, 0, T, z⟩) (fun mem hm => .ref hm) ?_ rfl
                  have hs := Ty.size_of_era k2
                  exact .p k3 (by rw [hs]; exact ho) (by rw [hs]; exact k1)
                · cases h
              · cases h
            | _ => cases h
          | pin T =>
            cases a with
            | pin T' y =>
              have h : (if T'.pure then (match Ty.co T' T y with | some z => some (z, h1) | none => none) else none) = some x := h
              split at h
              · rename_i hp
                split at h
                · rename_i z hz
                  cases h
                  obtain ⟨b, o, rfl, hJ, hc⟩ := hv0
                  obtain ⟨k1, k2, _⟩ := co_Cn hz hp hc
                  exact quiet (u := .a (.pin T z)) (fun M anc => ⟨b, o, rfl, hJ, by rw [Ty.size_of_era k2]; exact k1⟩) rfl
                · cases h
              · cases h
            | _ => cases h
          | s T =>
            cases a with
            | s T' y =>
              have h : (if e : T' = T then some (cast (congrArg (fun t => List (Ty.den t)) e) y, h1) else none) = some x := h
              split at h
              · rename_i e
                subst e
                cases h
                obtain ⟨hp, hc⟩ := hv0
                have hc0 := hc
                simp only [Cn] at hc
                obtain ⟨a, cap, hcs, _⟩ := hc
                cases hcs
                exact loud (r0 := ⟨true, true, 0, 0, 0, .own T', y⟩) (fun mem hm => .hdr hm) (.s hp hc0) rfl
              · cases h
            | _ => cases h
          | clo f cs =>
            cases a with
            | clo f' ys =>
              have hq : (if Nat.beq f f' then capIn cs (sigTs ps) ys h1 else none) = some x := h
              split at hq
              · rename_i hb
                rw [Nat.beq_eq] at hb
                subst hb
                obtain ⟨cv, rfl, hcv⟩ := hv0
                obtain ⟨k1, k2⟩ := capIn_ok hq hcv
                have := quiet (u := .clo f (capGet cs (sigTs ps) x).1) (fun M anc => ⟨cv, rfl, k1 M anc⟩) (s := initSt ps (i + 1) h1) rfl
                simp only [initSt]
                rw [k2]; exact this
              · cases hq
            | _ => cases h
        · cases h

theorem wr_mem : ∀ {args : List Arg} {vs : List Value}, args.length = vs.length → ∀ (j b : Nat), b ∈ wrRows (args.getD j d0) (vs.getD j undef) → b ∈ wrAll args vs := by
  intro args
  induction args with
  | nil => intro vs h j b hb; simp [wrRows, d0] at hb
  | cons a as ih =>
    intro vs h j b hb
    cases vs with
    | nil => simp at h
    | cons v vs =>
      simp only [wrAll, List.mem_append]
      cases j with
      | zero => exact .inl (by simpa using hb)
      | succ j => exact .inr (ih (by simpa using h) j b (by simpa using hb))

theorem wr_apart : ∀ {args : List Arg} {vs : List Value}, args.length = vs.length → (wrAll args vs).Nodup → ∀ (j j' b : Nat), j ≠ j' → b ∈ wrRows (args.getD j d0) (vs.getD j undef) → b ∉ wrRows (args.getD j' d0) (vs.getD j' undef) := by
  intro args
  induction args with
  | nil => intro vs h _ j j' b _ hb; simp [wrRows, d0] at hb
  | cons a as ih =>
    intro vs h hn j j' b hne hb hb'
    cases vs with
    | nil => simp at h
    | cons v vs =>
      simp only [wrAll, List.nodup_append] at hn
      obtain ⟨n1, n2, n3⟩ := hn
      cases j with
      | zero =>
        cases j' with
        | zero => exact hne rfl
        | succ j' => exact n3 b (by simpa using hb) b (wr_mem (by simpa using h) j' b (by simpa using hb')) rfl
      | succ j =>
        cases j' with
        | zero => exact n3 b (by simpa using hb') b (wr_mem (by simpa using h) j b (by simpa using hb)) rfl
        | succ j' => exact ih (by simpa using h) n2 j j' b (by omega) (by simpa using hb) (by simpa using hb')

theorem wrRows_nodup (a : Arg) (v : Value) : (wrRows a v).Nodup := by
  cases a <;> simp only [wrRows, List.nodup_nil] <;> unfold rowsOf <;> split <;> simp

/-- The call's beginning, as it is known. -/
def ghOf (kp : List Nat) (args : List Arg) (vs : List Value) (w : World) (J : Nat → Prop) : Gh :=
  ⟨w, fun b => b ∈ wrAll args vs, J, fun t => if memB t kp && Nat.blt t vs.length then some (vs.getD t undef) else none⟩

def ancOf (vs : List Value) (k : Nat) : Pl := match vs.getD (k / 8) undef with | .pointer (some a) => .at a.block 0 | v => .hd v

theorem begin_ok {kp : List Nat} {N : Nat} {sig : List PTy} {args : List Arg} {vs : List Value} {x : HL (sigTs sig)} (hx : takeAll sig args = some x) (hv : All2 (ArgRel eT w J) args vs) (hn : (wrAll args vs).Nodup)
    (hf : ∀ b, b ∈ wrAll args vs → ¬ J b ∧ b < w.heap.size) (hJ : ∀ b, J b → b < w.heap.size) (hN : sig.length ≤ N) :
    RelA eT (ghOf kp args vs w J) N (initSt sig 0 x).ab { tmps := vs.toArray ++ Array.replicate (N - vs.toArray.size) undef, defers := [] } w := by
  have hlen : args.length = vs.length := hv.length
  have hlen2 := takeAll_len hx
  obtain ⟨g1, g2⟩ := init_ok (i := 0) hx hv
  have hget : ∀ t, (vs.toArray ++ Array.replicate (N - vs.toArray.size) undef).getD t undef = vs.getD t undef := by
    intro t
    rw [Array.getD_eq_getD_getElem?, List.getD_eq_getElem?_getD, Array.getElem?_append]
    simp only [List.size_toArray, List.getElem?_toArray, Array.getElem?_replicate]
    split
    · rfl
    · rename_i h
      rw [List.getElem?_eq_none (by omega)]
      split <;> rfl
  refine ⟨J, ancOf vs, fun k => if k % 8 = 0 then wrRows (args.getD (k / 8) d0) (vs.getD (k / 8) undef) else [], fun t v ht => ?_, ?_, rfl, by simp; omega, fun t v ht => ?_⟩
  · obtain ⟨_, k2, k3⟩ := g1 t v ht
    simp only [Nat.zero_add, Nat.sub_zero] at k2 k3
    refine ⟨by omega, ?_⟩
    simp only [hget]
    have hanc : ancOf vs (8 * t) = (match vs.getD t undef with | .pointer (some a) => .at a.block 0 | v => .hd v) := by unfold ancOf; rw [Nat.mul_div_cancel_left t (by omega)]
    generalize vs.getD t undef = val at k3 hanc
    cases k3 with
    | val h => exact h _ _
    | @ref T y b h =>
      refine ⟨_, h, Nat.le_refl _, fun _ => ⟨Nat.le_refl _, fun _ => ⟨okP_nil _ _, b, 0, ?_, rfl⟩⟩⟩
      rw [hanc]
      cases T <;> rfl
    | hdr h =>
      refine ⟨_, h, Nat.le_refl _, fun _ => ⟨Nat.le_refl _, fun _ => ⟨okP_nil _ _, fun hne => absurd ⟨rfl, rfl⟩ hne, ?_⟩⟩⟩
      rw [hanc]; rfl
  · have hfp : ∀ k r, lk (initSt sig 0 x).mem k = some r → ∃ t, k = 8 * t ∧ t < vs.length ∧ RootIn eT w J r (vs.getD t undef) (wrRows (args.getD t d0) (vs.getD t undef)) := by
      intro k r hk
      obtain ⟨t, k0, k1, k2, k3⟩ := g2 k r hk
      exact ⟨t, k0, by omega, by simpa using k3⟩
    have hrow : ∀ t : Nat, (if 8 * t % 8 = 0 then wrRows (args.getD (8 * t / 8) d0) (vs.getD (8 * t / 8) undef) else []) = wrRows (args.getD t d0) (vs.getD t undef) := by
      intro t; rw [if_pos (Nat.mul_mod_right 8 t), Nat.mul_div_cancel_left t (by omega)]
    refine ⟨fun k r hk => ?_, fun k r hk => ?_, fun k k' r r' hne hk hk' b hb => ?_, fun k r hk b hb => ?_, hJ, fun b hb hW => (hf b hW).1 hb, fun b hb => hb, fun b hb => .inl hb, rfl, rfl, rfl, Nat.le_refl _, fun _ _ _ => rfl, fun b hb => (hf b hb).2⟩
    · obtain ⟨t, rfl, _, k3⟩ := hfp k r hk
      simp only [hrow]
      have hanc : ancOf vs (8 * t) = (match vs.getD t undef with | .pointer (some a) => .at a.block 0 | v => .hd v) := by unfold ancOf; rw [Nat.mul_div_cancel_left t (by omega)]
      rw [hanc]
      generalize vs.getD t undef = val at k3
      generalize wrRows (args.getD t d0) val = rows at k3
      cases k3 with
      | p h h1 h2 => exact ⟨.inr ⟨_, rfl, rfl, h1⟩, [], rfl, h2⟩
      | s h h2 => exact ⟨.inl ⟨_, rfl, rfl, rfl⟩, _, rfl, h2⟩
    · obtain ⟨t, rfl, _, k3⟩ := hfp k r hk
      simp only [hrow]
      exact wrRows_nodup _ _
    · obtain ⟨t, rfl, _, k3⟩ := hfp k r hk
      obtain ⟨t', rfl, _, k3'⟩ := hfp k' r' hk'
      simp only [hrow] at hb ⊢
      exact wr_apart hlen hn t t' b (by rintro rfl; exact hne rfl) hb
    · obtain ⟨t, rfl, _, k3⟩ := hfp k r hk
      simp only [hrow] at hb
      have hw := wr_mem hlen t b hb
      refine ⟨(hf b hw).1, (hf b hw).2, .inr ⟨?_, hw⟩⟩
      generalize vs.getD t undef = val at k3
      generalize wrRows (args.getD t d0) val = rows at k3
      cases k3 <;> rfl
  · simp only [ghOf] at ht
    split at ht
    · cases ht; exact hget t
    · cases ht
end
end Go.Ev
end

section
set_option linter.all false
set_option linter.unusedSimpArgs false
set_option linter.unusedVariables false
namespace Go.Ev
open Go
set_option linter.unusedVariables false
set_option linter.unusedSimpArgs false
section
variable {eT : TypeId} {G : Gh} {M : Nat → Option Root} {w : World} {J : Nat → Prop} {anc : Nat → Pl} {fp : Nat → List Nat} {P : Program} {R : Type}

theorem resRel_mk {T : Ty} {z : T.den} {v : Value} (hp : T.pure = true) (h : ∃ cs, Cn eT w J T z cs [] ∧ v = conc T cs) : ResRel eT w J ⟨T, z⟩ v [] := by
  cases T
  case own E => simp [Ty.pure] at hp
  all_goals exact ⟨hp, rfl, h⟩

theorem snap_pure {x : A} {y : TV} {ks : List Nat} (h : snap M x = some (y, ks)) : y.T.pure = true := by
  unfold snap at h
  split at h
  · split at h
    · rename_i hp; cases h; exact hp
    · cases h
  · split at h
    · split at h
      · split at h
        · rename_i hp; cases h; exact hp
        · cases h
      · cases h
    · cases h
  · split at h
    · split at h
      · split at h
        · rename_i hp; cases h; exact hp
        · cases h
      · cases h
    · cases h
  · split at h
    · simp only at h
      split at h
      · rename_i hp; cases h; exact hp
      · cases h
    · cases h
  · cases h

def ResGood (eT : TypeId) (M : Nat → Option Root) (w : World) (J : Nat → Prop) (fp : Nat → List Nat) (y : TV) (val : Value) (os ls : List Nat) : Prop :=
  (∀ k, k ∈ ls → ∃ r, M k = some r) ∧ (∀ k, k ∈ os → ∃ r, M k = some r ∧ r.par = false) ∧
    ∀ J', (∀ b, J b → J' b) → (∀ k, k ∈ ls → ∀ b, b ∈ fp k → J' b) → ResRel eT w J' y val (os.flatMap fp)

theorem resIn_snap (h : MOk eT G M w J anc fp) {T : Ty} {x : A} {val : Value} (hv : ARel eT w J M anc x val) {z : T.den} {os ls : List Nat}
    (hr : (match snap M x with | some (y, ks) => (match Ty.co y.T T y.x with | some z => some (z, [], ks) | none => none) | none => none) = some (z, os, ls)) : ResGood eT M w J fp ⟨T, z⟩ val os ls := by
  split at hr
  · rename_i y ks hs
    split at hr
    · rename_i z' hz
      cases hr
      obtain ⟨h1, h2⟩ := snap_ok h hv hs
      refine ⟨h1, fun k hk => by simp at hk, fun J' hJ hl => ?_⟩
      obtain ⟨cs, hc, rfl⟩ := h2 J' hJ hl
      obtain ⟨k1, k2, k3⟩ := co_Cn hz (snap_pure hs) hc
      exact resRel_mk k3 ⟨cs, k1, by unfold conc; rw [Ty.agg_of_era k2]⟩
    · cases hr
  · cases hr

theorem resIn_ok (h : MOk eT G M w J anc fp) {T : Ty} {x : A} {val : Value} (hv : ARel eT w J M anc x val) {z : T.den} {os ls : List Nat} (hr : resIn M T x = some (z, os, ls)) :
    ResGood eT M w J fp ⟨T, z⟩ val os ls := by
  unfold resIn at hr
  split at hr
  · rename_i E k g ver
    split at hr
    · rename_i r hl
      split at hr
      · rename_i hvp
        simp only [Bool.and_eq_true, Bool.not_eq_true'] at hvp
        split at hr
        · rename_i E' l hT hx
          split at hr
          · rename_i e
            subst e
            cases hr
            obtain ⟨h1, h2, _⟩ := take_vec h hv hl hvp.1 hvp.2
            refine ⟨fun k hk => by simp at hk, fun k' hk => ?_, fun J' hJ _ => ?_⟩
            · simp at hk; subst hk; exact ⟨r, h1, hvp.2⟩
            · obtain ⟨vec, par, g0, ver0, wr0, T, x⟩ := r
              simp only at hT hx h2
              subst hT
              have hx' := eq_of_heq hx
              subst hx'
              show Cn eT w J' (.own E') _ [val] ([k].flatMap fp)
              rw [show [k].flatMap fp = fp k by simp]
              exact Cn_J hJ h2
          · cases hr
        · cases hr
      · cases hr
    · cases hr
  · cases hr
    have hval : val = .slice none 0 0 := (arel_nil (eT := eT) (w := w) (J := J) (M := M) (anc := anc)).1 hv
    subst hval
    refine ⟨fun k hk => by simp at hk, fun k hk => by simp at hk, fun J' hJ _ => ?_⟩
    show Cn eT w J' (.own _) [] [.slice none 0 0] []
    simp only [Cn]
    exact ⟨none, 0, rfl, Nat.le_refl _, .inl (by trivial)⟩
  · exact resIn_snap h hv hr

theorem retIn_ok (h : MOk eT G M w J anc fp) : ∀ {Ts : List Ty} {xs : List A} {rs : List Value} {z : HL Ts} {os ls : List Nat}, AsRel eT w J M anc xs rs → retIn M Ts xs = some (z, os, ls) →
    (∀ k, k ∈ ls → ∃ r, M k = some r) ∧ (∀ k, k ∈ os → ∃ r, M k = some r ∧ r.par = false) ∧
      ∀ J', (∀ b, J b → J' b) → (∀ k, k ∈ ls → ∀ b, b ∈ fp k → J' b) → ∃ fss, ResAll eT w J' (HL.tvs Ts z) rs fss ∧ fss.flatten = os.flatMap fp := by
  intro Ts
  induction Ts with
  | nil =>
    intro xs rs z os ls hv hr
    cases xs with
    | nil =>
      simp only [retIn] at hr; cases hr
      have : rs = [] := List.eq_nil_of_length_eq_zero (by simpa using hv.1)
      subst this
      exact ⟨fun k hk => by simp at hk, fun k hk => by simp at hk, fun J' _ _ => ⟨[], .nil, rfl⟩⟩
    | cons _ _ => simp only [retIn] at hr; cases hr
  | cons T Ts ih =>
    intro xs rs z os ls hv hr
    cases xs with
    | nil => simp only [retIn] at hr; cases hr
    | cons x xs =>
      cases rs with
      | nil => have := hv.1; simp at this
      | cons v rs =>
        simp only [retIn] at hr
        split at hr
        · rename_i h0 os0 ls0 z0 o l he hx
          cases hr
          have hv0 := hv.2 0 (by simp)
          obtain ⟨a1, a2, a3⟩ := resIn_ok h (val := v) (by simpa using hv0) hx
          obtain ⟨b1, b2, b3⟩ := ih (rs := rs) ⟨by have := hv.1; simpa using this, fun i hi => by have := hv.2 (i + 1) (by simpa using hi); simpa using this⟩ he
          refine ⟨fun k hk => ?_, fun k hk => ?_, fun J' hJ hl => ?_⟩
          · rcases List.mem_append.1 hk with hk | hk
            · exact a1 k hk
            · exact b1 k hk
          · rcases List.mem_append.1 hk with hk | hk
            · exact a2 k hk
            · exact b2 k hk
          · obtain ⟨fss, c1, c2⟩ := b3 J' hJ (fun k hk => hl k (by simp [hk]))
            exact ⟨_ :: fss, .cons (a3 J' hJ (fun k hk => hl k (by simp [hk]))) c1, by simp [c2]⟩
        · cases hr

/-- How a result is read. -/
def readRes (tmps : Array Value) : ResultVar → Sem Value
  | .tmp t => pure (tmps.getD t undef)
  | .cell a t => do loadVar t (← asAddr (tmps.getD a undef))

theorem resOf_ok {E : Env} (hE : EnvTy E) (h : MOk eT G M w J anc fp) {F : Nat → Option V} {tmps : Array Value} (hF : ∀ t v, F t = some v → VRel eT w J M anc v (tmps.getD t undef)) {v : ResultVar} {x : A} (hr : resOf E M F v = some x) :
    ∃ val, ARel eT w J M anc x val ∧ (readRes tmps v).run E.P w = .ok val w := by
  cases v with
  | tmp t =>
    simp only [resOf] at hr
    split at hr
    · rename_i y hy; cases hr; exact ⟨_, hF t _ hy, rfl⟩
    · cases hr
  | cell t ty =>
    simp only [resOf] at hr
    split at hr
    · rename_i T hT
      split at hr
      · rename_i y hy
        cases hr
        obtain ⟨_, n, htn⟩ := hE.ty ty T hT
        obtain ⟨v, val, e1, e2, e3⟩ := loadA_res h (tyOk_F htn) (va := tmps.getD t undef) (fun v hv => hF t v hv) hy
        refine ⟨val, e2 (.a x) e1, ?_⟩
        simp only [Instr.loadAt] at e3
        simp only [readRes]
        generalize tmps.getD t undef = va at e3
        cases va <;> try (simp [Instr.sureAddr, stuck] at e3; done)
        rename_i p
        cases p with
        | none => simp [Instr.sureAddr, stuck] at e3
        | some a =>
          simp only [Instr.sureAddr, Sem.run_bind, Sem.run_pure, Result.andThen_ok] at e3
          simp only [asAddr, Sem.run_bind, Sem.run_pure, Result.andThen_ok]
          exact e3
      · cases hr
    · cases hr

theorem resAll_ok {E : Env} (hE : EnvTy E) (h : MOk eT G M w J anc fp) {F : Nat → Option V} {tmps : Array Value} (hF : ∀ t v, F t = some v → VRel eT w J M anc v (tmps.getD t undef)) : ∀ {rvs : List ResultVar} {xs : List A}, resAll E M F rvs = some xs →
    ∃ rs, AsRel eT w J M anc xs rs ∧ (rvs.mapM (readRes tmps)).run E.P w = .ok rs w := by
  intro rvs
  induction rvs with
  | nil => intro xs hr; simp only [resAll] at hr; cases hr; exact ⟨[], ⟨rfl, fun i hi => absurd hi (Nat.not_lt_zero _)⟩, rfl⟩
  | cons v vs ih =>
    intro xs hr
    simp only [resAll] at hr
    split at hr
    · rename_i l x he hx
      cases hr
      obtain ⟨val, a1, a2⟩ := resOf_ok hE h hF hx
      obtain ⟨rs, b1, b2⟩ := ih he
      refine ⟨val :: rs, ⟨by have := b1.1; simpa using this, fun i hi => ?_⟩, ?_⟩
      · cases i with
        | zero => simpa using a1
        | succ i => have := b1.2 i (by simpa using hi); simpa using this
      · rw [List.mapM_cons]
        simp only [Sem.run_bind, a2, Result.andThen_ok, b2, Sem.run_pure]
    · cases hr

theorem run_results {fn : Func} {rvs : List ResultVar} (hrv : fn.results = rvs.toArray) {tmps : Array Value} {rs : List Value} (h : (rvs.mapM (readRes tmps)).run P w = .ok rs w) : (results fn tmps).run P w = .ok (tupleOf rs) w := by
  have e : results fn tmps = (do let vs ← fn.results.mapM (readRes tmps); pure (if h : vs.size = 1 then vs[0] else .tuple vs)) := by
    unfold results
    congr 1
  rw [e, hrv, List.mapM_toArray]
  simp only [Sem.run_bind, Sem.run_map, h, Result.andThen_ok, Sem.run_pure]
  match rs with
  | [] => rfl
  | [v] => rfl
  | _ :: _ :: _ => simp [tupleOf]

theorem upd_ok (h : MOk eT G M w J anc fp) {J' : Nat → Prop} (hJ : ∀ b, J b → J' b) {w0 : World} {J0 : Nat → Prop} {F : Nat → Option V} {tm : Nat → Value} (hF : ∀ t v, F t = some v → VRel eT w J M anc v (tm t)) {kp : List Nat} :
    ∀ {sig : List PTy} {i : Nat} {args : List Arg} {vs : List Value} {x : HL (sigTs sig)} {u : HL (updTs sig)}, takeAll sig args = some x → All2 (ArgRel eT w0 J0) args vs → keptSig kp sig i = true →
    (∀ j, memB (i + j) kp = true → j < vs.length → tm (i + j) = vs.getD j undef) → updIn M F sig i = some u → All2 (UpdRel eT w J') (wrArgs args vs) (HL.tvs (updTs sig) u) := by
  intro sig
  induction sig with
  | nil =>
    intro i args vs x u hx hv hk hp hu
    cases args with
    | nil => cases hv; exact .nil
    | cons _ _ => simp [takeAll] at hx
  | cons p ps ih =>
    intro i args vs x u hx hv hk hp hu
    cases args with
    | nil => simp [takeAll] at hx
    | cons a as =>
      cases hv with
      | cons hv0 hvs =>
        rename_i v vs
        simp only [takeAll] at hx
        split at hx
        · rename_i h1 he
          have hp' : ∀ j, memB (i + 1 + j) kp = true → j < vs.length → tm (i + 1 + j) = vs.getD j undef := fun j hj hl => by
            have := hp (j + 1) (by rw [show i + (j + 1) = i + 1 + j by omega]; exact hj) (by simpa using hl)
            rw [show i + (j + 1) = i + 1 + j by omega] at this
            simpa using this
          cases p with
          | v T =>
            cases a with
            | v T' y => show All2 (UpdRel eT w J') (wrArgs as vs) (HL.tvs (updTs ps) u); exact ih (i := i + 1) he hvs hk hp' hu
            | _ => cases hx
          | g T =>
            cases a with
            | v T' y => show All2 (UpdRel eT w J') (wrArgs as vs) (HL.tvs (updTs ps) u); exact ih (i := i + 1) he hvs hk hp' hu
            | _ => cases hx
          | pin T =>
            cases a with
            | pin T' y => show All2 (UpdRel eT w J') (wrArgs as vs) (HL.tvs (updTs ps) u); exact ih (i := i + 1) he hvs hk hp' hu
            | _ => cases hx
          | clo f cs =>
            cases a with
            | clo f' ys => show All2 (UpdRel eT w J') (wrArgs as vs) (HL.tvs (updTs ps) u); exact ih (i := i + 1) he hvs hk hp' hu
            | _ => cases hx
          | p T =>
            cases a with
            | p T' y =>
              simp only [keptSig, Bool.and_eq_true] at hk
              have hti : tm i = v := by have := hp 0 hk.1 (by simp); simpa using this
              have hx : (if T'.pure then (match Ty.co T' T y with | some z => some (z, h1) | none => none) else none) = some x := hx
              split at hx
              · rename_i hpu
                split at hx
                · rename_i z0 hz0
                  obtain ⟨_, b0, hvb, ho0, hc0⟩ := hv0
                  obtain ⟨_, hera, hTp⟩ := co_Cn hz0 hpu hc0
                  simp only [updIn] at hu
                  split at hu
                  · rename_i hh zz hrec hup
                    cases hu
                    refine .cons ?_ (ih (i := i + 1) he hvs hk.2 hp' hrec)
                    unfold updP at hup
                    split at hup
                    · rename_i k g ver hFi
                      split at hup
                      · rename_i r hl
                        split at hup
                        · rename_i hc
                          simp only [Bool.and_eq_true, Bool.not_eq_true'] at hc
                          have hvr := hF i _ hFi
                          obtain ⟨e1, e2, e3, b, o, e4, e5⟩ := ref_live (eT := eT) (J := J) hvr hl
                          obtain ⟨hpl, fs', hfp, hcn⟩ := h.roots k r e1
                          rcases hpl with ⟨v', q1, q2, _⟩ | ⟨b', q1, q2, q3⟩
                          · rw [hc.1] at q2; cases q2
                          · rw [q1] at e4 hcn
                            have hb : (b', 0) = (b, o) := by
                              have : Adr w r.T (.at b' 0) [] = some (b', 0) := by cases r.T <;> rfl
                              rw [this] at e4; exact Option.some.inj e4
                            cases hb
                            have hfs := Cn_pure hc.2 hcn
                            subst hfs
                            obtain ⟨c1, c2, c3⟩ := co_Cn hup hc.2 hcn
                            have hs := Ty.size_of_era c2
                            exact ⟨hera, hTp, b, by rw [← hti]; exact e5, by rw [hs]; exact q3, by rw [hs]; exact Cn_J hJ c1⟩
                        · cases hup
                      · cases hup
                    · cases hup
                  · cases hu
                · cases hx
              · cases hx
            | _ => cases hx
          | s T =>
            cases a with
            | s T' y =>
              simp only [keptSig, Bool.and_eq_true] at hk
              have hti : tm i = v := by have := hp 0 hk.1 (by simp); simpa using this
              have hx : (if e : T' = T then some (cast (congrArg (fun t => List (Ty.den t)) e) y, h1) else none) = some x := hx
              split at hx
              · rename_i e
                subst e
                obtain ⟨hEp, hc0⟩ := hv0
                simp only [updIn] at hu
                split at hu
                · rename_i hh zz hrec hup
                  cases hu
                  refine .cons ?_ (ih (i := i + 1) he hvs hk.2 hp' hrec)
                  unfold updS at hup
                  split at hup
                  · rename_i k g ver hFi
                    split at hup
                    · rename_i r hl
                      split at hup
                      · rename_i hvec
                        split at hup
                        · rename_i E' l hT hxx
                          split at hup
                          · rename_i e
                            subst e
                            cases hup
                            have hvr := hF i _ hFi
                            obtain ⟨vec, par, g0, ver0, wr0, T, xx⟩ := r
                            simp only at hT hxx hvec
                            subst hT
                            have hx' := eq_of_heq hxx
                            subst hx'
                            obtain ⟨_, _, _, a, cap, f, f1, f2, _⟩ := hdr_at h hvr hl (getP_nil _ _)
                            rw [hti] at f1 f2
                            refine ⟨_, rfl, ?_, ?_⟩
                            · simp only [Cn] at hc0
                              obtain ⟨a0, cap0, hcs0, _⟩ := hc0
                              rw [f1] at hcs0
                              have h1 := (List.cons.inj hcs0).1
                              injection h1 with _ h2 _
                            · have := Cn_rows hEp f2
                              rw [← this]; exact Cn_J hJ f2
                          · cases hup
                        · cases hup
                      · cases hup
                    · cases hup
                  · cases hup
                · cases hu
              · cases hx
            | _ => cases hx
        · cases hx
end

/-- What is asked of the tables, whatever the call. -/
structure EnvB (E : Env) : Prop extends EnvTy E where
  nat : E.Nat'
  con : ∀ n sp, E.tbl n = some sp → Contract E.P E.eT E.hd n sp

theorem run_enter {P : Program} {f : FuncId} {fn : Func} {c : Code} (hf : P.funcs[f]? = some fn) (hname : (fn.name == "runtime.NumGoroutine") = false) (hb : fn.body = some c) (args : Array Value) (w : World) :
    (callFunc f args).run P w = .ok (.enter f args) w := by
  have h1 : fn.name ≠ "runtime.NumGoroutine" := by simpa using hname
  simp [callFunc, hf, h1, hb]

/-- What the run says of a function's body holds of its calls. -/
theorem con_of {E : Env} (hE : EnvB E) (hmix : E.P.follows .mixedOrders = true) {f : FuncId} {fn : Func} {c : Code} (hf : E.P.funcs[f]? = some fn) (hname : (fn.name == "runtime.NumGoroutine") = false) (hb : fn.body = some c)
    {N : Nat} (hN : fn.ntmps = N) {rvs : List ResultVar} (hrv : fn.results = rvs.toArray) {an : Ann} {sig : List PTy} {Ts : List Ty} (hk : keptSig E.kp sig 0 = true) (hsl : Nat.ble sig.length N = true)
    {body : {R : Type} → HL (sigTs sig) → (HL Ts → HL (updTs sig) → Option R) → Option R}
    (hrun : ∀ (R : Type) (x : HL (sigTs sig)) (κ : HL Ts → HL (updTs sig) → Option R), bodyA E N an c rvs sig Ts x κ = body x κ) : Contract E.P E.eT E.hd f (Sp.of sig Ts body) := by
  intro args res upd h w J vs hH hv hnd hfr hJ
  simp only [Sp.of] at h
  split at h
  · rename_i x hx
    rw [← hrun] at h
    unfold bodyA at h
    rw [fSt_eq] at h
    refine .inl ⟨run_enter hf hname hb _ _, ?_⟩
    have hlen := hv.length
    have hlen2 := takeAll_len hx
    rw [Nat.ble_eq] at hsl
    have hbeg := begin_ok (kp := E.kp) (N := N) hx hv hnd hfr hJ hsl
    have hEo : EnvOk E (ghOf E.kp args vs w J) := ⟨hE.toEnvTy, hE.nat, hE.con, hH, fun t v ht => by
      simp only [ghOf] at ht
      split at ht
      · rename_i hc; simp only [Bool.and_eq_true] at hc; exact memB_mem.1 hc.1
      · cases ht⟩
    refine calls_of_wp hf hb ?_
    rw [hN]
    have fin : ∀ (st : St) (a : Act) (w' : World), retA E rvs sig Ts (fun h u => some (HL.tvs Ts h, HL.tvs (updTs sig) u)) st = some (res, upd) → RelA E.eT (ghOf E.kp args vs w J) N st.ab a w' →
        a.defers = [] ∧ ∃ v, (results fn a.tmps).run E.P w' = .ok v w' ∧ ∃ v', Ending.returned v = .returned v' ∧ Post E.eT w J args vs w' v' res upd := by
      intro st a w' hr hrel
      obtain ⟨Jx, anc, fp, hF, m, hd, hs⟩ := hrel
      refine ⟨hd, ?_⟩
      unfold retA at hr
      split at hr
      · rename_i xs hxs
        split at hr
        · rename_i hh os ls u hret hupd
          split at hr
          · rename_i hc
            cases hr
            simp only [Bool.and_eq_true, Bool.not_eq_true'] at hc
            obtain ⟨⟨hc1, hc2⟩, hc3⟩ := hc
            obtain ⟨rs, r1, r2⟩ := resAll_ok hE.toEnvTy m (fun t v ht => (hF t v ht).2) hxs
            obtain ⟨l1, o1, fin⟩ := retIn_ok m r1 hret
            have hpar : ∀ k, k ∈ ls → ∃ r, lk st.mem k = some r ∧ r.par = false := by
              intro k hk
              have := List.all_eq_true.1 hc3 k hk
              obtain ⟨r, hr⟩ := l1 k hk
              have hr' : lk st.mem k = some r := hr
              rw [hr'] at this
              exact ⟨r, hr', by simpa using this⟩
            have hrows : ∀ k r, lk st.mem k = some r → r.par = false → ∀ b, b ∈ fp k → ¬ Jx b ∧ b < w'.heap.size ∧ w.heap.size ≤ b := by
              intro k r hk hp b hb
              obtain ⟨q1, q2, q3⟩ := m.owned k r hk b hb
              refine ⟨q1, q2, ?_⟩
              rcases q3 with q3 | q3
              · exact q3
              · rw [hp] at q3; cases q3.1
            let J' : Nat → Prop := fun b => Jx b ∨ ∃ k, k ∈ ls ∧ b ∈ fp k
            obtain ⟨fss, f1, f2⟩ := fin J' (fun b hb => .inl hb) (fun k hk b hb => .inr ⟨k, hk, hb⟩)
            refine ⟨tupleOf rs, run_results hrv r2, _, rfl, ⟨m.os, m.tape, m.output, m.size, fun b hb hw => m.block b hb hw, J', rs, fss, fun b hb => .inl (m.j0 b hb), ?_, ?_, rfl, f1, ?_, ?_⟩⟩
            · rintro b (hb | ⟨k, hk, hb⟩)
              · exact ⟨m.jlt b hb, m.jnew b hb⟩
              · obtain ⟨r, hr, hp⟩ := hpar k hk
                obtain ⟨_, q2, q3⟩ := hrows k r hr hp b hb
                exact ⟨q2, .inr q3⟩
            · refine upd_ok m (J' := J') (fun b hb => .inl hb) (fun t v ht => (hF t v ht).2) hx hv hk (fun j hj hl => ?_) hupd
              refine hs.2 _ _ ?_
              simp only [Nat.zero_add] at hj ⊢
              simp only [ghOf, hj, Bool.true_and]
              rw [if_pos (by rw [Nat.blt_eq]; exact hl)]
            · rw [f2]
              have hn := nodupB_nodup hc1
              have key : ∀ l : List Nat, l.Nodup → (∀ k, k ∈ l → ∃ r, lk st.mem k = some r) → (l.flatMap fp).Nodup := by
                intro l
                induction l with
                | nil => intro _ _; simp
                | cons k l ih =>
                  intro hn hk
                  have hn' := List.nodup_cons.1 hn
                  rw [List.flatMap_cons, List.nodup_append]
                  obtain ⟨r0, hr0⟩ := hk k (by simp)
                  refine ⟨m.nodup k r0 hr0, ih hn'.2 (fun k hk' => hk k (by simp [hk'])), fun a ha b hb e => ?_⟩
                  subst e
                  obtain ⟨k', hk', hb'⟩ := List.mem_flatMap.1 hb
                  obtain ⟨r1, hr1⟩ := hk k' (by simp [hk'])
                  exact m.apart k k' r0 r1 (fun e => hn'.1 (by rw [e]; exact hk')) hr0 hr1 a ha hb'
              exact key os hn (fun k hk => by obtain ⟨r, hr, _⟩ := o1 k hk; exact ⟨r, hr⟩)
            · intro b hb
              rw [f2] at hb
              obtain ⟨k, hk, hb⟩ := List.mem_flatMap.1 hb
              obtain ⟨r, hr, hp⟩ := o1 k hk
              obtain ⟨q1, q2, q3⟩ := hrows k r hr hp b hb
              refine ⟨?_, q2, q3⟩
              rintro (hj | ⟨k', hk', hb'⟩)
              · exact q1 hj
              · obtain ⟨r', hr', _⟩ := hpar k' hk'
                refine m.apart k k' r r' ?_ hr hr' b hb hb'
                rintro rfl
                have := List.any_eq_false.1 hc2 k hk
                exact this (List.any_eq_true.2 ⟨k, hk', Nat.beq_refl k⟩)
          · cases hr
        · cases hr
      · cases hr
    refine exec_ok hEo hmix _ _ _ _ h hbeg ⟨fun st a w' h1 h2 => fin st a w' h1 h2, fun i st a w' h1 _ => (by cases h1), fun st a w' h1 h2 => fin st a w' h1 h2⟩
  · cases h
end Go.Ev
end

section
set_option linter.all false
set_option linter.unusedSimpArgs false
set_option linter.unusedVariables false
namespace Go.Ev
open Go
set_option linter.unusedVariables false

def lkS : List (Nat × Sp) → Nat → Option Sp
  | [], _ => none
  | (k, v) :: l, t => if Nat.beq k t then some v else lkS l t

/-- The tables of a program. -/
structure Tab where
  P : Program
  eT : TypeId
  gam : List (Nat × Ty)
  byt : List (Nat × Nat)
  eqs : List Nat
  hd : Option (Nat × Value)

def Tab.env (tb : Tab) (deep kp : List Nat) (tbl : List (Nat × Sp)) : Env :=
  { P := tb.P, eT := tb.eT, Γ := lk tb.gam, bytes := lk tb.byt, deep := fun d => memB d deep, eqT := fun t => memB t tb.eqs, tbl := lkS tbl, hd := tb.hd, kp := kp }

def gamB (tb : Tab) : Bool := tb.gam.all fun p => p.2.pure && tyOk tb.P 12 p.1 p.2
def bytB (tb : Tab) : Bool := tb.byt.all fun p =>
  match tb.P.underlying p.1 with
  | some (.slice e) => (match tb.P.info? e with | some i => Nat.beq i.bytes p.2 && Nat.blt 0 p.2 | none => false)
  | _ => false
def errB (tb : Tab) : Bool := match tb.P.underlying tb.eT with | some (.int .i64) => true | _ => false
def eqsB (tb : Tab) : Bool := tb.eqs.all fun t =>
  !(tb.P.eqGuardType tb.P.depth t) && (match lk tb.gam t with | some T => eqOk tb.P 12 t T | none => true)

theorem lk_mem {α : Type} {l : List (Nat × α)} {t : Nat} {x : α} (h : lk l t = some x) : (t, x) ∈ l := by
  induction l with
  | nil => simp [lk] at h
  | cons p l ih =>
    obtain ⟨k, v⟩ := p
    simp only [lk] at h
    split at h
    · rename_i hb; rw [Nat.beq_eq] at hb; subst hb; cases h; simp
    · exact List.mem_cons_of_mem _ (ih h)

theorem Tab.ty {tb : Tab} (h1 : gamB tb = true) (h2 : bytB tb = true) (h3 : errB tb = true) (h4 : eqsB tb = true) (deep kp : List Nat) (tbl : List (Nat × Sp)) : EnvTy (tb.env deep kp tbl) := by
  refine ⟨fun t T h => ?_, fun t b h => ?_, ?_, fun t T h hT => ?_⟩
  · have := List.all_eq_true.1 h1 _ (lk_mem h)
    simp only [Bool.and_eq_true] at this
    exact ⟨this.1, 12, this.2⟩
  · have := List.all_eq_true.1 h2 _ (lk_mem h)
    simp only at this
    split at this
    · rename_i e he
      split at this
      · rename_i i hi
        simp only [Bool.and_eq_true, Nat.beq_eq, Nat.blt_eq] at this
        exact ⟨e, i, he, hi, this.1, this.2⟩
      · cases this
    · cases this
  · unfold errB at h3
    split at h3
    · rename_i he; exact he
    · cases h3
  · have h : memB t tb.eqs = true := h
    have hT : lk tb.gam t = some T := hT
    have := List.all_eq_true.1 h4 t (memB_mem.1 h)
    simp only [Bool.and_eq_true, Bool.not_eq_true', hT] at this
    exact ⟨this.1, 12, by omega, this.2⟩

/-- The text that a function looks into. -/
def opStr : Op → Option ByteArray
  | .index _ (.const (.string s)) _ => some s
  | _ => none
def codeStr : Code → Option ByteArray
  | .region _ ops _ => ops.toList.findSome? fun o => opStr o.op
  | .seq a b => match codeStr a with | some s => some s | none => codeStr b
  | .cond _ a b => match codeStr a with | some s => some s | none => codeStr b
  | .block _ a => codeStr a
  | .loop a => codeStr a
  | _ => none
def funStr (f : Func) : ByteArray := match f.body with | some c => (match codeStr c with | some s => s | none => ByteArray.empty) | none => ByteArray.empty

/-- All that is told of a function is so. -/
def Fact (tb : Tab) (f : Nat) (sp : Sp) : Prop := sp.Nat' ∧ Contract tb.P tb.eT tb.hd f sp

inductive Facts (tb : Tab) : List (Nat × Sp) → Prop where
  | nil : Facts tb []
  | cons {f : Nat} {sp : Sp} {l : List (Nat × Sp)} (h : Fact tb f sp) (hl : Facts tb l) : Facts tb ((f, sp) :: l)

theorem Facts.get {tb : Tab} {l : List (Nat × Sp)} (h : Facts tb l) {f : Nat} {sp : Sp} (hf : lkS l f = some sp) : Fact tb f sp := by
  induction h with
  | nil => simp [lkS] at hf
  | cons h hl ih =>
    simp only [lkS] at hf
    split at hf
    · rename_i hb; rw [Nat.beq_eq] at hb; subst hb; cases hf; exact h
    · exact ih hf

structure Tab.Ok (tb : Tab) : Prop where
  gam : gamB tb = true
  byt : bytB tb = true
  err : errB tb = true
  eqs : eqsB tb = true
  mix : tb.P.follows .mixedOrders = true

theorem Tab.Ok.envB {tb : Tab} (h : tb.Ok) {deep kp : List Nat} {tbl : List (Nat × Sp)} (hf : Facts tb tbl) : EnvB (tb.env deep kp tbl) :=
  { Tab.ty h.gam h.byt h.err h.eqs deep kp tbl with nat := fun n sp hn => (hf.get hn).1, con := fun n sp hn => (hf.get hn).2 }

/-- A function of the program, by its text. -/
theorem Tab.Ok.fact {tb : Tab} (h : tb.Ok) {deep kp : List Nat} {tbl : List (Nat × Sp)} (hfs : Facts tb tbl) {f : FuncId} {fn : Func} {c : Code} (hf : tb.P.funcs[f]? = some fn) (hname : (fn.name == "runtime.NumGoroutine") = false) (hb : fn.body = some c)
    {N : Nat} (hN : fn.ntmps = N) {rvs : List ResultVar} (hrv : fn.results = rvs.toArray) (an : Ann) {sig : List PTy} {Ts : List Ty} (hk : keptSig kp sig 0 = true) (hsl : Nat.ble sig.length N = true)
    {body : {R : Type} → HL (sigTs sig) → (HL Ts → HL (updTs sig) → Option R) → Option R}
    (hrun : ∀ (R : Type) (x : HL (sigTs sig)) (κ : HL Ts → HL (updTs sig) → Option R), bodyA (tb.env deep kp tbl) N an c rvs sig Ts x κ = body x κ) : Fact tb f (Sp.of sig Ts body) :=
  ⟨Sp.of_nat (E := tb.env deep kp tbl) (fun n sp hn => (hfs.get hn).1) hrun, con_of (E := tb.env deep kp tbl) (h.envB hfs) h.mix hf hname hb hN hrv hk hsl hrun⟩
end Go.Ev
end

section
set_option linter.all false
set_option linter.unusedSimpArgs false
set_option linter.unusedVariables false
namespace Go.Ev
open Go
set_option linter.unusedVariables false

theorem Grow.alloc (w : World) (o : Obj) : Grow w (w.alloc o) := by
  refine ⟨rfl, rfl, rfl, ?_, fun b hb => ?_⟩
  · show w.heap.size ≤ (w.heap.push o).size
    rw [Array.size_push]; omega
  · show (w.heap.push o)[b]? = w.heap[b]?
    rw [Array.getElem?_push_lt hb, Array.getElem?_eq_getElem hb]

theorem Grow.setCell {w w' : World} (h : Grow w w') {a : Addr} (ha : w.heap.size ≤ a.block) (v : Value) : Grow w (w'.setCell a v) := by
  refine ⟨h.os, h.tape, h.output, by simp only [World.setCell, Array.size_modify]; exact h.size, fun b hb => ?_⟩
  have : a.block ≠ b := by omega
  simp only [World.setCell, Array.getElem?_modify, if_neg this]
  exact h.block b hb

/-- Results that own nothing, in memory that has grown. -/
theorem post_quiet {eT : TypeId} {w w' : World} {J : Nat → Prop} {args : List Arg} {vs : List Value} {res : List TV} {rs : List Value} (hg : Grow w w') (hJ : ∀ b, J b → b < w.heap.size) (hw : wrArgs args vs = []) (hr : ResAll eT w' J res rs (rs.map fun _ => [])) :
    Post eT w J args vs w' (tupleOf rs) res [] := by
  refine ⟨hg.os, hg.tape, hg.output, hg.size, fun b hb _ => hg.block b hb, J, rs, rs.map fun _ => [], fun _ h => h, fun b hb => ⟨Nat.lt_of_lt_of_le (hJ b hb) hg.size, .inl hb⟩, by rw [hw]; exact .nil, rfl, hr, ?_, ?_⟩
  · have : (rs.map fun _ => ([] : List Nat)).flatten = [] := by induction rs <;> simp_all
    rw [this]; exact List.nodup_nil
  · intro b hb
    have : (rs.map fun _ => ([] : List Nat)).flatten = [] := by clear hr; induction rs <;> simp_all
    rw [this] at hb; simp at hb

theorem res_int {eT : TypeId} {w : World} {J : Nat → Prop} {k : IntKind} {n : Int} : ResRel eT w J ⟨.int k, n⟩ (.int k n) [] := ⟨rfl, rfl, [.int k n], ⟨rfl, rfl⟩, rfl⟩

theorem arg_int {eT : TypeId} {w : World} {J : Nat → Prop} {T : Ty} {x : T.den} {k : IntKind} {z : Int} {v : Value} (hp : T.pure = true) (hc : Ty.co T (.int k) x = some z) (h : ArgRel eT w J (.v T x) v) : v = .int k z := by
  obtain ⟨cs, h1, rfl⟩ := h
  obtain ⟨h2, h3, _⟩ := co_Cn hc hp h1
  obtain ⟨rfl, _⟩ := h2
  unfold conc
  rw [← Ty.agg_of_era h3]; rfl

/-- What typed arguments are. -/
theorem take_v {T : Ty} {ps : List PTy} {args : List Arg} {x : HL (sigTs (.v T :: ps))} (h : takeAll (.v T :: ps) args = some x) :
    ∃ T' y as, args = .v T' y :: as ∧ T'.pure = true ∧ Ty.co T' T y = some x.1 ∧ takeAll ps as = some x.2 := by
  cases args with
  | nil => simp [takeAll] at h
  | cons a as =>
    simp only [takeAll] at h
    split at h
    · rename_i h1 he
      cases a with
      | v T' y =>
        have h : (if T'.pure then (match Ty.co T' T y with | some z => some (z, h1) | none => none) else none) = some x := h
        split at h
        · rename_i hp
          split at h
          · rename_i z hz; cases h; exact ⟨T', y, as, rfl, hp, hz, he⟩
          · cases h
        · cases h
      | _ => cases h
    · cases h

/-- A function of numbers that is none of the program's own text. -/
def F_Add64 {R : Type} (x y c : Int) (κ : Int → Int → Option R) : Option R :=
  bif decide (0 ≤ x) && decide (0 ≤ y) && decide (0 ≤ c) && decide (c ≤ 1) then κ ((x + y + c) % 18446744073709551616) ((x + y + c) / 18446744073709551616) else none
def sp_Add64 : Sp := Sp.of [.v (.int .u64), .v (.int .u64), .v (.int .u64)] [.int .u64, .int .u64] (fun x κ => F_Add64 x.1 x.2.1 x.2.2.1 (fun a b => κ (a, b, ()) ()))

theorem add64_ok {tb : Tab} {f : FuncId} {fn : Func} (hf : tb.P.funcs[f]? = some fn) (hname : (fn.name == "runtime.NumGoroutine") = false) (hb : fn.body.isNone = true) (hn : Extern.findNext fn = none) (he : Extern.find fn = some add64Entry) : Fact tb f sp_Add64 := by
  refine ⟨fun R args κ => ?_, fun args res upd h w J vs hH hv hnd hfr hJ => ?_⟩
  · simp only [sp_Add64, Sp.of, F_Add64]
    split
    · rw [bif_bind']; rfl
    · rfl
  · simp only [sp_Add64, Sp.of] at h
    split at h
    · rename_i x hx
      obtain ⟨T1, y1, as1, rfl, hp1, hc1, hx1⟩ := take_v hx
      obtain ⟨T2, y2, as2, rfl, hp2, hc2, hx2⟩ := take_v hx1
      obtain ⟨T3, y3, as3, rfl, hp3, hc3, hx3⟩ := take_v hx2
      cases as3 with
      | cons _ _ => simp [takeAll] at hx3
      | nil =>
        cases hv with
        | cons hv1 hv =>
        cases hv with
        | cons hv2 hv =>
        cases hv with
        | cons hv3 hv =>
        cases hv
        have e1 := arg_int hp1 hc1 hv1
        have e2 := arg_int hp2 hc2 hv2
        have e3 := arg_int hp3 hc3 hv3
        subst e1 e2 e3
        simp only [F_Add64] at h
        cases hc : (decide ((0 : Int) ≤ x.1) && decide ((0 : Int) ≤ x.2.1) && decide ((0 : Int) ≤ x.2.2.1) && decide ((x.2.2.1 : Int) ≤ 1)) with
        | false => rw [hc] at h; cases h
        | true =>
          rw [hc] at h
          simp only [Bool.and_eq_true, decide_eq_true_eq] at hc
          simp only [cond_true, Option.some.injEq, Prod.mk.injEq] at h
          obtain ⟨rfl, rfl⟩ := h
          refine .inr ⟨_, w, ?_, post_quiet (rs := [.int .u64 ((x.1 + x.2.1 + x.2.2.1) % 18446744073709551616), .int .u64 ((x.1 + x.2.1 + x.2.2.1) / 18446744073709551616)]) (Grow.refl w) hJ rfl (.cons res_int (.cons res_int .nil))⟩
          rw [run_callFunc_extern hf hname hb hn he]
          rw [run_add64 _ _ _ hc.1.1.1 hc.1.1.2 hc.1.2 hc.2]
          rfl
    · cases h

/-- An error's number. -/
def F_num {R : Type} (e : Option Int) (κ : Int → Option R) : Option R := κ (e.getD 0)
def sp_num : Sp := Sp.of [.v .err] [.int .i64] (fun x κ => F_num x.1 (fun a => κ (a, ()) ()))

theorem num_fact {tb : Tab} {f : FuncId} {fn : Func} {c : Code} (hf : tb.P.funcs[f]? = some fn) (hname : (fn.name == "runtime.NumGoroutine") = false) (hb : fn.body = some c)
    (h0 : ∀ w, Calls tb.P f #[.nilIface] w fun e w' => e = .returned (.int .i64 0) ∧ Grow w w')
    (h1 : ∀ w J n, Held tb.hd w J → Calls tb.P f #[.iface tb.eT (.int .i64 n)] w fun e w' => e = .returned (.int .i64 n) ∧ Grow w w') : Fact tb f sp_num := by
  refine ⟨fun R args κ => ?_, fun args res upd h w J vs hH hv hnd hfr hJ => ?_⟩
  · simp only [sp_num, Sp.of, F_num]; split <;> rfl
  · simp only [sp_num, Sp.of] at h
    split at h
    · rename_i x hx
      obtain ⟨T1, y1, as1, rfl, hp1, hc1, hx1⟩ := take_v hx
      cases as1 with
      | cons _ _ => simp [takeAll] at hx1
      | nil =>
        cases hv with
        | cons hv1 hv =>
        cases hv
        obtain ⟨cs, k1, rfl⟩ := hv1
        obtain ⟨k2, k3, _⟩ := co_Cn hc1 hp1 k1
        simp only [F_num, Option.some.injEq, Prod.mk.injEq] at h
        obtain ⟨rfl, rfl⟩ := h
        have hconc : conc T1 cs = conc .err cs := by unfold conc; rw [← Ty.agg_of_era k3]
        have fin : ∀ (v : Value) (n : Int), (∀ w, Held tb.hd w J → Calls tb.P f #[v] w fun e w' => e = .returned (.int .i64 n) ∧ Grow w w') → conc .err cs = v → (x.1 : Option Int).getD 0 = n →
            Enters tb.P f [conc T1 cs].toArray w fun v w' => Post tb.eT w J [.v T1 y1] [conc T1 cs] w' v [⟨.int .i64, (x.1 : Option Int).getD 0⟩] [] := by
          intro v n hcall hv hn
          rw [hconc, hv, hn]
          refine .inl ⟨run_enter hf hname hb _ _, (hcall w hH).mono ?_⟩
          rintro e w' ⟨rfl, hg⟩
          exact ⟨_, rfl, post_quiet (rs := [.int .i64 n]) hg hJ rfl (.cons res_int .nil)⟩
        cases hx1 : (x.1 : Option Int) with
        | none =>
          rw [hx1] at k2
          obtain ⟨rfl, _⟩ := k2
          rw [← hx1]
          exact fin .nilIface 0 (fun w _ => h0 w) rfl (by rw [hx1]; rfl)
        | some n =>
          rw [hx1] at k2
          obtain ⟨rfl, _⟩ := k2
          rw [← hx1]
          exact fin _ n (fun w hw => h1 w J n hw) rfl (by rw [hx1]; rfl)
    · cases h
end Go.Ev
end

/- A part of the proof of the claim: Core2. -/
import Derived.Test.YtnjjgbpannjfjaaDoorCore1
import Derived.Laws.Sem
import Derived.Laws.Cells
import Derived.Laws.IdiomCopy
section
set_option linter.all false
set_option linter.unusedSimpArgs false
set_option linter.unusedVariables false
namespace Go.Ev
open Go

theorem setP_era (p : Path) : ∀ (T : Ty) (x : T.den) (n y : TV), setP T x p n = some y → n.T.era = (typeAt T p).era → y.T.era = T.era := by
  induction p with
  | nil => intro T x n y h hs
           have h1 : setP T x [] n = some n := by cases T <;> rfl
           have h2 : typeAt T [] = T := by cases T <;> rfl
           rw [h1] at h; cases h; rw [h2] at hs; exact hs
  | cons s p ih =>
    intro T x n y h hs
    cases T with
    | pair A B =>
      cases s with
      | fst =>
        simp only [setP] at h
        split at h
        · rename_i r hr; cases h; simp only [Ty.era, ih _ _ _ _ hr hs]
        · cases h
      | snd =>
        simp only [setP] at h
        split at h
        · rename_i r hr; cases h; simp only [Ty.era, ih _ _ _ _ hr hs]
        · cases h
      | idx i => simp [setP] at h
    | arr m T =>
      cases s with
      | fst => simp [setP] at h
      | snd => simp [setP] at h
      | idx i =>
        simp only [setP] at h
        split at h
        · split at h
          · cases h; rfl
          · cases h
        · cases h
    | own T =>
      cases s with
      | fst => simp [setP] at h
      | snd => simp [setP] at h
      | idx i =>
        simp only [setP] at h
        split at h
        · split at h
          · cases h; rfl
          · cases h
        · cases h
    | _ => simp [setP] at h

theorem typeAt_nil (T : Ty) : typeAt T [] = T := by cases T <;> rfl

theorem typeAt_setP (q : Path) : ∀ (T : Ty) (x : T.den) (n y : TV), setP T x q n = some y → (typeAt T q).pure = true → ∀ (p : Path) (E : Ty), typeAt T p = .own E → typeAt y.T p = .own E := by
  induction q with
  | nil => intro T x n y h hp p E ht; rw [typeAt_nil] at hp; exact (typeAt_pure p T E hp ht).elim
  | cons s q ih =>
    intro T x n y h hp p E ht
    cases T with
    | pair A B =>
      cases s with
      | fst =>
        simp only [setP] at h
        split at h
        · rename_i r hr; cases h
          cases p with
          | nil => simp [typeAt] at ht
          | cons s p =>
            cases s with
            | fst => exact ih _ _ _ _ hr hp p E ht
            | snd => exact ht
            | idx i => simp [typeAt] at ht
        · cases h
      | snd =>
        simp only [setP] at h
        split at h
        · rename_i r hr; cases h
          cases p with
          | nil => simp [typeAt] at ht
          | cons s p =>
            cases s with
            | snd => exact ih _ _ _ _ hr hp p E ht
            | fst => exact ht
            | idx i => simp [typeAt] at ht
        · cases h
      | idx i => simp [setP] at h
    | arr m T =>
      cases s with
      | fst => simp [setP] at h
      | snd => simp [setP] at h
      | idx i =>
        simp only [setP] at h
        split at h
        · split at h
          · cases h; exact ht
          · cases h
        · cases h
    | own T =>
      cases s with
      | fst => simp [setP] at h
      | snd => simp [setP] at h
      | idx i =>
        simp only [setP] at h
        split at h
        · split at h
          · cases h; exact ht
          · cases h
        · cases h
    | _ => simp [setP] at h

theorem setP_own {T : Ty} {x : List T.den} {p : Path} {n y : TV} (h : setP (.own T) x p n = some y) (hp : p ≠ []) : ∃ x' : List T.den, y = ⟨.own T, x'⟩ ∧ x'.length = x.length := by
  cases p with
  | nil => exact absurd rfl hp
  | cons s p =>
    cases s with
    | fst => simp [setP] at h
    | snd => simp [setP] at h
    | idx i =>
      simp only [setP] at h
      split at h
      · split at h
        · cases h; exact ⟨_, rfl, by simp⟩
        · cases h
      · cases h

theorem crossR_era {vec : Bool} {T T' : Ty} (h : T.era = T'.era) (hv : vec = true → T = T') (p : Path) : crossR vec T p = crossR vec T' p := by
  unfold crossR
  split
  · rename_i hvt; rw [hv hvt]
  · exact crosses_era p _ _ h

section
variable {eT : TypeId} {G : Gh} {M : Nat → Option Root} {w : World} {J : Nat → Prop} {anc : Nat → Pl} {fp : Nat → List Nat}

theorem setCell_os (w : World) (a : Addr) (v : Value) : (w.setCell a v).os = w.os ∧ (w.setCell a v).tape = w.tape ∧ (w.setCell a v).output = w.output := ⟨rfl, rfl, rfl⟩

theorem setCells_os (b : Nat) : ∀ (vs : List Value) (o : Nat) (w : World), (setCells w b o vs).os = w.os ∧ (setCells w b o vs).tape = w.tape ∧ (setCells w b o vs).output = w.output := by
  intro vs
  induction vs with
  | nil => intro o w; exact ⟨rfl, rfl, rfl⟩
  | cons v vs ih => intro o w; simp only [setCells]; obtain ⟨h1, h2, h3⟩ := ih (o + 1) (w.setCell ⟨b, o, none⟩ v); exact ⟨h1, h2, h3⟩

/-- What a path into a root needs: a slice that a variable holds is looked into. -/
def pathOk (r : Root) (p : Path) : Prop := r.vec = true → ∃ E, r.T = .own E ∧ p ≠ []

theorem rootLens {r : Root} {pl : Pl} {fs : List Nat} (h : RootOk eT w J r pl fs) (hn : fs.Nodup) {p : Path} (hok : okP r.T r.x p) (hp : pathOk r p) :
    ∃ fs' b o l f rr, fs = pl.row ++ fs' ∧ Cn eT w J r.T r.x (pl.cells w r.T.size) fs' ∧ Lens eT w J r.T r.x pl fs' p b o l f rr ∧ b ∈ fs := by
  obtain ⟨hpl, fs', rfl, hc⟩ := h
  have hd : ∀ v, pl = .hd v → ∃ E, r.T = .own E ∧ p ≠ [] := by
    rintro v rfl
    rcases hpl with ⟨v', hv, hvec, _⟩ | ⟨b, hb, _⟩
    · exact hp hvec
    · cases hb
  obtain ⟨b, o, l, f, rr, L⟩ := lens p r.T r.x pl fs' hc hn hok hd
  refine ⟨fs', b, o, l, f, rr, rfl, hc, L, ?_⟩
  have := L.inRow
  simp only [List.mem_append] at this ⊢
  rcases this with h | h
  · exact .inl h
  · exact .inr (by rw [L.split]; simp [h])

/-- The memory behind a store into a row that is owned. -/
theorem MOk.put (h : MOk eT G M w J anc fp) {k : Nat} {r r' : Root} (hk : M k = some r) {b o : Nat} {vs : List Value} {fs : List Nat} (hb : b ∈ fp k) (hpar : r'.par = r.par)
    (hr : RootOk eT (setCells w b o vs) J r' (anc k) fs) (hn : fs.Nodup)
    (hfs : ∀ c, c ∈ fs → c ∈ fp k ∨ ((∀ k' r'', M k' = some r'' → c ∉ fp k') ∧ ¬ J c ∧ c < w.heap.size ∧ G.w0.heap.size ≤ c)) :
    MOk eT G (upd M k (some r')) (setCells w b o vs) J anc (upd fp k fs) := by
  have hJb : ∀ c, J c → J c ∧ w.heap[c]? = (setCells w b o vs).heap[c]? := fun c hc => ⟨hc, (setCells_other _ _ (by rintro rfl; exact (h.owned k r hk _ hb).1 hc) _ _ _).symm⟩
  have hos := setCells_os b vs o w
  refine ⟨?_, ?_, ?_, ?_, fun c hc => by rw [setCells_size]; exact h.jlt c hc, h.jw, h.j0, h.jnew, hos.1.trans h.os, hos.2.1.trans h.tape, hos.2.2.trans h.output, by rw [setCells_size]; exact h.size, ?_, h.wlt⟩
  · intro k' r'' hk'
    by_cases e : k' = k
    · subst e; rw [upd_same] at hk'; cases hk'; rw [upd_same]; exact hr
    · rw [upd_other _ _ e] at hk'; rw [upd_other _ _ e]
      exact (h.roots k' r'' hk').congr hJb (fun c hc => (setCells_other _ _ (by rintro rfl; exact h.apart k' k r'' r e hk' hk _ hc hb) _ _ _).symm)
  · intro k' r'' hk'
    by_cases e : k' = k
    · subst e; rw [upd_same]; exact hn
    · rw [upd_other _ _ e] at hk'; rw [upd_other _ _ e]; exact h.nodup k' r'' hk'
  · intro k1 k2 r1 r2 hne h1 h2 c hc
    by_cases e1 : k1 = k
    · subst e1
      rw [upd_same] at hc
      rw [upd_other _ _ (Ne.symm hne)] at h2 ⊢
      rcases hfs c hc with hf | ⟨hf, _⟩
      · exact h.apart k1 k2 r r2 hne hk h2 c hf
      · exact hf k2 r2 h2
    · rw [upd_other _ _ e1] at h1 hc
      by_cases e2 : k2 = k
      · subst e2; rw [upd_same]; intro hc2
        rcases hfs c hc2 with hf | ⟨hf, _⟩
        · exact h.apart k1 k2 r1 r hne h1 hk c hc hf
        · exact hf k1 r1 h1 hc
      · rw [upd_other _ _ e2] at h2 ⊢; exact h.apart k1 k2 r1 r2 hne h1 h2 c hc
  · intro k' r'' hk' c hc
    rw [setCells_size]
    by_cases e : k' = k
    · subst e; rw [upd_same] at hk' hc; cases hk'
      rcases hfs c hc with hf | ⟨_, hf⟩
      · rw [hpar]; exact h.owned k' r hk c hf
      · exact ⟨hf.1, hf.2.1, .inl hf.2.2⟩
    · rw [upd_other _ _ e] at hk' hc; exact h.owned k' r'' hk' c hc
  · intro c hc hW
    rw [setCells_other _ _ ?_]
    · exact h.block c hc hW
    · rintro rfl
      rcases (h.owned k r hk _ hb).2.2 with h1 | h1
      · omega
      · exact hW h1.2

theorem MOk.put_keeps (h : MOk eT G M w J anc fp) {k : Nat} {r r' : Root} (hk : M k = some r) {b o : Nat} {vs : List Value} (hb : b ∈ fp k) (hg : r'.g = r.g)
    (hs : Stay w (setCells w b o vs) r r' (anc k) (anc k)) :
    ∀ x v, ARel eT w J M anc x v → ARel eT (setCells w b o vs) J (upd M k (some r')) anc x v :=
  keepsA (fun c hc => ⟨hc, (setCells_other _ _ (by rintro rfl; exact (h.owned k r hk _ hb).1 hc) _ _ _).symm⟩) fun k' r'' hk' => by
    by_cases e : k' = k
    · subst e; rw [hk] at hk'; cases hk'
      exact ⟨r', upd_same _ _ _, Nat.le_of_eq hg.symm, fun _ => hs⟩
    · refine ⟨r'', by rw [upd_other _ _ e]; exact hk', Nat.le_refl _, fun _ => ?_⟩
      exact Stay.same (h.roots k' r'' hk') (h.nodup k' r'' hk') (fun c hc => setCells_other _ _ (by rintro rfl; exact h.apart k' k r'' r e hk' hk _ hc hb) _ _ _)

/-- A store of what owns nothing where nothing was owned. -/
theorem MOk.write (h : MOk eT G M w J anc fp) {k : Nat} {r : Root} (hk : M k = some r) {p : Path} (hok : okP r.T r.x p) (hp : pathOk r p) {n y : TV} {vs : List Value}
    (hS : (typeAt r.T p).pure = true) (hnp : n.T.pure = true) (he : n.T.era = (typeAt r.T p).era) (hset : setP r.T r.x p n = some y) (hc : Cn eT w J n.T n.x vs []) :
    ∃ b o, Adr w r.T (anc k) p = some (b, o) ∧ ownB w b (o + (typeAt r.T p).size) ∧ vs.length = (typeAt r.T p).size ∧
      MOk eT G (upd M k (some { r with wr := r.wr + 1, T := y.T, x := y.x })) (setCells w b o vs) J anc fp ∧
      ∀ x v, ARel eT w J M anc x v → ARel eT (setCells w b o vs) J (upd M k (some { r with wr := r.wr + 1, T := y.T, x := y.x })) anc x v := by
  have hroot := h.roots k r hk
  obtain ⟨fs', b, o, l, f, rr, hfp, hcn, L, hb⟩ := rootLens hroot (h.nodup k r hk) hok hp
  have hT := getP_T p r.T r.x
  have hlen : vs.length = (getP r.T r.x p).T.size := by rw [Cn_length hc, hT]; exact Ty.size_of_era he
  have hf : f = [] := Cn_pure (by rw [hT]; exact hS) L.get
  subst hf
  have hJb : ¬ J b := (h.owned k r hk b hb).1
  have hc' : Cn eT (setCells w b o vs) J n.T n.x vs [] := Cn_other hc hJb (by simp)
  obtain ⟨hcy, hsz⟩ := L.set vs n [] y hlen (by rw [hT]; exact Ty.size_of_era he) hJb hset hc'
  have hfs : l ++ [] ++ rr = fs' := L.split.symm
  rw [hfs] at hcy
  have hkeep := L.keep vs n y hlen (by rw [hT]; exact hS) hnp (by rw [hT]; exact he) hset hc'
  have hroot0 := hroot
  obtain ⟨hpl, fs1, hfp1, hcn1⟩ := hroot
  have hvecT : r.vec = true → y.T = r.T := by
    intro hv
    obtain ⟨E, hE, hne⟩ := hp hv
    obtain ⟨vec, par, g, ver, wr, T, x⟩ := r
    simp only at hE hset ⊢; subst hE
    obtain ⟨x', rfl, _⟩ := setP_own hset hne
    rfl
  have hroot' : RootOk eT (setCells w b o vs) J { r with wr := r.wr + 1, T := y.T, x := y.x } (anc k) (fp k) := by
    refine ⟨?_, fs', hfp, ?_⟩
    · rcases hpl with ⟨v, h1, h2, h3⟩ | ⟨b', h1, h2, h3⟩
      · exact .inl ⟨v, h1, h2, hsz.trans h3⟩
      · exact .inr ⟨b', h1, h2, by simp only [hsz]; exact ownB_set h3⟩
    · simp only [hsz]; exact hcy
  have hera : y.T.era = r.T.era := setP_era p _ _ _ _ hset he
  have hstay : Stay w (setCells w b o vs) r { r with wr := r.wr + 1, T := y.T, x := y.x } (anc k) (anc k) := by
    refine ⟨rfl, Nat.le_refl _, Nat.le_succ _, fun q => crossR_era hera hvecT q, fun q _ hq => ?_, fun q v _ hq ht hv => ?_, fun q b1 o1 hw => by simp at hw⟩
    · exact ⟨(hkeep q hq).1, (hkeep q hq).2.1⟩
    · obtain ⟨k1, k2, k3⟩ := hkeep q hq
      refine ⟨k1, fun hne => ?_, ?_⟩
      · obtain ⟨E, hE⟩ := ht hne
        exact ⟨E, typeAt_setP p _ _ _ _ hset hS q E hE⟩
      · by_cases hne : r.vec = true ∧ q = []
        · obtain ⟨hv1, rfl⟩ := hne
          rcases hpl with ⟨v', h1, _⟩ | ⟨b', _, h2, _⟩
          · simp only [hdrAt, h1, Pl.hdr] at hv ⊢; exact hv
          · rw [h2] at hv1; cases hv1
        · obtain ⟨E, hE⟩ := ht hne
          have hcell : ∀ b1 o1, Adr w r.T (anc k) q = some (b1, o1) → (setCells w b o vs).cell? ⟨b1, o1, none⟩ = w.cell? ⟨b1, o1, none⟩ := fun b1 o1 ha => k3 b1 o1 E hE ha
          cases q with
          | nil =>
            rcases hpl with ⟨v', h1, h2, _⟩ | ⟨b', h1, h2, _⟩
            · exact absurd ⟨h2, rfl⟩ hne
            · simp only [hdrAt, h1, Pl.hdr] at hv ⊢
              rw [hcell b' 0 (by rw [h1]; cases r.T <;> rfl)]; exact hv
          | cons s q =>
            simp only [hdrAt] at hv ⊢
            rw [k2]
            cases ha : Adr w r.T (anc k) (s :: q) with
            | none => rw [ha] at hv; cases hv
            | some z => obtain ⟨b1, o1⟩ := z; rw [ha] at hv; simp only at hv ⊢; rw [hcell b1 o1 ha]; exact hv
  have hown : ownB w b (o + (typeAt r.T p).size) := by
    rw [← hT]
    refine L.free fun b2 o2 e2 => ?_
    rcases hpl with ⟨v', h1, _⟩ | ⟨b', h1, _, h3⟩
    · rw [h1] at e2; cases e2
    · rw [h1] at e2; cases e2; simpa using h3
  have hput := h.put (r' := { r with wr := r.wr + 1, T := y.T, x := y.x }) hk hb rfl hroot' (h.nodup k r hk) (fun c hc => .inl hc)
  have hfp' : upd fp k (fp k) = fp := by funext s; unfold upd; split <;> simp_all
  rw [hfp'] at hput
  exact ⟨b, o, L.adr, hown, by rw [hlen, hT], hput, h.put_keeps hk hb rfl hstay⟩
end
end Go.Ev
end

section
set_option linter.all false
set_option linter.unusedSimpArgs false
set_option linter.unusedVariables false
namespace Go.Ev
open Go

/-- What a call hands over: a value; a pointer to a variable that may be written; one to what is not written; a slice that may be written in place; a function with what it captured (pointers, or values). -/
inductive Arg where
  | v (T : Ty) (x : T.den)
  | p (T : Ty) (x : T.den)
  | pin (T : Ty) (x : T.den)
  | s (T : Ty) (x : List T.den)
  | clo (f : Nat) (l : List (Bool × TV))

inductive Mode where
  | v | p | pin | s | clo | g

def Mode.base : Mode → Mode
  | .g => .v
  | m => m

/-- What is known of a function: how it takes its arguments, and (told to whoever asks) its results and what the variables that it may write hold then. -/
structure Sp where
  modes : List Mode
  run : {R : Type} → List Arg → (List TV → List TV → Option R) → Option R

structure Env where
  P : Program
  eT : TypeId
  Γ : TypeId → Option Ty
  bytes : TypeId → Option Nat
  deep : Nat → Bool
  eqT : TypeId → Bool
  tbl : FuncId → Option Sp
  hd : Option (Nat × Value)
  kp : List Nat

/-- Nil slices where slices are. -/
def Ty.zer : Ty → Ty
  | .slice _ => .nil
  | .own _ => .nil
  | .arr n T => .arr n T.zer
  | .pair A B => .pair A.zer B.zer
  | T => T

/-- No slice inside, but ones that are handed over. -/
def Ty.noSlice : Ty → Bool
  | .slice _ => false
  | .own T => T.noSlice
  | .arr _ T => T.noSlice
  | .pair A B => A.noSlice && B.noSlice
  | .dead => false
  | _ => true

/-- Nothing inside of which nothing is known. -/
def Ty.alive : Ty → Bool
  | .slice T => T.alive
  | .own T => T.alive
  | .arr _ T => T.alive
  | .pair A B => A.alive && B.alive
  | .dead => false
  | _ => true

/-- Only numbers, bools and texts inside: what '==' looks at. -/
def Ty.plain : Ty → Bool
  | .int _ => true
  | .bool => true
  | .str => true
  | .arr _ T => T.plain
  | .unit => true
  | .pair A B => A.plain && B.plain
  | _ => false

def eqD : (T : Ty) → T.den → T.den → Bool
  | .int _, x, y => (x : Int) == y
  | .bool, x, y => (x : Bool) == y
  | .str, x, y => (x : ByteArray) == y
  | .arr _ T, x, y => go (eqD T) x y
  | .unit, _, _ => true
  | .pair A B, x, y => eqD A x.1 y.1 && eqD B x.2 y.2
  | _, _, _ => false
where
  go {α : Type} (f : α → α → Bool) : List α → List α → Bool
    | [], [] => true
    | a :: l, b :: m => f a b && go f l m
    | _, _ => false

def constA : Value → Option A
  | .int k n => some (.val (.int k) n)
  | .bool b => some (.val .bool b)
  | .string s => some (.val .str s)
  | .nilIface => some (.val .err none)
  | .slice none 0 0 => some (.val .nil ())
  | _ => none

def opv (F : Nat → Option V) : Operand → Option V
  | .tmp t => F t
  | .const v => match constA v with | some a => some (.a a) | none => none
  | .func f => some (.clo f [])
  | .global _ => none

def Root.tomb (r : Root) : Root := ⟨true, false, r.g + 1, 0, 0, .dead, ()⟩
def nextG (rd : Nat → Option Root) (k : Nat) : Nat := match rd k with | some r => r.g + 1 | none => 0

/-- The root of a pointer that is still good. -/
def live (rd : Nat → Option Root) (k g ver : Nat) (p : Path) : Option Root :=
  match rd k with
  | some r => if Nat.beq r.g g && (!crossR r.vec r.T p || Nat.beq r.ver ver) then some r else none
  | none => none

/-- The root of a header that is still good. -/
def liveH (rd : Nat → Option Root) (k g ver : Nat) (p : Path) : Option Root :=
  match rd k with
  | some r => if Nat.beq r.g g && ((r.vec && p.isEmpty) || Nat.beq r.ver ver) then some r else none
  | none => none

def liveV (rd : Nat → Option Root) (k g wr : Nat) : Option Root :=
  match rd k with
  | some r => if Nat.beq r.g g && Nat.beq r.wr wr then some r else none
  | none => none

/-- The elements at a place that holds an array, or a slice that is owned. -/
def elemsOf : TV → Option ((E : Ty) × List E.den)
  | ⟨.arr _ E, l⟩ => some ⟨E, l⟩
  | ⟨.own E, l⟩ => some ⟨E, l⟩
  | _ => none

/-- A value as one that nobody writes any more, without its root being given up; the root that it lies in. -/
def snap (rd : Nat → Option Root) : A → Option (TV × List Nat)
  | .val T x => if T.pure then some (⟨T, x⟩, []) else none
  | .hdr k g ver p =>
    match liveH rd k g ver p with
    | some r =>
      match getP r.T r.x p with
      | ⟨.own E, l⟩ => if E.imm.pure then some (⟨(Ty.own E).imm, (Ty.own E).toImm l⟩, [k]) else none
      | _ => none
    | none => none
  | .lsl k g ver p lo n =>
    match live rd k g ver (p ++ [.idx lo]) with
    | some r =>
      match elemsOf (getP r.T r.x p) with
      | some ⟨E, l⟩ => if E.imm.pure then some (⟨(Ty.own E).imm, (Ty.own E).toImm ((l.drop lo).take n)⟩, [k]) else none
      | none => none
    | none => none
  | .view k g wr p =>
    match liveV rd k g wr with
    | some r => let y := getP r.T r.x p; if y.T.imm.pure then some (⟨y.T.imm, y.T.toImm y.x⟩, [k]) else none
    | none => none
  | _ => none

/-- A pointer to what is not written while it is looked at. -/
def snapPin (rd : Nat → Option Root) : A → Option (TV × List Nat)
  | .pin T x => some (⟨T, x⟩, [])
  | .ref k g ver p =>
    match live rd k g ver p with
    | some r => let y := getP r.T r.x p; if y.T.imm.pure then some (⟨y.T.imm, y.T.toImm y.x⟩, [k]) else none
    | none => none
  | _ => none

/-- A value to be laid elsewhere: a slice that is owned is given up: nobody writes it any more. -/
def give (rd : Nat → Option Root) : V → Option (TV × List (Nat × Root))
  | .a (.val T x) => if T.pure then some (⟨T, x⟩, []) else none
  | .a (.hdr k g ver []) =>
    match liveH rd k g ver [] with
    | some r =>
      if r.vec && !r.par then
        match r.T, r.x with
        | .own E, l => if E.imm.pure then some (⟨(Ty.own E).imm, (Ty.own E).toImm l⟩, [(k, r.tomb)]) else none
        | _, _ => none
      else none
    | none => none
  | .a (.view k g wr []) =>
    match liveV rd k g wr with
    | some r => if !r.par then (if r.T.imm.pure then some (⟨r.T.imm, r.T.toImm r.x⟩, [(k, r.tomb)]) else none) else none
    | none => none
  | _ => none

structure ArgIn where
  arg : Arg
  look : List Nat
  wri : List Nat

def capOf (rd : Nat → Option Root) : List A → Option (List (Bool × TV) × List Nat)
  | [] => some ([], [])
  | x :: l =>
    match x, capOf rd l with
    | .val T y, some (r, ks) => if T.pure then some ((false, ⟨T, y⟩) :: r, ks) else none
    | x, some (r, ks) => match snapPin rd x with | some (y, k) => some ((true, y) :: r, k ++ ks) | none => none
    | _, none => none

def argOf (rd : Nat → Option Root) : Mode → Option V → Option ArgIn
  | .v, some (.a x) => match snap rd x with | some (y, ks) => some ⟨.v y.T y.x, ks, []⟩ | none => none
  | .pin, some (.a x) => match snapPin rd x with | some (y, ks) => some ⟨.pin y.T y.x, ks, []⟩ | none => none
  | .p, some (.a (.ref k g ver [])) =>
    match live rd k g ver [] with
    | some r => if !r.vec && r.T.pure then some ⟨.p r.T r.x, [], [k]⟩ else none
    | none => none
  | .s, some (.a (.hdr k g ver [])) =>
    match liveH rd k g ver [] with
    | some r =>
      if r.vec then
        match r.T, r.x with
        | .own E, l => if E.pure then some ⟨.s E l, [], [k]⟩ else none
        | _, _ => none
      else none
    | none => none
  | .clo, some (.clo f l) => match capOf rd l with | some (r, ks) => some ⟨.clo f r, ks, []⟩ | none => none
  | _, _ => none

def argsOf (rd : Nat → Option Root) : List Mode → List (Option V) → Option (List Arg × List Nat × List Nat)
  | [], [] => some ([], [], [])
  | m :: ms, v :: vs =>
    match argOf rd m v, argsOf rd ms vs with
    | some x, some (as, ls, ws) => some (x.arg :: as, x.look ++ ls, x.wri ++ ws)
    | _, _ => none
  | _, _ => none

def nodupB : List Nat → Bool
  | [] => true
  | k :: l => !(l.any (Nat.beq k)) && nodupB l

/-- What variables that a callee wrote hold then. -/
def wrote (rd : Nat → Option Root) : List Nat → List TV → Option (List (Nat × Root))
  | [], [] => some []
  | k :: ks, y :: ys =>
    match rd k, wrote rd ks ys with
    | some r, some l => if y.T.pure || r.vec then some ((k, { r with wr := r.wr + 1, T := y.T, x := y.x }) :: l) else none
    | _, _ => none
  | _, _ => none

/-- Results: what is owned becomes a root of its own. -/
def resA (rd : Nat → Option Root) : Nat → List TV → Option (List A × List (Nat × Root))
  | _, [] => some ([], [])
  | dk, y :: ys =>
    match resA rd (dk + 1) ys with
    | some (as, us) =>
      match y with
      | ⟨.own E, l⟩ => some (.hdr dk (nextG rd dk) 0 [] :: as, (dk, ⟨true, false, nextG rd dk, 0, 0, .own E, l⟩) :: us)
      | ⟨T, x⟩ => if T.pure then some (.val T x :: as, us) else none
    | none => none

def resV (as : List A) : Option V :=
  match as with
  | [] => none
  | [x] => some (.a x)
  | l => some (.tup l)

def updR (rd : Nat → Option Root) : List (Nat × Root) → Nat → Option Root
  | [] => rd
  | u :: us => updR (fun s => if Nat.beq s u.1 then some u.2 else rd s) us

section
variable {R : Type} (E : Env) (rd : Nat → Option Root) (dk : Nat) (κ : Option V → List (Nat × Root) → Option R)

def fieldPath : Nat → Path
  | 0 => [.fst]
  | n + 1 => .snd :: fieldPath n

def bitsI (op : BinOp) (k : IntKind) (x y : Int) : Int :=
  let a := BitVec.ofInt k.bits x
  let b := BitVec.ofInt k.bits y
  match op with
  | .and => k.wrap (a &&& b).toNat
  | .or => k.wrap (a ||| b).toNat
  | .xor => k.wrap (a ^^^ b).toNat
  | _ => k.wrap (a &&& ~~~b).toNat

def shlI (k : IntKind) (x y : Int) : Int := k.wrap (x * 2 ^ (min y.toNat k.bits))
def shrI (k : IntKind) (x y : Int) : Int := x.fdiv (2 ^ (min y.toNat k.bits))

def hasField : Ty → Nat → Bool
  | .pair _ _, 0 => true
  | .pair _ B, n + 1 => hasField B n
  | _, _ => false

def isTy : Option Ty → Ty → Bool
  | some U, T => decide (U = T)
  | none, _ => false

def binA (op : BinOp) (S : Option Ty) (eqOK : Bool) (isNil : Bool) : A → A → Option R
  | .val (.int k) a, .val (.int k') b =>
    match op with
    | .shl => bif decide ((b : Int) < 0) then none else κ (some (.a (.val (.int k) (shlI k a b)))) []
    | .shr => bif decide ((b : Int) < 0) then none else κ (some (.a (.val (.int k) (shrI k a b)))) []
    | op =>
      if k = k' then
        match op with
        | .add => κ (some (.a (.val (.int k) (k.wrap ((a : Int) + b))))) []
        | .sub => κ (some (.a (.val (.int k) (k.wrap ((a : Int) - b))))) []
        | .mul => κ (some (.a (.val (.int k) (k.wrap ((a : Int) * b))))) []
        | .quo => bif (b : Int) == 0 then none else κ (some (.a (.val (.int k) (k.wrap ((a : Int).tdiv b))))) []
        | .rem => bif (b : Int) == 0 then none else κ (some (.a (.val (.int k) ((a : Int).tmod b)))) []
        | .and => κ (some (.a (.val (.int k) (bitsI .and k a b)))) []
        | .or => κ (some (.a (.val (.int k) (bitsI .or k a b)))) []
        | .xor => κ (some (.a (.val (.int k) (bitsI .xor k a b)))) []
        | .andNot => κ (some (.a (.val (.int k) (bitsI .andNot k a b)))) []
        | .eql => κ (some (.a (.val .bool ((a : Int) == b)))) []
        | .neq => κ (some (.a (.val .bool ((a : Int) != b)))) []
        | .lss => κ (some (.a (.val .bool (decide ((a : Int) < b))))) []
        | .leq => κ (some (.a (.val .bool (decide ((a : Int) ≤ b))))) []
        | .gtr => κ (some (.a (.val .bool (decide ((b : Int) < a))))) []
        | .geq => κ (some (.a (.val .bool (decide ((b : Int) ≤ a))))) []
        | _ => none
      else none
  | .val .bool a, .val .bool b =>
    match S, op with
    | some .bool, .eql => κ (some (.a (.val .bool ((a : Bool) == b)))) []
    | some .bool, .neq => κ (some (.a (.val .bool (!((a : Bool) == b))))) []
    | _, _ => none
  | .val .str a, .val .str b =>
    match op with
    | .eql => κ (some (.a (.val .bool ((a : ByteArray) == b)))) []
    | .neq => κ (some (.a (.val .bool (!((a : ByteArray) == b))))) []
    | _ => none
  | .val .err a, .val .err b =>
    if isNil then
      match S, op with
      | some .err, .eql => κ (some (.a (.val .bool (Option.isNone (α := Int) a && Option.isNone (α := Int) b)))) []
      | some .err, .neq => κ (some (.a (.val .bool (!(Option.isNone (α := Int) a && Option.isNone (α := Int) b))))) []
      | _, _ => none
    else none
  | .val (.pair A1 A2) a, .val T b =>
    if h : T = .pair A1 A2 then
      if (Ty.pair A1 A2).plain && eqOK && isTy S (.pair A1 A2) then
        match op with
        | .eql => κ (some (.a (.val .bool (eqD (.pair A1 A2) a (cast (congrArg Ty.den h) b))))) []
        | .neq => κ (some (.a (.val .bool (!(eqD (.pair A1 A2) a (cast (congrArg Ty.den h) b)))))) []
        | _ => none
      else none
    else none
  | _, _ => none

/-- A part of a struct's, or an array's, value laid down. -/
def putPart (x : TV) (p : Path) (v : TV) : Option TV :=
  match Ty.co v.T (typeAt x.T p) v.x with
  | some y => setP x.T x.x p ⟨_, y⟩
  | none => setP x.T x.x p v

def buildA (okI : Nat → Bool) (path : Nat → Path) (ev : Operand → Option V) : (Nat → Option Root) → List (Nat × Operand) → TV → Option (TV × List (Nat × Root))
  | _, [], x => some (x, [])
  | rd, (i, o) :: l, x =>
    match ev o with
    | some v =>
      match give rd v with
      | some (y, u) =>
        if okI i = true ∧ y.T.era = (typeAt x.T (path i)).era then
          match putPart x (path i) y with
          | some z =>
            match buildA okI path ev (updR rd u) l z with
            | some (r, us) => some (r, u ++ us)
            | none => none
          | none => none
        else none
      | none => none
    | none => none

/-- The elements of a slice that is written out. -/
def elemsA (T : Ty) (ev : Operand → Option V) : (Nat → Option Root) → Nat → List (Nat × Operand) → Option (List T.den × List (Nat × Root))
  | _, _, [] => some ([], [])
  | rd, i, (j, o) :: l =>
    if Nat.beq i j then
      match ev o with
      | some v =>
        match give rd v with
        | some (y, u) =>
          match Ty.co y.T T y.x, elemsA T ev (updR rd u) (i + 1) l with
          | some z, some (r, us) => some (z :: r, u ++ us)
          | _, _ => none
        | none => none
      | none => none
    else none

/-- Where an element of what is indexed lies (S: the type that the program says). -/
def indexA (S : Ty) (x : A) (i : Int) : Option R :=
  match S, x with
  | .slice E, .val (.slice T) l => if T.era = E.era then (bif decide (0 ≤ i) && decide (i < (List.length l : Int)) then κ (some (.a (.pin T (List.getD l i.toNat T.dft)))) [] else none) else none
  | .arr m E, .pin (.arr n T) l => if m = n ∧ T.era = E.era then (bif decide (0 ≤ i) && decide (i < (n : Int)) then κ (some (.a (.pin T (List.getD l i.toNat T.dft)))) [] else none) else none
  | .arr m E, .ref k g ver p =>
    match live rd k g ver p with
    | some r =>
      match typeAt r.T p with
      | .arr n T => if m = n ∧ T.era = E.era then (bif decide (0 ≤ i) && decide (i < (n : Int)) then κ (some (.a (.ref k g r.ver (p ++ [.idx i.toNat])))) [] else none) else none
      | _ => none
    | none => none
  | .slice E, .hdr k g ver p =>
    match liveH rd k g ver p with
    | some r =>
      match getP r.T r.x p with
      | ⟨.own T, l⟩ => if T.era = E.era then (bif decide (0 ≤ i) && decide (i < (List.length l : Int)) then κ (some (.a (.ref k g r.ver (p ++ [.idx i.toNat])))) [] else none) else none
      | _ => none
    | none => none
  | .slice E, .lsl k g ver p lo n =>
    match live rd k g ver (p ++ [.idx lo]) with
    | some r =>
      match elemsOf (getP r.T r.x p) with
      | some ⟨T, _⟩ => if T.era = E.era then (bif decide (0 ≤ i) && decide (i < (n : Int)) then κ (some (.a (.ref k g r.ver (p ++ [.idx (lo + i.toNat)])))) [] else none) else none
      | none => none
    | none => none
  | _, _ => none

/-- A part of a slice, or of an array. -/
def sliceA (S : Ty) (x : A) (lo hi : Option Int) : Option R :=
  match S, x with
  | .slice E, .val (.slice T) l =>
    if T.era = E.era then
      bif decide (0 ≤ hi.getD (List.length l : Int)) && decide (hi.getD (List.length l : Int) ≤ (List.length l : Int)) && decide (0 ≤ lo.getD 0) && decide (lo.getD 0 ≤ hi.getD (List.length l : Int)) then
        κ (some (.a (.val (.slice T) ((List.take (hi.getD (List.length l : Int)).toNat l).drop (lo.getD 0).toNat)))) [] else none
    else none
  | .arr m E, .pin (.arr n T) l =>
    if m = n ∧ T.era = E.era then
      bif decide (0 ≤ hi.getD (n : Int)) && decide (hi.getD (n : Int) ≤ (n : Int)) && decide (0 ≤ lo.getD 0) && decide (lo.getD 0 ≤ hi.getD (n : Int)) then
        κ (some (.a (.val (.slice T) ((List.take (hi.getD (n : Int)).toNat l).drop (lo.getD 0).toNat)))) [] else none
    else none
  | .arr m E, .ref k g ver p =>
    match live rd k g ver p with
    | some r =>
      match typeAt r.T p with
      | .arr n T =>
        if m = n ∧ T.era = E.era then
          bif decide (0 ≤ hi.getD (n : Int)) && decide (hi.getD (n : Int) ≤ (n : Int)) && decide (0 ≤ lo.getD 0) && decide (lo.getD 0 ≤ hi.getD (n : Int)) then
            κ (some (.a (.lsl k g r.ver p (lo.getD 0).toNat (hi.getD (n : Int) - lo.getD 0).toNat))) [] else none
        else none
      | _ => none
    | none => none
  | .slice E, .hdr k g ver p =>
    match liveH rd k g ver p with
    | some r =>
      match getP r.T r.x p with
      | ⟨.own T, l⟩ =>
        if T.era = E.era then
          bif decide (0 ≤ hi.getD (List.length l : Int)) && decide (hi.getD (List.length l : Int) ≤ (List.length l : Int)) && decide (0 ≤ lo.getD 0) && decide (lo.getD 0 ≤ hi.getD (List.length l : Int)) then
            κ (some (.a (.lsl k g r.ver p (lo.getD 0).toNat (hi.getD (List.length l : Int) - lo.getD 0).toNat))) [] else none
        else none
      | _ => none
    | none => none
  | _, _ => none

/-- The same, the bounds brought to their plain form first. -/
def boundA (o : Option Int) (d : Int) (k : Int → Option R) : Option R := match o with | some i => k i | none => k d
def sliceF (S : Ty) (x : A) (lo hi : Option Int) : Option R :=
  match S, x with
  | .slice E, .val (.slice T) l =>
    if T.era = E.era then
      boundA hi (List.length l : Int) fun H => boundA lo 0 fun L =>
        bif decide (0 ≤ H) && decide (H ≤ (List.length l : Int)) && decide (0 ≤ L) && decide (L ≤ H) then
          κ (some (.a (.val (.slice T) ((List.take H.toNat l).drop L.toNat)))) [] else none
    else none
  | .arr m E, .pin (.arr n T) l =>
    if m = n ∧ T.era = E.era then
      boundA hi (n : Int) fun H => boundA lo 0 fun L =>
        bif decide (0 ≤ H) && decide (H ≤ (n : Int)) && decide (0 ≤ L) && decide (L ≤ H) then
          κ (some (.a (.val (.slice T) ((List.take H.toNat l).drop L.toNat)))) [] else none
    else none
  | .arr m E, .ref k g ver p =>
    match live rd k g ver p with
    | some r =>
      match typeAt r.T p with
      | .arr n T =>
        if m = n ∧ T.era = E.era then
          boundA hi (n : Int) fun H => boundA lo 0 fun L =>
            bif decide (0 ≤ H) && decide (H ≤ (n : Int)) && decide (0 ≤ L) && decide (L ≤ H) then
              κ (some (.a (.lsl k g r.ver p L.toNat (H - L).toNat))) [] else none
        else none
      | _ => none
    | none => none
  | .slice E, .hdr k g ver p =>
    match liveH rd k g ver p with
    | some r =>
      match getP r.T r.x p with
      | ⟨.own T, l⟩ =>
        if T.era = E.era then
          boundA hi (List.length l : Int) fun H => boundA lo 0 fun L =>
            bif decide (0 ≤ H) && decide (H ≤ (List.length l : Int)) && decide (0 ≤ L) && decide (L ≤ H) then
              κ (some (.a (.lsl k g r.ver p L.toNat (H - L).toNat))) [] else none
        else none
      | _ => none
    | none => none
  | _, _ => none

theorem sliceF_eq (S : Ty) (x : A) (lo hi : Option Int) : sliceF rd κ S x lo hi = sliceA rd κ S x lo hi := by
  unfold sliceF sliceA
  cases lo <;> cases hi <;> rfl

/-- What is appended: its elements, as ones of a type; what is given up for it. -/
def tailA (ev : Option V) : Option (TV × List (Nat × Root)) :=
  match ev with
  | some (.a (.val T x)) => if T.pure then some (⟨T, x⟩, []) else none
  | some (.a (.hdr k g ver p)) =>
    match liveH rd k g ver p with
    | some r =>
      match getP r.T r.x p with
      | ⟨.own T, l⟩ =>
        if T.pure then some (⟨.own T, l⟩, [])
        else if r.vec && !r.par && p.isEmpty then some (⟨.own T, l⟩, [(k, r.tomb)]) else none
      | _ => none
    | none => none
  | some (.a (.lsl k g ver p lo n)) =>
    match live rd k g ver (p ++ [.idx lo]) with
    | some r =>
      match elemsOf (getP r.T r.x p) with
      | some ⟨T, l⟩ => if T.pure then some (⟨.own T, (l.drop lo).take n⟩, []) else none
      | none => none
    | none => none
  | _ => none

def joinA (bytes : Nat) (S T : Ty) (l m : List T.den) (us : List (Nat × Root)) : Option R :=
  if T.era = S.era ∧ T.alive = true ∧ nodupB (dk :: us.map (·.1)) = true then
    bif decide ((l.length + m.length) * bytes ≤ 140737488355328) then
      κ (some (.a (.hdr dk (nextG rd dk) 0 []))) (us ++ [(dk, ⟨true, false, nextG rd dk, 0, 0, .own T, l ++ m⟩)]) else none
  else none

def appendA (bytes : Nat) (S : Ty) (s t : Option V) : Option R :=
  match tailA rd t with
  | some (⟨TT, tx⟩, us) =>
    match s with
    | some (.a (.val .nil _)) =>
      match TT, tx with
      | .own T, m => joinA rd dk κ bytes S T [] m us
      | .slice T, m => joinA rd dk κ bytes S T [] m us
      | _, _ => none
    | some (.a (.hdr k g ver p)) =>
      match liveH rd k g ver p with
      | some r =>
        match getP r.T r.x p with
        | ⟨.own T, l⟩ =>
          if r.vec && !r.par && p.isEmpty then
            match TT, tx with
            | .own T', m => if h : T' = T then joinA rd dk κ bytes S T l (cast (congrArg (fun t => List (Ty.den t)) h) m) (us ++ [(k, r.tomb)]) else none
            | .slice T', m => if h : T' = T then joinA rd dk κ bytes S T l (cast (congrArg (fun t => List (Ty.den t)) h) m) (us ++ [(k, r.tomb)]) else none
            | _, _ => none
          else if !r.vec && !r.par then
            match setP r.T r.x p ⟨.dead, ()⟩ with
            | some y =>
              match TT, tx with
              | .own T', m => if h : T' = T then joinA rd dk κ bytes S T l (cast (congrArg (fun t => List (Ty.den t)) h) m) (us ++ [(k, { r with wr := r.wr + 1, ver := r.ver + 1, T := y.T, x := y.x })]) else none
              | .slice T', m => if h : T' = T then joinA rd dk κ bytes S T l (cast (congrArg (fun t => List (Ty.den t)) h) m) (us ++ [(k, { r with wr := r.wr + 1, ver := r.ver + 1, T := y.T, x := y.x })]) else none
              | _, _ => none
            | none => none
          else none
        | _ => none
      | none => none
    | _ => none
  | none => none

def storeA (T : Ty) (addr val : Option V) : Option R :=
  match addr, val with
  | some (.a (.ref k g ver p)), some v =>
    match live rd k g ver p with
    | some r =>
      let S := typeAt r.T p
      if S.era = T.era then
        match v with
        | .a (.val T' x) =>
          if T'.era = T.era && T'.pure then
            match Ty.co T' S x with
            | some y =>
              match setP r.T r.x p ⟨S, y⟩ with
              | some z => κ none [(k, { r with wr := r.wr + 1, ver := if S.pure then r.ver else r.ver + 1, T := z.T, x := z.x })]
              | none => none
            | none =>
              match setP r.T r.x p ⟨T', x⟩ with
              | some z => κ none [(k, { r with wr := r.wr + 1, ver := if S.pure then r.ver else r.ver + 1, T := z.T, x := z.x })]
              | none => none
          else none
        | .a (.hdr k2 g2 ver2 []) =>
          match liveH rd k2 g2 ver2 [] with
          | some r2 =>
            if r2.vec && !r2.par && !(Nat.beq k k2) then
              match r2.T with
              | .own _ =>
                if r2.T.era = T.era then
                  match setP r.T r.x p ⟨r2.T, r2.x⟩ with
                  | some z => κ none [(k2, r2.tomb), (k, { r with wr := r.wr + 1, ver := r.ver + 1, T := z.T, x := z.x })]
                  | none => none
                else none
              | _ => none
            else none
          | none => none
        | _ => none
      else none
    | none => none
  | _, _ => none

/-- A store of a struct whose slices are given up for it. -/
def storeG (T : Ty) (addr val : Option V) : Option R :=
  match val with
  | some (.a (.view k g wr p)) =>
    match give rd (.a (.view k g wr p)) with
    | some (y, us) => storeA (updR rd us) (fun v us' => κ v (us ++ us')) T addr (some (.a (.val y.T y.x)))
    | none => none
  | _ => storeA rd κ T addr val

def loadA (T : Ty) (addr : Option V) : Option R :=
  match addr with
  | some (.a (.pin T' x)) => if T'.era = T.era && T'.pure then κ (some (.a (.val T' x))) [] else none
  | some (.a (.ref k g ver p)) =>
    match live rd k g ver p with
    | some r =>
      let y := getP r.T r.x p
      if y.T.era = T.era then
        if y.T.pure then κ (some (.a (.val y.T y.x))) []
        else match y.T with
          | .own _ => κ (some (.a (.hdr k g r.ver p))) []
          | .dead => none
          | _ => κ (some (.a (.view k g r.wr p))) []
      else none
    | none => none
  | _ => none

/-- A call: what is known of the callee. -/
def callA (sp : Sp) (vs : List (Option V)) : Option R :=
  match argsOf rd sp.modes vs with
  | some (args, ls, ws) =>
    if nodupB ws && !(ws.any fun k => ls.any (Nat.beq k)) then
      sp.run args fun res upd =>
        match wrote rd ws upd, resA rd dk res with
        | some us, some (as, us') => if (ls.isEmpty || (res.all fun y => y.T.noSlice) && (upd.all fun y => y.T.noSlice)) && !(us'.any fun u => ws.any (Nat.beq u.1)) && Nat.ble res.length 8 then κ (resV as) (us ++ us') else none
        | _, _ => none
    else none
  | none => none

def Sp.base (sp : Sp) : Sp := ⟨sp.modes.map Mode.base, sp.run⟩

/-- Arguments that are given up: their slices are written no more. -/
def giveArgs : (Nat → Option Root) → List Mode → List (Option V) → List (Option V) × List (Nat × Root)
  | rd, .g :: ms, some v :: vs =>
    match give rd v with
    | some (y, us) => (some (.a (.val y.T y.x)) :: (giveArgs (updR rd us) ms vs).1, us ++ (giveArgs (updR rd us) ms vs).2)
    | none => (some v :: (giveArgs rd ms vs).1, (giveArgs rd ms vs).2)
  | rd, _ :: ms, v :: vs => (v :: (giveArgs rd ms vs).1, (giveArgs rd ms vs).2)
  | _, [], vs => (vs, [])
  | _, _ :: _, [] => ([], [])

/-- A call some of whose arguments are given up. -/
def callG (sp : Sp) (vs : List (Option V)) : Option R :=
  match giveArgs rd sp.modes vs with
  | (vs', us) => callA (updR rd us) dk (fun v us' => κ v (us ++ us')) sp.base vs'

/-- Numbers are copied into a part of an array. -/
def copyA (S : Ty) (k g ver : Nat) (p : Path) (lo n : Nat) (y : A) : Option R :=
  match live rd k g ver (p ++ [.idx lo]), snap rd y with
  | some r, some (⟨.slice (.int K'), m⟩, ks) =>
    match getP r.T r.x p with
    | ⟨.arr N (.int K), l⟩ =>
      if !r.vec && !(ks.any (Nat.beq k)) && decide (K = K') && decide (S = .int K) then
        bif decide (0 < n) && decide (0 < m.length) then
          match setP r.T r.x p ⟨.arr N (.int K), (List.take lo l ++ (List.take n m ++ List.drop (lo + (List.take n m).length) l) : List Int)⟩ with
          | some z => κ (some (.a (.val (.int .i64) ((List.take n m).length : Int)))) [(k, { r with wr := r.wr + 1, T := z.T, x := z.x })]
          | none => none
        else none
      else none
    | _ => none
  | _, _ => none

def byteAt (s : ByteArray) (i : Nat) : Int := ((s.data.toList.getD i 0).toNat : Int)

def capsV (l : List A) : List (Option V) := l.map fun x => some (.a x)

/-- The function at a call, and what it is called with besides. -/
def calleeA (F : Operand → Option V) : Operand → Option (Nat × List A)
  | .func f => some (f, [])
  | o => match F o with | some (.clo f l) => some (f, l) | _ => none

def intOfA : Option V → Option Int
  | some (.a (.val (.int _) n)) => some n
  | _ => none

def lenA (x : A) : Option Nat :=
  match x with
  | .val .nil _ => some 0
  | .val (.slice _) l => some (List.length l)
  | .hdr k g ver p =>
    match liveH rd k g ver p with
    | some r => match getP r.T r.x p with | ⟨.own _, l⟩ => some (List.length l) | _ => none
    | none => none
  | .lsl k g ver p lo n => match live rd k g ver (p ++ [.idx lo]) with | some _ => some n | none => none
  | _ => none

/-- One operation. -/
def opA (F : Nat → Option V) (o : Op) : Option R :=
  let ev := opv F
  match o with
  | .move x => κ (ev x) []
  | .assign x =>
    match ev x with
    | some (.a (.hdr k g ver [])) =>
      match liveH rd k g ver [] with
      | some r =>
        if r.vec && !r.par && !(Nat.beq k dk) then κ (some (.a (.hdr dk (nextG rd dk) 0 []))) [(k, r.tomb), (dk, ⟨true, false, nextG rd dk, 0, 0, r.T, r.x⟩)]
        else κ (ev x) []
      | none => κ (ev x) []
    | v => κ v []
  | .pick c a b =>
    match ev c with
    | some (.a (.val .bool c)) => bif c then κ (ev a) [] else κ (ev b) []
    | _ => none
  | .alloc t =>
    match E.Γ t with
    | some T => κ (some (.a (.ref dk (nextG rd dk) 0 []))) [(dk, ⟨false, false, nextG rd dk, 0, 0, T.zer, T.zer.dft⟩)]
    | none => none
  | .box t x =>
    match E.Γ t, ev x with
    | some T, some (.a (.val T' y)) =>
      if T'.era = T.era && T'.pure then κ (some (.a (.ref dk (nextG rd dk) 0 []))) [(dk, ⟨false, false, nextG rd dk, 0, 0, T', y⟩)] else none
    | _, _ => none
  | .build t parts =>
    match E.Γ t with
    | some (.arr n S) =>
      match buildA (fun i => Nat.blt i n) (fun i => [.idx i]) ev rd parts.toList ⟨(Ty.arr n S).zer, (Ty.arr n S).zer.dft⟩ with
      | some (y, us) => if y.T.era = (Ty.arr n S).era && y.T.pure then κ (some (.a (.val y.T y.x))) us else none
      | none => none
    | some (.pair A B) =>
      match buildA (hasField (.pair A B)) fieldPath ev rd parts.toList ⟨(Ty.pair A B).zer, (Ty.pair A B).zer.dft⟩ with
      | some (y, us) => if y.T.era = (Ty.pair A B).era && y.T.pure then κ (some (.a (.val y.T y.x))) us else none
      | none => none
    | _ => none
  | .buildSlice t n parts =>
    match E.Γ t with
    | some (.slice T) =>
      if Nat.beq n parts.size then
        if E.deep dk then
          match parts.toList with
          | [(0, o)] =>
            match ev o with
            | some (.a (.hdr k g ver [])) =>
              match liveH rd k g ver [] with
              | some r =>
                if r.vec && !r.par && !(Nat.beq k dk) then
                  match r.T with
                  | .own _ => if r.T.era = T.era then κ (some (.a (.hdr dk (nextG rd dk) 0 []))) [(k, r.tomb), (dk, ⟨true, false, nextG rd dk, 0, 0, .own r.T, [r.x]⟩)] else none
                  | _ => none
                else none
              | none => none
            | _ => none
          | _ => none
        else
          match elemsA T ev rd 0 parts.toList with
          | some (l, us) => if (us.any fun u => Nat.beq u.1 dk) || !(Nat.ble (n * T.size) 16777216) then none else κ (some (.a (.hdr dk (nextG rd dk) 0 []))) (us ++ [(dk, ⟨true, false, nextG rd dk, 0, 0, .own T, l⟩)])
          | none => none
      else none
    | _ => none
  | .load t a => match E.Γ t with | some T => loadA rd κ T (ev a) | none => none
  | .store t a x => match E.Γ t with | some T => storeG rd κ T (ev a) (ev x) | none => none
  | .nilCheck x =>
    match ev x with
    | some (.a (.ref k g ver p)) => match live rd k g ver p with | some _ => κ (some (.a (.ref k g ver p))) [] | none => none
    | some (.a (.pin T y)) => κ (some (.a (.pin T y))) []
    | some (.clo f l) => κ (some (.clo f l)) []
    | _ => none
  | .binOp op t x y _ =>
    match ev x, ev y with
    | some (.a u), some (.a v) => binA κ op (E.Γ t) (E.eqT t) (match x, y with | .const .nilIface, _ => true | _, .const .nilIface => true | _, _ => false) u v
    | _, _ => none
  | .unOp op _ x =>
    match op, ev x with
    | .neg, some (.a (.val (.int k) n)) => κ (some (.a (.val (.int k) (k.wrap (0 - (n : Int)))))) []
    | .xor, some (.a (.val (.int k) n)) => κ (some (.a (.val (.int k) (bitsI .xor k (if k.signed then -1 else k.max) n)))) []
    | .not, some (.a (.val .bool b)) => κ (some (.a (.val .bool (!(b : Bool))))) []
    | _, _ => none
  | .convert src dst x =>
    match E.Γ src, E.Γ dst, ev x with
    | some (.int _), some (.int k), some (.a (.val (.int _) n)) => κ (some (.a (.val (.int k) (k.wrap (n : Int))))) []
    | _, _, _ => none
  | .makeInterface t x =>
    if Nat.beq t E.eT then
      match ev x with
      | some (.a (.val (.int .i64) n)) => κ (some (.a (.val .err (some (n : Int))))) []
      | _ => none
    else none
  | .makeFunc (.func f) first captured =>
    match first.toList, (captured.toList.map ev).foldr (fun x l => match x, l with | some (.a y), some m => some (y :: m) | _, _ => none) (some []) with
    | [], some l => κ (some (.clo f l)) []
    | _, _ => none
  | .makeSlice t l c =>
    match E.Γ t, E.bytes t, intOfA (ev l), intOfA (ev c) with
    | some (.slice T), some by_, some n, some m =>
      if T.zer = T then
        bif decide (0 ≤ n) && decide (n ≤ m) && decide (m * by_ ≤ 140737488355328) then
          κ (some (.a (.hdr dk (nextG rd dk) 0 []))) [(dk, ⟨true, false, nextG rd dk, 0, 0, .own T, List.replicate n.toNat T.dft⟩)] else none
      else
        bif decide (n = 0) && decide (0 ≤ m) && decide (m * by_ ≤ 140737488355328) then
          κ (some (.a (.hdr dk (nextG rd dk) 0 []))) [(dk, ⟨true, false, nextG rd dk, 0, 0, .own T, []⟩)] else none
    | _, _, _, _ => none
  | .slice t x lo hi none =>
    match E.Γ t, ev x with
    | some S, some (.a y) =>
      match lo, hi with
      | none, none => sliceF rd κ S y none none
      | some a, none => match intOfA (ev a) with | some i => sliceF rd κ S y (some i) none | none => none
      | none, some b => match intOfA (ev b) with | some j => sliceF rd κ S y none (some j) | none => none
      | some a, some b => match intOfA (ev a), intOfA (ev b) with | some i, some j => sliceF rd κ S y (some i) (some j) | _, _ => none
    | _, _ => none
  | .fieldAddr t x f =>
    match E.Γ t, ev x with
    | some S, some (.a (.ref k g ver p)) =>
      match live rd k g ver p with
      | some r => if (typeAt r.T p).era = S.era then (if hasField S f then κ (some (.a (.ref k g r.ver (p ++ fieldPath f)))) [] else none) else none
      | none => none
    | some S, some (.a (.pin T x)) => if T.era = S.era ∧ T.pure = true then (if hasField S f then κ (some (.a (.pin (getP T x (fieldPath f)).T (getP T x (fieldPath f)).x))) [] else none) else none
    | _, _ => none
  | .field t x f =>
    match E.Γ t, ev x with
    | some S, some (.a (.val T x)) => if T.era = S.era && T.pure && hasField S f then κ (some (.a (.val (getP T x (fieldPath f)).T (getP T x (fieldPath f)).x))) [] else none
    | _, _ => none
  | .indexAddr t x i =>
    match E.Γ t, ev x, intOfA (ev i) with
    | some S, some (.a y), some n => indexA rd κ S y n
    | _, _, _ => none
  | .index t x i =>
    match E.Γ t, ev x, intOfA (ev i) with
    | some (.arr m' S), some (.a (.val (.arr m T) l)), some n =>
      if m' = m ∧ T.era = S.era ∧ T.pure = true then (bif decide (0 ≤ n) && decide (n < (m : Int)) then κ (some (.a (.val T (List.getD l n.toNat T.dft)))) [] else none) else none
    | some .str, some (.a (.val .str s)), some n => bif decide (0 ≤ n) && decide (n < (ByteArray.size s : Int)) then κ (some (.a (.val (.int .u8) (byteAt s n.toNat)))) [] else none
    | _, _, _ => none
  | .extract x i =>
    match ev x with
    | some (.tup l) => match l[i]? with | some y => κ (some (.a y)) [] | none => none
    | _ => none
  | .call c =>
    match c.callee with
    | .value f =>
      match calleeA ev f with
      | some (n, l) => match E.tbl n with | some sp => callG rd dk κ sp (c.args.toList.map ev ++ capsV l) | none => none
      | none => none
    | .builtin .len =>
      match c.argTypes.toList.map E.Γ, c.args.toList.map ev with
      | [some (.slice _)], [some (.a x)] => match lenA rd x with | some n => κ (some (.a (.val (.int .i64) (n : Int)))) [] | none => none
      | _, _ => none
    | .builtin .append =>
      match c.argTypes.toList, c.args.toList.map ev with
      | [t, t'], [s, u] =>
        match E.Γ t, E.Γ t', E.bytes t with
        | some (.slice S), some (.slice _), some by_ => appendA rd dk κ by_ S s u
        | _, _, _ => none
      | _, _ => none
    | .builtin .copy =>
      match c.argTypes.toList.map E.Γ, c.args.toList.map ev with
      | [some (.slice S), some (.slice _)], [some (.a (.lsl k g ver p lo n)), some (.a y)] => copyA rd κ S k g ver p lo n y
      | _, _ => none
    | .builtin .max =>
      match c.args.toList.map ev with
      | [some (.a (.val (.int k) a)), some (.a (.val (.int _) b))] => κ (some (.a (.val (.int k) (bif decide ((a : Int) < b) then b else a)))) []
      | [some (.a (.val (.int k) a)), some (.a (.val (.int _) b)), some (.a (.val (.int _) c))] =>
        κ (some (.a (.val (.int k) (bif decide ((bif decide ((a : Int) < b) then (b : Int) else a) < c) then c else (bif decide ((a : Int) < b) then b else a))))) []
      | _ => none
    | .builtin .min =>
      match c.args.toList.map ev with
      | [some (.a (.val (.int k) a)), some (.a (.val (.int _) b))] => κ (some (.a (.val (.int k) (bif decide ((b : Int) < a) then b else a)))) []
      | _ => none
    | _ => none
  | _ => none
end
end Go.Ev
end

section
set_option linter.all false
set_option linter.unusedSimpArgs false
set_option linter.unusedVariables false
namespace Go.Ev
open Go

/-- The cells of a type's zero value. -/
def zeroCs : Ty → List Value
  | .int k => [.int k 0]
  | .bool => [.bool false]
  | .str => [.string ByteArray.empty]
  | .err => [.nilIface]
  | .nil => [.slice none 0 0]
  | .slice _ => [.slice none 0 0]
  | .own _ => [.slice none 0 0]
  | .arr n T => (List.replicate n (zeroCs T)).flatten
  | .unit => []
  | .pair A B => zeroCs A ++ zeroCs B
  | .dead => [undef]

def vEq : Value → Value → Bool
  | .int k n, .int k' n' => decide (k = k') && n == n'
  | .bool a, .bool b => a == b
  | .string s, .string t => s.data.toList.isEmpty && t.data.toList.isEmpty
  | .nilIface, .nilIface => true
  | .slice none 0 0, .slice none 0 0 => true
  | _, _ => false

def vsEq : List Value → List Value → Bool
  | [], [] => true
  | a :: l, b :: m => vEq a b && vsEq l m
  | _, _ => false

theorem vEq_eq {a b : Value} (h : vEq a b = true) : a = b := by
  unfold vEq at h
  split at h
  · simp at h; rw [h.1, h.2]
  · simp at h; rw [h]
  · rename_i s t
    simp at h
    have hs : s = ⟨#[]⟩ := by cases s; simp_all
    have ht : t = ⟨#[]⟩ := by cases t; simp_all
    rw [hs, ht]
  · rfl
  · rfl
  · cases h

theorem vsEq_eq : ∀ {l m : List Value}, vsEq l m = true → l = m := by
  intro l
  induction l with
  | nil => intro m h; cases m <;> simp [vsEq] at h ⊢
  | cons a l ih =>
    intro m h
    cases m with
    | nil => simp [vsEq] at h
    | cons b m => simp only [vsEq, Bool.and_eq_true] at h; rw [vEq_eq h.1, ih h.2]

/-- The fields of a struct type, laid as the code of the type says. -/
def fieldsOk (ok : TypeId → Ty → Bool) : List Field → Nat → Ty → Bool
  | [], _, .unit => true
  | f :: fs, off, .pair A B => Nat.beq f.offset off && !(Nat.beq A.size 0) && ok f.type A && fieldsOk ok fs (off + A.size) B
  | _, _, _ => false

def isAggV : Value → Bool
  | .agg _ => true
  | _ => false

/-- Does a code fit a type of the program? -/
def tyOk (P : Program) : Nat → TypeId → Ty → Bool
  | 0, _, _ => false
  | n + 1, t, T =>
    (match P.info? t with
     | some i => Nat.beq i.size T.size && (match i.zero with | some v => vsEq v.cells.toList (zeroCs T) && isAggV v == T.agg | none => false)
     | none => false) &&
    (match P.underlying t, T with
     | some (.int k), .int k' => decide (k = k')
     | some .bool, .bool => true
     | some .string, .str => true
     | some (.interface _), .err => true
     | some (.slice e), .slice E => tyOk P n e E && E.pure
     | some (.array m e), .arr m' E => Nat.beq m m' && tyOk P n e E
     | some (.struct fs), T => fieldsOk (tyOk P n) fs.toList 0 T
     | _, _ => false)

/-- What the machine knows of a type. -/
structure TyF (P : Program) (t : TypeId) (T : Ty) : Prop where
  info : ∃ i, P.info? t = some i ∧ i.size = T.size ∧ ∃ v, i.zero = some v ∧ v = conc T (zeroCs T)
  agg : ∃ d, P.underlying t = some d ∧ (match d with | .struct _ | .array _ _ => true | _ => false) = T.agg

theorem conc_cells {T : Ty} {v : Value} {cs : List Value} (h : v.cells.toList = cs) (ha : isAggV v = T.agg) : v = conc T cs := by
  unfold conc
  cases v with
  | agg c => simp only [Value.cells] at h; simp only [isAggV] at ha; rw [← ha]; simp [← h]
  | _ =>
    simp only [Value.cells] at h
    simp only [isAggV] at ha
    rw [← ha]; simp [← h]

theorem Ty.size_one {T : Ty} (h : T.agg = false) : T.size = 1 := by cases T <;> simp_all [Ty.agg, Ty.size]

theorem zeroCs_length (T : Ty) : (zeroCs T).length = T.size := by
  induction T with
  | arr n T ih =>
    simp only [zeroCs, Ty.size, List.length_flatten, List.map_replicate, ih]
    simp
  | pair A B ha hb => simp [zeroCs, Ty.size, ha, hb]
  | _ => rfl

theorem tyOk_F {P : Program} {n : Nat} {t : TypeId} {T : Ty} (h : tyOk P n t T = true) : TyF P t T := by
  cases n with
  | zero => simp [tyOk] at h
  | succ n =>
    simp only [tyOk, Bool.and_eq_true] at h
    obtain ⟨h1, h2⟩ := h
    constructor
    · cases hi : P.info? t with
      | none => rw [hi] at h1; cases h1
      | some i =>
        rw [hi] at h1
        simp only [Bool.and_eq_true, Nat.beq_eq] at h1
        obtain ⟨h3, h4⟩ := h1
        refine ⟨i, rfl, h3, ?_⟩
        cases hz : i.zero with
        | none => rw [hz] at h4; cases h4
        | some v =>
          rw [hz] at h4
          simp only [Bool.and_eq_true, beq_iff_eq] at h4
          exact ⟨v, rfl, conc_cells (vsEq_eq h4.1) h4.2⟩
    · cases hu : P.underlying t with
      | none => rw [hu] at h2; cases T <;> cases h2
      | some d =>
        rw [hu] at h2
        refine ⟨d, rfl, ?_⟩
        cases d <;> cases T <;> simp_all [Ty.agg, fieldsOk] <;> (rename_i fs _; cases hfs : fs.toList <;> simp_all [fieldsOk])

/-- Zero values own nothing. -/
theorem Cn_zero {eT : TypeId} {w : World} {J : Nat → Prop} (T : Ty) (hp : T.pure = true) : Cn eT w J T.zer T.zer.dft (zeroCs T) [] := by
  induction T with
  | slice T ih => simp [Ty.zer, Cn, zeroCs]
  | own T ih => simp [Ty.pure] at hp
  | arr n T ih =>
    simp only [Ty.zer, Ty.dft, Cn, zeroCs]
    have hz : T.zer.size = T.size := by
      clear ih hp
      induction T with
      | arr n T ih => simp only [Ty.zer, Ty.size, ih]
      | pair A B ha hb => simp only [Ty.zer, Ty.size, ha, hb]
      | _ => rfl
    refine ⟨by simp, by rw [hz]; simp [List.length_flatten, zeroCs_length], List.replicate n [], by simp, by simp, fun i hi => ?_⟩
    have hi' : i < n := by simpa using hi
    have e0 : (List.replicate n ([] : List Nat)).getD i [] = [] := by simp [List.getD_eq_getElem?_getD, List.getElem?_replicate]; split <;> rfl
    have e1 : (((List.replicate n (zeroCs T)).flatten).drop (i * T.zer.size)).take T.zer.size = zeroCs T := by
      rw [hz]
      have key : ∀ n i, i < n → (((List.replicate n (zeroCs T)).flatten).drop (i * T.size)).take T.size = zeroCs T := by
        intro n
        induction n with
        | zero => intro i h; omega
        | succ n ihn =>
          intro i h
          rw [List.replicate_succ, List.flatten_cons]
          cases i with
          | zero => simp [List.take_left' (zeroCs_length T)]
          | succ i =>
            rw [Nat.add_mul, Nat.one_mul, Nat.add_comm, ← List.drop_drop, List.drop_left' (zeroCs_length T)]
            exact ihn i (by omega)
      exact key n i hi'
    rw [e0, e1]
    simp only [List.get_eq_getElem, List.getElem_replicate]
    exact ih (by simpa [Ty.pure] using hp)
  | pair A B ha hb =>
    simp only [Ty.pure, Bool.and_eq_true] at hp
    have hz : A.zer.size = A.size := by
      clear ha hb hp
      induction A with
      | arr n T ih => simp only [Ty.zer, Ty.size, ih]
      | pair A B ha hb => simp only [Ty.zer, Ty.size, ha, hb]
      | _ => rfl
    simp only [Ty.zer, Ty.dft, Cn, zeroCs]
    refine ⟨[], [], rfl, ?_, ?_⟩
    · rw [hz, List.take_left' (zeroCs_length A)]; exact ha hp.1
    · rw [hz, List.drop_left' (zeroCs_length A)]; exact hb hp.2
  | dead => simp [Ty.pure] at hp
  | err => simp only [Ty.zer, Ty.dft, Cn, zeroCs]; trivial
  | _ => simp [Ty.zer, Ty.dft, Cn, zeroCs]
end Go.Ev
end

section
set_option linter.all false
set_option linter.unusedSimpArgs false
set_option linter.unusedVariables false
namespace Go.Ev
open Go

def updM (M : Nat → Option Root) (us : List (Nat × Root)) : Nat → Option Root := us.foldl (fun M u => upd M u.1 (some u.2)) M
theorem updM_nil (M : Nat → Option Root) : updM M [] = M := rfl
theorem updM_cons (M : Nat → Option Root) (u : Nat × Root) (us : List (Nat × Root)) : updM M (u :: us) = updM (upd M u.1 (some u.2)) us := rfl
theorem updM_append (M : Nat → Option Root) (us vs : List (Nat × Root)) : updM M (us ++ vs) = updM (updM M us) vs := List.foldl_append

/-- What holds behind an operation: the memory, all that was known of values, and what it yielded. -/
def After (eT : TypeId) (G : Gh) (M : Nat → Option Root) (w : World) (J : Nat → Prop) (anc : Nat → Pl) (v : Option V) (us : List (Nat × Root)) (val : Value) (w' : World) : Prop :=
  ∃ J' anc' fp', MOk eT G (updM M us) w' J' anc' fp' ∧ (∀ x u, ARel eT w J M anc x u → ARel eT w' J' (updM M us) anc' x u) ∧
    (∀ x, v = some x → VRel eT w' J' (updM M us) anc' x val)

section
variable {eT : TypeId} {G : Gh} {M : Nat → Option Root} {w : World} {J : Nat → Prop} {anc : Nat → Pl} {fp : Nat → List Nat}

theorem After.quiet (h : MOk eT G M w J anc fp) {v : Option V} {val : Value} (hv : ∀ x, v = some x → VRel eT w J M anc x val) : After eT G M w J anc v [] val w :=
  ⟨J, anc, fp, h, fun _ _ h => h, hv⟩

/-- What an operation comes to. -/
def OpRes {R : Type} (P : Program) (eT : TypeId) (G : Gh) (M : Nat → Option Root) (w : World) (J : Nat → Prop) (anc : Nat → Pl) (ρ : Operand → Value) (o : Oper) (κ : Option V → List (Nat × Root) → Option R) (r : R) : Prop :=
  ∃ v us val w', κ v us = some r ∧ After eT G M w J anc v us val w' ∧
    ((execOp ρ o).run P w = .ok (.value val) w' ∨ ((execOp ρ o).run P w = .ok .skip w' ∧ v = none))

theorem arel_int {k : IntKind} {n : Int} {v : Value} : ARel eT w J M anc (.val (.int k) n) v ↔ v = .int k n := by
  simp only [ARel, Cn, conc, Ty.agg]
  constructor
  · rintro ⟨cs, ⟨rfl, _⟩, rfl⟩; rfl
  · rintro rfl; exact ⟨_, ⟨rfl, by trivial⟩, rfl⟩
theorem arel_bool {n : Bool} {v : Value} : ARel eT w J M anc (.val .bool n) v ↔ v = .bool n := by
  simp only [ARel, Cn, conc, Ty.agg]
  constructor
  · rintro ⟨cs, ⟨rfl, _⟩, rfl⟩; rfl
  · rintro rfl; exact ⟨_, ⟨rfl, by trivial⟩, rfl⟩
theorem arel_str {n : ByteArray} {v : Value} : ARel eT w J M anc (.val .str n) v ↔ v = .string n := by
  simp only [ARel, Cn, conc, Ty.agg]
  constructor
  · rintro ⟨cs, ⟨rfl, _⟩, rfl⟩; rfl
  · rintro rfl; exact ⟨_, ⟨rfl, by trivial⟩, rfl⟩
theorem arel_nil {n : Unit} {v : Value} : ARel eT w J M anc (.val .nil n) v ↔ v = .slice none 0 0 := by
  simp only [ARel, Cn, conc, Ty.agg]
  constructor
  · rintro ⟨cs, ⟨rfl, _⟩, rfl⟩; rfl
  · rintro rfl; exact ⟨_, ⟨rfl, by trivial⟩, rfl⟩
theorem arel_err0 {v : Value} : ARel eT w J M anc (.val .err (none : Option Int)) v ↔ v = .nilIface := by
  simp only [ARel, Cn, conc, Ty.agg]
  constructor
  · rintro ⟨cs, ⟨rfl, _⟩, rfl⟩; rfl
  · rintro rfl; exact ⟨_, ⟨rfl, by trivial⟩, rfl⟩
theorem arel_err1 {n : Int} {v : Value} : ARel eT w J M anc (.val .err (some n : Option Int)) v ↔ v = .iface eT (.int .i64 n) := by
  simp only [ARel, Cn, conc, Ty.agg]
  constructor
  · rintro ⟨cs, ⟨rfl, _⟩, rfl⟩; rfl
  · rintro rfl; exact ⟨_, ⟨rfl, by trivial⟩, rfl⟩

theorem constA_rel {v : Value} {x : A} (h : constA v = some x) : ARel eT w J M anc x v := by
  unfold constA at h
  split at h <;> cases h
  · exact arel_int.2 rfl
  · exact arel_bool.2 rfl
  · exact arel_str.2 rfl
  · exact arel_err0.2 rfl
  · exact arel_nil.2 rfl

theorem opv_rel {F : Nat → Option V} {a : Act} (hF : ∀ t v, F t = some v → VRel eT w J M anc v (a.tmps.getD t undef)) {x : Operand} {v : V} (h : opv F x = some v) :
    VRel eT w J M anc v (a.eval x) := by
  cases x with
  | tmp t => exact hF t v h
  | const c =>
    simp only [opv] at h
    split at h
    · rename_i y hy; cases h; exact constA_rel hy
    · cases h
  | func f => simp only [opv] at h; cases h; exact ⟨[], rfl, rfl, fun i hi => by simp at hi⟩
  | global g => simp [opv] at h

/-! ### Two numbers -/
theorem run_bin_int (P : Program) (op : BinOp) (t : TypeId) (x y : Operand) (k : IntKind) (a b : Int) (yt : TypeId) (o : Oper) (ρ : Operand → Value) (ho : o.op = .binOp op t x y yt) (hx : ρ x = .int k a) (hy : ρ y = .int k b)
    (h1 : op ≠ .shl) (h2 : op ≠ .shr) : (execOp ρ o).run P w = (match op with
      | .add => .ok (.value (.int k (k.wrap (a + b)))) w
      | .sub => .ok (.value (.int k (k.wrap (a - b)))) w
      | .mul => .ok (.value (.int k (k.wrap (a * b)))) w
      | .quo => ((Op.intDiv .quo k a b).run P w).andThen fun v w => .ok (.value v) w
      | .rem => ((Op.intDiv .rem k a b).run P w).andThen fun v w => .ok (.value v) w
      | .and => .ok (.value (.int k (bitsI .and k a b))) w
      | .or => .ok (.value (.int k (bitsI .or k a b))) w
      | .xor => .ok (.value (.int k (bitsI .xor k a b))) w
      | .andNot => .ok (.value (.int k (bitsI .andNot k a b))) w
      | .eql => .ok (.value (.bool (a == b))) w
      | .neq => .ok (.value (.bool (a != b))) w
      | .lss => .ok (.value (.bool (decide (a < b)))) w
      | .leq => .ok (.value (.bool (decide (a ≤ b)))) w
      | .gtr => .ok (.value (.bool (decide (b < a)))) w
      | .geq => .ok (.value (.bool (decide (b ≤ a)))) w
      | _ => .ok (.value undef) w) := by
  simp only [execOp, ho, hx, hy]
  cases op <;> first | exact absurd rfl h1 | exact absurd rfl h2 | (simp [eqGuard, binOp, Op.intArith, Op.intBits, Op.intCmp, bitsI]; done) | (simp [eqGuard, binOp, Op.intArith, Op.intBits, Op.intCmp, bitsI]; rfl) | rfl

theorem run_shift (P : Program) (op : BinOp) (t : TypeId) (x y : Operand) (k k' : IntKind) (a b : Int) (yt : TypeId) (o : Oper) (ρ : Operand → Value) (ho : o.op = .binOp op t x y yt) (hx : ρ x = .int k a) (hy : ρ y = .int k' b)
    (h : op = .shl ∨ op = .shr) (hb : ¬ b < 0) : (execOp ρ o).run P w = .ok (.value (.int k (if op = .shl then shlI k a b else shrI k a b))) w := by
  simp only [execOp, ho, hx, hy]
  rcases h with rfl | rfl <;> simp [eqGuard, binOp, Op.shift, hb, shlI, shrI, Sem.run, pure]
end
end Go.Ev
end

section
set_option linter.all false
set_option linter.unusedSimpArgs false
set_option linter.unusedVariables false
namespace Go.Ev
open Go
variable {eT : TypeId} {w : World} {J : Nat → Prop} {P : Program}

theorem add_at (b o i : Nat) : (⟨b, o, none⟩ : Addr).add i = ⟨b, o + i, none⟩ := by
  unfold Addr.add; split
  · rename_i h; subst h; rfl
  · rfl

theorem cell_cellsAt {b o n i : Nat} {v : Value} (h : (cellsAt w b o n)[i]? = some v) : w.cell? ⟨b, o + i, none⟩ = some v := by
  rw [cellsAt_getElem?] at h
  split at h
  · unfold World.cell?; simp; exact h
  · cases h

theorem run_loadCells_at (b o n : Nat) (h : (cellsAt w b o n).length = n) : (loadCells ⟨b, o, none⟩ n).run P w = .ok (cellsAt w b o n).toArray w := by
  have := run_loadCells_list (P := P) (w := w) ⟨b, o, none⟩ (cellsAt w b o n) (fun j v hj => by rw [add_at]; exact cell_cellsAt hj)
  rw [h] at this; exact this

/-- The cells of what is known are single values. -/
theorem Cn_one : ∀ {T : Ty} {x : T.den} {cs : List Value} {fs : List Nat}, T.pure = true → Cn eT w J T x cs fs → ∀ v, v ∈ cs → v.oneCell' = true := by
  intro T
  induction T with
  | slice T ih => intro x cs fs hp h v hv; simp only [Cn] at h; obtain ⟨_, a, cap, rfl, _⟩ := h; simp at hv; subst hv; rfl
  | own T ih => intro x cs fs hp; simp [Ty.pure] at hp
  | dead => intro x cs fs hp; simp [Ty.pure] at hp
  | arr n T ih =>
    intro x cs fs hp h v hv
    simp only [Cn] at h
    obtain ⟨h1, h2, fss, _, _, h4⟩ := h
    obtain ⟨i, hi, rfl⟩ := List.mem_iff_getElem.1 hv
    rcases Nat.eq_zero_or_pos T.size with h0 | h0
    · rw [h2, h0] at hi; omega
    have hq : i / T.size < n := by
      rw [h2] at hi; exact Nat.div_lt_of_lt_mul (by rw [Nat.mul_comm]; exact hi)
    refine ih (by simpa [Ty.pure] using hp) (h4 (i / T.size) (by omega)) _ ?_
    have hm : i % T.size < T.size := Nat.mod_lt _ h0
    have e : i = i / T.size * T.size + i % T.size := by rw [Nat.mul_comm]; exact (Nat.div_add_mod i T.size).symm
    refine List.mem_iff_getElem?.2 ⟨i % T.size, ?_⟩
    rw [List.getElem?_take, if_pos hm, List.getElem?_drop, ← e, List.getElem?_eq_getElem hi]
  | pair A B ha hb =>
    intro x cs fs hp h v hv
    simp only [Cn] at h
    obtain ⟨f1, f2, _, h1, h2⟩ := h
    simp only [Ty.pure, Bool.and_eq_true] at hp
    rw [← List.take_append_drop A.size cs, List.mem_append] at hv
    rcases hv with hv | hv
    · exact ha hp.1 h1 v hv
    · exact hb hp.2 h2 v hv
  | err => intro x cs fs hp h v hv; cases x <;> (simp only [Cn] at h; obtain ⟨rfl, _⟩ := h; simp at hv; subst hv; rfl)
  | unit => intro x cs fs hp h v hv; simp only [Cn] at h; obtain ⟨rfl, _⟩ := h; simp at hv
  | _ => intro x cs fs hp h v hv; simp only [Cn] at h; obtain ⟨rfl, _⟩ := h; simp at hv; subst hv; rfl

theorem run_storeCells_own {b : Nat} : ∀ (vs : List Value) (o i : Nat) (w : World), ownB w b (o + i + vs.length) → (∀ v, v ∈ vs → v.oneCell' = true) →
    (storeCells ⟨b, o, none⟩ vs i).run P w = .ok () (setCells w b (o + i) vs) := by
  intro vs
  induction vs with
  | nil => intro o i w _ _; rfl
  | cons v vs ih =>
    intro o i w hown hone
    obtain ⟨c, e, h1, h2⟩ := hown
    have hlt : o + i < c.size := by simp at h2; omega
    have hcell : w.cell? ⟨b, o + i, none⟩ = some c[o + i] := by unfold World.cell?; simp [h1, hlt]
    have hfr : w.frozen? ⟨b, o + i, none⟩ = false := by unfold World.frozen?; simp [h1]
    simp only [storeCells, add_at]
    rw [Sem.run_bind, run_store P w _ _ _ (hone v (by simp)), hcell]
    simp only [hfr, Result.andThen_ok, Bool.false_eq_true, if_false]
    have := ih o (i + 1) (w.setCell ⟨b, o + i, none⟩ v) ?_ (fun u hu => hone u (by simp [hu]))
    · rw [this]; rfl
    · have h3 := setCell_same w b (o + i) v h1
      exact ⟨_, e, h3, by simp at h2 ⊢; omega⟩

theorem conc_cells' {T : Ty} {cs : List Value} (hl : cs.length = T.size) (hone : ∀ v, v ∈ cs → v.oneCell' = true) : (conc T cs).cells = cs.toArray := by
  unfold conc
  cases ha : T.agg with
  | true => rfl
  | false =>
    have := Ty.size_one ha
    rw [this] at hl
    match cs, hl with
    | [v], _ =>
      have := hone v (by simp)
      cases v <;> simp_all [Value.cells, Value.oneCell']

theorem run_isAgg {t : TypeId} {T : Ty} (h : TyF P t T) : (isAgg t).run P w = .ok T.agg w := by
  obtain ⟨d, h1, h2⟩ := h.agg
  simp only [isAgg, underlying, Sem.run_bind, run_program, Result.andThen_ok, h1, Sem.run_pure]
  rw [← h2]; cases d <;> rfl

theorem run_sizeOf {t : TypeId} {T : Ty} (h : TyF P t T) : (sizeOf t).run P w = .ok T.size w := by
  obtain ⟨i, h1, h2, _⟩ := h.info
  simp only [sizeOf, typeInfo, Sem.run_bind, run_program, Result.andThen_ok, h1, Sem.run_pure, h2]

theorem run_zero {t : TypeId} {T : Ty} (h : TyF P t T) : (zeroValue t).run P w = .ok (conc T (zeroCs T)) w := by
  obtain ⟨i, h1, _, v, h3, h4⟩ := h.info
  simp only [zeroValue, typeInfo, Sem.run_bind, run_program, Result.andThen_ok, h1, Sem.run_pure, h3, h4]

theorem run_loadVar {t : TypeId} {T T' : Ty} (h : TyF P t T) (he : T'.era = T.era) (b o : Nat) (hl : (cellsAt w b o T'.size).length = T'.size) :
    (loadVar t ⟨b, o, none⟩).run P w = .ok (conc T' (cellsAt w b o T'.size)) w := by
  have hs := Ty.size_of_era he
  have ha := Ty.agg_of_era he
  simp only [loadVar, Sem.run_bind, run_isAgg h, Result.andThen_ok, Sem.run_ite]
  cases hT : T.agg with
  | true =>
    simp only [run_sizeOf h, Result.andThen_ok, if_true, Sem.run_pure]
    rw [← hs, run_loadCells_at b o _ hl]
    simp [conc, ha, hT]
  | false =>
    have h1 : T'.size = 1 := by rw [hs]; exact Ty.size_one hT
    rw [h1] at hl ⊢
    match hc : cellsAt w b o 1, hl with
    | [v], _ =>
      have := cell_of_cellsAt hc
      simp [conc, ha, hT, this]
end Go.Ev
end

section
set_option linter.all false
set_option linter.unusedSimpArgs false
set_option linter.unusedVariables false
namespace Go.Ev
open Go

theorem getP_nil (T : Ty) (x : T.den) : getP T x [] = ⟨T, x⟩ := by cases T <;> rfl
theorem okP_nil (T : Ty) (x : T.den) : okP T x [] := by cases T <;> trivial

theorem getP_dead (q : Path) : getP .dead () q = ⟨.dead, ()⟩ := by
  cases q with
  | nil => rfl
  | cons s q => cases s <;> rfl

theorem getP_append (p q : Path) : ∀ (T : Ty) (x : T.den), getP T x (p ++ q) = getP (getP T x p).T (getP T x p).x q := by
  induction p with
  | nil => intro T x; rw [getP_nil]; rfl
  | cons s p ih =>
    intro T x
    cases T <;> cases s <;> simp only [List.cons_append, getP] <;> first | exact ih _ _ | exact (getP_dead q).symm

theorem okP_append (p q : Path) : ∀ (T : Ty) (x : T.den), okP T x p → okP (getP T x p).T (getP T x p).x q → okP T x (p ++ q) := by
  induction p with
  | nil => intro T x _ h; rw [getP_nil] at h; exact h
  | cons s p ih =>
    intro T x h1 h2
    cases T <;> cases s <;> simp only [okP] at h1 <;> first | exact ih _ _ h1 h2 | exact ⟨h1.1, ih _ _ h1.2 h2⟩

theorem typeAt_append (p q : Path) : ∀ (T : Ty), typeAt T (p ++ q) = typeAt (typeAt T p) q := by
  induction p with
  | nil => intro T; rw [typeAt_nil]; rfl
  | cons s p ih =>
    intro T
    have hd : ∀ q, typeAt .dead q = .dead := by
      intro q
      cases q with
      | nil => rfl
      | cons s q => cases s <;> rfl
    cases T <;> cases s <;> simp only [List.cons_append, typeAt] <;> first | exact ih _ | exact (hd q).symm

theorem Adr_append (w : World) (p q : Path) : ∀ (T : Ty) (pl : Pl) (b o : Nat), Adr w T pl p = some (b, o) → Adr w T pl (p ++ q) = Adr w (typeAt T p) (.at b o) q := by
  induction p with
  | nil =>
    intro T pl b o h
    cases pl with
    | hd v => cases T <;> simp [Adr] at h
    | «at» b' o' =>
      have e : (b', o') = (b, o) := by cases T <;> simpa [Adr] using h
      cases e; rw [typeAt_nil]; rfl
  | cons s p ih =>
    intro T pl b o h
    cases pl with
    | hd v =>
      cases T <;> cases s <;> simp only [List.cons_append, Adr, typeAt, reduceCtorEq] at h ⊢
      split at h
      · rename_i hh; exact ih _ _ _ _ h
      · cases h
    | «at» b' o' =>
      cases T <;> cases s <;> simp only [List.cons_append, Adr, typeAt, reduceCtorEq] at h ⊢ <;> first
        | exact ih _ _ _ _ h
        | (split at h
           · rename_i hh; exact ih _ _ _ _ h
           · cases h)

theorem hasField_era (f : Nat) : ∀ (S T : Ty), S.era = T.era → hasField S f = hasField T f := by
  induction f with
  | zero => intro S T h; cases S <;> cases T <;> simp_all [Ty.era, hasField]
  | succ f ih => intro S T h; cases S <;> cases T <;> simp_all [Ty.era, hasField] <;> exact ih _ _ h.2

theorem okP_field (f : Nat) : ∀ (T : Ty) (x : T.den), hasField T f = true → okP T x (fieldPath f) := by
  induction f with
  | zero => intro T x h; cases T <;> simp [hasField] at h; exact okP_nil _ _
  | succ f ih => intro T x h; cases T <;> simp only [hasField, Bool.false_eq_true] at h; exact ih _ x.2 h

theorem pure_field (f : Nat) : ∀ (T : Ty), T.pure = true → hasField T f = true → (typeAt T (fieldPath f)).pure = true := by
  induction f with
  | zero => intro T hp h; cases T <;> simp only [hasField, Bool.false_eq_true] at h; simp only [Ty.pure, Bool.and_eq_true] at hp; simp only [fieldPath, typeAt, typeAt_nil]; exact hp.1
  | succ f ih => intro T hp h; cases T <;> simp only [hasField, Bool.false_eq_true] at h; simp only [Ty.pure, Bool.and_eq_true] at hp; exact ih _ hp.2 h

/-- A field's place. -/
theorem field_at {ok : TypeId → Ty → Bool} (f : Nat) : ∀ (fs : List Field) (off : Nat) (S T : Ty), fieldsOk ok fs off S = true → hasField S f = true → S.era = T.era →
    ∃ fld, fs[f]? = some fld ∧ off ≤ fld.offset ∧ ok fld.type (typeAt S (fieldPath f)) = true ∧ (typeAt S (fieldPath f)).size ≠ 0 ∧
      (typeAt S (fieldPath f)).era = (typeAt T (fieldPath f)).era ∧
      (∀ (w : World) (b o : Nat), Adr w T (.at b o) (fieldPath f) = some (b, o + (fld.offset - off))) ∧
      (∀ {eT : TypeId} {w : World} {J : Nat → Prop} {x : T.den} {cs : List Value}, T.pure = true → Cn eT w J T x cs [] →
        Cn eT w J (getP T x (fieldPath f)).T (getP T x (fieldPath f)).x ((cs.drop (fld.offset - off)).take (typeAt S (fieldPath f)).size) []) := by
  induction f with
  | zero =>
    intro fs off S T h hf he
    cases S <;> simp only [hasField, Bool.false_eq_true] at hf
    rename_i A B
    cases T <;> simp only [Ty.era, reduceCtorEq, Ty.pair.injEq] at he
    rename_i A' B'
    cases fs with
    | nil => simp [fieldsOk] at h
    | cons fld fs =>
      simp only [fieldsOk, Bool.and_eq_true, Nat.beq_eq, Bool.not_eq_true'] at h
      obtain ⟨⟨⟨h1, h20⟩, h3⟩, h4⟩ := h
      have h2 : A.size ≠ 0 := by intro e; rw [e] at h20; exact absurd h20 (by decide)
      simp only [fieldPath, typeAt, typeAt_nil]
      refine ⟨fld, rfl, by omega, h3, h2, he.1, fun w b o => ?_, fun {eT w J x cs} hp hc => ?_⟩
      · simp only [Adr, h1, Nat.sub_self, Nat.add_zero]; try (cases A' <;> rfl)
      · simp only [Cn] at hc
        obtain ⟨f1, f2, hff, hc1, hc2⟩ := hc
        obtain ⟨rfl, rfl⟩ := List.append_eq_nil_iff.1 hff.symm
        simp only [getP, h1, Nat.sub_self, List.drop_zero]
        rw [Ty.size_of_era he.1, getP_nil]; exact hc1
  | succ f ih =>
    intro fs off S T h hf he
    cases S <;> simp only [hasField, Bool.false_eq_true] at hf
    rename_i A B
    cases T <;> simp only [Ty.era, reduceCtorEq, Ty.pair.injEq] at he
    rename_i A' B'
    cases fs with
    | nil => simp [fieldsOk] at h
    | cons fld fs =>
      simp only [fieldsOk, Bool.and_eq_true, Nat.beq_eq, Bool.not_eq_true'] at h
      obtain ⟨⟨⟨h1, h20⟩, h3⟩, h4⟩ := h
      have h2 : A.size ≠ 0 := by intro e; rw [e] at h20; exact absurd h20 (by decide)
      obtain ⟨fl, g1, g2, g3, g4, g5, g6, g7⟩ := ih fs (off + A.size) B B' h4 hf he.2
      refine ⟨fl, g1, by omega, g3, g4, g5, fun w b o => ?_, fun {eT w J x cs} hp hc => ?_⟩
      · simp only [fieldPath, Adr]
        rw [g6, ← Ty.size_of_era he.1]
        congr 2; omega
      · simp only [Cn] at hc
        obtain ⟨f1, f2, hff, hc1, hc2⟩ := hc
        obtain ⟨rfl, rfl⟩ := List.append_eq_nil_iff.1 hff.symm
        simp only [Ty.pure, Bool.and_eq_true] at hp
        have := g7 hp.2 hc2
        simp only [fieldPath, getP, typeAt]
        rw [List.drop_drop] at this
        rw [show fl.offset - off = A'.size + (fl.offset - (off + A.size)) by rw [← Ty.size_of_era he.1]; omega]
        exact this

theorem tyOk_struct {P : Program} {n : Nat} {t : TypeId} {S : Ty} {f : Nat} (h : tyOk P n t S = true) (hf : hasField S f = true) :
    ∃ m fs, P.underlying t = some (.struct fs) ∧ fieldsOk (tyOk P m) fs.toList 0 S = true := by
  cases n with
  | zero => simp [tyOk] at h
  | succ n =>
    simp only [tyOk, Bool.and_eq_true] at h
    have h2 := h.2
    cases S with
    | pair A B =>
      cases hu : P.underlying t with
      | none => rw [hu] at h2; cases h2
      | some d => rw [hu] at h2; cases d <;> simp_all <;> exact ⟨_, h2⟩
    | _ => cases f <;> simp [hasField] at hf

theorem tyOk_elem {P : Program} {n : Nat} {t : TypeId} {m : Nat} {T : Ty} (h : tyOk P n t (.arr m T) = true) : ∃ k e, P.underlying t = some (.array m e) ∧ tyOk P k e T = true := by
  cases n with
  | zero => simp [tyOk] at h
  | succ n =>
    simp only [tyOk, Bool.and_eq_true] at h
    have h2 := h.2
    cases hu : P.underlying t with
    | none => rw [hu] at h2; cases h2
    | some d => rw [hu] at h2; cases d <;> simp_all [fieldsOk]; exact ⟨_, h2.2⟩

theorem tyOk_selem {P : Program} {n : Nat} {t : TypeId} {T : Ty} (h : tyOk P n t (.slice T) = true) : ∃ k e, P.underlying t = some (.slice e) ∧ tyOk P k e T = true ∧ T.pure = true := by
  cases n with
  | zero => simp [tyOk] at h
  | succ n =>
    simp only [tyOk, Bool.and_eq_true] at h
    have h2 := h.2
    cases hu : P.underlying t with
    | none => rw [hu] at h2; cases h2
    | some d => rw [hu] at h2; cases d <;> simp_all [fieldsOk]; exact ⟨_, h2.1⟩
end Go.Ev
end

section
set_option linter.all false
set_option linter.unusedSimpArgs false
set_option linter.unusedVariables false
namespace Go.Ev
open Go

theorem live_some {rd : Nat → Option Root} {k g ver : Nat} {p : Path} {r : Root} (h : live rd k g ver p = some r) :
    rd k = some r ∧ r.g = g ∧ (crossR r.vec r.T p = true → r.ver = ver) := by
  unfold live at h
  split at h
  · rename_i r0 hr
    split at h
    · rename_i hc
      cases h
      simp only [Bool.and_eq_true, Nat.beq_eq, Bool.or_eq_true, Bool.not_eq_true'] at hc
      exact ⟨hr, hc.1, fun hx => by rcases hc.2 with h1 | h1; · rw [h1] at hx; cases hx
                                    · exact h1⟩
    · cases h
  · cases h

theorem liveH_some {rd : Nat → Option Root} {k g ver : Nat} {p : Path} {r : Root} (h : liveH rd k g ver p = some r) :
    rd k = some r ∧ r.g = g ∧ (¬(r.vec = true ∧ p = []) → r.ver = ver) := by
  unfold liveH at h
  split at h
  · rename_i r0 hr
    split at h
    · rename_i hc
      cases h
      simp only [Bool.and_eq_true, Nat.beq_eq, Bool.or_eq_true, List.isEmpty_iff] at hc
      exact ⟨hr, hc.1, fun hx => by rcases hc.2 with h1 | h1; · exact absurd h1 hx
                                    · exact h1⟩
    · cases h
  · cases h

theorem liveV_some {rd : Nat → Option Root} {k g wr : Nat} {r : Root} (h : liveV rd k g wr = some r) : rd k = some r ∧ r.g = g ∧ r.wr = wr := by
  unfold liveV at h
  split at h
  · rename_i r0 hr
    split at h
    · rename_i hc; cases h; simp only [Bool.and_eq_true, Nat.beq_eq] at hc; exact ⟨hr, hc.1, hc.2⟩
    · cases h
  · cases h

section
variable {eT : TypeId} {G : Gh} {M : Nat → Option Root} {w : World} {J : Nat → Prop} {anc : Nat → Pl} {fp : Nat → List Nat} {P : Program} {R : Type}

theorem ref_live {k g ver : Nat} {p : Path} {r : Root} {v : Value} (h : ARel eT w J M anc (.ref k g ver p) v) (hl : live M k g ver p = some r) :
    M k = some r ∧ r.g = g ∧ okP r.T r.x p ∧ ∃ b o, Adr w r.T (anc k) p = some (b, o) ∧ v = .pointer (some ⟨b, o, none⟩) := by
  obtain ⟨h1, h2, h3⟩ := live_some hl
  obtain ⟨r', g1, g2, g3⟩ := h
  rw [h1] at g1; cases g1
  obtain ⟨g4, g5⟩ := g3 h2
  exact ⟨h1, h2, g5 h3⟩

theorem hdr_live {k g ver : Nat} {p : Path} {r : Root} {v : Value} (h : ARel eT w J M anc (.hdr k g ver p) v) (hl : liveH M k g ver p = some r) :
    M k = some r ∧ r.g = g ∧ okP r.T r.x p ∧ (¬(r.vec = true ∧ p = []) → ∃ E, typeAt r.T p = .own E) ∧ hdrAt w (anc k) r p = some v := by
  obtain ⟨h1, h2, h3⟩ := liveH_some hl
  obtain ⟨r', g1, g2, g3⟩ := h
  rw [h1] at g1; cases g1
  obtain ⟨g4, g5⟩ := g3 h2
  exact ⟨h1, h2, g5 h3⟩

theorem pathOk_of_adr {r : Root} {pl : Pl} {fs : List Nat} (h : RootOk eT w J r pl fs) {p : Path} {b o : Nat} (ha : Adr w r.T pl p = some (b, o)) : pathOk r p := by
  intro hv
  rcases h.1 with ⟨v, rfl, _⟩ | ⟨b', _, h2, _⟩
  · cases p with
    | nil => cases hT : r.T <;> rw [hT] at ha <;> simp [Adr] at ha
    | cons s p =>
      cases hT : r.T with
      | own E => exact ⟨E, rfl, by simp⟩
      | _ => rw [hT] at ha; cases s <;> simp [Adr] at ha
  · rw [h2] at hv; cases hv

/-- What stands at a place of a root. -/
theorem at_place (h : MOk eT G M w J anc fp) {k : Nat} {r : Root} (hk : M k = some r) {p : Path} (hok : okP r.T r.x p) {b o : Nat} (ha : Adr w r.T (anc k) p = some (b, o)) :
    ∃ f, Cn eT w J (getP r.T r.x p).T (getP r.T r.x p).x (cellsAt w b o (getP r.T r.x p).T.size) f ∧ (∀ c, c ∈ f → c ∈ fp k) ∧ b ∈ fp k ∧ f.Nodup ∧ ownB w b (o + (getP r.T r.x p).T.size) := by
  have hr := h.roots k r hk
  have hn := h.nodup k r hk
  obtain ⟨fs', b', o', l, f, rr, hfp, hc, L, hb⟩ := rootLens hr hn hok (pathOk_of_adr hr ha)
  have := L.adr; rw [ha] at this; cases this
  refine ⟨f, L.get, fun c hc2 => by rw [hfp, L.split]; simp [hc2], hb, ?_, ?_⟩
  · have h1 : f.Sublist (fp k) := by
      rw [hfp, L.split]
      exact ((List.sublist_append_right l f).trans (List.sublist_append_left (l ++ f) rr)).trans (List.sublist_append_right _ _)
    exact h1.nodup hn
  · refine L.free fun b2 o2 e2 => ?_
    rcases hr.1 with ⟨v', h1, _⟩ | ⟨b', h1, _, h3⟩
    · rw [h1] at e2; cases e2
    · rw [h1] at e2; cases e2; simpa using h3

theorem loadA_res (h : MOk eT G M w J anc fp) {t : TypeId} {T : Ty} (hT : TyF P t T) {addr : Option V} {va : Value} (hv : ∀ v, addr = some v → VRel eT w J M anc v va)
    {κ : Option V → List (Nat × Root) → Option R} {r : R} (hr : loadA M κ T addr = some r) :
    ∃ v val, κ v [] = some r ∧ (∀ x, v = some x → VRel eT w J M anc x val) ∧ (Instr.loadAt t va).run P w = .ok val w := by
  unfold loadA at hr
  split at hr
  · rename_i T' x
    split at hr
    · rename_i hc
      simp only [Bool.and_eq_true, decide_eq_true_eq] at hc
      obtain ⟨b, o, rfl, hJ, hcn⟩ := hv _ rfl
      refine ⟨_, conc T' (cellsAt w b o T'.size), hr, fun x hx => by cases hx; exact ⟨_, hcn, rfl⟩, ?_⟩
      simp only [Instr.loadAt, Instr.sureAddr, Sem.run_bind, Sem.run_pure, Result.andThen_ok]
      exact run_loadVar hT hc.1 b o (Cn_length hcn)
    · cases hr
  · rename_i k g ver p
    split at hr
    · rename_i r0 hl
      obtain ⟨hk, hg, hok, b, o, ha, rfl⟩ := ref_live (eT := eT) (J := J) (hv _ rfl) hl
      obtain ⟨f, hcn, _, _, _, _⟩ := at_place h hk hok ha
      have hrun : (getP r0.T r0.x p).T.era = T.era → (Instr.loadAt t (.pointer (some ⟨b, o, none⟩))).run P w = .ok (conc (getP r0.T r0.x p).T (cellsAt w b o (getP r0.T r0.x p).T.size)) w := by
        intro he
        simp only [Instr.loadAt, Instr.sureAddr, Sem.run_bind, Sem.run_pure, Result.andThen_ok]
        exact run_loadVar hT he b o (Cn_length hcn)
      simp only at hr
      split at hr
      · rename_i he
        split at hr
        · rename_i hp
          have := Cn_pure hp hcn; subst this
          exact ⟨_, _, hr, fun x hx => by cases hx; exact ⟨_, hcn, rfl⟩, hrun he⟩
        · split at hr
          · rename_i E hE
            refine ⟨_, _, hr, fun x hx => ?_, hrun he⟩
            cases hx
            have hty : typeAt r0.T p = .own E := by rw [← getP_T p r0.T r0.x, hE]
            rw [hE]
            have hcell : (w.cell? ⟨b, o, none⟩) = some (conc (Ty.own E) (cellsAt w b o (Ty.own E).size)) := by
              generalize hy : getP r0.T r0.x p = y at hcn hE
              obtain ⟨yT, yx⟩ := y
              simp only at hE; subst hE
              simp only [Cn] at hcn
              obtain ⟨a, cap, hcs, _⟩ := hcn
              have := cell_of_cellsAt hcs
              rw [this, hcs]; rfl
            refine ⟨r0, hk, by omega, fun _ => ⟨Nat.le_refl _, fun _ => ⟨hok, fun _ => ⟨E, hty⟩, ?_⟩⟩⟩
            cases p with
            | nil =>
              simp only [hdrAt]
              rcases (h.roots k r0 hk).1 with ⟨v', h1, _⟩ | ⟨b', h1, _⟩
              · rw [h1] at ha; cases hT0 : r0.T <;> rw [hT0] at ha <;> simp [Adr] at ha
              · rw [h1] at ha ⊢
                have e : (b', 0) = (b, o) := by cases hT0 : r0.T <;> rw [hT0] at ha <;> simpa [Adr] using ha
                cases e; exact hcell
            | cons s p => simp only [hdrAt, ha]; exact hcell
          · cases hr
          · refine ⟨_, _, hr, fun x hx => ?_, hrun he⟩
            cases hx
            refine ⟨r0, hk, by omega, fun _ => ⟨Nat.le_refl _, fun _ => ⟨hok, b, o, ha, ?_⟩⟩⟩
            rw [← getP_T p r0.T r0.x]
      · cases hr
    · cases hr
  · cases hr
end
end Go.Ev
end

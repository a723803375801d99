/- A part of the proof of the claim: Core1. -/
import Derived.Orders
section
set_option linter.all false
set_option linter.unusedSimpArgs false
set_option linter.unusedVariables false
/-! Typed pure values, paths, the abstract state of a call, and what it says of a world. -/
namespace Go.Ev
open Go

/-- Codes of types. 'own' is a slice that nobody else holds, 'slice' one that nobody writes any more, 'nil' a nil slice, 'dead' a place of which nothing is known. -/
inductive Ty where
  | int (k : IntKind)
  | bool
  | str
  | err
  | nil
  | slice (T : Ty)
  | own (T : Ty)
  | arr (n : Nat) (T : Ty)
  | unit
  | pair (A B : Ty)
  | dead
  deriving DecidableEq

@[reducible] def Ty.den : Ty → Type
  | .int _ => Int
  | .bool => Bool
  | .str => ByteArray
  | .err => Option Int
  | .nil => Unit
  | .slice T => List T.den
  | .own T => List T.den
  | .arr _ T => List T.den
  | .unit => Unit
  | .pair A B => A.den × B.den
  | .dead => Unit

def Ty.dft : (T : Ty) → T.den
  | .int _ => (0 : Int)
  | .bool => false
  | .str => ByteArray.empty
  | .err => none
  | .nil => ()
  | .slice _ => []
  | .own _ => []
  | .arr n T => List.replicate n T.dft
  | .unit => ()
  | .pair A B => (A.dft, B.dft)
  | .dead => ()

def Ty.size : Ty → Nat
  | .arr n T => n * T.size
  | .unit => 0
  | .pair A B => A.size + B.size
  | _ => 1

def Ty.agg : Ty → Bool
  | .arr _ _ => true
  | .unit => true
  | .pair _ _ => true
  | _ => false

/-- No 'own' and no 'dead' inside. -/
def Ty.pure : Ty → Bool
  | .slice T => T.pure
  | .own _ => false
  | .arr _ T => T.pure
  | .pair A B => A.pure && B.pure
  | .dead => false
  | _ => true

def Ty.imm : Ty → Ty
  | .slice T => .slice T.imm
  | .own T => .slice T.imm
  | .arr n T => .arr n T.imm
  | .pair A B => .pair A.imm B.imm
  | T => T

/-- The form alone: what the machine can tell apart. -/
def Ty.era : Ty → Ty
  | .slice _ => .nil
  | .own _ => .nil
  | .dead => .nil
  | .arr n T => .arr n T.era
  | .pair A B => .pair A.era B.era
  | T => T

theorem Ty.den_imm (T : Ty) : T.imm.den = T.den := by
  induction T with
  | slice T ih => simp only [Ty.imm, Ty.den, ih]
  | own T ih => simp only [Ty.imm, Ty.den, ih]
  | arr n T ih => simp only [Ty.imm, Ty.den, ih]
  | pair A B ha hb => simp only [Ty.imm, Ty.den, ha, hb]
  | _ => rfl

def Ty.toImm (T : Ty) (x : T.den) : T.imm.den := cast T.den_imm.symm x

theorem Ty.size_imm (T : Ty) : T.imm.size = T.size := by
  induction T with
  | arr n T ih => simp only [Ty.imm, Ty.size, ih]
  | pair A B ha hb => simp only [Ty.imm, Ty.size, ha, hb]
  | _ => rfl

theorem Ty.size_era (T : Ty) : T.era.size = T.size := by
  induction T with
  | arr n T ih => simp only [Ty.era, Ty.size, ih]
  | pair A B ha hb => simp only [Ty.era, Ty.size, ha, hb]
  | _ => rfl

theorem Ty.agg_era (T : Ty) : T.era.agg = T.agg := by cases T <;> rfl
theorem Ty.agg_imm (T : Ty) : T.imm.agg = T.agg := by cases T <;> rfl

theorem Ty.size_of_era {A B : Ty} (h : A.era = B.era) : A.size = B.size := by
  rw [← A.size_era, ← B.size_era, h]

theorem Ty.agg_of_era {A B : Ty} (h : A.era = B.era) : A.agg = B.agg := by
  rw [← A.agg_era, ← B.agg_era, h]

structure TV where
  T : Ty
  x : T.den

/-- A value seen as one of another type: nil slices as empty ones. -/
def Ty.co : (A B : Ty) → A.den → Option B.den
  | .pair A1 A2, .pair B1 B2, x =>
    match Ty.co A1 B1 x.1, Ty.co A2 B2 x.2 with
    | some a, some b => some (a, b)
    | _, _ => none
  | .nil, .slice T, _ => if T.pure then some [] else none
  | A, B, x => if h : A = B then some (cast (congrArg Ty.den h) x) else none

inductive Stp where
  | fst
  | snd
  | idx (i : Nat)
abbrev Path := List Stp

def getP : (T : Ty) → T.den → Path → TV
  | T, x, [] => ⟨T, x⟩
  | .pair A _, x, .fst :: p => getP A x.1 p
  | .pair _ B, x, .snd :: p => getP B x.2 p
  | .arr _ T, l, .idx i :: p => getP T (List.getD l i T.dft) p
  | .own T, l, .idx i :: p => getP T (List.getD l i T.dft) p
  | _, _, _ :: _ => ⟨.dead, ()⟩

def typeAt : Ty → Path → Ty
  | T, [] => T
  | .pair A _, .fst :: p => typeAt A p
  | .pair _ B, .snd :: p => typeAt B p
  | .arr _ T, .idx _ :: p => typeAt T p
  | .own T, .idx _ :: p => typeAt T p
  | _, _ :: _ => .dead

theorem getP_T : ∀ (p : Path) (T : Ty) (x : T.den), (getP T x p).T = typeAt T p := by
  intro p
  induction p with
  | nil => intro T x; cases T <;> rfl
  | cons s p ih => intro T x; cases T <;> cases s <;> first | rfl | exact ih _ _

def okP : (T : Ty) → T.den → Path → Prop
  | _, _, [] => True
  | .pair A _, x, .fst :: p => okP A x.1 p
  | .pair _ B, x, .snd :: p => okP B x.2 p
  | .arr _ T, l, .idx i :: p => i < List.length l ∧ okP T (List.getD l i T.dft) p
  | .own T, l, .idx i :: p => i < List.length l ∧ okP T (List.getD l i T.dft) p
  | _, _, _ :: _ => False

def setP : (T : Ty) → T.den → Path → TV → Option TV
  | _, _, [], n => some n
  | .pair A B, x, .fst :: p, n =>
    match setP A x.1 p n with
    | some r => some ⟨.pair r.T B, (r.x, x.2)⟩
    | none => none
  | .pair A B, x, .snd :: p, n =>
    match setP B x.2 p n with
    | some r => some ⟨.pair A r.T, (x.1, r.x)⟩
    | none => none
  | .arr m T, l, .idx i :: p, n =>
    match setP T (List.getD l i T.dft) p n with
    | some r => if h : r.T = T then some ⟨.arr m T, List.set l i (cast (congrArg Ty.den h) r.x)⟩ else none
    | none => none
  | .own T, l, .idx i :: p, n =>
    match setP T (List.getD l i T.dft) p n with
    | some r => if h : r.T = T then some ⟨.own T, List.set l i (cast (congrArg Ty.den h) r.x)⟩ else none
    | none => none
  | _, _, _ :: _, _ => none

/-- Does the way lead through a slice's header (the first one of a row in a variable of its own does not count)? -/
def crosses : Ty → Path → Bool
  | _, [] => false
  | .pair A _, .fst :: p => crosses A p
  | .pair _ B, .snd :: p => crosses B p
  | .arr _ T, .idx _ :: p => crosses T p
  | .own _, .idx _ :: _ => true
  | _, _ :: _ => true

/-! ### What stands in memory -/
def cellsAt (w : World) (b o n : Nat) : List Value :=
  match w.heap[b]? with
  | some (.cells c _ _) => (c.toList.drop o).take n
  | _ => []

/-- A row that may be written, of so many cells at least. -/
def ownB (w : World) (b n : Nat) : Prop := ∃ c e, w.heap[b]? = some (.cells c e (0, 0)) ∧ n ≤ c.size

/-- 'cs' are the cells of the value x of type T; J: the rows that nobody writes; fs: the rows that this value owns. -/
def Cn (eT : TypeId) (w : World) (J : Nat → Prop) : (T : Ty) → T.den → List Value → List Nat → Prop
  | .int k, x, cs, fs => cs = [.int k x] ∧ fs = []
  | .bool, x, cs, fs => cs = [.bool x] ∧ fs = []
  | .str, x, cs, fs => cs = [.string x] ∧ fs = []
  | .err, none, cs, fs => cs = [.nilIface] ∧ fs = []
  | .err, some n, cs, fs => cs = [.iface eT (.int .i64 n)] ∧ fs = []
  | .nil, _, cs, fs => cs = [.slice none 0 0] ∧ fs = []
  | .slice T, l, cs, fs => fs = [] ∧ ∃ a cap, cs = [.slice a (List.length l) cap] ∧ List.length l ≤ cap ∧
      ∀ i (h : i < List.length l), ∃ b o, a = some ⟨b, o, none⟩ ∧ J b ∧ Cn eT w J T (List.get l ⟨i, h⟩) (cellsAt w b (o + i * T.size) T.size) []
  | .own T, l, cs, fs => ∃ a cap, cs = [.slice a (List.length l) cap] ∧ List.length l ≤ cap ∧
      ((a = none ∧ cap = 0 ∧ fs = []) ∨
        ∃ b o fss, a = some ⟨b, o, none⟩ ∧ ownB w b (o + cap * T.size) ∧ List.length fss = List.length l ∧ fs = b :: fss.flatten ∧
          ∀ i (h : i < List.length l), Cn eT w J T (List.get l ⟨i, h⟩) (cellsAt w b (o + i * T.size) T.size) (fss.getD i []))
  | .arr n T, l, cs, fs => List.length l = n ∧ cs.length = n * T.size ∧ ∃ fss, List.length fss = n ∧ fs = fss.flatten ∧
      ∀ i (h : i < List.length l), Cn eT w J T (List.get l ⟨i, h⟩) ((cs.drop (i * T.size)).take T.size) (fss.getD i [])
  | .unit, _, cs, fs => cs = [] ∧ fs = []
  | .pair A B, x, cs, fs => ∃ f1 f2, fs = f1 ++ f2 ∧ Cn eT w J A x.1 (cs.take A.size) f1 ∧ Cn eT w J B x.2 (cs.drop A.size) f2
  | .dead, _, cs, fs => cs.length = 1 ∧ fs = []

end Go.Ev
end

section
set_option linter.all false
set_option linter.unusedSimpArgs false
set_option linter.unusedVariables false
namespace Go.Ev
open Go

theorem cellsAt_congr {w w' : World} {b : Nat} (h : w.heap[b]? = w'.heap[b]?) (o n : Nat) : cellsAt w b o n = cellsAt w' b o n := by
  unfold cellsAt; rw [h]

theorem cellsAt_length_le (w : World) (b o n : Nat) : (cellsAt w b o n).length ≤ n := by
  unfold cellsAt; split <;> simp; omega

theorem cellsAt_take (w : World) (b o : Nat) {n m : Nat} (h : n ≤ m) : (cellsAt w b o m).take n = cellsAt w b o n := by
  unfold cellsAt; split
  · rw [List.take_take, Nat.min_eq_left h]
  · simp

theorem cellsAt_drop (w : World) (b o n m : Nat) : (cellsAt w b o (n + m)).drop n = cellsAt w b (o + n) m := by
  unfold cellsAt; split
  · rw [List.drop_take, List.drop_drop]; congr 1; omega
  · simp

theorem cellsAt_part (w : World) (b o : Nat) {i n s : Nat} (h : i < n) :
    ((cellsAt w b o (n * s)).drop (i * s)).take s = cellsAt w b (o + i * s) s := by
  have e : n * s = i * s + (n - i) * s := by rw [← Nat.add_mul]; congr 1; omega
  rw [e, cellsAt_drop, cellsAt_take]
  exact Nat.le_mul_of_pos_left _ (by omega)

theorem Cn_length {eT : TypeId} {w : World} {J : Nat → Prop} : ∀ {T : Ty} {x : T.den} {cs : List Value} {fs : List Nat},
    Cn eT w J T x cs fs → cs.length = T.size := by
  intro T
  induction T with
  | int k => intro x cs fs h; simp only [Cn] at h; simp [h.1, Ty.size]
  | bool => intro x cs fs h; simp only [Cn] at h; simp [h.1, Ty.size]
  | str => intro x cs fs h; simp only [Cn] at h; simp [h.1, Ty.size]
  | err => intro x cs fs h; cases x <;> simp only [Cn] at h <;> simp [h.1, Ty.size]
  | nil => intro x cs fs h; simp only [Cn] at h; simp [h.1, Ty.size]
  | slice T ih => intro x cs fs h; simp only [Cn] at h; obtain ⟨_, a, cap, rfl, _⟩ := h; simp [Ty.size]
  | own T ih => intro x cs fs h; simp only [Cn] at h; obtain ⟨a, cap, rfl, _⟩ := h; simp [Ty.size]
  | arr n T ih => intro x cs fs h; simp only [Cn] at h; simp [h.2.1, Ty.size]
  | unit => intro x cs fs h; simp only [Cn] at h; simp [h.1, Ty.size]
  | pair A B ha hb =>
    intro x cs fs h; simp only [Cn] at h; obtain ⟨f1, f2, _, h1, h2⟩ := h
    have e1 := ha h1; have e2 := hb h2
    rw [List.length_take] at e1; rw [List.length_drop] at e2
    simp only [Ty.size]
    rcases Nat.le_total A.size cs.length with h | h
    · omega
    · rw [Nat.min_eq_right h] at e1; omega
  | dead => intro x cs fs h; simp only [Cn] at h; simp [h.1, Ty.size]

/-- What is told stays true where the rows told of stay. -/
theorem Cn_congr {eT : TypeId} {w w' : World} {J J' : Nat → Prop} (hJ : ∀ b, J b → J' b ∧ w.heap[b]? = w'.heap[b]?) :
    ∀ {T : Ty} {x : T.den} {cs : List Value} {fs : List Nat}, (∀ b, b ∈ fs → w.heap[b]? = w'.heap[b]?) → Cn eT w J T x cs fs → Cn eT w' J' T x cs fs := by
  intro T
  induction T with
  | slice T ih =>
    intro x cs fs hf h; simp only [Cn] at h ⊢
    obtain ⟨h0, a, cap, h1, h2, h3⟩ := h
    refine ⟨h0, a, cap, h1, h2, fun i hi => ?_⟩
    obtain ⟨b, o, e, hb, hc⟩ := h3 i hi
    refine ⟨b, o, e, (hJ b hb).1, ?_⟩
    rw [← cellsAt_congr (hJ b hb).2]
    exact ih (by simp) hc
  | own T ih =>
    intro x cs fs hf h; simp only [Cn] at h ⊢
    obtain ⟨a, cap, h1, h2, h3⟩ := h
    refine ⟨a, cap, h1, h2, ?_⟩
    rcases h3 with h3 | ⟨b, o, fss, e, hb, hl, rfl, hc⟩
    · exact .inl h3
    · have hbb := hf b (by simp)
      refine .inr ⟨b, o, fss, e, ?_, hl, rfl, fun i hi => ?_⟩
      · unfold ownB; rw [← hbb]; exact hb
      · rw [← cellsAt_congr hbb]
        refine ih (fun b' hb' => hf b' ?_) (hc i hi)
        rw [List.getD_eq_getElem?_getD] at hb'
        have hi' : i < fss.length := by omega
        rw [List.getElem?_eq_getElem hi'] at hb'
        exact List.mem_cons_of_mem _ (List.mem_flatten.2 ⟨_, List.getElem_mem hi', hb'⟩)
  | arr n T ih =>
    intro x cs fs hf h; simp only [Cn] at h ⊢
    obtain ⟨h1, h2, fss, h3, rfl, h4⟩ := h
    refine ⟨h1, h2, fss, h3, rfl, fun i hi => ih (fun b' hb' => hf b' ?_) (h4 i hi)⟩
    rw [List.getD_eq_getElem?_getD] at hb'
    have hi' : i < fss.length := by omega
    rw [List.getElem?_eq_getElem hi'] at hb'
    exact List.mem_flatten.2 ⟨_, List.getElem_mem hi', hb'⟩
  | pair A B ha hb =>
    intro x cs fs hf h; simp only [Cn] at h ⊢
    obtain ⟨f1, f2, rfl, h1, h2⟩ := h
    exact ⟨f1, f2, rfl, ha (fun b hb => hf b (by simp [hb])) h1, hb (fun b hb => hf b (by simp [hb])) h2⟩
  | err => intro x cs fs hf h; cases x <;> simpa only [Cn] using h
  | _ => intro x cs fs hf h; simpa only [Cn] using h

theorem Cn_pure {eT : TypeId} {w : World} {J : Nat → Prop} : ∀ {T : Ty} {x : T.den} {cs : List Value} {fs : List Nat}, T.pure = true →
    Cn eT w J T x cs fs → fs = [] := by
  intro T
  induction T with
  | slice T ih => intro x cs fs hp h; simp only [Cn] at h; exact h.1
  | own T ih => intro x cs fs hp h; simp [Ty.pure] at hp
  | arr n T ih =>
    intro x cs fs hp h; simp only [Cn] at h; obtain ⟨h1, h2, fss, h3, rfl, h4⟩ := h
    rw [List.flatten_eq_nil_iff]
    intro l hl
    obtain ⟨i, hi, rfl⟩ := List.mem_iff_getElem.1 hl
    have := ih (by simpa [Ty.pure] using hp) (h4 i (by omega))
    rw [List.getD_eq_getElem?_getD, List.getElem?_eq_getElem hi] at this
    exact this
  | pair A B ha hb =>
    intro x cs fs hp h; simp only [Cn] at h; obtain ⟨f1, f2, rfl, h1, h2⟩ := h
    simp only [Ty.pure, Bool.and_eq_true] at hp
    rw [ha hp.1 h1, hb hp.2 h2]; rfl
  | err => intro x cs fs hp h; cases x <;> (simp only [Cn] at h; exact h.2)
  | _ => intro x cs fs hp h; simp only [Cn] at h; exact h.2

theorem cast_get {A B : Type} (h : A = B) (l : List A) (i : Nat) (hi : i < (cast (congrArg List h) l).length) (hi' : i < l.length) :
    (cast (congrArg List h) l).get ⟨i, hi⟩ = cast h (l.get ⟨i, hi'⟩) := by subst h; rfl
theorem cast_length {A B : Type} (h : A = B) (l : List A) : (cast (congrArg List h) l).length = l.length := by subst h; rfl
theorem cast_pair {A B C D : Type} (h : A = B) (k : C = D) (hp : (A × C) = (B × D)) (x : A × C) : cast hp x = (cast h x.1, cast k x.2) := by subst h; subst k; rfl

/-- Whatever is owned may be taken as what nobody writes any more. -/
theorem Cn_toImm {eT : TypeId} {w : World} {J J' : Nat → Prop} (hJ : ∀ b, J b → J' b) :
    ∀ {T : Ty} {x : T.den} {cs : List Value} {fs : List Nat}, T ≠ .dead → (∀ b, b ∈ fs → J' b) → Cn eT w J T x cs fs → (T.imm.pure = true) → Cn eT w J' T.imm (T.toImm x) cs [] := by
  intro T
  induction T with
  | slice T ih =>
    intro x cs fs hd hf h hp; simp only [Cn, Ty.imm] at h ⊢
    obtain ⟨h0, a, cap, h1, h2, h3⟩ := h
    have hl : List.length (Ty.toImm (.slice T) x) = List.length x := cast_length T.den_imm.symm x
    refine ⟨by trivial, a, cap, by rw [hl]; exact h1, by rw [hl]; exact h2, fun i hi => ?_⟩
    have hi' : i < List.length x := by rw [← hl]; exact hi
    obtain ⟨b, o, e, hb, hc⟩ := h3 i hi'
    refine ⟨b, o, e, hJ b hb, ?_⟩
    have hT : T ≠ .dead := by rintro rfl; simp [Ty.imm, Ty.pure] at hp
    have := ih hT (by simp) hc (by simpa [Ty.imm, Ty.pure] using hp)
    rw [T.size_imm]
    rw [show List.get (Ty.toImm (.slice T) x) ⟨i, hi⟩ = T.toImm (List.get x ⟨i, hi'⟩) from cast_get T.den_imm.symm x i _ hi']
    exact this
  | own T ih =>
    intro x cs fs hd hf h hp; simp only [Cn, Ty.imm] at h ⊢
    obtain ⟨a, cap, h1, h2, h3⟩ := h
    have hl : List.length (Ty.toImm (.own T) x) = List.length x := cast_length T.den_imm.symm x
    refine ⟨by trivial, a, cap, by rw [hl]; exact h1, by rw [hl]; exact h2, fun i hi => ?_⟩
    have hi' : i < List.length x := by rw [← hl]; exact hi
    rcases h3 with h3 | ⟨b, o, fss, e, hb, hl2, rfl, hc⟩
    · omega
    · refine ⟨b, o, e, hf b (by simp), ?_⟩
      have hT : T ≠ .dead := by rintro rfl; simp [Ty.imm, Ty.pure] at hp
      have := ih hT (fun b' hb' => hf b' ?_) (hc i hi') (by simpa [Ty.imm, Ty.pure] using hp)
      · rw [T.size_imm]
        rw [show List.get (Ty.toImm (.own T) x) ⟨i, hi⟩ = T.toImm (List.get x ⟨i, hi'⟩) from cast_get T.den_imm.symm x i _ hi']
        exact this
      · rw [List.getD_eq_getElem?_getD] at hb'
        have hi'' : i < fss.length := by omega
        rw [List.getElem?_eq_getElem hi''] at hb'
        exact List.mem_cons_of_mem _ (List.mem_flatten.2 ⟨_, List.getElem_mem hi'', hb'⟩)
  | arr n T ih =>
    intro x cs fs hd hf h hp; simp only [Cn, Ty.imm] at h ⊢
    obtain ⟨h1, h2, fss, h3, rfl, h4⟩ := h
    have hl : List.length (Ty.toImm (.arr n T) x) = List.length x := cast_length T.den_imm.symm x
    refine ⟨by rw [hl]; exact h1, by rw [T.size_imm]; exact h2, List.replicate n [], by simp, by simp, fun i hi => ?_⟩
    have hi' : i < List.length x := by rw [← hl]; exact hi
    have hT : T ≠ .dead := by rintro rfl; simp [Ty.imm, Ty.pure] at hp
    have := ih hT (fun b' hb' => hf b' ?_) (h4 i hi') (by simpa [Ty.imm, Ty.pure] using hp)
    · rw [T.size_imm]
      rw [show List.get (Ty.toImm (.arr n T) x) ⟨i, hi⟩ = T.toImm (List.get x ⟨i, hi'⟩) from cast_get T.den_imm.symm x i _ hi']
      have e0 : (List.replicate n ([] : List Nat)).getD i [] = [] := by simp [List.getD_eq_getElem?_getD, List.getElem?_replicate]; split <;> rfl
      rw [e0]; exact this
    · rw [List.getD_eq_getElem?_getD] at hb'
      have hi'' : i < fss.length := by omega
      rw [List.getElem?_eq_getElem hi''] at hb'
      exact List.mem_flatten.2 ⟨_, List.getElem_mem hi'', hb'⟩
  | pair A B ha hb =>
    intro x cs fs hd hf h hp; simp only [Cn, Ty.imm] at h ⊢
    obtain ⟨f1, f2, rfl, h1, h2⟩ := h
    simp only [Ty.imm, Ty.pure, Bool.and_eq_true] at hp
    have hA : A ≠ .dead := by rintro rfl; simp [Ty.imm, Ty.pure] at hp
    have hB : B ≠ .dead := by rintro rfl; simp [Ty.imm, Ty.pure] at hp
    have e : Ty.toImm (.pair A B) x = (A.toImm x.1, B.toImm x.2) := cast_pair A.den_imm.symm B.den_imm.symm _ x
    refine ⟨[], [], rfl, ?_, ?_⟩
    · rw [e, A.size_imm]; exact ha hA (fun b hb => hf b (by simp [hb])) h1 hp.1
    · rw [e, A.size_imm]; exact hb hB (fun b hb => hf b (by simp [hb])) h2 hp.2
  | dead => intro x cs fs hd; exact absurd rfl hd
  | err => intro x cs fs hd hf h hp; cases x <;> (simp only [Cn, Ty.imm] at h ⊢; exact ⟨h.1, by trivial⟩)
  | _ => intro x cs fs hd hf h hp; simp only [Cn, Ty.imm] at h ⊢; exact ⟨h.1, by trivial⟩
end Go.Ev
end

section
set_option linter.all false
set_option linter.unusedSimpArgs false
set_option linter.unusedVariables false
namespace Go.Ev
open Go

/-- Cells laid one behind the other. -/
def setCells (w : World) (b o : Nat) : List Value → World
  | [] => w
  | v :: vs => setCells (w.setCell ⟨b, o, none⟩ v) b (o + 1) vs

theorem setCell_other (w : World) (b o b' : Nat) (v : Value) (h : b' ≠ b) : (w.setCell ⟨b, o, none⟩ v).heap[b']? = w.heap[b']? := by
  simp [World.setCell, Array.getElem?_modify, Ne.symm h]

theorem setCell_same (w : World) (b o : Nat) (v : Value) {c : Array Value} {e : TypeId} {f : Nat × Nat} (h : w.heap[b]? = some (.cells c e f)) :
    (w.setCell ⟨b, o, none⟩ v).heap[b]? = some (.cells (c.setIfInBounds o v) e f) := by
  simp [World.setCell, Array.getElem?_modify, h]

theorem setCells_other (b b' : Nat) (h : b' ≠ b) : ∀ (vs : List Value) (o : Nat) (w : World), (setCells w b o vs).heap[b']? = w.heap[b']? := by
  intro vs
  induction vs with
  | nil => intro o w; rfl
  | cons v vs ih => intro o w; simp only [setCells]; rw [ih, setCell_other _ _ _ _ _ h]

theorem setCells_size (b : Nat) : ∀ (vs : List Value) (o : Nat) (w : World), (setCells w b o vs).heap.size = w.heap.size := by
  intro vs
  induction vs with
  | nil => intro o w; rfl
  | cons v vs ih => intro o w; simp only [setCells]; rw [ih]; simp [World.setCell]

theorem setCells_same (b : Nat) : ∀ (vs : List Value) (o : Nat) (w : World) (c : Array Value) (e : TypeId) (f : Nat × Nat), w.heap[b]? = some (.cells c e f) →
    ∃ c', (setCells w b o vs).heap[b]? = some (.cells c' e f) ∧ c'.size = c.size ∧
      (∀ i, (i < o ∨ o + vs.length ≤ i) → c'[i]? = c[i]?) ∧ (∀ i, i < vs.length → o + i < c.size → c'[o + i]? = vs[i]?) := by
  intro vs
  induction vs with
  | nil => intro o w c e f h; exact ⟨c, h, rfl, fun _ _ => rfl, fun i hi => absurd hi (by simp)⟩
  | cons v vs ih =>
    intro o w c e f h
    obtain ⟨c', h1, h2, h3, h4⟩ := ih (o + 1) _ _ e f (setCell_same w b o v h)
    refine ⟨c', h1, by simpa using h2, fun i hi => ?_, fun i hi ho => ?_⟩
    · rw [h3 i (by simp at hi; omega)]
      rw [Array.getElem?_setIfInBounds_ne (by simp at hi; omega)]
    · cases i with
      | zero =>
        rw [h3 _ (.inl (by omega))]
        simp at ho
        simp [ho]
      | succ i =>
        have := h4 i (by simpa using hi) (by simp; omega)
        rw [show o + (i + 1) = o + 1 + i by omega, this]; simp

theorem cellsAt_set_other {w : World} {b b' o o' n : Nat} {vs : List Value} (h : b ≠ b') : cellsAt (setCells w b' o' vs) b o n = cellsAt w b o n :=
  cellsAt_congr (setCells_other _ _ h _ _ _) _ _

theorem cellsAt_getElem? (w : World) (b o n i : Nat) : (cellsAt w b o n)[i]? = if i < n then (match w.heap[b]? with | some (.cells c _ _) => c[o + i]? | _ => none) else none := by
  unfold cellsAt
  cases hb : w.heap[b]? with
  | none => simp
  | some ob => cases ob <;> simp [List.getElem?_take, List.getElem?_drop]

theorem cellsAt_set_apart {w : World} {b o o' n : Nat} {vs : List Value} (h : o + n ≤ o' ∨ o' + vs.length ≤ o) :
    cellsAt (setCells w b o' vs) b o n = cellsAt w b o n := by
  cases hb : w.heap[b]? with
  | none =>
    have : (setCells w b o' vs).heap[b]? = none := by
      rw [Array.getElem?_eq_none_iff] at hb ⊢; rw [setCells_size]; exact hb
    unfold cellsAt; rw [this, hb]
  | some ob =>
    by_cases hc : ∃ c e f, ob = .cells c e f
    · obtain ⟨c, e, f, rfl⟩ := hc
      obtain ⟨c', h1, h2, h3, h4⟩ := setCells_same b vs o' w c e f hb
      apply List.ext_getElem?
      intro i
      rw [cellsAt_getElem?, cellsAt_getElem?, h1, hb]
      split
      · exact h3 _ (by omega)
      · rfl
    · have key : ∀ (vs : List Value) (o' : Nat) (w : World), w.heap[b]? = some ob → (setCells w b o' vs).heap[b]? = some ob := by
        intro vs
        induction vs with
        | nil => intro o' w h; exact h
        | cons v vs ih =>
          intro o' w h; simp only [setCells]; apply ih
          simp only [World.setCell, Array.getElem?_modify, h]
          cases ob <;> first | rfl | simp_all
      unfold cellsAt; rw [key vs o' w hb, hb]

theorem cellsAt_set_same {w : World} {b o : Nat} {vs : List Value} (h : (cellsAt w b o vs.length).length = vs.length) :
    cellsAt (setCells w b o vs) b o vs.length = vs := by
  cases hb : w.heap[b]? with
  | none =>
    unfold cellsAt at h; rw [hb] at h
    have : vs = [] := by cases vs <;> simp_all
    subst this
    simp [setCells, cellsAt, hb]
  | some ob =>
    by_cases hc : ∃ c e f, ob = .cells c e f
    · obtain ⟨c, e, f, rfl⟩ := hc
      obtain ⟨c', h1, h2, h3, h4⟩ := setCells_same b vs o w c e f hb
      have hlen : vs.length = 0 ∨ o + vs.length ≤ c.size := by
        unfold cellsAt at h; rw [hb] at h; simp at h; omega
      apply List.ext_getElem?
      intro i
      rw [cellsAt_getElem?, h1]
      split
      · exact h4 i (by omega) (by omega)
      · rw [List.getElem?_eq_none (by omega)]
    · have hn : vs = [] := by
        unfold cellsAt at h; rw [hb] at h
        cases ob <;> first | (exact absurd ⟨_, _, _, rfl⟩ hc) | (cases vs <;> simp_all)
      subst hn
      simp only [setCells, cellsAt, hb]
      cases ob <;> simp

theorem ownB_set {w : World} {b b' o n : Nat} {vs : List Value} (h : ownB w b n) : ownB (setCells w b' o vs) b n := by
  obtain ⟨c, e, h1, h2⟩ := h
  by_cases hb : b = b'
  · subst hb
    obtain ⟨c', g1, g2, _⟩ := setCells_same b vs o w c e (0, 0) h1
    exact ⟨c', e, g1, by omega⟩
  · exact ⟨c, e, by rw [setCells_other _ _ hb]; exact h1, h2⟩

theorem ownB.mono {w : World} {b n m : Nat} (h : ownB w b n) (hm : m ≤ n) : ownB w b m := by
  obtain ⟨c, e, h1, h2⟩ := h
  exact ⟨c, e, h1, by omega⟩

/-- Where a value begins: in a row, or (a slice that a variable holds) nowhere. -/
inductive Pl where
  | at (b o : Nat)
  | hd (v : Value)

def Pl.hdr (w : World) : Pl → Option Value
  | .at b o => w.cell? ⟨b, o, none⟩
  | .hd v => some v

def Adr (w : World) : Ty → Pl → Path → Option (Nat × Nat)
  | _, .at b o, [] => some (b, o)
  | _, .hd _, [] => none
  | .pair A _, .at b o, .fst :: p => Adr w A (.at b o) p
  | .pair A B, .at b o, .snd :: p => Adr w B (.at b (o + A.size)) p
  | .arr _ T, .at b o, .idx i :: p => Adr w T (.at b (o + i * T.size)) p
  | .own T, pl, .idx i :: p =>
    match pl.hdr w with
    | some (.slice (some a) _ _) => Adr w T (.at a.block (a.off + i * T.size)) p
    | _ => none
  | _, _, _ :: _ => none

/-- The cells that stand at a place. -/
def Pl.cells (w : World) (n : Nat) : Pl → List Value
  | .at b o => cellsAt w b o n
  | .hd v => [v]

/-- The row that a place lies in. -/
def Pl.row : Pl → List Nat
  | .at b _ => [b]
  | .hd _ => []

theorem cell_of_cellsAt {w : World} {b o : Nat} {v : Value} (h : cellsAt w b o 1 = [v]) : w.cell? ⟨b, o, none⟩ = some v := by
  have : (cellsAt w b o 1)[0]? = some v := by rw [h]; rfl
  rw [cellsAt_getElem?] at this
  simp at this
  unfold World.cell?
  simp
  exact this

theorem getD_flatten {fss : List (List Nat)} {i : Nat} (hi : i < fss.length) :
    fss.flatten = (fss.take i).flatten ++ fss.getD i [] ++ (fss.drop (i + 1)).flatten := by
  have : fss = fss.take i ++ fss[i] :: fss.drop (i + 1) := by simp
  conv => lhs; rw [this]
  rw [List.flatten_append, List.flatten_cons, List.getD_eq_getElem?_getD, List.getElem?_eq_getElem hi, List.append_assoc]; rfl

theorem set_flatten {fss : List (List Nat)} {i : Nat} (hi : i < fss.length) (g : List Nat) :
    (fss.set i g).flatten = (fss.take i).flatten ++ g ++ (fss.drop (i + 1)).flatten := by
  rw [List.set_eq_take_append_cons_drop, if_pos hi, List.flatten_append, List.flatten_cons, List.append_assoc]

theorem mem_getD_flatten {fss : List (List Nat)} {i c : Nat} (h : c ∈ fss.getD i []) : c ∈ fss.flatten := by
  rw [List.getD_eq_getElem?_getD] at h
  by_cases hi : i < fss.length
  · rw [List.getElem?_eq_getElem hi] at h
    exact List.mem_flatten.2 ⟨_, List.getElem_mem hi, h⟩
  · rw [List.getElem?_eq_none (by omega)] at h; simp at h

theorem nodup_flatten_ne {fss : List (List Nat)} (h : fss.flatten.Nodup) {i j c : Nat} (hij : i ≠ j) (hi : c ∈ fss.getD i []) (hj : c ∈ fss.getD j []) : False := by
  have key : ∀ (fss : List (List Nat)) (i j : Nat), fss.flatten.Nodup → i < j → c ∈ fss.getD i [] → c ∈ fss.getD j [] → False := by
    intro fss
    induction fss with
    | nil => intro i j _ _ h; simp at h
    | cons f fss ih =>
      intro i j hn hlt h1 h2
      rw [List.flatten_cons, List.nodup_append] at hn
      cases j with
      | zero => omega
      | succ j =>
        cases i with
        | zero => exact hn.2.2 c (by simpa using h1) c (mem_getD_flatten (by simpa using h2)) rfl
        | succ i => exact ih i j hn.2.1 (by omega) (by simpa using h1) (by simpa using h2)
  rcases Nat.lt_or_gt_of_ne hij with hlt | hlt
  · exact key fss i j h hlt hi hj
  · exact key fss j i h hlt hj hi

theorem nodup_getD {fss : List (List Nat)} (h : fss.flatten.Nodup) (i : Nat) : (fss.getD i []).Nodup := by
  rw [List.getD_eq_getElem?_getD]
  by_cases hi : i < fss.length
  · rw [List.getElem?_eq_getElem hi]
    have hm : fss[i].Sublist fss.flatten := List.sublist_flatten_of_mem (List.getElem_mem hi)
    exact hm.nodup h
  · rw [List.getElem?_eq_none (by omega)]; exact List.nodup_nil

/-- What is found at a path, and what comes of it where something else is laid there. -/
structure Lens (eT : TypeId) (w : World) (J : Nat → Prop) (T : Ty) (x : T.den) (pl : Pl) (fs : List Nat) (p : Path) (b' o' : Nat) (l f r : List Nat) : Prop where
  adr : Adr w T pl p = some (b', o')
  split : fs = l ++ f ++ r
  inRow : b' ∈ pl.row ++ l
  within : ∀ b o, pl = .at b o → b' = b → o ≤ o' ∧ o' + (getP T x p).T.size ≤ o + T.size
  get : Cn eT w J (getP T x p).T (getP T x p).x (cellsAt w b' o' (getP T x p).T.size) f
  free : (∀ b o, pl = .at b o → ownB w b (o + T.size)) → ownB w b' (o' + (getP T x p).T.size)
  set : ∀ (vs : List Value) (n : TV) (fn : List Nat) (y : TV), vs.length = (getP T x p).T.size → n.T.size = (getP T x p).T.size → ¬ J b' → setP T x p n = some y →
    Cn eT (setCells w b' o' vs) J n.T n.x vs fn →
    Cn eT (setCells w b' o' vs) J y.T y.x (pl.cells (setCells w b' o' vs) T.size) (l ++ fn ++ r) ∧ y.T.size = T.size
  keep : ∀ (vs : List Value) (n : TV) (y : TV), vs.length = (getP T x p).T.size → (getP T x p).T.pure = true → n.T.pure = true → n.T.era = (getP T x p).T.era →
    setP T x p n = some y → Cn eT (setCells w b' o' vs) J n.T n.x vs [] → ∀ q, okP T x q →
    okP y.T y.x q ∧ Adr (setCells w b' o' vs) y.T pl q = Adr w T pl q ∧
      (∀ b o E, typeAt T q = .own E → Adr w T pl q = some (b, o) → (setCells w b' o' vs).cell? ⟨b, o, none⟩ = w.cell? ⟨b, o, none⟩)

/-- Where a place lies depends on the headers on the way alone. -/
theorem adr_congr {eT : TypeId} {w w' : World} {J : Nat → Prop} (p : Path) : ∀ (T : Ty) (x : T.den) (pl : Pl) (fs : List Nat),
    Cn eT w J T x (pl.cells w T.size) fs → okP T x p → pl.cells w' T.size = pl.cells w T.size → (∀ b, b ∈ fs → w'.heap[b]? = w.heap[b]?) →
    Adr w' T pl p = Adr w T pl p ∧ (∀ b o E, typeAt T p = .own E → Adr w T pl p = some (b, o) → w'.cell? ⟨b, o, none⟩ = w.cell? ⟨b, o, none⟩) := by
  induction p with
  | nil =>
    intro T x pl fs h _ hc hf
    cases pl with
    | hd v => exact ⟨by cases T <;> rfl, by intro b o E _ h; cases T <;> simp [Adr] at h⟩
    | «at» b o =>
      refine ⟨by cases T <;> rfl, ?_⟩
      intro b1 o1 E ht ha
      have : typeAt T [] = T := by cases T <;> rfl
      rw [this] at ht; subst ht
      have e : (b, o) = (b1, o1) := by simpa [Adr] using ha
      cases e
      simp only [Cn, Pl.cells, Ty.size] at h hc
      obtain ⟨a, cap, hcs, _⟩ := h
      rw [cell_of_cellsAt hcs, cell_of_cellsAt (hc.trans hcs)]
  | cons s p ih =>
    intro T x pl fs h hok hc hf
    cases T with
    | pair A B =>
      cases pl with
      | hd v => exact ⟨by cases s <;> rfl, by intro b o E _ h; cases s <;> simp [Adr] at h⟩
      | «at» b o =>
        simp only [Cn, Pl.cells, Ty.size] at h hc
        obtain ⟨f1, f2, rfl, h1, h2⟩ := h
        have hc1 := congrArg (List.take A.size) hc
        have hc2 := congrArg (List.drop A.size) hc
        rw [cellsAt_take _ _ _ (Nat.le_add_right _ _), cellsAt_take _ _ _ (Nat.le_add_right _ _)] at hc1
        rw [cellsAt_drop, cellsAt_drop] at hc2
        rw [cellsAt_take _ _ _ (Nat.le_add_right _ _)] at h1
        rw [cellsAt_drop] at h2
        cases s with
        | fst => exact ih A x.1 (.at b o) f1 h1 hok hc1 (fun b hb => hf b (by simp [hb]))
        | snd => exact ih B x.2 (.at b (o + A.size)) f2 h2 hok hc2 (fun b hb => hf b (by simp [hb]))
        | idx i => simp [okP] at hok
    | arr n T =>
      cases pl with
      | hd v => exact ⟨by cases s <;> rfl, by intro b o E _ h; cases s <;> simp [Adr] at h⟩
      | «at» b o =>
        cases s with
        | fst => simp [okP] at hok
        | snd => simp [okP] at hok
        | idx i =>
          simp only [Cn, Pl.cells, Ty.size] at h hc
          obtain ⟨hxn, hcl, fss, hfl, rfl, hel⟩ := h
          obtain ⟨hi, hok⟩ := hok
          have h1 := hel i hi
          rw [cellsAt_part _ _ _ (by omega)] at h1
          have hc1 := congrArg (fun l => (List.drop (i * T.size) l).take T.size) hc
          rw [cellsAt_part _ _ _ (by omega), cellsAt_part _ _ _ (by omega)] at hc1
          have e : List.getD x i T.dft = List.get x ⟨i, hi⟩ := by rw [List.getD_eq_getElem?_getD, List.getElem?_eq_getElem hi]; rfl
          rw [e] at hok
          exact ih T _ (.at b (o + i * T.size)) _ h1 hok hc1 (fun b hb => hf b (mem_getD_flatten hb))
    | own T =>
      cases s with
      | fst => simp [okP] at hok
      | snd => simp [okP] at hok
      | idx i =>
        simp only [Cn, Ty.size] at h hc
        obtain ⟨a, cap, hcs, hcap, hown⟩ := h
        obtain ⟨hi, hok⟩ := hok
        rcases hown with ⟨_, h0, _⟩ | ⟨b1, o1, fss, rfl, hob, hfl, rfl, hel⟩
        · omega
        have hh : pl.hdr w = some (.slice (some ⟨b1, o1, none⟩) (List.length x) cap) := by
          cases pl with
          | «at» b o => exact cell_of_cellsAt hcs
          | hd v => simp only [Pl.cells] at hcs; cases hcs; rfl
        have hh' : pl.hdr w' = some (.slice (some ⟨b1, o1, none⟩) (List.length x) cap) := by
          cases pl with
          | «at» b o => exact cell_of_cellsAt (hc.trans hcs)
          | hd v => simp only [Pl.cells] at hcs; cases hcs; rfl
        have e : List.getD x i T.dft = List.get x ⟨i, hi⟩ := by rw [List.getD_eq_getElem?_getD, List.getElem?_eq_getElem hi]; rfl
        rw [e] at hok
        have hc1 : cellsAt w' b1 (o1 + i * T.size) T.size = cellsAt w b1 (o1 + i * T.size) T.size := cellsAt_congr (hf b1 (by simp)) _ _
        have := ih T _ (.at b1 (o1 + i * T.size)) _ (hel i hi) hok hc1 (fun b hb => hf b (List.mem_cons_of_mem _ (mem_getD_flatten hb)))
        simp only [Adr, hh, hh', typeAt]
        exact this
    | _ => simp [okP] at hok

/-- Types of one form: the ways through them that need no header are the same. -/
theorem crosses_era (p : Path) : ∀ (T T' : Ty), T.era = T'.era → crosses T p = crosses T' p := by
  induction p with
  | nil => intro T T' _; cases T <;> cases T' <;> rfl
  | cons s p ih =>
    intro T T' h
    cases T <;> cases T' <;> simp only [Ty.era, reduceCtorEq, Ty.pair.injEq, Ty.arr.injEq] at h <;> cases s <;> first | rfl | exact ih _ _ h.1 | exact ih _ _ h.2

theorem crosses_pure (p : Path) : ∀ (T : Ty) (x : T.den), T.pure = true → okP T x p → crosses T p = false := by
  induction p with
  | nil => intro T _ _ _; cases T <;> rfl
  | cons s p ih =>
    intro T x hp hok
    cases T <;> cases s <;> simp only [Ty.pure, okP, Bool.and_eq_true, reduceCtorEq] at hp hok <;> first | exact ih _ _ hp.1 hok | exact ih _ _ hp.2 hok | exact ih _ _ hp hok.2

/-- A way that needs no header: where it leads is told by the types. -/
theorem noncross {eT : TypeId} {w w' v v' : World} {J J' : Nat → Prop} (p : Path) : ∀ (T T' : Ty) (x : T.den) (x' : T'.den) (cs cs' : List Value) (fs fs' : List Nat) (b o : Nat), T.era = T'.era →
    Cn eT v J T x cs fs → Cn eT v' J' T' x' cs' fs' → crosses T p = false → okP T x p → okP T' x' p ∧ Adr w' T' (.at b o) p = Adr w T (.at b o) p := by
  induction p with
  | nil => intro T T' x x' cs cs' fs fs' b o _ _ _ _ _; exact ⟨by cases T' <;> trivial, by cases T <;> cases T' <;> rfl⟩
  | cons s p ih =>
    intro T T' x x' cs cs' fs fs' b o he h h' hc hok
    cases T with
    | pair A B =>
      cases T' <;> simp only [Ty.era, reduceCtorEq, Ty.pair.injEq] at he
      rename_i A' B'
      simp only [Cn] at h h'
      obtain ⟨f1, f2, _, h1, h2⟩ := h
      obtain ⟨g1, g2, _, k1, k2⟩ := h'
      cases s with
      | fst => exact ih A A' x.1 x'.1 _ _ _ _ b o he.1 h1 k1 hc hok
      | snd => simp only [Adr]; rw [Ty.size_of_era he.1]; exact ih B B' x.2 x'.2 _ _ _ _ b _ he.2 h2 k2 hc hok
      | idx i => simp [okP] at hok
    | arr n T =>
      cases T' <;> simp only [Ty.era, reduceCtorEq, Ty.arr.injEq] at he
      rename_i n' T'
      obtain ⟨rfl, he⟩ := he
      simp only [Cn] at h h'
      obtain ⟨hl, _, fss, _, _, hel⟩ := h
      obtain ⟨hl', _, fss', _, _, hel'⟩ := h'
      cases s with
      | fst => simp [okP] at hok
      | snd => simp [okP] at hok
      | idx i =>
        obtain ⟨hi, hok⟩ := hok
        have hi' : i < List.length x' := by omega
        have e : List.getD x i T.dft = List.get x ⟨i, hi⟩ := by rw [List.getD_eq_getElem?_getD, List.getElem?_eq_getElem hi]; rfl
        have e' : List.getD x' i T'.dft = List.get x' ⟨i, hi'⟩ := by rw [List.getD_eq_getElem?_getD, List.getElem?_eq_getElem hi']; rfl
        rw [e] at hok
        have := ih T T' _ _ _ _ _ _ b (o + i * T.size) he (hel i hi) (hel' i hi') hc hok
        simp only [Adr, okP, e']
        rw [← Ty.size_of_era he]
        exact ⟨⟨hi', this.1⟩, this.2⟩
    | own T => cases s <;> simp [crosses] at hc
    | _ => simp [okP] at hok
end Go.Ev
end

section
set_option linter.all false
set_option linter.unusedSimpArgs false
set_option linter.unusedVariables false
namespace Go.Ev
open Go
variable {eT : TypeId} {w : World} {J : Nat → Prop}

theorem Cn_other {T : Ty} {x : T.den} {cs : List Value} {fs : List Nat} {b' o' : Nat} {vs : List Value} (h : Cn eT w J T x cs fs) (hJ : ¬ J b') (hb : b' ∉ fs) :
    Cn eT (setCells w b' o' vs) J T x cs fs := by
  refine Cn_congr (fun b hb1 => ⟨hb1, (setCells_other _ _ ?_ _ _ _).symm⟩) (fun b hb1 => (setCells_other _ _ ?_ _ _ _).symm) h
  · rintro rfl; exact hJ hb1
  · rintro rfl; exact hb hb1

theorem getD_get {α : Type} {l : List α} {i : Nat} (h : i < l.length) (d : α) : l.getD i d = l.get ⟨i, h⟩ := by
  rw [List.getD_eq_getElem?_getD, List.getElem?_eq_getElem h]; rfl

theorem typeAt_pure (p : Path) : ∀ (T E : Ty), T.pure = true → typeAt T p = .own E → False := by
  induction p with
  | nil => intro T E hp h; have : typeAt T [] = T := by cases T <;> rfl
           rw [this] at h; subst h; simp [Ty.pure] at hp
  | cons s p ih =>
    intro T E hp h
    cases T <;> cases s <;> simp only [typeAt, reduceCtorEq, Ty.pure, Bool.and_eq_true] at h hp <;> first | exact ih _ _ hp.1 h | exact ih _ _ hp.2 h | exact ih _ _ hp h

theorem setP_size (p : Path) : ∀ (T : Ty) (x : T.den) (n y : TV), setP T x p n = some y → n.T.size = (typeAt T p).size → y.T.size = T.size := by
  induction p with
  | nil => intro T x n y h hs
           have h1 : setP T x [] n = some n := by cases T <;> rfl
           have h2 : typeAt T [] = T := by cases T <;> rfl
           rw [h1] at h; cases h; rw [h2] at hs; exact hs
  | cons s p ih =>
    intro T x n y h hs
    cases T with
    | pair A B =>
      cases s with
      | fst =>
        simp only [setP] at h
        split at h
        · rename_i r hr; cases h; simp only [Ty.size, ih _ _ _ _ hr hs]
        · cases h
      | snd =>
        simp only [setP] at h
        split at h
        · rename_i r hr; cases h; simp only [Ty.size, ih _ _ _ _ hr hs]
        · cases h
      | idx i => simp [setP] at h
    | arr m T =>
      cases s with
      | fst => simp [setP] at h
      | snd => simp [setP] at h
      | idx i =>
        simp only [setP] at h
        split at h
        · split at h
          · cases h; rfl
          · cases h
        · cases h
    | own T =>
      cases s with
      | fst => simp [setP] at h
      | snd => simp [setP] at h
      | idx i =>
        simp only [setP] at h
        split at h
        · split at h
          · cases h; rfl
          · cases h
        · cases h
    | _ => simp [setP] at h

theorem lens (p : Path) : ∀ (T : Ty) (x : T.den) (pl : Pl) (fs : List Nat), Cn eT w J T x (pl.cells w T.size) fs → (pl.row ++ fs).Nodup →
    okP T x p → (∀ v, pl = .hd v → ∃ E, T = .own E ∧ p ≠ []) → ∃ b' o' l f r, Lens eT w J T x pl fs p b' o' l f r := by
  induction p with
  | nil =>
    intro T x pl fs h hn _ hd
    cases pl with
    | hd v => obtain ⟨_, _, h0⟩ := hd v rfl; exact absurd rfl h0
    | «at» b o =>
      have hg : getP T x [] = ⟨T, x⟩ := by cases T <;> rfl
      refine ⟨b, o, [], fs, [], ⟨by cases T <;> rfl, by simp, by simp [Pl.row], ?_, ?_, ?_, ?_, ?_⟩⟩
      · intro b1 o1 e _; cases e; rw [hg]; exact ⟨Nat.le_refl _, Nat.le_refl _⟩
      · rw [hg]; exact h
      · intro hf; rw [hg]; exact hf b o rfl
      · intro vs n fn y hl hs hJ hset hc
        rw [hg] at hl hs
        have hy : y = n := by
          have : setP T x [] n = some n := by cases T <;> rfl
          rw [this] at hset; exact (Option.some.inj hset).symm
        subst hy
        refine ⟨?_, hs⟩
        simp only [Pl.cells, List.nil_append, List.append_nil]
        have hlen := Cn_length h
        simp only [Pl.cells] at hlen
        have := cellsAt_set_same (w := w) (b := b) (o := o) (vs := vs) (by rw [hl]; exact hlen)
        simp only at hl
        rw [← hl, this]; exact hc
      · intro vs n y hl hp hpn he hset hc q hq
        rw [hg] at hl hp he
        have hy : y = n := by
          have : setP T x [] n = some n := by cases T <;> rfl
          rw [this] at hset; exact (Option.some.inj hset).symm
        subst hy
        have := noncross (w := w) (w' := setCells w b o vs) q T y.T x y.x _ _ _ _ b o he.symm h hc (crosses_pure q T x hp hq) hq
        exact ⟨this.1, this.2, fun b1 o1 E ht _ => (typeAt_pure q T E hp ht).elim⟩
  | cons s p ih =>
    intro T x pl fs h hn hok hd
    cases T with
    | pair A B =>
      cases pl with
      | hd v => obtain ⟨_, h0, _⟩ := hd v rfl; cases h0
      | «at» b o =>
        simp only [Cn, Pl.cells, Ty.size] at h
        obtain ⟨f1, f2, rfl, h1, h2⟩ := h
        rw [cellsAt_take _ _ _ (Nat.le_add_right _ _)] at h1
        rw [cellsAt_drop] at h2
        simp only [Pl.row, List.cons_append, List.nil_append, List.nodup_cons, List.mem_append, List.nodup_append, not_or] at hn
        obtain ⟨⟨hb1, hb2⟩, hn1, hn2, hd12⟩ := hn
        cases s with
        | idx i => exact hok.elim
        | fst =>
          obtain ⟨b', o', l, f, r, L⟩ := ih A x.1 (.at b o) f1 h1 (by simp [Pl.row, hb1, hn1]) hok (by intro v e; cases e)
          have hrow : b' = b ∨ b' ∈ l := by simpa [Pl.row] using L.inRow
          have hf1 := L.split
          have hb' : b' ∉ f2 := by
            rcases hrow with rfl | hr
            · exact hb2
            · intro hc2; exact hd12 b' (by rw [hf1]; simp [hr]) b' hc2 rfl
          have e : ∀ vs : List Value, vs.length = (getP A x.1 p).T.size → cellsAt (setCells w b' o' vs) b (o + A.size) B.size = cellsAt w b (o + A.size) B.size := by
            intro vs hl
            by_cases hbb : b' = b
            · subst hbb
              refine cellsAt_set_apart (.inr ?_)
              have := L.within b' o rfl rfl; omega
            · exact cellsAt_set_other (Ne.symm hbb)
          refine ⟨b', o', l, f, r ++ f2, ⟨L.adr, by rw [hf1]; simp, by simpa [Pl.row] using L.inRow, ?_, L.get, fun hf => L.free (fun b2 o2 e2 => by cases e2; exact (hf b o rfl).mono (by simp only [Ty.size]; omega)), ?_, ?_⟩⟩
          · intro b2 o2 e hb; cases e; have := L.within b o rfl hb; simp only [getP, Ty.size]; omega
          · intro vs n fn y hl hs hJ hset hc
            simp only [setP] at hset
            split at hset
            · rename_i rA hA
              cases hset
              obtain ⟨hA1, hA2⟩ := L.set vs n fn rA hl hs hJ hA hc
              simp only [Pl.cells] at hA1 ⊢
              simp only [Ty.size, hA2, Cn, and_true]
              refine ⟨l ++ fn ++ r, f2, by simp, ?_, ?_⟩
              · rw [cellsAt_take _ _ _ (Nat.le_add_right _ _)]; exact hA1
              · rw [cellsAt_drop, e vs hl]; exact Cn_other h2 hJ hb'
            · cases hset
          · intro vs n y hl hp hpn he hset hc q hq
            simp only [setP] at hset
            split at hset
            · rename_i rA hA
              cases hset
              cases q with
              | nil => exact ⟨trivial, rfl, fun b1 o1 E ht _ => by simp [typeAt] at ht⟩
              | cons s q =>
                cases s with
                | fst => exact L.keep vs n rA hl hp hpn he hA hc q hq
                | snd =>
                  have hsz : rA.T.size = A.size := setP_size p A x.1 n rA hA (by rw [← getP_T p A x.1]; exact Ty.size_of_era he)
                  have := adr_congr (w' := setCells w b' o' vs) q B x.2 (.at b (o + A.size)) f2 h2 hq (e vs hl) (fun c hc2 => setCells_other _ _ (by rintro rfl; exact hb' hc2) _ _ _)
                  simp only [Adr, hsz]
                  exact ⟨hq, this⟩
                | idx i => simp [okP] at hq
            · cases hset
        | snd =>
          obtain ⟨b', o', l, f, r, L⟩ := ih B x.2 (.at b (o + A.size)) f2 h2 (by simp [Pl.row, hb2, hn2]) hok (by intro v e; cases e)
          have hrow : b' = b ∨ b' ∈ l := by simpa [Pl.row] using L.inRow
          have hf2 := L.split
          have hb' : b' ∉ f1 := by
            rcases hrow with rfl | hr
            · exact hb1
            · intro hc2; exact hd12 b' hc2 b' (by rw [hf2]; simp [hr]) rfl
          have e : ∀ vs : List Value, vs.length = (getP B x.2 p).T.size → cellsAt (setCells w b' o' vs) b o A.size = cellsAt w b o A.size := by
            intro vs hl
            by_cases hbb : b' = b
            · subst hbb
              refine cellsAt_set_apart (.inl ?_)
              have := L.within b' (o + A.size) rfl rfl; omega
            · exact cellsAt_set_other (Ne.symm hbb)
          refine ⟨b', o', f1 ++ l, f, r, ⟨L.adr, by rw [hf2]; simp, ?_, ?_, L.get, fun hf => L.free (fun b2 o2 e2 => by cases e2; exact (hf b o rfl).mono (by simp only [Ty.size]; omega)), ?_, ?_⟩⟩
          · rcases hrow with rfl | hr
            · simp [Pl.row]
            · simp [hr]
          · intro b2 o2 e hb; cases e; have := L.within b (o + A.size) rfl hb; simp only [getP, Ty.size]; omega
          · intro vs n fn y hl hs hJ hset hc
            simp only [setP] at hset
            split at hset
            · rename_i rB hB
              cases hset
              obtain ⟨hB1, hB2⟩ := L.set vs n fn rB hl hs hJ hB hc
              simp only [Pl.cells] at hB1 ⊢
              simp only [Ty.size, hB2, Cn, and_true]
              refine ⟨f1, l ++ fn ++ r, by simp, ?_, ?_⟩
              · rw [cellsAt_take _ _ _ (Nat.le_add_right _ _), e vs hl]; exact Cn_other h1 hJ hb'
              · rw [cellsAt_drop]; exact hB1
            · cases hset
          · intro vs n y hl hp hpn he hset hc q hq
            simp only [setP] at hset
            split at hset
            · rename_i rB hB
              cases hset
              cases q with
              | nil => exact ⟨trivial, rfl, fun b1 o1 E ht _ => by simp [typeAt] at ht⟩
              | cons s q =>
                cases s with
                | snd => exact L.keep vs n rB hl hp hpn he hB hc q hq
                | fst =>
                  have := adr_congr (w' := setCells w b' o' vs) q A x.1 (.at b o) f1 h1 hq (e vs hl) (fun c hc2 => setCells_other _ _ (by rintro rfl; exact hb' hc2) _ _ _)
                  exact ⟨hq, this⟩
                | idx i => simp [okP] at hq
            · cases hset
    | arr n T =>
      cases pl with
      | hd v => obtain ⟨_, h0, _⟩ := hd v rfl; cases h0
      | «at» b o =>
        cases s with
        | fst => exact hok.elim
        | snd => exact hok.elim
        | idx i =>
          simp only [Cn, Pl.cells, Ty.size] at h
          obtain ⟨hxn, hcl, fss, hfl, rfl, hel⟩ := h
          obtain ⟨hi, hok⟩ := hok
          simp only [Pl.row, List.cons_append, List.nil_append, List.nodup_cons] at hn
          obtain ⟨hb, hnf⟩ := hn
          have hel' : ∀ j (hj : j < List.length x), Cn eT w J T (List.get x ⟨j, hj⟩) (cellsAt w b (o + j * T.size) T.size) (fss.getD j []) := by
            intro j hj; have := hel j hj; rw [cellsAt_part _ _ _ (by omega)] at this; exact this
          have hsub := hel' i hi
          have hbi : b ∉ fss.getD i [] := fun hc => hb (mem_getD_flatten hc)
          obtain ⟨b', o', l, f, r, L⟩ := ih T (List.get x ⟨i, hi⟩) (.at b (o + i * T.size)) (fss.getD i []) hsub
            (by simp only [Pl.row, List.cons_append, List.nil_append, List.nodup_cons]; exact ⟨hbi, nodup_getD hnf i⟩)
            (by rw [← getD_get hi T.dft]; exact hok) (by intro v e; cases e)
          have hgetP : getP (.arr n T) x (.idx i :: p) = getP T (List.get x ⟨i, hi⟩) p := by simp only [getP]; rw [getD_get hi]
          have hrow : b' = b ∨ b' ∈ l := by simpa [Pl.row] using L.inRow
          have hfi := L.split
          have hbl : b' ∈ l → b' ∈ fss.getD i [] := fun hc => by rw [hfi]; simp [hc]
          have hif : i < fss.length := by omega
          have hfar : ∀ vs : List Value, vs.length = (getP T (List.get x ⟨i, hi⟩) p).T.size → ∀ j, j ≠ i → j < n → b' ∉ fss.getD j [] ∧ cellsAt (setCells w b' o' vs) b (o + j * T.size) T.size = cellsAt w b (o + j * T.size) T.size := by
            intro vs hl j hji hjn
            constructor
            · intro hc2
              rcases hrow with rfl | hr
              · exact hb (mem_getD_flatten hc2)
              · exact nodup_flatten_ne hnf (Ne.symm hji) (hbl hr) hc2
            · by_cases hbb : b' = b
              · subst hbb
                have h1 := L.within b' (o + i * T.size) rfl rfl
                refine cellsAt_set_apart ?_
                rcases Nat.lt_or_gt_of_ne hji with h | h
                · left
                  have h2 : (j + 1) * T.size ≤ i * T.size := Nat.mul_le_mul_right _ (by omega)
                  rw [Nat.add_mul] at h2; omega
                · right
                  have h2 : (i + 1) * T.size ≤ j * T.size := Nat.mul_le_mul_right _ (by omega)
                  rw [Nat.add_mul] at h2; omega
              · exact cellsAt_set_other (Ne.symm hbb)
          refine ⟨b', o', (fss.take i).flatten ++ l, f, r ++ (fss.drop (i + 1)).flatten, ⟨?_, ?_, ?_, ?_, ?_, ?_, ?_, ?_⟩⟩
          · simp only [Adr]; exact L.adr
          · rw [getD_flatten hif, hfi]; simp
          · rcases hrow with rfl | hr
            · simp [Pl.row]
            · simp [hr]
          · intro b2 o2 e hbb; cases e
            have h1 := L.within b (o + i * T.size) rfl hbb
            have h2 : (i + 1) * T.size ≤ n * T.size := Nat.mul_le_mul_right _ (by omega)
            rw [Nat.add_mul] at h2
            rw [hgetP]; simp only [Ty.size]; omega
          · rw [hgetP]; exact L.get
          · intro hf
            have h2 : (i + 1) * T.size ≤ n * T.size := Nat.mul_le_mul_right _ (by omega)
            rw [Nat.add_mul] at h2
            rw [hgetP]; exact L.free (fun b2 o2 e2 => by cases e2; exact (hf b o rfl).mono (by simp only [Ty.size]; omega))
          · intro vs m fn y hl hs hJ hset hc
            rw [hgetP] at hl hs
            simp only [setP] at hset
            rw [getD_get hi] at hset
            split at hset
            · rename_i rT hT
              split at hset
              · rename_i hTT
                cases hset
                obtain ⟨hA1, hA2⟩ := L.set vs m fn rT hl hs hJ hT hc
                refine ⟨?_, rfl⟩
                simp only [Pl.cells] at hA1 ⊢
                simp only [Cn, Ty.size]
                obtain ⟨rTT, rTx⟩ := rT
                simp only at hTT; subst hTT
                refine ⟨by simpa using hxn, ?_, fss.set i (l ++ fn ++ r), by simpa using hfl, ?_, ?_⟩
                · have e1 : (cellsAt w b o (n * rTT.size)).length = n * rTT.size := hcl
                  by_cases hbb : b' = b
                  · subst hbb
                    -- the row keeps its length
                    unfold cellsAt at e1 ⊢
                    cases hwb : w.heap[b']? with
                    | none => rw [hwb] at e1; simp at e1; rw [show (setCells w b' o' vs).heap[b']? = none from by rw [Array.getElem?_eq_none_iff] at hwb ⊢; rw [setCells_size]; exact hwb]; simpa using e1
                    | some ob =>
                      by_cases hcc : ∃ c e f, ob = .cells c e f
                      · obtain ⟨c, e, f0, rfl⟩ := hcc
                        obtain ⟨c', g1, g2, _⟩ := setCells_same b' vs o' w c e f0 hwb
                        rw [hwb] at e1; rw [g1]
                        simp only [List.length_take, List.length_drop, Array.length_toList] at e1 ⊢
                        rw [g2]; exact e1
                      · have e2 : n * rTT.size = 0 := by rw [hwb] at e1; cases ob <;> simp_all
                        have : ∀ (z : Option Obj), (match z with | some (.cells c _ _) => (c.toList.drop o).take (n * rTT.size) | _ => []).length = n * rTT.size := by
                          intro z; rw [e2]; split <;> simp
                        exact this _
                  · rw [cellsAt_set_other (Ne.symm hbb)]; exact e1
                · rw [set_flatten hif]; simp
                · intro j hj
                  have hjn : j < n := by simp at hj; omega
                  rw [cellsAt_part _ _ _ hjn]
                  by_cases hji : j = i
                  · subst hji
                    have e0 : (fss.set j (l ++ fn ++ r)).getD j [] = l ++ fn ++ r := by rw [List.getD_eq_getElem?_getD, List.getElem?_set_self hif]; rfl
                    rw [e0]
                    simp only [List.get_eq_getElem, List.getElem_set_self]
                    exact hA1
                  · have e0 : (fss.set i (l ++ fn ++ r)).getD j [] = fss.getD j [] := by
                      rw [List.getD_eq_getElem?_getD, List.getElem?_set_ne (Ne.symm hji), List.getD_eq_getElem?_getD]
                    obtain ⟨g1, g2⟩ := hfar vs hl j hji hjn
                    rw [e0, g2]
                    simp only [List.get_eq_getElem]
                    rw [List.getElem_set_ne (Ne.symm hji)]
                    exact Cn_other (hel' j (by simpa using hj)) hJ g1
              · cases hset
            · cases hset
          · intro vs m y hl hp hpn he hset hc q hq
            rw [hgetP] at hl hp he
            simp only [setP] at hset
            rw [getD_get hi] at hset
            split at hset
            · rename_i rT hT
              split at hset
              · rename_i hTT
                cases hset
                obtain ⟨rTT, rTx⟩ := rT
                simp only at hTT; subst hTT
                cases q with
                | nil => exact ⟨trivial, rfl, fun b1 o1 E ht _ => by simp [typeAt] at ht⟩
                | cons s q =>
                  cases s with
                  | fst => simp [okP] at hq
                  | snd => simp [okP] at hq
                  | idx j =>
                    obtain ⟨hj, hq⟩ := hq
                    rw [getD_get hj] at hq
                    by_cases hji : j = i
                    · subst hji
                      have := L.keep vs m ⟨_, rTx⟩ hl hp hpn he hT hc q hq
                      refine ⟨⟨by simpa using hj, ?_⟩, this.2⟩
                      rw [getD_get (by simpa using hj)]
                      simp only [List.get_eq_getElem, List.getElem_set_self]
                      exact this.1
                    · have := adr_congr (w' := setCells w b' o' vs) q _ _ (.at b (o + j * rTT.size)) _ (hel' j hj) hq (hfar vs hl j hji (by omega)).2 (fun c hc2 => setCells_other _ _ (by rintro rfl; exact (hfar vs hl j hji (by omega)).1 hc2) _ _ _)
                      refine ⟨⟨by simpa using hj, ?_⟩, this⟩
                      rw [getD_get (by simpa using hj)]
                      simp only [List.get_eq_getElem]
                      rw [List.getElem_set_ne (Ne.symm hji)]
                      exact hq
              · cases hset
            · cases hset
    | own T =>
      cases s with
      | fst => exact hok.elim
      | snd => exact hok.elim
      | idx i =>
        simp only [Cn, Ty.size] at h
        obtain ⟨a, cap, hcs, hcap, hown⟩ := h
        obtain ⟨hi, hok⟩ := hok
        rcases hown with ⟨_, h0, _⟩ | ⟨b1, o1, fss, rfl, hob, hfl, rfl, hel⟩
        · omega
        have hhdr : pl.hdr w = some (.slice (some ⟨b1, o1, none⟩) (List.length x) cap) := by
          cases pl with
          | «at» b o => exact cell_of_cellsAt hcs
          | hd v => simp only [Pl.cells] at hcs; cases hcs; rfl
        rw [List.nodup_append] at hn
        obtain ⟨_, hn1, hapart⟩ := hn
        rw [List.nodup_cons] at hn1
        obtain ⟨hb1, hnf⟩ := hn1
        have hsub := hel i hi
        have hbi : b1 ∉ fss.getD i [] := fun hc => hb1 (mem_getD_flatten hc)
        obtain ⟨b', o', l, f, r, L⟩ := ih T (List.get x ⟨i, hi⟩) (.at b1 (o1 + i * T.size)) (fss.getD i []) hsub
          (by simp only [Pl.row, List.cons_append, List.nil_append, List.nodup_cons]; exact ⟨hbi, nodup_getD hnf i⟩)
          (by rw [← getD_get hi T.dft]; exact hok) (by intro v e; cases e)
        have hgetP : getP (.own T) x (.idx i :: p) = getP T (List.get x ⟨i, hi⟩) p := by simp only [getP]; rw [getD_get hi]
        have hrow : b' = b1 ∨ b' ∈ l := by simpa [Pl.row] using L.inRow
        have hfi := L.split
        have hbl : b' ∈ l → b' ∈ fss.getD i [] := fun hc => by rw [hfi]; simp [hc]
        have hif : i < fss.length := by omega
        have hbin : b' ∈ b1 :: fss.flatten := by
          rcases hrow with rfl | hr
          · simp
          · exact List.mem_cons_of_mem _ (mem_getD_flatten (hbl hr))
        have hfar : ∀ vs : List Value, vs.length = (getP T (List.get x ⟨i, hi⟩) p).T.size → ∀ j, j ≠ i → b' ∉ fss.getD j [] ∧ cellsAt (setCells w b' o' vs) b1 (o1 + j * T.size) T.size = cellsAt w b1 (o1 + j * T.size) T.size := by
          intro vs hl j hji
          constructor
          · intro hc2
            rcases hrow with rfl | hr
            · exact hb1 (mem_getD_flatten hc2)
            · exact nodup_flatten_ne hnf (Ne.symm hji) (hbl hr) hc2
          · by_cases hbb : b' = b1
            · subst hbb
              have h1 := L.within b' (o1 + i * T.size) rfl rfl
              refine cellsAt_set_apart ?_
              rcases Nat.lt_or_gt_of_ne hji with h | h
              · left
                have h2 : (j + 1) * T.size ≤ i * T.size := Nat.mul_le_mul_right _ (by omega)
                rw [Nat.add_mul] at h2; omega
              · right
                have h2 : (i + 1) * T.size ≤ j * T.size := Nat.mul_le_mul_right _ (by omega)
                rw [Nat.add_mul] at h2; omega
            · exact cellsAt_set_other (Ne.symm hbb)
        have hcs0 : ∀ vs : List Value, pl.cells (setCells w b' o' vs) 1 = pl.cells w 1 := by
          intro vs
          cases pl with
          | «at» b o => exact cellsAt_set_other (fun e => hapart b (by simp [Pl.row]) b' hbin e)
          | hd v => rfl
        refine ⟨b', o', b1 :: ((fss.take i).flatten ++ l), f, r ++ (fss.drop (i + 1)).flatten, ⟨?_, ?_, ?_, ?_, ?_, ?_, ?_, ?_⟩⟩
        · simp only [Adr, hhdr]; exact L.adr
        · rw [getD_flatten hif, hfi]; simp
        · rcases hrow with rfl | hr
          · simp
          · simp [hr]
        · intro b2 o2 e hbb; subst e
          exact absurd hbb (fun e => hapart b2 (by simp [Pl.row]) b' hbin e.symm)
        · rw [hgetP]; exact L.get
        · intro _
          have h2 : (i + 1) * T.size ≤ cap * T.size := Nat.mul_le_mul_right _ (by omega)
          rw [Nat.add_mul] at h2
          rw [hgetP]; exact L.free (fun b2 o2 e2 => by cases e2; exact hob.mono (by omega))
        · intro vs m fn y hl hs hJ hset hc
          rw [hgetP] at hl hs
          simp only [setP] at hset
          rw [getD_get hi] at hset
          split at hset
          · rename_i rT hT
            split at hset
            · rename_i hTT
              cases hset
              obtain ⟨hA1, hA2⟩ := L.set vs m fn rT hl hs hJ hT hc
              refine ⟨?_, rfl⟩
              simp only [Pl.cells] at hA1
              simp only [Cn, Ty.size]
              obtain ⟨rTT, rTx⟩ := rT
              simp only at hTT; subst hTT
              have hcs' := (hcs0 vs).trans hcs
              refine ⟨some ⟨b1, o1, none⟩, cap, by rw [hcs']; simp, by simpa using hcap, .inr ⟨b1, o1, fss.set i (l ++ fn ++ r), rfl, ownB_set hob, by simpa using hfl, ?_, ?_⟩⟩
              · rw [set_flatten hif]; simp
              · intro j hj
                by_cases hji : j = i
                · subst hji
                  have e0 : (fss.set j (l ++ fn ++ r)).getD j [] = l ++ fn ++ r := by rw [List.getD_eq_getElem?_getD, List.getElem?_set_self hif]; rfl
                  rw [e0]
                  simp only [List.get_eq_getElem, List.getElem_set_self]
                  exact hA1
                · have e0 : (fss.set i (l ++ fn ++ r)).getD j [] = fss.getD j [] := by
                    rw [List.getD_eq_getElem?_getD, List.getElem?_set_ne (Ne.symm hji), List.getD_eq_getElem?_getD]
                  obtain ⟨g1, g2⟩ := hfar vs hl j hji
                  rw [e0, g2]
                  simp only [List.get_eq_getElem]
                  rw [List.getElem_set_ne (Ne.symm hji)]
                  exact Cn_other (hel j (by simpa using hj)) hJ g1
            · cases hset
          · cases hset
        · intro vs m y hl hp hpn he hset hc q hq
          rw [hgetP] at hl hp he
          simp only [setP] at hset
          rw [getD_get hi] at hset
          split at hset
          · rename_i rT hT
            split at hset
            · rename_i hTT
              cases hset
              obtain ⟨rTT, rTx⟩ := rT
              simp only at hTT; subst hTT
              have hh' : pl.hdr (setCells w b' o' vs) = pl.hdr w := by
                cases pl with
                | «at» b o => rw [hhdr]; exact cell_of_cellsAt ((hcs0 vs).trans hcs)
                | hd v => rfl
              cases q with
              | nil =>
                refine ⟨trivial, by cases pl <;> rfl, fun b1' o1' E _ ha => ?_⟩
                cases pl with
                | «at» b o =>
                  have e : (b, o) = (b1', o1') := by simpa [Adr] using ha
                  cases e
                  exact hh'
                | hd v => simp [Adr] at ha
              | cons s q =>
                cases s with
                | fst => simp [okP] at hq
                | snd => simp [okP] at hq
                | idx j =>
                  obtain ⟨hj, hq⟩ := hq
                  rw [getD_get hj] at hq
                  simp only [Adr, hh', hhdr, typeAt]
                  by_cases hji : j = i
                  · subst hji
                    have := L.keep vs m ⟨_, rTx⟩ hl hp hpn he hT hc q hq
                    refine ⟨⟨by simpa using hj, ?_⟩, this.2⟩
                    rw [getD_get (by simpa using hj)]
                    simp only [List.get_eq_getElem, List.getElem_set_self]
                    exact this.1
                  · have := adr_congr (w' := setCells w b' o' vs) q _ _ (.at b1 (o1 + j * rTT.size)) _ (hel j hj) hq (hfar vs hl j hji).2 (fun c hc2 => setCells_other _ _ (by rintro rfl; exact (hfar vs hl j hji).1 hc2) _ _ _)
                    refine ⟨⟨by simpa using hj, ?_⟩, this⟩
                    rw [getD_get (by simpa using hj)]
                    simp only [List.get_eq_getElem]
                    rw [List.getElem_set_ne (Ne.symm hji)]
                    exact hq
            · cases hset
          · cases hset
    | _ => simp [okP] at hok
end Go.Ev
end

section
set_option linter.all false
set_option linter.unusedSimpArgs false
set_option linter.unusedVariables false
namespace Go.Ev
open Go

/-- A root of memory that a call may write: a variable (vec = false), or a slice that nobody else holds; par: it was handed in. g: how often its key was laid; ver: how often a slice's header inside it was; wr: how often it was written. -/
structure Root where
  vec : Bool
  par : Bool
  g : Nat
  ver : Nat
  wr : Nat
  T : Ty
  x : T.den

/-- What is known of one value: its content; a pointer into a root; the header of a slice that is owned; a part of such a slice, or of an array; a struct's value with slices that are owned; a pointer to what nobody writes. -/
inductive A where
  | val (T : Ty) (x : T.den)
  | ref (k g ver : Nat) (p : Path)
  | hdr (k g ver : Nat) (p : Path)
  | lsl (k g ver : Nat) (p : Path) (lo n : Nat)
  | view (k g wr : Nat) (p : Path)
  | pin (T : Ty) (x : T.den)

inductive V where
  | a (x : A)
  | tup (l : List A)
  | clo (f : Nat) (l : List A)

def lk {α : Type} : List (Nat × α) → Nat → Option α
  | [], _ => none
  | (k, v) :: l, t => if Nat.beq k t then some v else lk l t

def ins {α : Type} : List (Nat × α) → Nat → α → List (Nat × α)
  | [], t, u => [(t, u)]
  | (k, v) :: l, t, u => if Nat.beq k t then (t, u) :: l else if Nat.blt t k then (t, u) :: (k, v) :: l else (k, v) :: ins l t u

def del {α : Type} : List (Nat × α) → Nat → List (Nat × α)
  | [], _ => []
  | (k, v) :: l, t => if Nat.beq k t then del l t else (k, v) :: del l t

theorem lk_ins {α : Type} (l : List (Nat × α)) (t : Nat) (u : α) (s : Nat) : lk (ins l t u) s = if s = t then some u else lk l s := by
  induction l with
  | nil => simp only [ins, lk, Nat.beq_eq]; grind
  | cons x l ih =>
    obtain ⟨k, v⟩ := x
    simp only [ins, Nat.beq_eq]
    split
    · simp only [lk, Nat.beq_eq]; grind
    · split
      · simp only [lk, Nat.beq_eq]; grind
      · simp only [lk, Nat.beq_eq, ih]; grind

theorem lk_del {α : Type} (l : List (Nat × α)) (t : Nat) (s : Nat) : lk (del l t) s = if s = t then none else lk l s := by
  induction l with
  | nil => simp [del, lk]
  | cons x l ih =>
    obtain ⟨k, v⟩ := x
    simp only [del, Nat.beq_eq]
    split
    · rw [ih]; simp only [lk, Nat.beq_eq]; grind
    · simp only [lk, Nat.beq_eq, ih]; grind

structure St where
  fr : List (Nat × V)
  mem : List (Nat × Root)

/-- The value of cells. -/
def conc (T : Ty) (cs : List Value) : Value := if T.agg then .agg cs.toArray else cs.headD undef

/-- Does the way lead through a header that stands in memory? -/
def crossR (vec : Bool) (T : Ty) (p : Path) : Bool :=
  if vec then (match T, p with | .own E, .idx _ :: q => crosses E q | _, _ => false) else crosses T p

/-- The header at a place. -/
def hdrAt (w : World) (pl : Pl) (r : Root) : Path → Option Value
  | [] => pl.hdr w
  | p => match Adr w r.T pl p with | some (b, o) => w.cell? ⟨b, o, none⟩ | none => none

section
variable (eT : TypeId) (w : World) (J : Nat → Prop) (M : Nat → Option Root) (anc : Nat → Pl)

/-- The root of a pointer, if that is still good. -/
def RefOk (k g : Nat) (c : Root → Prop) : Prop := ∃ r, M k = some r ∧ g ≤ r.g ∧ (r.g = g → c r)

def ARel : A → Value → Prop
  | .val T x, v => ∃ cs, Cn eT w J T x cs [] ∧ v = conc T cs
  | .ref k g ver p, v => RefOk M k g fun r => ver ≤ r.ver ∧ ((crossR r.vec r.T p = true → r.ver = ver) →
      okP r.T r.x p ∧ ∃ b o, Adr w r.T (anc k) p = some (b, o) ∧ v = .pointer (some ⟨b, o, none⟩))
  | .hdr k g ver p, v => RefOk M k g fun r => ver ≤ r.ver ∧ ((¬(r.vec = true ∧ p = []) → r.ver = ver) →
      okP r.T r.x p ∧ (¬(r.vec = true ∧ p = []) → ∃ E, typeAt r.T p = .own E) ∧ hdrAt w (anc k) r p = some v)
  | .lsl k g ver p lo n, v => RefOk M k g fun r => ver ≤ r.ver ∧ ((crossR r.vec r.T (p ++ [.idx lo]) = true → r.ver = ver) →
      ∃ a cap, v = .slice a n cap ∧ n ≤ cap ∧ (∀ j, j < n → okP r.T r.x (p ++ [.idx (lo + j)])) ∧
        (0 < n → ∃ b o, Adr w r.T (anc k) (p ++ [.idx lo]) = some (b, o) ∧ a = some ⟨b, o, none⟩))
  | .view k g wr p, v => RefOk M k g fun r => wr ≤ r.wr ∧ (r.wr = wr →
      okP r.T r.x p ∧ ∃ b o, Adr w r.T (anc k) p = some (b, o) ∧ v = conc (typeAt r.T p) (cellsAt w b o (typeAt r.T p).size))
  | .pin T x, v => ∃ b o, v = .pointer (some ⟨b, o, none⟩) ∧ J b ∧ Cn eT w J T x (cellsAt w b o T.size) []

def AsRel (l : List A) (vs : List Value) : Prop := vs.length = l.length ∧ ∀ i (h : i < l.length), ARel eT w J M anc l[i] (vs.getD i undef)

def VRel : V → Value → Prop
  | .a x, v => ARel eT w J M anc x v
  | .tup l, v => ∃ vs : List Value, v = .tuple vs.toArray ∧ AsRel eT w J M anc l vs
  | .clo f l, v => ∃ vs : List Value, v = .func (.func f) #[] vs.toArray ∧ AsRel eT w J M anc l vs

/-- A root as it stands: where it lies, and the rows that it owns. -/
def RootOk (r : Root) (pl : Pl) (fs : List Nat) : Prop :=
  ((∃ v, pl = .hd v ∧ r.vec = true ∧ r.T.size = 1) ∨ ∃ b, pl = .at b 0 ∧ r.vec = false ∧ ownB w b r.T.size) ∧
    ∃ fs', fs = pl.row ++ fs' ∧ Cn eT w J r.T r.x (pl.cells w r.T.size) fs'
end

/-- What a call was handed: the world that it began in, the rows that it may write of those that were there, and what nobody writes. -/
structure Gh where
  w0 : World
  W : Nat → Prop
  J0 : Nat → Prop
  pv : Nat → Option Value

/-- The memory of a call. -/
structure MOk (eT : TypeId) (G : Gh) (M : Nat → Option Root) (w : World) (J : Nat → Prop) (anc : Nat → Pl) (fp : Nat → List Nat) : Prop where
  roots : ∀ k r, M k = some r → RootOk eT w J r (anc k) (fp k)
  nodup : ∀ k r, M k = some r → (fp k).Nodup
  apart : ∀ k k' r r', k ≠ k' → M k = some r → M k' = some r' → ∀ b, b ∈ fp k → b ∉ fp k'
  owned : ∀ k r, M k = some r → ∀ b, b ∈ fp k → ¬ J b ∧ b < w.heap.size ∧ (G.w0.heap.size ≤ b ∨ (r.par = true ∧ G.W b))
  jlt : ∀ b, J b → b < w.heap.size
  jw : ∀ b, J b → ¬ G.W b
  j0 : ∀ b, G.J0 b → J b
  jnew : ∀ b, J b → G.J0 b ∨ G.w0.heap.size ≤ b
  os : w.os = G.w0.os
  tape : w.tape = G.w0.tape
  output : w.output = G.w0.output
  size : G.w0.heap.size ≤ w.heap.size
  block : ∀ b, b < G.w0.heap.size → ¬ G.W b → w.heap[b]? = G.w0.heap[b]?
  wlt : ∀ b, G.W b → b < G.w0.heap.size

structure RelG (eT : TypeId) (G : Gh) (st : St) (a : Act) (w : World) (J : Nat → Prop) (anc : Nat → Pl) (fp : Nat → List Nat) : Prop where
  slots : ∀ t v, lk st.fr t = some v → t < a.tmps.size ∧ VRel eT w J (lk st.mem) anc v (a.tmps.getD t undef)
  mok : MOk eT G (lk st.mem) w J anc fp
  defers : a.defers = []

def Rel (eT : TypeId) (G : Gh) (st : St) (a : Act) (w : World) : Prop := ∃ J anc fp, RelG eT G st a w J anc fp
end Go.Ev
end

section
set_option linter.all false
set_option linter.unusedSimpArgs false
set_option linter.unusedVariables false
namespace Go.Ev
open Go

def upd {α : Type} (f : Nat → α) (k : Nat) (v : α) : Nat → α := fun s => if s = k then v else f s
theorem upd_same {α : Type} (f : Nat → α) (k : Nat) (v : α) : upd f k v k = v := by simp [upd]
theorem upd_other {α : Type} (f : Nat → α) {k s : Nat} (v : α) (h : s ≠ k) : upd f k v s = f s := by simp [upd, h]
theorem lk_ins' {α : Type} (l : List (Nat × α)) (k : Nat) (v : α) : lk (ins l k v) = upd (lk l) k (some v) := funext fun s => lk_ins l k v s

section
variable {eT : TypeId} {G : Gh} {M M' : Nat → Option Root} {w w' : World} {J J' : Nat → Prop} {anc anc' : Nat → Pl} {fp fp' : Nat → List Nat}

/-- What the pointers into a root that are still good lean on. -/
structure Stay (w w' : World) (r r' : Root) (pl pl' : Pl) : Prop where
  vec : r'.vec = r.vec
  ver : r.ver ≤ r'.ver
  wr : r.wr ≤ r'.wr
  cross : ∀ p, crossR r'.vec r'.T p = crossR r.vec r.T p
  ref : ∀ p, (crossR r.vec r.T p = true → r'.ver = r.ver) → okP r.T r.x p → okP r'.T r'.x p ∧ Adr w' r'.T pl' p = Adr w r.T pl p
  hdr : ∀ p v, (¬(r.vec = true ∧ p = []) → r'.ver = r.ver) → okP r.T r.x p → (¬(r.vec = true ∧ p = []) → ∃ E, typeAt r.T p = .own E) → hdrAt w pl r p = some v →
    okP r'.T r'.x p ∧ (¬(r.vec = true ∧ p = []) → ∃ E, typeAt r'.T p = .own E) ∧ hdrAt w' pl' r' p = some v
  view : ∀ p b o, r'.wr = r.wr → okP r.T r.x p → Adr w r.T pl p = some (b, o) → okP r'.T r'.x p ∧ Adr w' r'.T pl' p = some (b, o) ∧ typeAt r'.T p = typeAt r.T p ∧ cellsAt w' b o (typeAt r.T p).size = cellsAt w b o (typeAt r.T p).size

theorem keepsA (hJ : ∀ b, J b → J' b ∧ w.heap[b]? = w'.heap[b]?)
    (hM : ∀ k r, M k = some r → ∃ r', M' k = some r' ∧ r.g ≤ r'.g ∧ (r'.g = r.g → Stay w w' r r' (anc k) (anc' k))) :
    ∀ x v, ARel eT w J M anc x v → ARel eT w' J' M' anc' x v := by
  intro x v h
  have lift : ∀ {k g : Nat} {c : Root → Prop} {c' : Root → Prop}, RefOk M k g c → (∀ r r', M' k = some r' → Stay w w' r r' (anc k) (anc' k) → c r → c' r') → RefOk M' k g c' := by
    rintro k g c c' ⟨r, h1, h2, h3⟩ hc
    obtain ⟨r', g1, g2, g3⟩ := hM k r h1
    refine ⟨r', g1, by omega, fun e => ?_⟩
    exact hc r r' g1 (g3 (by omega)) (h3 (by omega))
  cases x with
  | val T x =>
    obtain ⟨cs, h1, h2⟩ := h
    exact ⟨cs, Cn_congr hJ (by simp) h1, h2⟩
  | pin T x =>
    obtain ⟨b, o, h1, h2, h3⟩ := h
    refine ⟨b, o, h1, (hJ b h2).1, ?_⟩
    rw [← cellsAt_congr (hJ b h2).2]
    exact Cn_congr hJ (by simp) h3
  | ref k g ver p =>
    refine lift h fun r r' _ S hc => ⟨Nat.le_trans hc.1 S.ver, fun hv => ?_⟩
    have hv' : crossR r.vec r.T p = true → r'.ver = ver := fun hx => hv (by rw [S.cross]; exact hx)
    obtain ⟨h1, b, o, h2, h3⟩ := hc.2 (fun hx => by have := hv' hx; have := S.ver; have := hc.1; omega)
    obtain ⟨g1, g2⟩ := S.ref p (fun hx => by have := hv' hx; have := S.ver; have := hc.1; omega) h1
    exact ⟨g1, b, o, by rw [g2]; exact h2, h3⟩
  | hdr k g ver p =>
    refine lift h fun r r' _ S hc => ⟨Nat.le_trans hc.1 S.ver, fun hv => ?_⟩
    rw [S.vec] at hv
    obtain ⟨h1, h2, h3⟩ := hc.2 (fun hx => by have := hv hx; have := S.ver; have := hc.1; omega)
    have := S.hdr p v (fun hx => by have := hv hx; have := S.ver; have := hc.1; omega) h1 h2 h3
    rw [S.vec]; exact this
  | lsl k g ver p lo n =>
    refine lift h fun r r' _ S hc => ⟨Nat.le_trans hc.1 S.ver, fun hv => ?_⟩
    rw [S.cross] at hv
    obtain ⟨a, cap, h1, h2, h3, h4⟩ := hc.2 (fun hx => by have := hv hx; have := S.ver; have := hc.1; omega)
    have hcr : ∀ j, crossR r.vec r.T (p ++ [.idx (lo + j)]) = crossR r.vec r.T (p ++ [.idx lo]) := by
      have key : ∀ (p : Path) (T : Ty) (i j : Nat), crosses T (p ++ [.idx i]) = crosses T (p ++ [.idx j]) := by
        intro p
        induction p with
        | nil => intro T i j; cases T <;> simp [crosses] <;> (rename_i T; cases T <;> rfl)
        | cons s p ih => intro T i j; cases T <;> cases s <;> simp only [List.cons_append, crosses] <;> first | exact ih _ _ _ | rfl
      intro j
      unfold crossR
      split
      · cases p with
        | nil => cases r.T <;> simp <;> (rename_i T; cases T <;> rfl)
        | cons s p => cases r.T <;> cases s <;> simp only [List.cons_append] <;> first | exact key _ _ _ _ | rfl
      · exact key _ _ _ _
    have hst : ∀ j, crossR r.vec r.T (p ++ [.idx (lo + j)]) = true → r'.ver = r.ver := fun j hx => by
      rw [hcr j] at hx; have := hv hx; have := S.ver; have := hc.1; omega
    refine ⟨a, cap, h1, h2, fun j hj => (S.ref _ (hst j) (h3 j hj)).1, fun hn => ?_⟩
    obtain ⟨b, o, h5, h6⟩ := h4 hn
    have h7 := (S.ref (p ++ [.idx lo]) (hst 0) (h3 0 hn)).2
    exact ⟨b, o, by rw [h7]; exact h5, h6⟩
  | view k g wr p =>
    refine lift h fun r r' _ S hc => ⟨Nat.le_trans hc.1 S.wr, fun hv => ?_⟩
    have h0 := S.wr
    obtain ⟨h1, b, o, h2, h3⟩ := hc.2 (by omega)
    obtain ⟨g1, g2, g3, g4⟩ := S.view p b o (by omega) h1 h2
    exact ⟨g1, b, o, g2, by rw [g3, g4]; exact h3⟩

theorem keepsV (hA : ∀ x v, ARel eT w J M anc x v → ARel eT w' J' M' anc' x v) : ∀ x v, VRel eT w J M anc x v → VRel eT w' J' M' anc' x v := by
  intro x v h
  cases x with
  | a x => exact hA x v h
  | tup l => obtain ⟨vs, h1, h2, h3⟩ := h; exact ⟨vs, h1, h2, fun i hi => hA _ _ (h3 i hi)⟩
  | clo f l => obtain ⟨vs, h1, h2, h3⟩ := h; exact ⟨vs, h1, h2, fun i hi => hA _ _ (h3 i hi)⟩

/-- A root whose rows stay. -/
theorem Stay.same {r : Root} {pl : Pl} {fs : List Nat} (h : RootOk eT w J r pl fs) (hn : fs.Nodup) (hf : ∀ b, b ∈ fs → w'.heap[b]? = w.heap[b]?) : Stay w w' r r pl pl := by
  obtain ⟨hp, fs', rfl, hc⟩ := h
  have hcells : pl.cells w' r.T.size = pl.cells w r.T.size := by
    cases pl with
    | «at» b o => exact cellsAt_congr (hf b (by simp [Pl.row])) _ _
    | hd v => rfl
  have hA := fun p (hok : okP r.T r.x p) => adr_congr (w' := w') p r.T r.x pl fs' hc hok hcells (fun b hb => hf b (by simp [hb]))
  have hlens : ∀ p b o, okP r.T r.x p → Adr w r.T pl p = some (b, o) → w'.heap[b]? = w.heap[b]? := by
    intro p b o hok ha
    have hd : ∀ v, pl = .hd v → ∃ E, r.T = .own E ∧ p ≠ [] := by
      rintro v rfl
      cases p with
      | nil => simp [Adr] at ha
      | cons s p =>
        cases hT : r.T with
        | own E => exact ⟨E, rfl, by simp⟩
        | _ => rw [hT] at ha; cases s <;> simp [Adr] at ha
    obtain ⟨b', o', l, f, r', L⟩ := lens p r.T r.x pl fs' hc hn hok hd
    have := L.adr; rw [ha] at this; cases this
    have hm := L.inRow
    refine hf b ?_
    rw [L.split]
    simp only [List.mem_append] at hm ⊢
    rcases hm with hm | hm
    · exact .inl hm
    · exact .inr (.inl (.inl hm))
  refine ⟨rfl, Nat.le_refl _, Nat.le_refl _, fun _ => rfl, fun p _ hok => ⟨hok, (hA p hok).1⟩, fun p v _ hok ht hv => ⟨hok, ht, ?_⟩, fun p b o _ hok ha => ⟨hok, by rw [(hA p hok).1]; exact ha, rfl, cellsAt_congr (hlens p b o hok ha) _ _⟩⟩
  cases p with
  | nil =>
    simp only [hdrAt] at hv ⊢
    cases pl with
    | hd v => exact hv
    | «at» b o =>
      simp only [Pl.hdr] at hv ⊢
      rw [← hv]; unfold World.cell?; simp only; rw [hf b (by simp [Pl.row])]
  | cons s p =>
    simp only [hdrAt] at hv ⊢
    rw [(hA _ hok).1]
    cases ha : Adr w r.T pl (s :: p) with
    | none => rw [ha] at hv; cases hv
    | some x =>
      obtain ⟨b, o⟩ := x
      rw [ha] at hv
      simp only at hv ⊢
      rw [← hv]; unfold World.cell?; simp only; rw [hlens _ b o hok ha]

theorem RootOk.congr {r : Root} {pl : Pl} {fs : List Nat} (hJ : ∀ b, J b → J' b ∧ w.heap[b]? = w'.heap[b]?) (hf : ∀ b, b ∈ fs → w.heap[b]? = w'.heap[b]?)
    (h : RootOk eT w J r pl fs) : RootOk eT w' J' r pl fs := by
  obtain ⟨hp, fs', rfl, hc⟩ := h
  refine ⟨?_, fs', rfl, ?_⟩
  · rcases hp with hp | ⟨b, rfl, h1, h2⟩
    · exact .inl hp
    · refine .inr ⟨b, rfl, h1, ?_⟩
      unfold ownB; rw [← hf b (by simp [Pl.row])]; exact h2
  · have : pl.cells w' r.T.size = pl.cells w r.T.size := by
      cases pl with
      | «at» b o => exact (cellsAt_congr (hf b (by simp [Pl.row])) _ _).symm
      | hd v => rfl
    rw [this]
    exact Cn_congr hJ (fun b hb => hf b (by simp [hb])) hc

/-- New rows come; what was there stays. -/
structure Grow (w w' : World) : Prop where
  os : w'.os = w.os
  tape : w'.tape = w.tape
  output : w'.output = w.output
  size : w.heap.size ≤ w'.heap.size
  block : ∀ b, b < w.heap.size → w'.heap[b]? = w.heap[b]?

theorem Grow.refl (w : World) : Grow w w := ⟨rfl, rfl, rfl, Nat.le_refl _, fun _ _ => rfl⟩
theorem Grow.trans {w w1 w2 : World} (h : Grow w w1) (k : Grow w1 w2) : Grow w w2 :=
  ⟨k.os.trans h.os, k.tape.trans h.tape, k.output.trans h.output, Nat.le_trans h.size k.size, fun b hb => (k.block b (Nat.lt_of_lt_of_le hb h.size)).trans (h.block b hb)⟩

theorem MOk.grow (h : MOk eT G M w J anc fp) (hg : Grow w w') : MOk eT G M w' J anc fp := by
  have hJ : ∀ b, J b → J b ∧ w.heap[b]? = w'.heap[b]? := fun b hb => ⟨hb, (hg.block b (h.jlt b hb)).symm⟩
  refine ⟨fun k r hk => (h.roots k r hk).congr hJ (fun b hb => (hg.block b (h.owned k r hk b hb).2.1).symm), h.nodup, h.apart, fun k r hk b hb => ?_, fun b hb => Nat.lt_of_lt_of_le (h.jlt b hb) hg.size, h.jw, h.j0, h.jnew, hg.os.trans h.os, hg.tape.trans h.tape, hg.output.trans h.output, Nat.le_trans h.size hg.size, fun b hb hW => ?_, h.wlt⟩
  · obtain ⟨h1, h2, h3⟩ := h.owned k r hk b hb
    exact ⟨h1, Nat.lt_of_lt_of_le h2 hg.size, h3⟩
  · rw [hg.block b (Nat.lt_of_lt_of_le hb h.size)]; exact h.block b hb hW

theorem MOk.grow_keeps (h : MOk eT G M w J anc fp) (hg : Grow w w') : ∀ x v, ARel eT w J M anc x v → ARel eT w' J M anc x v :=
  keepsA (fun b hb => ⟨hb, (hg.block b (h.jlt b hb)).symm⟩) fun k r hk =>
    ⟨r, hk, Nat.le_refl _, fun _ => Stay.same (h.roots k r hk) (h.nodup k r hk) (fun b hb => hg.block b (h.owned k r hk b hb).2.1)⟩

/-- A root is laid at a key, in the place of an elder one. -/
theorem MOk.add (h : MOk eT G M w J anc fp) {k : Nat} {r : Root} {pl : Pl} {fs : List Nat} (hr : RootOk eT w J r pl fs) (hn : fs.Nodup)
    (ha : ∀ k' r', k' ≠ k → M k' = some r' → ∀ b, b ∈ fs → b ∉ fp k') (ho : ∀ b, b ∈ fs → ¬ J b ∧ b < w.heap.size ∧ (G.w0.heap.size ≤ b ∨ (r.par = true ∧ G.W b))) :
    MOk eT G (upd M k (some r)) w J (upd anc k pl) (upd fp k fs) := by
  refine ⟨?_, ?_, ?_, ?_, h.jlt, h.jw, h.j0, h.jnew, h.os, h.tape, h.output, h.size, h.block, h.wlt⟩
  · intro k' r' hk
    by_cases e : k' = k
    · subst e; rw [upd_same] at hk; cases hk; rw [upd_same, upd_same]; exact hr
    · rw [upd_other _ _ e] at hk; rw [upd_other _ _ e, upd_other _ _ e]; exact h.roots k' r' hk
  · intro k' r' hk
    by_cases e : k' = k
    · subst e; rw [upd_same]; exact hn
    · rw [upd_other _ _ e] at hk; rw [upd_other _ _ e]; exact h.nodup k' r' hk
  · intro k1 k2 r1 r2 hne h1 h2 b hb
    by_cases e1 : k1 = k
    · subst e1
      rw [upd_same] at hb
      rw [upd_other _ _ (Ne.symm hne)] at h2 ⊢
      exact ha k2 r2 (Ne.symm hne) h2 b hb
    · rw [upd_other _ _ e1] at h1 hb
      by_cases e2 : k2 = k
      · subst e2; rw [upd_same]; intro hb2; exact ha k1 r1 e1 h1 b hb2 hb
      · rw [upd_other _ _ e2] at h2 ⊢; exact h.apart k1 k2 r1 r2 hne h1 h2 b hb
  · intro k' r' hk b hb
    by_cases e : k' = k
    · subst e; rw [upd_same] at hk hb; cases hk; exact ho b hb
    · rw [upd_other _ _ e] at hk hb; exact h.owned k' r' hk b hb

theorem MOk.add_keeps (h : MOk eT G M w J anc fp) {k : Nat} {r : Root} {pl : Pl} (hg : ∀ r0, M k = some r0 → r0.g < r.g) :
    ∀ x v, ARel eT w J M anc x v → ARel eT w J (upd M k (some r)) (upd anc k pl) x v :=
  keepsA (fun b hb => ⟨hb, rfl⟩) fun k' r' hk => by
    by_cases e : k' = k
    · subst e; exact ⟨r, upd_same _ _ _, Nat.le_of_lt (hg r' hk), fun e => by have := hg r' hk; omega⟩
    · exact ⟨r', by rw [upd_other _ _ e]; exact hk, Nat.le_refl _, fun _ => by rw [upd_other _ _ e]; exact Stay.same (h.roots k' r' hk) (h.nodup k' r' hk) (fun _ _ => rfl)⟩

/-- Rows that nobody owns are written no more. -/
theorem MOk.jext (h : MOk eT G M w J anc fp) {S : Nat → Prop} (hS : ∀ b, S b → b < w.heap.size ∧ ¬ G.W b ∧ G.w0.heap.size ≤ b ∧ ∀ k r, M k = some r → b ∉ fp k) :
    MOk eT G M w (fun b => J b ∨ S b) anc fp := by
  refine ⟨fun k r hk => (h.roots k r hk).congr (fun b hb => ⟨.inl hb, rfl⟩) (fun _ _ => rfl), h.nodup, h.apart, fun k r hk b hb => ?_, ?_, ?_, fun b hb => .inl (h.j0 b hb), ?_, h.os, h.tape, h.output, h.size, h.block, h.wlt⟩
  · obtain ⟨h1, h2, h3⟩ := h.owned k r hk b hb
    exact ⟨fun hc => hc.elim h1 (fun hs => (hS b hs).2.2.2 k r hk hb), h2, h3⟩
  · rintro b (hb | hb)
    · exact h.jlt b hb
    · exact (hS b hb).1
  · rintro b (hb | hb)
    · exact h.jw b hb
    · exact (hS b hb).2.1
  · rintro b (hb | hb)
    · exact h.jnew b hb
    · exact .inr (hS b hb).2.2.1

theorem MOk.jext_keeps (h : MOk eT G M w J anc fp) {S : Nat → Prop} : ∀ x v, ARel eT w J M anc x v → ARel eT w (fun b => J b ∨ S b) M anc x v :=
  keepsA (fun _ hb => ⟨.inl hb, rfl⟩) fun k r hk => ⟨r, hk, Nat.le_refl _, fun _ => Stay.same (h.roots k r hk) (h.nodup k r hk) (fun _ _ => rfl)⟩
end
end Go.Ev
end

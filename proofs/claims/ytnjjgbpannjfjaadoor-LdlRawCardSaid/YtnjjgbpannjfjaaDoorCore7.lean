/- A part of the proof of the claim: Core7. -/
import Derived.Test.YtnjjgbpannjfjaaDoorCore6
section
set_option linter.all false
set_option linter.unusedSimpArgs false
set_option linter.unusedVariables false
namespace Go.Ev
open Go
set_option linter.unusedVariables false
set_option linter.unusedSimpArgs false

/-- The operations that have to come ahead of an operation, by its own edges. -/
def edgesOf (o : Oper) : List Nat := (o.after.toList.filter (Region.binds .any)).map (·.on)

/-- The sets of those that have to come ahead, as numbers' bits. -/
def maskOf (t : List Nat) : List Nat → Nat
  | [] => 0
  | k :: es => Nat.lor (Nat.lor (Nat.shiftLeft 1 k) (t.getD k 0)) (maskOf t es)

/-- For every operation, those that have to come ahead of it. -/
def tabOf : List Oper → List Nat → List Nat
  | [], t => t
  | o :: l, t => tabOf l (t ++ [maskOf t (edgesOf o)])

def aheadOf (t : List Nat) (i j : Nat) : Bool := Nat.testBit (t.getD i 0) j

theorem maskOf_bit {t : List Nat} {j : Nat} : ∀ {es : List Nat}, Nat.testBit (maskOf t es) j = true ↔ ∃ k, k ∈ es ∧ (j = k ∨ Nat.testBit (t.getD k 0) j = true) := by
  intro es
  induction es with
  | nil => simp [maskOf]
  | cons k es ih =>
    have e1 : Nat.testBit (maskOf t (k :: es)) j = (Nat.testBit ((1 <<< k) ||| t.getD k 0) j || Nat.testBit (maskOf t es) j) := Nat.testBit_or _ _ _
    rw [e1, Nat.testBit_or, Nat.shiftLeft_eq, Nat.one_mul, Nat.testBit_two_pow]
    simp only [Bool.or_eq_true, decide_eq_true_eq, ih, List.mem_cons]
    constructor
    · rintro ((rfl | h) | ⟨q, hq, h⟩)
      · exact ⟨_, .inl rfl, .inl rfl⟩
      · exact ⟨_, .inl rfl, .inr h⟩
      · exact ⟨q, .inr hq, h⟩
    · rintro ⟨q, rfl | hq, h⟩
      · rcases h with h | h
        · exact .inl (.inl h.symm)
        · exact .inl (.inr h)
      · exact .inr ⟨q, hq, h⟩

theorem maskOf_congr {t t' : List Nat} : ∀ {es : List Nat}, (∀ k, k ∈ es → t.getD k 0 = t'.getD k 0) → maskOf t es = maskOf t' es := by
  intro es
  induction es with
  | nil => intro _; rfl
  | cons k es ih => intro h; simp only [maskOf]; rw [h k (by simp), ih (fun q hq => h q (by simp [hq]))]

def backB : List Oper → Nat → Bool
  | [], _ => true
  | o :: l, i => ((edgesOf o).all fun j => Nat.blt j i) && backB l (i + 1)

theorem edgeB_mem {ops : Array Oper} {i j : Nat} {o : Oper} (ho : ops[i]? = some o) : edgeB ops i j = true ↔ j ∈ edgesOf o := by
  unfold edgeB edgesOf
  rw [ho]
  simp only [Array.any_eq_true', List.mem_map, List.mem_filter, Bool.and_eq_true, Nat.beq_eq, Array.mem_toList_iff]
  constructor
  · rintro ⟨e, he, hb, rfl⟩; exact ⟨e, ⟨he, hb⟩, rfl⟩
  · rintro ⟨e, ⟨he, hb⟩, rfl⟩; exact ⟨e, he, hb, rfl⟩

theorem tabOf_old : ∀ (l : List Oper) (t : List Nat) (i : Nat), i < t.length → (tabOf l t).getD i 0 = t.getD i 0 := by
  intro l
  induction l with
  | nil => intro t i _; rfl
  | cons o l ih =>
    intro t i h
    simp only [tabOf]
    rw [ih _ i (by simp; omega)]
    simp [List.getD_eq_getElem?_getD, List.getElem?_append, h]

theorem tabOf_spec : ∀ (l : List Oper) (t : List Nat), backB l t.length = true → ∀ (i : Nat) (o : Oper), l[i]? = some o → (tabOf l t).getD (t.length + i) 0 = maskOf (tabOf l t) (edgesOf o) := by
  intro l
  induction l with
  | nil => intro t _ i o h; simp at h
  | cons o0 l ih =>
    intro t hb i o h
    simp only [backB, Bool.and_eq_true] at hb
    have hlen : (t ++ [maskOf t (edgesOf o0)]).length = t.length + 1 := by simp
    cases i with
    | zero =>
      simp at h; subst h
      simp only [tabOf, Nat.add_zero]
      rw [tabOf_old _ _ _ (by rw [hlen]; omega)]
      have e1 : (t ++ [maskOf t (edgesOf o0)]).getD t.length 0 = maskOf t (edgesOf o0) := by
        simp [List.getD_eq_getElem?_getD]
      rw [e1]
      refine maskOf_congr fun k hk => ?_
      have := List.all_eq_true.1 hb.1 k hk
      rw [Nat.blt_eq] at this
      rw [tabOf_old _ _ _ (by rw [hlen]; omega)]
      simp [List.getD_eq_getElem?_getD, List.getElem?_append, this]
    | succ i =>
      have := ih (t ++ [maskOf t (edgesOf o0)]) (by rw [hlen]; exact hb.2) i o (by simpa using h)
      rw [hlen] at this
      simp only [tabOf]
      rw [show t.length + (i + 1) = t.length + 1 + i by omega]
      exact this

theorem tabOf_length : ∀ (l : List Oper) (t : List Nat), (tabOf l t).length = t.length + l.length := by
  intro l
  induction l with
  | nil => intro t; simp [tabOf]
  | cons o l ih => intro t; simp only [tabOf]; rw [ih]; simp; omega

theorem memB_mem {k : Nat} {l : List Nat} : memB k l = true ↔ k ∈ l := by
  unfold memB
  rw [List.any_eq_true]
  constructor
  · rintro ⟨x, hx, hb⟩; rw [Nat.beq_eq] at hb; subst hb; exact hx
  · intro h; exact ⟨k, h, Nat.beq_refl k⟩

theorem back_edge : ∀ (l : List Oper) (i : Nat), backB l i = true → ∀ (n : Nat) (o : Oper), l[n]? = some o → ∀ j, j ∈ edgesOf o → j < i + n := by
  intro l
  induction l with
  | nil => intro i _ n o h; simp at h
  | cons o0 l ih =>
    intro i hb n o h j hj
    simp only [backB, Bool.and_eq_true] at hb
    cases n with
    | zero =>
      simp at h; subst h
      have := List.all_eq_true.1 hb.1 j hj
      rw [Nat.blt_eq] at this; omega
    | succ n => have := ih (i + 1) hb.2 n o (by simpa using h) j hj; omega

/-- What the table says is so. -/
theorem ahead_sound {ops : Array Oper} (hb : backB ops.toList 0 = true) : ∀ i j, aheadOf (tabOf ops.toList []) i j = true → ∀ on : Nat → Bool,
    (∀ i' j', i' < ops.size → on i' = true → edgeB ops i' j' = true → on j' = true) → (∀ j', edgeB ops i j' = true → on j' = true) → on j = true := by
  intro i
  induction i using Nat.strongRecOn with
  | _ i ih =>
    intro j hj on hcl hi
    unfold aheadOf at hj
    by_cases hlt : i < ops.size
    · have ho : ops[i]? = some ops[i] := Array.getElem?_eq_getElem hlt
      have hsp := tabOf_spec ops.toList [] (by simpa using hb) i ops[i] (by simp [hlt])
      simp only [List.length_nil, Nat.zero_add] at hsp
      rw [hsp] at hj
      obtain ⟨k, hk, hjk⟩ := maskOf_bit.1 hj
      have hok := hi k ((edgeB_mem ho).2 hk)
      have hki : k < i := by have := back_edge ops.toList 0 hb i ops[i] (by simp [hlt]) k hk; omega
      rcases hjk with rfl | hjk
      · exact hok
      · exact ih k hki j hjk on hcl (fun j' hj' => hcl k j' (by omega) hok hj')
    · rw [List.getD_eq_getElem?_getD, List.getElem?_eq_none (by rw [tabOf_length]; simp; omega)] at hj
      simp at hj
end Go.Ev
end

section
set_option linter.all false
set_option linter.unusedSimpArgs false
set_option linter.unusedVariables false
namespace Go.Ev
open Go
set_option linter.unusedVariables false
set_option linter.unusedSimpArgs false

theorem halfB_spec {x y : Ent} (h : halfB x y = true) : (∀ t, x.slot = some t → t ∉ y.looks ∧ y.slot ≠ some t) ∧ ∀ k, k ∈ x.keys → k ∉ y.reads ∧ (∀ q, q < 8 → k ≠ y.dk + q) ∧ k ∉ y.keys := by
  simp only [halfB, Bool.and_eq_true, Bool.not_eq_true', List.all_eq_true] at h
  obtain ⟨⟨h1, h2⟩, h3⟩ := h
  have nm : ∀ {k : Nat} {l : List Nat}, memB k l = false → k ∉ l := fun hh hm => by rw [memB_mem.2 hm] at hh; cases hh
  refine ⟨fun t ht => ?_, fun k hk => ?_⟩
  · rw [ht] at h1 h2
    refine ⟨nm h1, fun he => ?_⟩
    rw [he] at h2
    simp [slotEq, Nat.beq_refl] at h2
  · obtain ⟨⟨g1, g2⟩, g3⟩ := h3 k hk
    refine ⟨nm g1, fun q hq e => ?_, nm g3⟩
    have : inDk k y.dk = true := by simp only [inDk, Bool.and_eq_true, Nat.ble_eq, Nat.blt_eq]; omega
    rw [this] at g2; cases g2

def dstB (N : Nat) (kp : List Nat) (l : List Oper) : Bool := l.all fun o => match o.dst with | some d => Nat.blt d N && !(memB d kp) | none => true

/-- A region. -/
def regionA {R : Type} (E : Env) (N : Nat) (ops : Array Oper) (draw : Bool) (st : St) (κ : St → Option R) : Option R :=
  if dstB N E.kp ops.toList then
    if draw then (if backB ops.toList 0 then goA E ops true (aheadOf (tabOf ops.toList [])) ops.toList 0 [] st κ else none)
    else goA E ops false (fun _ _ => true) ops.toList 0 [] st κ
  else none

section
variable {R : Type} {E : Env} {G : Gh} {N : Nat} {ops : Array Oper}

theorem slotB_iff {e : Eff} {t : Nat} : e.slotB t = true ↔ e.dst = some t := by
  unfold Eff.slotB
  cases e.dst with
  | none => simp
  | some d => simp
theorem keyB_iff {e : Eff} {k : Nat} : e.keyB k = true ↔ k ∈ e.us.map (·.1) := by
  unfold Eff.keyB
  rw [List.any_eq_true, List.mem_map]
  constructor
  · rintro ⟨u, hu, hb⟩; rw [Nat.beq_eq] at hb; exact ⟨u, hu, hb⟩
  · rintro ⟨u, hu, rfl⟩; exact ⟨u, hu, Nat.beq_refl _⟩

theorem rel_drew {eT : TypeId} {S : Ab} {a : Act} {w : World} (h : RelA eT G N S a w) : RelA eT G N S a { w with drawn := w.drawn + 1 } := by
  obtain ⟨J, anc, fp, hF, m, hd, hs⟩ := h
  have hg : Grow w { w with drawn := w.drawn + 1 } := ⟨rfl, rfl, rfl, Nat.le_refl _, fun _ _ => rfl⟩
  exact ⟨J, anc, fp, fun t v ht => ⟨(hF t v ht).1, keepsV (m.grow_keeps hg) _ _ (hF t v ht).2⟩, m.grow hg, hd, hs⟩

theorem region_ok (hE : EnvOk E G) (hmix : E.P.follows .mixedOrders = true) {id : Nat} {draw : Bool} {st : St} {κ : St → Option R} {r : R} (h : regionA E N ops draw st κ = some r) {a : Act} {w : World} (hr : RelA E.eT G N st.ab a w) {Q : Exit → Act → World → Prop}
    (hQ : ∀ st' a' w', κ st' = some r → RelA E.eT G N st'.ab a' w' → Q .normal a' w') : (Code.region id ops draw).wp E.P Q a w := by
  unfold regionA at h
  split at h
  · rename_i hdst
    have hd : ∀ (i : Nat) (o : Oper) (d : Nat), ops[i]? = some o → o.dst = some d → d < N ∧ G.pv d = none := by
      intro i o d ho hd
      have := List.all_eq_true.1 hdst o (by
        obtain ⟨hi, hoo⟩ := Array.getElem?_eq_some_iff.1 ho
        rw [← hoo]; exact Array.getElem_mem_toList hi)
      rw [hd] at this
      simp only [Bool.and_eq_true, Nat.blt_eq, Bool.not_eq_true'] at this
      refine ⟨this.1, ?_⟩
      cases hv : G.pv d with
      | none => rfl
      | some v => have := memB_mem.2 (hE.kept d v hv); simp_all
    have mk : ∀ {draw : Bool} {ahead : Nat → Nat → Bool}, RunFrom E ops draw ahead κ r ops.toList 0 [] st → ∃ es st', κ st' = some r ∧ st'.ab = overlay es (fun _ => true) st.ab ops.size ∧ Run E G N ops st.ab es ∧
        (draw = true → ∀ (m n : Nat) (o o' : Oper) (e e' : Eff), m < n → ops[m]? = some o → es[m]? = some e → ops[n]? = some o' → es[n]? = some e' →
          ahead n m = true ∨ apartB (entAt ops o (overlay es (fun _ => true) st.ab m) e) (entAt ops o' (overlay es (fun _ => true) st.ab n) e') = true) := by
      rintro draw ahead ⟨es, st', k1, k2, k3, k4, k5⟩
      refine ⟨es, st', k1, by rw [k3, Array.length_toList], ⟨by rw [k2, Array.length_toList], fun i o e ho he => k4 i o e (by simpa using ho) he, hd⟩, fun hdr m n o o' e e' hmn h1 h2 h3 h4 => ?_⟩
      have := (k5 hdr).2 m n o o' e e' hmn (by simpa using h1) h2 (by simpa using h3) h4
      simpa using this
    split at h
    · rename_i hdr
      subst hdr
      split at h
      · rename_i hb
        obtain ⟨es, st', k1, k3, hrun, hsep⟩ := mk (goA_ok hE.nat _ _ _ _ h)
        refine wp_region_any hmix (any_ok hE hrun (ahead := aheadOf (tabOf ops.toList [])) ⟨ahead_sound hb, fun i j hi hej => ?_, fun i j o o' e e' hij hna h1 h2 h3 h4 => ?_⟩ (fun a' w' hrel => hQ st' a' w' k1 (by rw [k3]; exact hrel)) _ _ _ _ (by simp) (Nat.le_trans (List.length_filter_le _ _) (by simp)) ?_ ?_)
        · have := back_edge ops.toList 0 hb i ops[i] (by simp [hi]) j ((edgeB_mem (Array.getElem?_eq_getElem hi)).1 hej)
          omega
        · have hap := (hsep rfl i j o o' e e' hij h1 h3 h2 h4).resolve_left (by rw [hna]; simp)
          simp only [apartB, Bool.and_eq_true] at hap
          obtain ⟨p1, p2⟩ := halfB_spec hap.1
          obtain ⟨q1, q2⟩ := halfB_spec hap.2
          have ed := (hrun.loc i o e h1 h3).1
          have ed' := (hrun.loc j o' e' h2 h4).1
          have nslot : ∀ {e : Eff} {t : Nat}, e.dst ≠ some t → e.slotB t = false := fun {e t} hne => by cases hb : e.slotB t with
            | false => rfl
            | true => exact absurd (slotB_iff.1 hb) hne
          have nkey : ∀ {e : Eff} {k : Nat}, k ∉ e.us.map (·.1) → e.keyB k = false := fun {e k} hne => by cases hb : e.keyB k with
            | false => rfl
            | true => exact absurd (keyB_iff.1 hb) hne
          refine ⟨fun t ht => ?_, fun t ht => ?_, fun k hk => ?_, fun k hk => ?_⟩
          · have := p1 t (by rw [← slotB_iff.1 ht]; exact ed.symm); exact ⟨this.1, nslot (by rw [ed']; exact this.2)⟩
          · have := q1 t (by rw [← slotB_iff.1 ht]; exact ed'.symm); exact ⟨this.1, nslot (by rw [ed]; exact this.2)⟩
          · have := p2 k (keyB_iff.1 hk); exact ⟨this.1, this.2.1, nkey this.2.2⟩
          · have := q2 k (keyB_iff.1 hk); exact ⟨this.1, this.2.1, nkey this.2.2⟩
        · intro i j hi hl
          simp [Array.getD_eq_getD_getElem?, hi] at hl
        · have : overlay es (fun j => (Array.replicate ops.size false).getD j false) st.ab ops.size = st.ab := by
            have e0 : ∀ n, overlay es (fun j => (Array.replicate ops.size false).getD j false) st.ab n = st.ab := by
              intro n
              induction n with
              | zero => rfl
              | succ n ih =>
                have : (Array.replicate ops.size false).getD n false = false := by
                  simp [Array.getD_eq_getD_getElem?, Array.getElem?_replicate]; split <;> rfl
                simp only [overlay, this, Bool.false_eq_true, if_false]
                rw [ih]; cases es[n]? <;> rfl
            exact e0 _
          rw [this]; exact rel_drew hr
      · cases h
    · rename_i hdr
      have hdr : draw = false := by cases draw <;> simp_all
      subst hdr
      obtain ⟨es, st', k1, k3, hrun, _⟩ := mk (goA_ok hE.nat _ _ _ _ h)
      refine wp_region ?_
      have := run_ok hE hrun (Q := Q) (fun a' w' hrel => hQ st' a' w' k1 (by rw [k3]; exact hrel)) ops.size (Nat.le_refl _) a w (by rw [Nat.sub_self]; exact hr)
      rw [Nat.sub_self, ← List.range_eq_range'] at this
      exact this
  · cases h
end
end Go.Ev
end

section
set_option linter.all false
set_option linter.unusedSimpArgs false
set_option linter.unusedVariables false
namespace Go.Ev
open Go
set_option linter.unusedVariables false
set_option linter.unusedSimpArgs false

/-! What is known is brought to its plain form before the next step looks at it (the kernel would else reckon it anew each time). -/
/-- A choice of the run's own (never one of the text's: so the kernel tells them apart by their heads). -/
def ifB {α : Type} (b : Bool) (x y : α) : α := match b with | true => x | false => y
theorem ifB_eq {α : Type} (b : Bool) (x y : α) : ifB b x y = bif b then x else y := by cases b <;> rfl

section
variable {R : Type}

def fB (b : Bool) (k : Bool → Option R) : Option R := match b with | true => k true | false => k false
def fN (n : Nat) (k : Nat → Option R) : Option R := match n with | 0 => k 0 | m + 1 => k (m + 1)
def fTV (T : Ty) (x : T.den) (k : (T : Ty) → T.den → Option R) : Option R :=
  match T, x with
  | .int i, x => k (.int i) x
  | .bool, x => k .bool x
  | .str, x => k .str x
  | .err, x => k .err x
  | .nil, x => k .nil x
  | .slice T, x => k (.slice T) x
  | .own T, x => k (.own T) x
  | .arr n T, x => k (.arr n T) x
  | .unit, x => k .unit x
  | .pair A B, x => k (.pair A B) x
  | .dead, x => k .dead x
def fP : Path → (Path → Option R) → Option R
  | [], k => k []
  | .fst :: p, k => fP p fun p => k (.fst :: p)
  | .snd :: p, k => fP p fun p => k (.snd :: p)
  | .idx i :: p, k => fP p fun p => k (.idx i :: p)
def fRoot (r : Root) (k : Root → Option R) : Option R :=
  match r with
  | ⟨vec, par, g, ver, wr, T, x⟩ => fB vec fun vec => fB par fun par => fN g fun g => fN ver fun ver => fN wr fun wr => fTV T x fun T x => k ⟨vec, par, g, ver, wr, T, x⟩
def fA (a : A) (k : A → Option R) : Option R :=
  match a with
  | .val T x => fTV T x fun T x => k (.val T x)
  | .ref a g ver p => fN a fun a => fN g fun g => fN ver fun ver => fP p fun p => k (.ref a g ver p)
  | .hdr a g ver p => fN a fun a => fN g fun g => fN ver fun ver => fP p fun p => k (.hdr a g ver p)
  | .lsl a g ver p lo n => fN a fun a => fN g fun g => fN ver fun ver => fP p fun p => k (.lsl a g ver p lo n)
  | .view a g wr p => fN a fun a => fN g fun g => fN wr fun wr => fP p fun p => k (.view a g wr p)
  | .pin T x => fTV T x fun T x => k (.pin T x)
def fAs : List A → (List A → Option R) → Option R
  | [], k => k []
  | a :: l, k => fA a fun a => fAs l fun l => k (a :: l)
def fV (v : V) (k : V → Option R) : Option R :=
  match v with
  | .a x => fA x fun x => k (.a x)
  | .tup l => fAs l fun l => k (.tup l)
  | .clo f l => fN f fun f => fAs l fun l => k (.clo f l)
def fOV (v : Option V) (k : Option V → Option R) : Option R := match v with | none => k none | some v => fV v fun v => k (some v)
def fUs : List (Nat × Root) → (List (Nat × Root) → Option R) → Option R
  | [], k => k []
  | (a, r) :: l, k => fN a fun a => fRoot r fun r => fUs l fun l => k ((a, r) :: l)
def fFr : List (Nat × V) → (List (Nat × V) → Option R) → Option R
  | [], k => k []
  | (a, v) :: l, k => fN a fun a => fV v fun v => fFr l fun l => k ((a, v) :: l)
def fSt (st : St) (k : St → Option R) : Option R := match st with | ⟨fr, mem⟩ => fFr fr fun fr => fUs mem fun mem => k ⟨fr, mem⟩
def fNs : List Nat → (List Nat → Option R) → Option R
  | [], k => k []
  | a :: l, k => fN a fun a => fNs l fun l => k (a :: l)
def fON (d : Option Nat) (k : Option Nat → Option R) : Option R := match d with | none => k none | some d => k (some d)
def fEnt (e : Ent) (k : Ent → Option R) : Option R :=
  match e with
  | ⟨slot, keys, looks, reads, dk⟩ => fON slot fun slot => fNs keys fun keys => fNs looks fun looks => fNs reads fun reads => fN dk fun dk => k ⟨slot, keys, looks, reads, dk⟩

def insK {α : Type} : List (Nat × α) → Nat → α → (List (Nat × α) → Option R) → Option R
  | [], t, u, k => k [(t, u)]
  | (a, v) :: l, t, u, k => ifB (Nat.beq a t) (k ((t, u) :: l)) (ifB (Nat.blt t a) (k ((t, u) :: (a, v) :: l)) (insK l t u fun l => k ((a, v) :: l)))
def delK {α : Type} : List (Nat × α) → Nat → (List (Nat × α) → Option R) → Option R
  | [], _, k => k []
  | (a, v) :: l, t, k => ifB (Nat.beq a t) (delK l t k) (delK l t fun l => k ((a, v) :: l))
def insAllK : List (Nat × Root) → List (Nat × Root) → (List (Nat × Root) → Option R) → Option R
  | m, [], k => k m
  | m, (a, r) :: us, k => insK m a r fun m => insAllK m us k
def afterK (st : St) (dst : Option Nat) (v : Option V) (us : List (Nat × Root)) (k : St → Option R) : Option R :=
  insAllK st.mem us fun mem =>
    match dst with
    | none => k ⟨st.fr, mem⟩
    | some d => match v with | some x => insK st.fr d x fun fr => k ⟨fr, mem⟩ | none => delK st.fr d fun fr => k ⟨fr, mem⟩

theorem fB_eq (b : Bool) (k : Bool → Option R) : fB b k = k b := by cases b <;> rfl
theorem fN_eq (n : Nat) (k : Nat → Option R) : fN n k = k n := by cases n <;> rfl
theorem fTV_eq (T : Ty) (x : T.den) (k : (T : Ty) → T.den → Option R) : fTV T x k = k T x := by cases T <;> rfl
theorem fP_eq : ∀ (p : Path) (k : Path → Option R), fP p k = k p := by
  intro p
  induction p with
  | nil => intro k; rfl
  | cons s p ih => intro k; cases s <;> simp only [fP, ih]
theorem fRoot_eq (r : Root) (k : Root → Option R) : fRoot r k = k r := by
  obtain ⟨vec, par, g, ver, wr, T, x⟩ := r
  simp only [fRoot, fB_eq, fN_eq, fTV_eq]
theorem fA_eq (a : A) (k : A → Option R) : fA a k = k a := by cases a <;> simp only [fA, fN_eq, fP_eq, fTV_eq]
theorem fAs_eq : ∀ (l : List A) (k : List A → Option R), fAs l k = k l := by
  intro l
  induction l with
  | nil => intro k; rfl
  | cons a l ih => intro k; simp only [fAs, fA_eq, ih]
theorem fV_eq (v : V) (k : V → Option R) : fV v k = k v := by cases v <;> simp only [fV, fA_eq, fAs_eq, fN_eq]
theorem fOV_eq (v : Option V) (k : Option V → Option R) : fOV v k = k v := by cases v <;> simp only [fOV, fV_eq]
theorem fUs_eq : ∀ (l : List (Nat × Root)) (k : List (Nat × Root) → Option R), fUs l k = k l := by
  intro l
  induction l with
  | nil => intro k; rfl
  | cons a l ih => intro k; obtain ⟨a, r⟩ := a; simp only [fUs, fN_eq, fRoot_eq, ih]
theorem fFr_eq : ∀ (l : List (Nat × V)) (k : List (Nat × V) → Option R), fFr l k = k l := by
  intro l
  induction l with
  | nil => intro k; rfl
  | cons a l ih => intro k; obtain ⟨a, r⟩ := a; simp only [fFr, fN_eq, fV_eq, ih]
theorem fSt_eq (st : St) (k : St → Option R) : fSt st k = k st := by obtain ⟨fr, mem⟩ := st; simp only [fSt, fFr_eq, fUs_eq]
theorem fNs_eq : ∀ (l : List Nat) (k : List Nat → Option R), fNs l k = k l := by
  intro l
  induction l with
  | nil => intro k; rfl
  | cons a l ih => intro k; simp only [fNs, fN_eq, ih]
theorem fON_eq (d : Option Nat) (k : Option Nat → Option R) : fON d k = k d := by cases d <;> rfl
theorem fEnt_eq (e : Ent) (k : Ent → Option R) : fEnt e k = k e := by obtain ⟨a, b, c, d, f⟩ := e; simp only [fEnt, fON_eq, fNs_eq, fN_eq]
theorem insK_eq {α : Type} : ∀ (l : List (Nat × α)) (t : Nat) (u : α) (k : List (Nat × α) → Option R), insK l t u k = k (ins l t u) := by
  intro l
  induction l with
  | nil => intro t u k; rfl
  | cons p l ih =>
    intro t u k
    obtain ⟨a, v⟩ := p
    simp only [insK, ins, ih, ifB_eq]
    cases Nat.beq a t <;> cases Nat.blt t a <;> rfl
theorem delK_eq {α : Type} : ∀ (l : List (Nat × α)) (t : Nat) (k : List (Nat × α) → Option R), delK l t k = k (del l t) := by
  intro l
  induction l with
  | nil => intro t k; rfl
  | cons p l ih =>
    intro t k
    obtain ⟨a, v⟩ := p
    simp only [delK, del, ih, ifB_eq]
    cases Nat.beq a t <;> rfl
theorem insAllK_eq : ∀ (us m : List (Nat × Root)) (k : List (Nat × Root) → Option R), insAllK m us k = k (insAll m us) := by
  intro us
  induction us with
  | nil => intro m k; rfl
  | cons u us ih => intro m k; obtain ⟨a, r⟩ := u; simp only [insAllK, insAll, insK_eq, ih]
theorem afterK_eq (st : St) (dst : Option Nat) (v : Option V) (us : List (Nat × Root)) (k : St → Option R) : afterK st dst v us k = k (st.after dst v us) := by
  unfold afterK
  rw [insAllK_eq]
  unfold St.after
  cases dst with
  | none => rfl
  | some d => cases v <;> simp only [insK_eq, delK_eq]

/-- Looked up. -/
def lkF {α : Type} : List (Nat × α) → Nat → Option α
  | [], _ => none
  | (k, v) :: l, t => ifB (Nat.beq k t) (some v) (lkF l t)
theorem lkF_eq {α : Type} : ∀ (l : List (Nat × α)), lkF l = lk l := by
  intro l
  induction l with
  | nil => rfl
  | cons p l ih => obtain ⟨k, v⟩ := p; funext t; simp only [lkF, lk, ih, ifB_eq]; cases Nat.beq k t <;> rfl

section
variable (E : Env) (ops : Array Oper) (draw : Bool) (ahead : Nat → Nat → Bool)

def stepK (o : Oper) (i : Nat) (log : List (Nat × Ent)) (st : St) (v : Option V) (us : List (Nat × Root)) (k : List (Nat × Ent) → St → Option R) : Option R :=
  fOV v fun v => fUs us fun us =>
    ifB draw (fEnt (⟨o.dst, us.map (·.1), slotsOf ops o, opKeys (lkF st.fr) o, dkey o⟩) fun e => ifB (entOk ahead i e log) (afterK st o.dst v us (k ((i, e) :: log))) none)
    (afterK st o.dst v us (k log))

def goF : List Oper → Nat → List (Nat × Ent) → St → (St → Option R) → Option R
  | [], _, _, st, κ => κ st
  | o :: l, i, log, st, κ =>
    let run (st : St) : Option R := opA E (lkF st.mem) (dkey o) (fun v us => stepK ops draw ahead o i log st v us fun log st => goF l (i + 1) log st κ) (lkF st.fr) o.op
    let pass (st : St) : Option R := stepK ops draw ahead o i log st (some (.tup [])) [] fun log st => goF l (i + 1) log st κ
    match o.guard with
    | none => run st
    | some (j, want) =>
      match (ops[j]?).bind (·.dst) with
      | some d =>
        match lkF st.fr d with
        | some (.a (.val .bool b)) =>
          bif b then insK st.fr d (.a (.val .bool true)) fun fr => (if want then run ⟨fr, st.mem⟩ else pass ⟨fr, st.mem⟩)
          else insK st.fr d (.a (.val .bool false)) fun fr => (if want then pass ⟨fr, st.mem⟩ else run ⟨fr, st.mem⟩)
        | some (.tup []) => pass st
        | _ => none
      | none => none

theorem goF_eq : ∀ (l : List Oper) (i : Nat) (log : List (Nat × Ent)) (st : St) (κ : St → Option R), goF E ops draw ahead l i log st κ = goA E ops draw ahead l i log st κ := by
  intro l
  induction l with
  | nil => intro i log st κ; rfl
  | cons o l ih =>
    intro i log st κ
    simp only [goF, goA, stepK, fOV_eq, fUs_eq, fEnt_eq, afterK_eq, insK_eq, lkF_eq, ih, ifB_eq]
    rfl

/-- A region. -/
def regionF (E : Env) (N : Nat) (ops : Array Oper) (draw : Bool) (st : St) (κ : St → Option R) : Option R :=
  if dstB N E.kp ops.toList then
    if draw then (if backB ops.toList 0 then goF E ops true (aheadOf (tabOf ops.toList [])) ops.toList 0 [] st κ else none)
    else goF E ops false (fun _ _ => true) ops.toList 0 [] st κ
  else none

theorem regionF_eq (E : Env) (N : Nat) (ops : Array Oper) (draw : Bool) (st : St) (κ : St → Option R) : regionF E N ops draw st κ = regionA E N ops draw st κ := by
  unfold regionF regionA
  simp only [goF_eq]
end
end
end Go.Ev
end

section
set_option linter.all false
set_option linter.unusedSimpArgs false
set_option linter.unusedVariables false
namespace Go.Ev
open Go
set_option linter.unusedVariables false
set_option linter.unusedSimpArgs false

/-- Typed values one behind the other. -/
def HL : List Ty → Type
  | [] => Unit
  | T :: l => T.den × HL l

def HL.tvs : (l : List Ty) → HL l → List TV
  | [], _ => []
  | T :: l, x => ⟨T, x.1⟩ :: HL.tvs l x.2

/-- A root's value seen as one of another type: nil slices as empty ones. -/
def Ty.coR (A B : Ty) (x : A.den) : Option B.den :=
  if h : A = B then some (cast (congrArg Ty.den h) x)
  else
    match A, B, x with
    | .pair A1 A2, .pair B1 B2, x =>
      match Ty.coR A1 B1 x.1, Ty.coR A2 B2 x.2 with
      | some a, some b => some (a, b)
      | _, _ => none
    | .nil, .slice T, _ => some []
    | .nil, .own T, _ => some []
    | _, _, _ => none

/-- What is kept of a slot where ways meet: a value (a hole); a pointer, a header, a part of a root. -/
inductive AS0 where
  | val (T : Ty)
  | pin (T : Ty)
  | ref (k : Nat) (p : Path)
  | hdr (k : Nat) (p : Path)
  | lsl (k : Nat) (p : Path)

inductive AS where
  | a (x : AS0)
  | clo (f : Nat) (l : List AS0)

structure RS where
  k : Nat
  vec : Bool
  par : Bool
  T : Ty

/-- Ahead of a meeting: a slice's root is given up (frz), a nil slice gets a root (own). -/
inductive Prep where
  | frz (t : Nat)
  | own (t k : Nat) (T : Ty)

structure Sh where
  prep : List Prep
  slots : List (Nat × AS)
  roots : List RS

def AS0.tsR : AS0 → List Ty → List Ty
  | .val T, l => T :: l
  | .pin T, l => T :: l
  | .ref _ _, l => l
  | .hdr _ _, l => l
  | .lsl _ _, l => .int .i64 :: .int .i64 :: l
def atsR : List AS0 → List Ty → List Ty
  | [], l => l
  | x :: xs, l => x.tsR (atsR xs l)
def AS.tsR : AS → List Ty → List Ty
  | .a x, l => x.tsR l
  | .clo _ xs, l => atsR xs l
def slotsR : List (Nat × AS) → List Ty → List Ty
  | [], l => l
  | s :: ss, l => s.2.tsR (slotsR ss l)
def rootsR : List RS → List Ty
  | [] => []
  | r :: rs => r.T :: rootsR rs
def Sh.ts (sh : Sh) : List Ty := slotsR sh.slots (rootsR sh.roots)

def AS0.get : (x : AS0) → (l : List Ty) → HL (x.tsR l) → A × HL l
  | .val T, _, h => (.val T h.1, h.2)
  | .pin T, _, h => (.pin T h.1, h.2)
  | .ref k p, _, h => (.ref k 0 0 p, h)
  | .hdr k p, _, h => (.hdr k 0 0 p, h)
  | .lsl k p, _, h => (.lsl k 0 0 p (h.1 : Int).toNat (h.2.1 : Int).toNat, h.2.2)
def getAs : (xs : List AS0) → (l : List Ty) → HL (atsR xs l) → List A × HL l
  | [], _, h => ([], h)
  | x :: xs, l, h =>
    let p := x.get (atsR xs l) h
    let q := getAs xs l p.2
    (p.1 :: q.1, q.2)
def AS.get : (x : AS) → (l : List Ty) → HL (x.tsR l) → V × HL l
  | .a x, l, h => let p := x.get l h; (.a p.1, p.2)
  | .clo f xs, l, h => let p := getAs xs l h; (.clo f p.1, p.2)
def getSlots : (ss : List (Nat × AS)) → (l : List Ty) → HL (slotsR ss l) → List (Nat × V) × HL l
  | [], _, h => ([], h)
  | s :: ss, l, h =>
    let p := s.2.get (slotsR ss l) h
    let q := getSlots ss l p.2
    ((s.1, p.1) :: q.1, q.2)
def getRoots : (rs : List RS) → HL (rootsR rs) → List (Nat × Root)
  | [], _ => []
  | r :: rs, h => (r.k, ⟨r.vec, r.par, 0, 0, 0, r.T, h.1⟩) :: getRoots rs h.2

/-- The state behind a meeting. -/
def Sh.enter (sh : Sh) (h : HL sh.ts) : St :=
  let p := getSlots sh.slots (rootsR sh.roots) h
  ⟨p.1, getRoots sh.roots p.2⟩

def stpB : Stp → Stp → Bool
  | .fst, .fst => true
  | .snd, .snd => true
  | .idx i, .idx j => Nat.beq i j
  | _, _ => false
def pathB : Path → Path → Bool
  | [], [] => true
  | s :: p, t :: q => stpB s t && pathB p q
  | _, _ => false

def rtOf : List RS → Nat → Option Ty
  | [], _ => none
  | r :: rs, k => if Nat.beq r.k k then some r.T else rtOf rs k

/-- Is the root of a pointer kept, and laid as it was (if the way goes into it)? -/
def keptB (rs : List RS) (k : Nat) (r : Root) (p : Path) : Bool :=
  match rtOf rs k with
  | some T => p.isEmpty || decide (r.T = T)
  | none => false

def AS0.put (rd : Nat → Option Root) (rs : List RS) : (x : AS0) → (l : List Ty) → A → HL l → Option (HL (x.tsR l))
  | .val T, _, .val T' y, h => if T'.pure then (match Ty.co T' T y with | some z => some (z, h) | none => none) else none
  | .pin T, _, .pin T' y, h => if T'.pure then (match Ty.co T' T y with | some z => some (z, h) | none => none) else none
  | .ref k p, _, .ref k' g ver p', h =>
    if Nat.beq k k' && pathB p p' then (match live rd k' g ver p' with | some r => if keptB rs k' r p' then some h else none | none => none) else none
  | .hdr k p, _, .hdr k' g ver p', h =>
    if Nat.beq k k' && pathB p p' then (match liveH rd k' g ver p' with | some r => if keptB rs k' r p' then some h else none | none => none) else none
  | .lsl k p, _, .lsl k' g ver p' lo n, h =>
    if Nat.beq k k' && pathB p p' then (match live rd k' g ver (p' ++ [.idx lo]) with | some r => if keptB rs k' r (p' ++ [.idx lo]) then some ((lo : Int), (n : Int), h) else none | none => none) else none
  | _, _, _, _ => none
def putAs (rd : Nat → Option Root) (rs : List RS) : (xs : List AS0) → (l : List Ty) → List A → HL l → Option (HL (atsR xs l))
  | [], _, [], h => some h
  | x :: xs, l, y :: ys, h => match putAs rd rs xs l ys h with | some h' => x.put rd rs (atsR xs l) y h' | none => none
  | _, _, _, _ => none
def AS.put (rd : Nat → Option Root) (rs : List RS) : (x : AS) → (l : List Ty) → V → HL l → Option (HL (x.tsR l))
  | .a x, l, .a y, h => x.put rd rs l y h
  | .clo f xs, l, .clo f' ys, h => if Nat.beq f f' then putAs rd rs xs l ys h else none
  | _, _, _, _ => none
def putSlots (rd : Nat → Option Root) (F : Nat → Option V) (rs : List RS) : (ss : List (Nat × AS)) → (l : List Ty) → HL l → Option (HL (slotsR ss l))
  | [], _, h => some h
  | s :: ss, l, h =>
    match putSlots rd F rs ss l h with
    | some h' => (match F s.1 with | some v => s.2.put rd rs (slotsR ss l) v h' | none => none)
    | none => none
def putRoots (rd : Nat → Option Root) : (rs : List RS) → Option (HL (rootsR rs))
  | [] => some ()
  | r :: rs =>
    match putRoots rd rs with
    | some h =>
      match rd r.k with
      | some x => if x.vec = r.vec ∧ x.par = r.par then (match Ty.coR x.T r.T x.x with | some y => some (y, h) | none => none) else none
      | none => none
    | none => none

def prepA : List Prep → St → St
  | [], st => st
  | .frz t :: l, st =>
    match lk st.fr t with
    | some v =>
      match give (lk st.mem) v with
      | some (y, us) => prepA l ⟨ins st.fr t (.a (.val y.T y.x)), insAll st.mem us⟩
      | none => prepA l st
    | none => prepA l st
  | .own t k E :: l, st =>
    match lk st.fr t with
    | some (.a (.val .nil _)) => prepA l ⟨ins st.fr t (.a (.hdr k (nextG (lk st.mem) k) 0 [])), ins st.mem k ⟨true, false, nextG (lk st.mem) k, 0, 0, .own E, []⟩⟩
    | _ => prepA l st

/-- The values at a meeting. -/
def Sh.pack (sh : Sh) (st : St) : Option (HL sh.ts) :=
  let st' := prepA sh.prep st
  match putRoots (lk st'.mem) sh.roots with
  | some h => putSlots (lk st'.mem) (lk st'.fr) sh.roots sh.slots (rootsR sh.roots) h
  | none => none

/-! ### It is so -/
theorem stpB_eq {s t : Stp} (h : stpB s t = true) : s = t := by
  unfold stpB at h
  split at h
  · rfl
  · rfl
  · rw [Nat.beq_eq] at h; rw [h]
  · cases h
theorem pathB_eq : ∀ {p q : Path}, pathB p q = true → p = q := by
  intro p
  induction p with
  | nil => intro q h; cases q <;> simp [pathB] at h ⊢
  | cons s p ih =>
    intro q h
    cases q with
    | nil => simp [pathB] at h
    | cons t q => simp only [pathB, Bool.and_eq_true] at h; rw [stpB_eq h.1, ih h.2]

section
variable {eT : TypeId} {G : Gh} {M M' : Nat → Option Root} {w : World} {J : Nat → Prop} {anc : Nat → Pl} {fp : Nat → List Nat} {rs : List RS}

theorem coR_Cn : ∀ {A B : Ty} {x : A.den} {y : B.den} {cs : List Value} {fs : List Nat}, Ty.coR A B x = some y → Cn eT w J A x cs fs → Cn eT w J B y cs fs ∧ B.era = A.era := by
  intro A
  induction A with
  | pair A1 A2 ih1 ih2 =>
    intro B x y cs fs h hc
    unfold Ty.coR at h
    split at h
    · rename_i e; subst e; cases h; exact ⟨hc, rfl⟩
    · cases B <;> simp only [reduceCtorEq] at h
      rename_i B1 B2
      split at h
      · rename_i a b ha hb
        cases h
        simp only [Cn] at hc ⊢
        obtain ⟨f1, f2, hf, h1, h2⟩ := hc
        obtain ⟨g1, g2⟩ := ih1 ha h1
        obtain ⟨g3, g4⟩ := ih2 hb h2
        have hs := Ty.size_of_era g2
        exact ⟨⟨f1, f2, hf, by rw [hs]; exact g1, by rw [hs]; exact g3⟩, by simp only [Ty.era, g2, g4]⟩
      · cases h
  | nil =>
    intro B x y cs fs h hc
    unfold Ty.coR at h
    split at h
    · rename_i e; subst e; cases h; exact ⟨hc, rfl⟩
    · simp only [Cn] at hc
      obtain ⟨rfl, rfl⟩ := hc
      cases B <;> simp only [reduceCtorEq] at h
      · cases h
        refine ⟨?_, rfl⟩
        simp only [Cn]
        exact ⟨by trivial, none, 0, rfl, Nat.le_refl _, fun i hi => absurd hi (Nat.not_lt_zero _)⟩
      · cases h
        refine ⟨?_, rfl⟩
        simp only [Cn]
        exact ⟨none, 0, rfl, Nat.le_refl _, .inl (by trivial)⟩
  | _ =>
    intro B x y cs fs h hc
    unfold Ty.coR at h
    split at h
    · rename_i e; subst e; cases h; exact ⟨hc, rfl⟩
    · cases B <;> simp only [reduceCtorEq] at h

theorem coR_self {A : Ty} {x y : A.den} (h : Ty.coR A A x = some y) : y = x := by
  unfold Ty.coR at h
  rw [dif_pos rfl] at h
  cases h; rfl

/-- Fewer roots, or ones seen as of another type. -/
def SubM (M M' : Nat → Option Root) : Prop := ∀ k r', M' k = some r' → ∃ r, M k = some r ∧ r.vec = r'.vec ∧ r.par = r'.par ∧ Ty.coR r.T r'.T r.x = some r'.x

theorem MOk.sub (h : MOk eT G M w J anc fp) (hM : SubM M M') : MOk eT G M' w J anc fp := by
  refine ⟨fun k r' hk => ?_, fun k r' hk => ?_, fun k k' r r' hne h1 h2 b hb => ?_, fun k r' hk b hb => ?_, h.jlt, h.jw, h.j0, h.jnew, h.os, h.tape, h.output, h.size, h.block, h.wlt⟩
  · obtain ⟨r, hr, hv, hp, hc⟩ := hM k r' hk
    obtain ⟨h1, fs', h2, h3⟩ := h.roots k r hr
    obtain ⟨g1, g2⟩ := coR_Cn hc h3
    have hs := Ty.size_of_era g2
    refine ⟨?_, fs', h2, by rw [hs]; exact g1⟩
    rcases h1 with ⟨v, e1, e2, e3⟩ | ⟨b, e1, e2, e3⟩
    · exact .inl ⟨v, e1, by rw [← hv]; exact e2, by rw [hs]; exact e3⟩
    · exact .inr ⟨b, e1, by rw [← hv]; exact e2, by rw [hs]; exact e3⟩
  · obtain ⟨r, hr, _⟩ := hM k r' hk; exact h.nodup k r hr
  · obtain ⟨r1, hr1, _⟩ := hM k r h1
    obtain ⟨r2, hr2, _⟩ := hM k' r' h2
    exact h.apart k k' r1 r2 hne hr1 hr2 b hb
  · obtain ⟨r, hr, _, hp, _⟩ := hM k r' hk
    rw [← hp]; exact h.owned k r hr b hb

/-- What is known of the roots that are kept. -/
def KeptOk (M M' : Nat → Option Root) (rs : List RS) : Prop := SubM M M' ∧ ∀ k T, rtOf rs k = some T → ∃ r', M' k = some r' ∧ r'.g = 0 ∧ r'.ver = 0 ∧ r'.T = T

theorem crossR_vec {vec : Bool} {T T' : Ty} {p : Path} (h : p = [] ∨ T = T') : crossR vec T p = crossR vec T' p := by
  rcases h with rfl | rfl
  · unfold crossR; cases vec <;> cases T <;> cases T' <;> rfl
  · rfl

theorem kept_root (hM : KeptOk M M' rs) {k : Nat} {r : Root} {p : Path} (hk : M k = some r) (h : keptB rs k r p = true) :
    ∃ r', M' k = some r' ∧ r'.g = 0 ∧ r'.ver = 0 ∧ r'.vec = r.vec ∧ (p = [] ∨ (⟨r.T, r.x⟩ : TV) = ⟨r'.T, r'.x⟩) := by
  unfold keptB at h
  split at h
  · rename_i T hT
    obtain ⟨r', h1, h2, h3, h4⟩ := hM.2 k T hT
    obtain ⟨r0, g1, g2, g3, g4⟩ := hM.1 k r' h1
    rw [hk] at g1; cases g1
    refine ⟨r', h1, h2, h3, g2.symm, ?_⟩
    simp only [Bool.or_eq_true, List.isEmpty_iff, decide_eq_true_eq] at h
    rcases h with h | h
    · exact .inl h
    · refine .inr ?_
      obtain ⟨vec', par', g', ver', wr', T', x'⟩ := r'
      simp only at h4 g4 ⊢
      subst h4
      obtain ⟨vec, par, g, ver, wr, T0, x⟩ := r
      simp only at h g4 ⊢
      subst h
      rw [coR_self g4]
  · cases h

theorem AS0.put_ok (hM : KeptOk M M' rs) {x : AS0} {l : List Ty} {y : A} {h : HL l} {h' : HL (x.tsR l)} (hp : x.put M rs l y h = some h') {v : Value} (hv : ARel eT w J M anc y v) :
    ARel eT w J M' anc (x.get l h').1 v ∧ (x.get l h').2 = h := by
  unfold AS0.put at hp
  split at hp
  · split at hp
    · rename_i hpu
      split at hp
      · rename_i z hz
        cases hp
        obtain ⟨cs, hc, rfl⟩ := hv
        obtain ⟨h1, h2, _⟩ := co_Cn hz hpu hc
        refine ⟨⟨cs, h1, ?_⟩, rfl⟩
        unfold conc; rw [Ty.agg_of_era h2]
      · cases hp
    · cases hp
  · split at hp
    · rename_i hpu
      split at hp
      · rename_i z hz
        cases hp
        obtain ⟨b, o, h0, hJ, hc⟩ := hv
        obtain ⟨h1, h2, _⟩ := co_Cn hz hpu hc
        refine ⟨⟨b, o, h0, hJ, ?_⟩, rfl⟩
        rw [Ty.size_of_era h2]; exact h1
      · cases hp
    · cases hp
  · rename_i k p k' g ver p'
    split at hp
    · rename_i hb
      simp only [Bool.and_eq_true, Nat.beq_eq] at hb
      obtain ⟨rfl, hb⟩ := hb
      have := pathB_eq hb
      subst this
      split at hp
      · rename_i r hl
        split at hp
        · rename_i hk
          cases hp
          obtain ⟨e1, e2, e3, b, o, e4, e5⟩ := ref_live hv hl
          obtain ⟨r', g1, g2, g3, g4, g5⟩ := kept_root hM e1 hk
          refine ⟨⟨r', g1, by rw [g2]; exact Nat.le_refl _, fun _ => ⟨by rw [g3]; exact Nat.le_refl _, fun _ => ?_⟩⟩, rfl⟩
          rcases g5 with rfl | g5
          · refine ⟨okP_nil _ _, b, o, ?_, e5⟩
            have hn : ∀ (T T' : Ty) (pl : Pl), Adr w T pl [] = Adr w T' pl [] := by intro T T' pl; cases pl <;> cases T <;> cases T' <;> rfl
            rw [hn r'.T r.T]; exact e4
          · have hT : r.T = r'.T := congrArg TV.T g5
            refine ⟨?_, b, o, by rw [← hT]; exact e4, e5⟩
            have : okP (TV.mk r.T r.x).T (TV.mk r.T r.x).x p := e3
            rw [g5] at this; exact this
        · cases hp
      · cases hp
    · cases hp
  · rename_i k p k' g ver p'
    split at hp
    · rename_i hb
      simp only [Bool.and_eq_true, Nat.beq_eq] at hb
      obtain ⟨rfl, hb⟩ := hb
      have := pathB_eq hb
      subst this
      split at hp
      · rename_i r hl
        split at hp
        · rename_i hk
          cases hp
          obtain ⟨e1, e2, e3, e4, e5⟩ := hdr_live hv hl
          obtain ⟨r', g1, g2, g3, g4, g5⟩ := kept_root hM e1 hk
          refine ⟨⟨r', g1, by rw [g2]; exact Nat.le_refl _, fun _ => ⟨by rw [g3]; exact Nat.le_refl _, fun _ => ?_⟩⟩, rfl⟩
          rcases g5 with rfl | g5
          · refine ⟨okP_nil _ _, fun hne => ?_, ?_⟩
            · rw [g4] at hne
              obtain ⟨E, hE⟩ := e4 hne
              rw [typeAt_nil] at hE
              obtain ⟨r0, k1, k2, k3, k4⟩ := hM.1 k r' g1
              rw [e1] at k1; cases k1
              rw [typeAt_nil]
              have key : ∀ (A B : Ty) (x : A.den) (y : B.den), A = .own E → Ty.coR A B x = some y → B = .own E := by
                intro A B x y hA hco
                subst hA
                unfold Ty.coR at hco
                split at hco
                · rename_i e; exact e.symm
                · cases B <;> simp only [reduceCtorEq] at hco
              exact ⟨E, key _ _ _ _ hE k4⟩
            · unfold hdrAt at e5 ⊢; exact e5
          · have hT : r.T = r'.T := congrArg TV.T g5
            refine ⟨?_, fun hne => ?_, ?_⟩
            · have : okP (TV.mk r.T r.x).T (TV.mk r.T r.x).x p := e3
              rw [g5] at this; exact this
            · rw [g4] at hne; rw [← hT]; exact e4 hne
            · unfold hdrAt at e5 ⊢; rw [← hT]; exact e5
        · cases hp
      · cases hp
    · cases hp
  · rename_i k p k' g ver p' lo n
    split at hp
    · rename_i hb
      simp only [Bool.and_eq_true, Nat.beq_eq] at hb
      obtain ⟨rfl, hb⟩ := hb
      have := pathB_eq hb
      subst this
      split at hp
      · rename_i r hl
        split at hp
        · rename_i hk
          cases hp
          obtain ⟨l1, l2, l3⟩ := live_some hl
          obtain ⟨r1, v1, v2, v3⟩ := hv
          rw [l1] at v1; cases v1
          obtain ⟨v4, v5⟩ := v3 l2
          obtain ⟨a, cap, u1, u2, u3, u4⟩ := v5 l3
          obtain ⟨r', g1, g2, g3, g4, g5⟩ := kept_root hM l1 hk
          rcases g5 with g5 | g5
          · simp at g5
          · have hT : r.T = r'.T := congrArg TV.T g5
            refine ⟨?_, rfl⟩
            simp only [AS0.get, Int.toNat_natCast]
            refine ⟨r', g1, by rw [g2]; exact Nat.le_refl _, fun _ => ⟨by rw [g3]; exact Nat.le_refl _, fun _ => ?_⟩⟩
            refine ⟨a, cap, u1, u2, fun j hj => ?_, fun hn => ?_⟩
            · have : okP (TV.mk r.T r.x).T (TV.mk r.T r.x).x _ := u3 j hj
              rw [g5] at this; exact this
            · rw [← hT]; exact u4 hn
        · cases hp
      · cases hp
    · cases hp
  · cases hp

theorem putAs_ok (hM : KeptOk M M' rs) : ∀ {xs : List AS0} {l : List Ty} {ys : List A} {h : HL l} {h' : HL (atsR xs l)}, putAs M rs xs l ys h = some h' → ∀ {vs : List Value}, AsRel eT w J M anc ys vs →
    AsRel eT w J M' anc (getAs xs l h').1 vs ∧ (getAs xs l h').2 = h := by
  intro xs
  induction xs with
  | nil =>
    intro l ys h h' hp vs hv
    cases ys with
    | nil => simp only [putAs] at hp; cases hp; exact ⟨⟨hv.1, fun i hi => absurd hi (Nat.not_lt_zero _)⟩, rfl⟩
    | cons _ _ => simp only [putAs] at hp; cases hp
  | cons x xs ih =>
    intro l ys h h' hp vs hv
    cases ys with
    | nil => simp only [putAs] at hp; cases hp
    | cons y ys =>
      simp only [putAs] at hp
      split at hp
      · rename_i h1 he
        cases vs with
        | nil => have := hv.1; simp at this
        | cons v vs =>
          have hv0 := hv.2 0 (by simp)
          obtain ⟨g1, g2⟩ := AS0.put_ok hM hp (v := v) (by simpa using hv0)
          obtain ⟨g3, g4⟩ := ih he (vs := vs) ⟨by have := hv.1; simpa using this, fun i hi => by have := hv.2 (i + 1) (by simpa using hi); simpa using this⟩
          simp only [getAs]
          rw [g2]
          refine ⟨⟨by have := g3.1; simpa using this, fun i hi => ?_⟩, g4⟩
          cases i with
          | zero => simpa using g1
          | succ i => have := g3.2 i (by simpa using hi); simpa using this
      · cases hp

theorem AS.put_ok (hM : KeptOk M M' rs) {x : AS} {l : List Ty} {y : V} {h : HL l} {h' : HL (x.tsR l)} (hp : x.put M rs l y h = some h') {v : Value} (hv : VRel eT w J M anc y v) :
    VRel eT w J M' anc (x.get l h').1 v ∧ (x.get l h').2 = h := by
  cases x with
  | a x =>
    cases y with
    | a y => exact AS0.put_ok hM hp hv
    | tup _ => cases hp
    | clo _ _ => cases hp
  | clo f xs =>
    cases y with
    | a y => cases hp
    | tup _ => cases hp
    | clo f' ys =>
      have hq : (if Nat.beq f f' = true then putAs M rs xs l ys h else none) = some h' := hp
      by_cases hb : Nat.beq f f' = true
      · rw [if_pos hb] at hq
        rw [Nat.beq_eq] at hb
        subst hb
        obtain ⟨vs, rfl, hvs⟩ := hv
        obtain ⟨g1, g2⟩ := putAs_ok hM hq hvs
        exact ⟨⟨vs, rfl, g1⟩, g2⟩
      · rw [if_neg hb] at hq; cases hq

theorem putSlots_ok (hM : KeptOk M M' rs) {F : Nat → Option V} {val : Nat → Value} {N : Nat} (hF : ∀ t v, F t = some v → t < N ∧ VRel eT w J M anc v (val t)) : ∀ {ss : List (Nat × AS)} {l : List Ty} {h : HL l} {h' : HL (slotsR ss l)},
    putSlots M F rs ss l h = some h' → (∀ t v, lk (getSlots ss l h').1 t = some v → t < N ∧ VRel eT w J M' anc v (val t)) ∧ (getSlots ss l h').2 = h := by
  intro ss
  induction ss with
  | nil => intro l h h' hp; simp only [putSlots] at hp; cases hp; exact ⟨fun t v ht => by simp [getSlots, lk] at ht, rfl⟩
  | cons s ss ih =>
    intro l h h' hp
    simp only [putSlots] at hp
    split at hp
    · rename_i h1 he
      split at hp
      · rename_i v hv
        obtain ⟨q1, q2⟩ := hF _ _ hv
        obtain ⟨g1, g2⟩ := AS.put_ok hM hp q2
        obtain ⟨g3, g4⟩ := ih he
        simp only [getSlots]
        rw [g2]
        refine ⟨fun t u ht => ?_, g4⟩
        simp only [lk] at ht
        split at ht
        · rename_i hb; rw [Nat.beq_eq] at hb; subst hb; cases ht; exact ⟨q1, g1⟩
        · exact g3 t u ht
      · cases hp
    · cases hp

theorem putRoots_ok : ∀ {rs : List RS} {h : HL (rootsR rs)}, putRoots M rs = some h → KeptOk M (lk (getRoots rs h)) rs := by
  intro rs
  induction rs with
  | nil => intro h _; exact ⟨fun k r' hk => by simp [getRoots, lk] at hk, fun k T hk => by simp [rtOf] at hk⟩
  | cons r rs ih =>
    intro h hp
    simp only [putRoots] at hp
    split at hp
    · rename_i h1 he
      split at hp
      · rename_i x hx
        split at hp
        · rename_i hvp
          split at hp
          · rename_i y hy
            cases hp
            obtain ⟨g1, g2⟩ := ih he
            refine ⟨fun k r' hk => ?_, fun k T hk => ?_⟩
            · simp only [getRoots, lk] at hk
              split at hk
              · rename_i hb; rw [Nat.beq_eq] at hb; subst hb; cases hk; exact ⟨x, hx, hvp.1, hvp.2, hy⟩
              · exact g1 k r' hk
            · simp only [getRoots, lk]
              simp only [rtOf] at hk
              split at hk
              · rename_i hb; cases hk; rw [if_pos hb]; exact ⟨_, rfl, rfl, rfl, rfl⟩
              · rename_i hb; rw [if_neg hb]; exact g2 k T hk
          · cases hp
        · cases hp
      · cases hp
    · cases hp

theorem prep_ok {N : Nat} {a : Act} : ∀ {l : List Prep} {st : St}, RelA eT G N st.ab a w → RelA eT G N (prepA l st).ab a w := by
  intro l
  induction l with
  | nil => intro st h; exact h
  | cons p l ih =>
    intro st h
    cases p with
    | frz t =>
      simp only [prepA]
      split
      · rename_i v hv
        split
        · rename_i y us hg
          refine ih ?_
          obtain ⟨J, anc, fp, hF, m, hd, hs⟩ := h
          obtain ⟨ht, hv'⟩ := hF t v hv
          obtain ⟨J', anc', fp', m', _, k, hp, cs, hc, hval⟩ := give_ok m hv' hg
          refine ⟨J', anc', fp', fun s u hu => ?_, by simp only [St.ab]; rw [insAll_lk]; exact m', hd, hs⟩
          simp only [St.ab] at hu ⊢
          rw [insAll_lk]
          rw [lk_ins] at hu
          split at hu
          · rename_i e; subst e; cases hu; exact ⟨ht, cs, hc, hval⟩
          · exact ⟨(hF s u hu).1, keepsV k _ _ (hF s u hu).2⟩
        · exact ih h
      · exact ih h
    | own t k E =>
      simp only [prepA]
      split
      · rename_i y hv
        refine ih ?_
        obtain ⟨J, anc, fp, hF, m, hd, hs⟩ := h
        obtain ⟨ht, hv'⟩ := hF t _ hv
        have hval : a.tmps.getD t undef = .slice none 0 0 := (arel_nil (eT := eT) (w := w) (J := J) (M := st.ab.rd) (anc := anc)).1 hv'
        let r : Root := ⟨true, false, nextG (lk st.mem) k, 0, 0, .own E, []⟩
        have hroot : RootOk eT w J r (.hd (.slice none 0 0)) [] := by
          refine ⟨.inl ⟨_, rfl, rfl, rfl⟩, [], rfl, ?_⟩
          simp only [r, Pl.cells, Cn]
          exact ⟨none, 0, rfl, Nat.le_refl _, .inl (by trivial)⟩
        have m' := m.add (k := k) hroot (by simp) (fun _ _ _ _ b hb => by simp at hb) (fun b hb => by simp at hb)
        have kp := m.add_keeps (k := k) (r := r) (pl := .hd (.slice none 0 0)) (nextG_lt _ _)
        refine ⟨J, _, _, fun s u hu => ?_, by simp only [St.ab]; rw [lk_ins']; exact m', hd, hs⟩
        simp only [St.ab] at hu ⊢
        rw [lk_ins']
        rw [lk_ins] at hu
        split at hu
        · rename_i e; subst e; cases hu
          refine ⟨ht, r, upd_same _ _ _, Nat.le_refl _, fun _ => ⟨Nat.le_refl _, fun _ => ⟨okP_nil _ _, fun hne => absurd ⟨rfl, rfl⟩ hne, ?_⟩⟩⟩
          rw [upd_same, hval]; rfl
        · exact ⟨(hF s u hu).1, keepsV kp _ _ (hF s u hu).2⟩
      · exact ih h

theorem pack_ok {N : Nat} {a : Act} {sh : Sh} {st : St} {x : HL sh.ts} (h : RelA eT G N st.ab a w) (hp : sh.pack st = some x) : RelA eT G N (sh.enter x).ab a w := by
  have h' := prep_ok (l := sh.prep) h
  unfold Sh.pack at hp
  simp only at hp
  split at hp
  · rename_i hr he
    obtain ⟨J, anc, fp, hF, m, hd, hs⟩ := h'
    have hM := putRoots_ok he
    obtain ⟨g1, g2⟩ := putSlots_ok (eT := eT) (w := w) (J := J) (anc := anc) (val := fun t => a.tmps.getD t undef) (N := N) hM hF hp
    refine ⟨J, anc, fp, fun t v ht => ?_, ?_, hd, hs⟩
    · have := g1 t v ht
      simp only [St.ab, Sh.enter]
      rw [g2]; exact this
    · simp only [St.ab, Sh.enter]
      rw [g2]; exact m.sub hM.1
  · cases hp
end
end Go.Ev
end

section
set_option linter.all false
set_option linter.unusedSimpArgs false
set_option linter.unusedVariables false
namespace Go.Ev
open Go
set_option linter.unusedVariables false
set_option linter.unusedSimpArgs false

/-- Where ways meet: what comes behind is told once. -/
def joinK {X R : Type} (j : X → Option R) (b : (X → Option R) → Option R) : Option R := b j

/-- A loop, of so many rounds at most. -/
def loopK {X R : Type} (Φ : (X → Option R) → X → Option R) : Nat → X → Option R
  | 0, _ => none
  | n + 1, x => Φ (loopK Φ n) x

/-- So many rounds that no slice is longer. -/
theorem fuel_ex : ∃ n : Nat, 18446744073709551616 ≤ n := ⟨_, Nat.le_refl _⟩
noncomputable def FUEL : Nat := Classical.choose fuel_ex
theorem le_FUEL : 18446744073709551616 ≤ FUEL := Classical.choose_spec fuel_ex

structure Kt (R : Type) where
  nrm : St → Option R
  ext : Nat → St → Option R
  ret : St → Option R

inductive Ann where
  | leaf
  | seq (a b : Ann)
  | cond (a b : Ann)
  | block (a : Ann)
  | loop (sh : Sh) (a : Ann)
  | join (sh : Sh) (a : Ann)

section
variable {R : Type} (E : Env) (N : Nat)

def packK (sh : Sh) (st : St) (j : HL sh.ts → Option R) : Option R := match sh.pack st with | some x => j x | none => none

noncomputable def exec : Ann → Code → St → Kt R → Option R
  | .leaf, .skip, st, K => K.nrm st
  | .leaf, .region _ ops draw, st, K => regionF E N ops draw st K.nrm
  | .leaf, .exit i, st, K => K.ext i st
  | .leaf, .ret, st, K => K.ret st
  | .leaf, .label _, st, K => K.nrm st
  | .seq a b, .seq x y, st, K => exec a x st ⟨fun st' => exec b y st' K, K.ext, K.ret⟩
  | .cond a b, .cond c x y, st, K =>
    match opv (lk st.fr) c with
    | some (.a (.val .bool t)) => bif t then exec a x st K else exec b y st K
    | _ => none
  | .block a, .block i c, st, K => exec a c st ⟨K.nrm, fun j st' => ifB (Nat.beq j i) (K.nrm st') (K.ext j st'), K.ret⟩
  | .loop sh a, .loop c, st, K => packK sh st (loopK (fun rec x => fSt (sh.enter x) fun st => exec a c st ⟨fun st' => packK sh st' rec, K.ext, K.ret⟩) FUEL)
  | .join sh a, c, st, K => joinK (fun x => fSt (sh.enter x) K.nrm) fun j => exec a c st ⟨fun st' => packK sh st' j, K.ext, K.ret⟩
  | _, _, _, _ => none
end

theorem wp_loop_fuel {P : Program} {Q : Exit → Act → World → Prop} {a : Act} {w : World} {c : Code} (I : Nat → Act → World → Prop) {n : Nat} (h₀ : I n a w) (hz : ∀ a w, ¬ I 0 a w)
    (round : ∀ n a w, I (n + 1) a w → c.wp P (Exit.then (fun a' w' => I n a' w') Q) a w) : (Code.loop c).wp P Q a w := by
  intro b k cs
  have key : ∀ n a w, I n a w → ∃ e a' w', Q e a' w' ∧ Arrives P (lone (b.at a (.code c :: .inLoop c :: k)) cs w) b k cs e a' w' := by
    intro n
    induction n with
    | zero => intro a w h; exact absurd h (hz a w)
    | succ n ih =>
      intro a w hI
      obtain ⟨e, a₁, w₁, hq, harr⟩ := round n a w hI b (.inLoop c :: k) cs
      cases e with
      | normal =>
        obtain ⟨e₂, a₂, w₂, hq₂, harr₂⟩ := ih a₁ w₁ hq
        exact ⟨e₂, a₂, w₂, hq₂, .of_steps (Steps.trans harr (.one step_inLoop)) harr₂⟩
      | exit id => exact ⟨_, a₁, w₁, hq, .pass (x := .inLoop c) rfl (fun _ _ => .inl (by simp)) harr⟩
      | goto l => exact ⟨_, a₁, w₁, hq, .pass (x := .inLoop c) rfl (fun _ _ => .inl (by simp)) harr⟩
      | ret => exact ⟨_, a₁, w₁, hq, .pass (x := .inLoop c) rfl (fun _ _ => .inl (by simp)) harr⟩
      | panic ch => exact ⟨_, a₁, w₁, hq, .pass (x := .inLoop c) rfl (fun _ _ => .inl (by simp)) harr⟩
      | outgrown => exact ⟨_, a₁, w₁, hq, .pass (x := .inLoop c) rfl (fun _ _ => .inl (by simp)) harr⟩
  obtain ⟨e, a', w', hq, harr⟩ := key n a w h₀
  exact ⟨e, a', w', hq, .of_steps (.one step_loop) harr⟩

section
variable {R : Type} {E : Env} {G : Gh} {N : Nat}

theorem packK_some {sh : Sh} {st : St} {j : HL sh.ts → Option R} {r : R} (h : packK sh st j = some r) : ∃ x, sh.pack st = some x ∧ j x = some r := by
  unfold packK at h
  split at h
  · rename_i x hx; exact ⟨x, hx, h⟩
  · cases h

/-- What holds where code is left. -/
structure KOk (E : Env) (G : Gh) (N : Nat) (K : Kt R) (r : R) (Q : Exit → Act → World → Prop) : Prop where
  nrm : ∀ st a w, K.nrm st = some r → RelA E.eT G N st.ab a w → Q .normal a w
  ext : ∀ i st a w, K.ext i st = some r → RelA E.eT G N st.ab a w → Q (.exit i) a w
  ret : ∀ st a w, K.ret st = some r → RelA E.eT G N st.ab a w → Q .ret a w

theorem exec_ok (hE : EnvOk E G) (hmix : E.P.follows .mixedOrders = true) {r : R} : ∀ (an : Ann) (c : Code) (st : St) (K : Kt R), exec E N an c st K = some r → ∀ {a : Act} {w : World}, RelA E.eT G N st.ab a w →
    ∀ {Q : Exit → Act → World → Prop}, KOk E G N K r Q → c.wp E.P Q a w := by
  intro an
  induction an with
  | leaf =>
    intro c st K h a w hr Q hK
    cases c <;> simp only [exec, reduceCtorEq] at h
    · exact wp_skip (hK.nrm _ _ _ h hr)
    · rw [regionF_eq] at h
      exact region_ok hE hmix h hr fun st' a' w' h1 h2 => hK.nrm _ _ _ h1 h2
    · exact wp_exit (hK.ext _ _ _ _ h hr)
    · exact wp_label (hK.nrm _ _ _ h hr)
    · exact wp_ret (hK.ret _ _ _ h hr)
  | seq a b iha ihb =>
    intro c st K h a w hr Q hK
    cases c <;> simp only [exec, reduceCtorEq] at h
    rename_i x y
    refine wp_seq (iha x st _ h hr ⟨fun st' a' w' h1 h2 => ?_, fun i st' a' w' h1 h2 => hK.ext _ _ _ _ h1 h2, fun st' a' w' h1 h2 => hK.ret _ _ _ h1 h2⟩)
    exact ihb y st' K h1 h2 hK
  | cond a b iha ihb =>
    intro c st K h a w hr Q hK
    cases c <;> simp only [exec, reduceCtorEq] at h
    rename_i c x y
    split at h
    · rename_i t ht
      obtain ⟨J, anc, fp, hF, m, hd, hs⟩ := hr
      have hv : a.eval c = .bool t := by
        have := opv_rel (eT := E.eT) (w := w) (J := J) (M := lk st.mem) (anc := anc) (a := a) (fun t v hv => (hF t v hv).2) ht
        exact (arel_bool (eT := E.eT) (w := w) (J := J) (M := lk st.mem) (anc := anc)).1 this
      refine wp_cond_split hv (fun e => ?_) (fun e => ?_)
      · subst e; exact iha x st K h ⟨J, anc, fp, hF, m, hd, hs⟩ hK
      · subst e; exact ihb y st K h ⟨J, anc, fp, hF, m, hd, hs⟩ hK
    · cases h
  | block a iha =>
    intro c st K h a w hr Q hK
    cases c <;> simp only [exec, reduceCtorEq] at h
    rename_i i c
    refine wp_block (iha c st _ h hr ⟨fun st' a' w' h1 h2 => hK.nrm _ _ _ h1 h2, fun j st' a' w' h1 h2 => ?_, fun st' a' w' h1 h2 => hK.ret _ _ _ h1 h2⟩)
    simp only at h1
    by_cases e : j = i
    · subst e
      rw [Nat.beq_refl, ifB_eq, cond_true] at h1
      simp only [Exit.inBlock, if_pos]
      exact hK.nrm _ _ _ h1 h2
    · have : Nat.beq j i = false := by
        cases hb : Nat.beq j i with
        | false => rfl
        | true => exact absurd (by rw [Nat.beq_eq] at hb; exact hb) e
      rw [this, ifB_eq, cond_false] at h1
      simp only [Exit.inBlock, if_neg e]
      exact hK.ext _ _ _ _ h1 h2
  | loop sh an iha =>
    intro c st K h a w hr Q hK
    cases c <;> simp only [exec, reduceCtorEq] at h
    rename_i c
    obtain ⟨x, hx, h⟩ := packK_some h
    refine wp_loop_fuel (fun n a w => ∃ x, loopK (fun rec x => fSt (sh.enter x) fun st => exec E N an c st ⟨fun st' => packK sh st' rec, K.ext, K.ret⟩) n x = some r ∧ RelA E.eT G N (sh.enter x).ab a w) ⟨x, h, pack_ok hr hx⟩ ?_ ?_
    · rintro a w ⟨x, h1, _⟩; cases h1
    · rintro n a w ⟨x, h1, h2⟩
      simp only [loopK] at h1
      rw [fSt_eq] at h1
      refine iha c _ _ h1 h2 ⟨fun st' a' w' h3 h4 => ?_, fun i st' a' w' h3 h4 => hK.ext _ _ _ _ h3 h4, fun st' a' w' h3 h4 => hK.ret _ _ _ h3 h4⟩
      obtain ⟨y, hy, h3⟩ := packK_some h3
      exact ⟨y, h3, pack_ok h4 hy⟩
  | join sh an iha =>
    intro c st K h a w hr Q hK
    have h : exec E N an c st ⟨fun st' => packK sh st' (fun x => fSt (sh.enter x) K.nrm), K.ext, K.ret⟩ = some r := by
      cases c <;> exact h
    simp only [fSt_eq] at h
    refine iha c st _ h hr ⟨fun st' a' w' h1 h2 => ?_, fun i st' a' w' h1 h2 => hK.ext _ _ _ _ h1 h2, fun st' a' w' h1 h2 => hK.ret _ _ _ h1 h2⟩
    obtain ⟨y, hy, h3⟩ := packK_some h1
    exact hK.nrm _ _ _ h3 (pack_ok h2 hy)

/-! ### What is told hangs on what comes behind alone -/
inductive Ex where
  | nrm (st : St)
  | ext (i : Nat) (st : St)
  | ret (st : St)

def Kt.on (K : Kt R) : Ex → Option R
  | .nrm st => K.nrm st
  | .ext i st => K.ext i st
  | .ret st => K.ret st

def Kt.all : Kt Ex := ⟨fun st => some (.nrm st), fun i st => some (.ext i st), fun st => some (.ret st)⟩

theorem bif_bind' {α β : Type} (b : Bool) (x y : Option α) (f : α → Option β) : (bif b then x else y).bind f = bif b then x.bind f else y.bind f := by cases b <;> rfl

theorem nat_go (hE : E.Nat') {ops : Array Oper} {draw : Bool} {ahead : Nat → Nat → Bool} {κ : St → Option R} : ∀ (l : List Oper) (i : Nat) (log : List (Nat × Ent)) (st : St),
    goA E ops draw ahead l i log st κ = (goA E ops draw ahead l i log st some).bind κ := by
  intro l
  induction l with
  | nil => intro i log st; rfl
  | cons o l ih =>
    intro i log st
    have run : ∀ st : St, opA E (lk st.mem) (dkey o) (fun v us =>
        bif draw then (bif entOk ahead i (entOf ops o st us) log then goA E ops draw ahead l (i + 1) ((i, entOf ops o st us) :: log) (st.after o.dst v us) κ else none)
        else goA E ops draw ahead l (i + 1) log (st.after o.dst v us) κ) (lk st.fr) o.op = (opA E (lk st.mem) (dkey o) (fun v us =>
        bif draw then (bif entOk ahead i (entOf ops o st us) log then goA E ops draw ahead l (i + 1) ((i, entOf ops o st us) :: log) (st.after o.dst v us) some else none)
        else goA E ops draw ahead l (i + 1) log (st.after o.dst v us) some) (lk st.fr) o.op).bind κ := by
      intro st
      rw [nat_op E hE, nat_op E hE (κ := fun v us => bif draw then (bif entOk ahead i (entOf ops o st us) log then goA E ops draw ahead l (i + 1) ((i, entOf ops o st us) :: log) (st.after o.dst v us) some else none)
        else goA E ops draw ahead l (i + 1) log (st.after o.dst v us) some), Option.bind_assoc]
      congr 1
      funext p
      simp only [bif_bind', ← ih, Option.bind_none]
    have pass : ∀ st : St, (bif draw then (bif entOk ahead i (entOf ops o st []) log then goA E ops draw ahead l (i + 1) ((i, entOf ops o st []) :: log) (st.after o.dst (some (.tup [])) []) κ else none)
        else goA E ops draw ahead l (i + 1) log (st.after o.dst (some (.tup [])) []) κ) = (bif draw then (bif entOk ahead i (entOf ops o st []) log then goA E ops draw ahead l (i + 1) ((i, entOf ops o st []) :: log) (st.after o.dst (some (.tup [])) []) some else none)
        else goA E ops draw ahead l (i + 1) log (st.after o.dst (some (.tup [])) []) some).bind κ := by
      intro st
      simp only [bif_bind', ← ih, Option.bind_none]
    simp only [goA]
    split
    · exact run st
    · split
      · split
        · rename_i b _
          rw [bif_bind']
          cases b <;> simp only [cond_true, cond_false] <;> split <;> first | exact run _ | exact pass _
        · exact pass st
        · rfl
      · rfl

theorem nat_region (hE : E.Nat') {ops : Array Oper} {draw : Bool} {st : St} {κ : St → Option R} : regionA E N ops draw st κ = (regionA E N ops draw st some).bind κ := by
  unfold regionA
  split
  · split
    · split
      · exact nat_go hE _ _ _ _
      · rfl
    · exact nat_go hE _ _ _ _
  · rfl

theorem nat_pack {sh : Sh} {st : St} {S : Type} {j : HL sh.ts → Option S} {f : S → Option R} : (packK sh st j).bind f = packK sh st (fun x => (j x).bind f) := by
  unfold packK; cases sh.pack st <;> rfl

theorem nat_exec (hE : E.Nat') : ∀ (an : Ann) (c : Code) (st : St) (S : Type) (K : Kt S) (f : S → Option R), exec E N an c st ⟨fun s => (K.nrm s).bind f, fun i s => (K.ext i s).bind f, fun s => (K.ret s).bind f⟩ = (exec E N an c st K).bind f := by
  intro an
  induction an with
  | leaf =>
    intro c st S K f
    cases c <;> simp only [exec, Option.bind_none]
    rw [regionF_eq, regionF_eq, nat_region hE, nat_region hE (κ := K.nrm), Option.bind_assoc]
  | seq a b iha ihb =>
    intro c st S K f
    cases c <;> simp only [exec, Option.bind_none]
    rw [← iha]
    simp only [← ihb]
  | cond a b iha ihb =>
    intro c st S K f
    cases c <;> simp only [exec, Option.bind_none]
    split
    · rw [iha, ihb, bif_bind']
    · rfl
  | block a iha =>
    intro c st S K f
    cases c <;> simp only [exec, Option.bind_none]
    rw [← iha]
    simp only [ifB_eq, bif_bind']
  | loop sh a iha =>
    intro c st S K f
    cases c <;> simp only [exec, Option.bind_none]
    rename_i c
    rw [nat_pack]
    have key : ∀ n x, loopK (fun rec x => fSt (sh.enter x) fun st => exec E N a c st ⟨fun st' => packK sh st' rec, fun i s => (K.ext i s).bind f, fun s => (K.ret s).bind f⟩) n x =
        (loopK (fun rec x => fSt (sh.enter x) fun st => exec E N a c st ⟨fun st' => packK sh st' rec, K.ext, K.ret⟩) n x).bind f := by
      intro n
      induction n with
      | zero => intro x; rfl
      | succ n ih =>
        intro x
        simp only [loopK]
        rw [fSt_eq, fSt_eq, ← iha]
        simp only [nat_pack]
        have : loopK (fun rec x => fSt (sh.enter x) fun st => exec E N a c st ⟨fun st' => packK sh st' rec, fun i s => (K.ext i s).bind f, fun s => (K.ret s).bind f⟩) n = fun x => (loopK (fun rec x => fSt (sh.enter x) fun st => exec E N a c st ⟨fun st' => packK sh st' rec, K.ext, K.ret⟩) n x).bind f := funext ih
        rw [this]
    congr 1
    funext x
    exact key _ x
  | join sh a iha =>
    intro c st S K f
    have e : ∀ {T : Type} (K : Kt T), exec E N (.join sh a) c st K = exec E N a c st ⟨fun st' => packK sh st' (fun x => fSt (sh.enter x) K.nrm), K.ext, K.ret⟩ := by
      intro T K; cases c <;> rfl
    rw [e, e, ← iha]
    simp only [nat_pack, fSt_eq]
end
end Go.Ev
end

/- A part of the proof of the claim: Core4. -/
import Derived.Test.YtnjjgbpannjfjaaDoorCore3
import Derived.Deep.Upon
section
set_option linter.all false
set_option linter.unusedSimpArgs false
set_option linter.unusedVariables false
namespace Go.Ev
open Go
section
variable {eT : TypeId} {G : Gh} {M : Nat → Option Root} {w : World} {J : Nat → Prop} {anc : Nat → Pl} {fp : Nat → List Nat} {P : Program} {R : Type}

/-- Rows that no root owns, of the call's own. -/
def Free (G : Gh) (M : Nat → Option Root) (w : World) (J : Nat → Prop) (fp : Nat → List Nat) (fs : List Nat) : Prop :=
  ∀ b, b ∈ fs → (∀ k' r', M k' = some r' → b ∉ fp k') ∧ ¬ J b ∧ b < w.heap.size ∧ G.w0.heap.size ≤ b

/-- A slice that nobody else holds is taken: its root is given up. -/
theorem take_vec (h : MOk eT G M w J anc fp) {k g ver : Nat} {val : Value} (ha : ARel eT w J M anc (.hdr k g ver []) val) {r : Root} (hl : liveH M k g ver [] = some r) (hv : r.vec = true) (hp : r.par = false) :
    M k = some r ∧ Cn eT w J r.T r.x [val] (fp k) ∧ r.T.size = 1 ∧ (fp k).Nodup ∧
      MOk eT G (upd M k (some r.tomb)) w J (upd anc k (.hd undef)) (upd fp k []) ∧ (∀ x v, ARel eT w J M anc x v → ARel eT w J (upd M k (some r.tomb)) (upd anc k (.hd undef)) x v) ∧
      Free G (upd M k (some r.tomb)) w J (upd fp k []) (fp k) := by
  obtain ⟨hk, hgg, hok, _, hh⟩ := hdr_live (eT := eT) (J := J) ha hl
  obtain ⟨t1, t2⟩ := tomb_ok h hk
  obtain ⟨hpl, fs', hfp, hcn⟩ := h.roots k r hk
  rcases hpl with ⟨v, h1, _, h3⟩ | ⟨b', _, h2, _⟩
  · have hv : v = val := by rw [h1] at hh; simpa [hdrAt, Pl.hdr] using hh
    subst hv
    rw [h1] at hcn hfp
    simp only [Pl.row, List.nil_append] at hfp
    refine ⟨hk, by rw [hfp]; exact hcn, h3, h.nodup k r hk, t1, t2, fun b hb => ?_⟩
    obtain ⟨o1, o2, o3⟩ := h.owned k r hk b hb
    refine ⟨fun k' r' hk' hb' => ?_, o1, o2, ?_⟩
    · by_cases e : k' = k
      · subst e; rw [upd_same] at hb'; simp at hb'
      · rw [upd_other _ _ e] at hk' hb'; exact h.apart k k' _ _ (Ne.symm e) hk hk' b hb hb'
    · rcases o3 with o3 | o3
      · exact o3
      · rw [hp] at o3; cases o3.1
  · rw [hv] at h2; cases h2

theorem Free.tomb {k : Nat} {r : Root} {fs : List Nat} (hf : Free G M w J fp fs) : Free G (upd M k (some r.tomb)) w J (upd fp k []) fs := by
  intro b hb
  obtain ⟨h1, h2⟩ := hf b hb
  refine ⟨fun k' r' hk' hb' => ?_, h2⟩
  by_cases e : k' = k
  · subst e; rw [upd_same] at hb'; simp at hb'
  · rw [upd_other _ _ e] at hk' hb'; exact h1 k' r' hk' hb'

/-- A row that no root owns is written. -/
theorem MOk.scratch (h : MOk eT G M w J anc fp) {b o : Nat} {vs : List Value} (hf : Free G M w J fp [b]) :
    MOk eT G M (setCells w b o vs) J anc fp ∧ (∀ x v, ARel eT w J M anc x v → ARel eT (setCells w b o vs) J M anc x v) := by
  obtain ⟨f1, f2, f3, f4⟩ := hf b (by simp)
  have hJb : ∀ c, J c → J c ∧ w.heap[c]? = (setCells w b o vs).heap[c]? := fun c hc => ⟨hc, (setCells_other _ _ (by rintro rfl; exact f2 hc) _ _ _).symm⟩
  have hos := setCells_os b vs o w
  constructor
  · refine ⟨fun k r hk => (h.roots k r hk).congr hJb (fun c hc => (setCells_other _ _ (by rintro rfl; exact f1 k r hk hc) _ _ _).symm), h.nodup, h.apart, fun k r hk c hc => by rw [setCells_size]; exact h.owned k r hk c hc,
      fun c hc => by rw [setCells_size]; exact h.jlt c hc, h.jw, h.j0, h.jnew, hos.1.trans h.os, hos.2.1.trans h.tape, hos.2.2.trans h.output, by rw [setCells_size]; exact h.size, fun c hc hW => ?_, h.wlt⟩
    rw [setCells_other _ _ (by omega)]; exact h.block c hc hW
  · exact keepsA hJb fun k r hk => ⟨r, hk, Nat.le_refl _, fun _ => Stay.same (h.roots k r hk) (h.nodup k r hk) (fun c hc => setCells_other _ _ (by rintro rfl; exact f1 k r hk hc) _ _ _)⟩

/-- A store at a place of whatever kind: the headers that stand behind it are others. -/
theorem MOk.write_any' (h : MOk eT G M w J anc fp) {k : Nat} {r : Root} (hk : M k = some r) {p : Path} (hok : okP r.T r.x p) (hp : pathOk r p) {n y : TV} {vs : List Value} {fn : List Nat}
    (he : n.T.era = (typeAt r.T p).era) (hset : setP r.T r.x p n = some y) (hc : Cn eT w J n.T n.x vs fn) (hfn : Free G M w J fp fn) (hnn : fn.Nodup) :
    ∃ b o fs f, (Cn eT w J (getP r.T r.x p).T (getP r.T r.x p).x (cellsAt w b o (getP r.T r.x p).T.size) f ∧ f.Nodup ∧ (∀ c, c ∈ f → c ∈ fp k ∧ c ∉ fs) ∧ ∀ c, c ∈ fs → c ∈ fp k ∨ c ∈ fn) ∧ Adr w r.T (anc k) p = some (b, o) ∧ ownB w b (o + (typeAt r.T p).size) ∧ vs.length = (typeAt r.T p).size ∧
      MOk eT G (upd M k (some { r with wr := r.wr + 1, ver := r.ver + 1, T := y.T, x := y.x })) (setCells w b o vs) J anc (upd fp k fs) ∧
      ∀ x v, ARel eT w J M anc x v → ARel eT (setCells w b o vs) J (upd M k (some { r with wr := r.wr + 1, ver := r.ver + 1, T := y.T, x := y.x })) anc x v := by
  have hroot := h.roots k r hk
  obtain ⟨fs', b, o, l, f, rr, hfp, hcn, L, hb⟩ := rootLens hroot (h.nodup k r hk) hok hp
  have hT := getP_T p r.T r.x
  have hlen : vs.length = (getP r.T r.x p).T.size := by rw [Cn_length hc, hT]; exact Ty.size_of_era he
  have hJb : ¬ J b := (h.owned k r hk b hb).1
  have hbn : b ∉ fn := fun hbf => (hfn b hbf).1 k r hk hb
  have hc' : Cn eT (setCells w b o vs) J n.T n.x vs fn := Cn_other hc hJb hbn
  obtain ⟨hcy, hsz⟩ := L.set vs n fn y hlen (by rw [hT]; exact Ty.size_of_era he) hJb hset hc'
  have hsplit := L.split
  have hroot0 := hroot
  obtain ⟨hpl, fs1, hfp1, hcn1⟩ := hroot
  have hvecT : r.vec = true → y.T = r.T := by
    intro hv
    obtain ⟨E, hE, hne⟩ := hp hv
    obtain ⟨vec, par, g, ver, wr, T, x⟩ := r
    simp only at hE hset ⊢; subst hE
    obtain ⟨x', rfl, _⟩ := setP_own hset hne
    rfl
  have hndk := h.nodup k r hk
  have hsub : ∀ c, c ∈ (anc k).row ++ (l ++ fn ++ rr) → c ∈ fp k ∨ c ∈ fn := by
    intro c hc
    rw [hfp, hsplit]
    simp only [List.mem_append] at hc ⊢
    grind
  have hnd : ((anc k).row ++ (l ++ fn ++ rr)).Nodup := by
    rw [hfp, hsplit] at hndk
    have hdis : ∀ c, c ∈ fn → c ∉ (anc k).row ++ (l ++ f ++ rr) := fun c hc hc2 => (hfn c hc).1 k r hk (by rw [hfp, hsplit]; exact hc2)
    simp only [List.nodup_append, List.mem_append, ne_eq] at hndk hdis ⊢
    grind
  have hroot' : RootOk eT (setCells w b o vs) J { r with wr := r.wr + 1, ver := r.ver + 1, T := y.T, x := y.x } (anc k) ((anc k).row ++ (l ++ fn ++ rr)) := by
    refine ⟨?_, _, rfl, ?_⟩
    · rcases hpl with ⟨v, h1, h2, h3⟩ | ⟨b', h1, h2, h3⟩
      · exact .inl ⟨v, h1, h2, hsz.trans h3⟩
      · exact .inr ⟨b', h1, h2, by simp only [hsz]; exact ownB_set h3⟩
    · simp only [hsz]; exact hcy
  have hera : y.T.era = r.T.era := setP_era p _ _ _ _ hset he
  have hstay : Stay w (setCells w b o vs) r { r with wr := r.wr + 1, ver := r.ver + 1, T := y.T, x := y.x } (anc k) (anc k) := by
    refine ⟨rfl, Nat.le_succ _, Nat.le_succ _, fun q => crossR_era hera hvecT q, fun q hx hq => ?_, fun q v hx hq ht hv => ?_, fun q b1 o1 hw => by simp at hw⟩
    · have hcr : crossR r.vec r.T q = false := by
        cases hcr : crossR r.vec r.T q with
        | false => rfl
        | true => have := hx hcr; simp at this
      rcases hpl with ⟨v, h1, h2, h3⟩ | ⟨b', h1, h2, h3⟩
      · have hyT := hvecT h2
        obtain ⟨E, hE, hne⟩ := hp h2
        obtain ⟨vec, par, g, ver, wr, T, x⟩ := r
        obtain ⟨yT, yx⟩ := y
        simp only at hE hset hq hcr hyT hcn1 hcy h2 hsz ⊢
        subst hE hyT h2
        obtain ⟨x', e1, e2⟩ := setP_own hset hne
        cases e1
        rw [h1] at hcn1 hcy ⊢
        cases q with
        | nil => exact ⟨okP_nil _ _, rfl⟩
        | cons s q =>
          cases s with
          | fst => simp [okP] at hq
          | snd => simp [okP] at hq
          | idx i =>
            obtain ⟨hi, hq⟩ := hq
            have hi' : i < List.length yx := by rw [e2]; exact hi
            simp only [Pl.cells, Cn] at hcn1 hcy
            obtain ⟨a, cap, hcs, _, hor⟩ := hcn1
            obtain ⟨a', cap', hcs', _, hor'⟩ := hcy
            rcases hor with ⟨_, hc0, _⟩ | ⟨b1, o1, fss, hab, _, _, _, hel⟩
            · omega
            rcases hor' with ⟨_, hc0, _⟩ | ⟨b2, o2, fss', hab', _, _, _, hel'⟩
            · omega
            rw [getD_get hi] at hq
            have := noncross (w := w) (w' := setCells w b o vs) q E E _ (List.get yx ⟨i, hi'⟩) _ _ _ _ b1 (o1 + i * E.size) rfl (hel i hi) (hel' i hi') (by simpa [crossR] using hcr) hq
            refine ⟨⟨hi', by rw [getD_get hi']; exact this.1⟩, ?_⟩
            simp only [List.cons.injEq, and_true] at hcs hcs'
            subst hcs
            simp only [Adr, Pl.hdr, hab]
            exact this.2
      · have hcr' : crosses r.T q = false := by rw [h2] at hcr; simpa [crossR] using hcr
        rw [h1] at hcn1 hcy ⊢
        exact noncross q r.T y.T r.x y.x _ _ _ _ b' 0 hera.symm hcn1 hcy hcr' hq
    · by_cases hne : r.vec = true ∧ q = []
      · obtain ⟨hv1, rfl⟩ := hne
        refine ⟨okP_nil _ _, fun h' => absurd ⟨hv1, rfl⟩ h', ?_⟩
        rcases hpl with ⟨v', h1, _⟩ | ⟨b', _, h2, _⟩
        · simp only [hdrAt, h1, Pl.hdr] at hv ⊢; exact hv
        · rw [h2] at hv1; cases hv1
      · have := hx hne; simp at this
  have hown : ownB w b (o + (typeAt r.T p).size) := by
    rw [← hT]
    refine L.free fun b2 o2 e2 => ?_
    rcases hpl with ⟨v', h1, _⟩ | ⟨b', h1, _, h3⟩
    · rw [h1] at e2; cases e2
    · rw [h1] at e2; cases e2; simpa using h3
  have hput := h.put (r' := { r with wr := r.wr + 1, ver := r.ver + 1, T := y.T, x := y.x }) hk hb rfl hroot' hnd (fun c hc => by
    rcases hsub c hc with h1 | h1
    · exact .inl h1
    · exact .inr (hfn c h1))
  refine ⟨b, o, _, f, ⟨L.get, ?_, fun c hc => ⟨by rw [hfp, hsplit]; simp [hc], fun hc2 => ?_⟩, hsub⟩, L.adr, hown, by rw [hlen, hT], hput, h.put_keeps hk hb rfl hstay⟩
  · rw [hfp, hsplit] at hndk
    simp only [List.nodup_append] at hndk
    exact hndk.2.1.1.2.1
  · have hcf : c ∈ fp k := by rw [hfp, hsplit]; simp [hc]
    rw [hfp, hsplit] at hndk
    simp only [List.nodup_append, List.mem_append, ne_eq] at hndk
    simp only [List.mem_append] at hc2
    rcases hc2 with h1 | (h1 | h1) | h1
    · exact hndk.2.2 c h1 c (.inl (.inr hc)) rfl
    · exact hndk.2.1.1.2.2 c h1 c hc rfl
    · exact (hfn c h1).1 k r hk hcf
    · exact hndk.2.1.2.2 c (.inr hc) c h1 rfl

/-- The same, told shorter. -/
theorem MOk.write_any (h : MOk eT G M w J anc fp) {k : Nat} {r : Root} (hk : M k = some r) {p : Path} (hok : okP r.T r.x p) (hp : pathOk r p) {n y : TV} {vs : List Value} {fn : List Nat}
    (he : n.T.era = (typeAt r.T p).era) (hset : setP r.T r.x p n = some y) (hc : Cn eT w J n.T n.x vs fn) (hfn : Free G M w J fp fn) (hnn : fn.Nodup) :
    ∃ b o fs, Adr w r.T (anc k) p = some (b, o) ∧ ownB w b (o + (typeAt r.T p).size) ∧ vs.length = (typeAt r.T p).size ∧
      MOk eT G (upd M k (some { r with wr := r.wr + 1, ver := r.ver + 1, T := y.T, x := y.x })) (setCells w b o vs) J anc (upd fp k fs) ∧
      ∀ x v, ARel eT w J M anc x v → ARel eT (setCells w b o vs) J (upd M k (some { r with wr := r.wr + 1, ver := r.ver + 1, T := y.T, x := y.x })) anc x v := by
  obtain ⟨b, o, fs, f, _, h1, h2, h3, h4, h5⟩ := h.write_any' hk hok hp he hset hc hfn hnn
  exact ⟨b, o, fs, h1, h2, h3, h4, h5⟩

theorem setCell_id (w : World) (b o : Nat) (v : Value) (h : w.cell? ⟨b, o, none⟩ = some v) : w.setCell ⟨b, o, none⟩ v = w := by
  unfold World.setCell
  obtain ⟨heap, tape, drawn, os, output⟩ := w
  congr 1
  simp only [World.cell?] at h
  refine Array.ext_getElem? fun i => ?_
  simp only [Array.getElem?_modify]
  split
  · rename_i e
    subst e
    cases hb : heap[b]? with
    | none => rfl
    | some x =>
      rw [hb] at h
      cases x with
      | cells c e f =>
        simp only [Option.map_some, Option.isSome_none, Bool.false_eq_true, if_false]
        congr 2
        refine Array.ext_getElem? fun j => ?_
        rw [Array.getElem?_setIfInBounds]
        split
        · rename_i e2; subst e2
          have hv : c[o]? = some v := by simpa using h
          obtain ⟨h1, h2⟩ := Array.getElem?_eq_some_iff.1 hv
          rw [if_pos h1, hv]
        · rfl
      | _ => rfl
  · rfl

/-- A slice that a variable's field holds is taken: nothing is known of the field then. -/
theorem take_field (h : MOk eT G M w J anc fp) {k g ver : Nat} {p : Path} {val : Value} (ha : ARel eT w J M anc (.hdr k g ver p) val) {r : Root} (hl : liveH M k g ver p = some r) (hv : r.vec = false) (hp : r.par = false) {E : Ty} {l : List E.den} (hg : getP r.T r.x p = ⟨.own E, l⟩)
    {y : TV} (hset : setP r.T r.x p ⟨.dead, ()⟩ = some y) :
    ∃ f fs, M k = some r ∧ Cn eT w J (.own E) l [val] f ∧ f.Nodup ∧ (∀ b, b ∈ f → b ∈ fp k) ∧ (∀ b, b ∈ fs → b ∈ fp k) ∧
      MOk eT G (upd M k (some { r with wr := r.wr + 1, ver := r.ver + 1, T := y.T, x := y.x })) w J anc (upd fp k fs) ∧
      (∀ x v, ARel eT w J M anc x v → ARel eT w J (upd M k (some { r with wr := r.wr + 1, ver := r.ver + 1, T := y.T, x := y.x })) anc x v) ∧
      Free G (upd M k (some { r with wr := r.wr + 1, ver := r.ver + 1, T := y.T, x := y.x })) w J (upd fp k fs) f := by
  obtain ⟨hk, hgg, hok, hty, hh⟩ := hdr_live (eT := eT) (J := J) ha hl
  have htyp : typeAt r.T p = .own E := by rw [← getP_T p r.T r.x, hg]
  have hpath : pathOk r p := fun hvec => by rw [hv] at hvec; cases hvec
  obtain ⟨b, o, fs, f, ⟨hcn, hnd, hfr, hsb⟩, hadr, hown, hlen, m1, k1⟩ := h.write_any' hk hok hpath (n := ⟨.dead, ()⟩) (vs := [val]) (fn := []) (by rw [htyp]; rfl) hset (by simp only [Cn]; exact ⟨rfl, by trivial⟩) (fun b hb => by simp at hb) (by simp)
  have hcell : w.cell? ⟨b, o, none⟩ = some val := by
    have hroot := h.roots k r hk
    cases p with
    | nil =>
      rcases hroot.1 with ⟨v', h1, h2, _⟩ | ⟨b', h1, _⟩
      · rw [hv] at h2; cases h2
      · rw [h1] at hadr hh
        have e : Adr w r.T (.at b' 0) [] = some (b', 0) := by cases r.T <;> rfl
        rw [e] at hadr; cases hadr
        exact hh
    | cons s p =>
      simp only [hdrAt] at hh
      rw [hadr] at hh
      exact hh
  have hid : setCells w b o [val] = w := by simp only [setCells]; exact setCell_id w b o val hcell
  rw [hid] at m1 k1
  refine ⟨f, fs, hk, ?_, hnd, fun b hb => (hfr b hb).1, fun b hb => (hsb b hb).elim id (fun h0 => by simp at h0), m1, k1, fun c hc => ?_⟩
  · rw [hg] at hcn
    have hcn0 := hcn
    simp only [Cn] at hcn
    obtain ⟨a, cap, hcs, _⟩ := hcn
    have := cell_of_cellsAt hcs
    rw [hcell] at this
    have e : cellsAt w b o (Ty.own E).size = [val] := by rw [Option.some.inj this]; exact hcs
    rw [← e]; exact hcn0
  · obtain ⟨c1, c2⟩ := hfr c hc
    obtain ⟨o1, o2, o3⟩ := h.owned k r hk c c1
    refine ⟨fun k' r' hk' hc' => ?_, o1, o2, ?_⟩
    · by_cases e : k' = k
      · subst e; rw [upd_same] at hc'; exact c2 hc'
      · rw [upd_other _ _ e] at hk' hc'; exact h.apart k k' _ _ (Ne.symm e) hk hk' c c1 hc'
    · rcases o3 with o3 | o3
      · exact o3
      · rw [hp] at o3; cases o3.1

/-- A slice that was taken gets a root of its own. -/
theorem after_move (h : MOk eT G M w J anc fp) {dk : Nat} {r : Root} {val : Value} {fs : List Nat} (hv : r.vec = true) (hs : r.T.size = 1) (hg : r.g = nextG M dk) (hver : r.ver = 0) (hc : Cn eT w J r.T r.x [val] fs) (hn : fs.Nodup) (hf : Free G M w J fp fs) :
    After eT G M w J anc (some (.a (.hdr dk (nextG M dk) 0 []))) [(dk, r)] val w := by
  have hroot : RootOk eT w J r (.hd val) fs := ⟨.inl ⟨_, rfl, hv, hs⟩, fs, rfl, by simp only [Pl.cells]; exact hc⟩
  obtain ⟨k1, k2⟩ := after_new h (Grow.refl w) (dk := dk) hroot hn hg (fun b hb => .inr (hf b hb))
  refine ⟨J, _, _, k1, k2, fun y hy => ?_⟩
  cases hy
  refine ⟨_, upd_same _ _ _, Nat.le_of_eq hg.symm, fun _ => ⟨by omega, fun _ => ⟨okP_nil _ _, fun hne => absurd ⟨hv, rfl⟩ hne, ?_⟩⟩⟩
  rw [upd_same]; rfl
end
end Go.Ev
end

section
set_option linter.all false
set_option linter.unusedSimpArgs false
set_option linter.unusedVariables false
namespace Go.Ev
open Go
section
variable {E : Env} {G : Gh} {M : Nat → Option Root} {w : World} {J : Nat → Prop} {anc : Nat → Pl} {fp : Nat → List Nat} {R : Type} {dk : Nat} {κ : Option V → List (Nat × Root) → Option R} {r : R} {F : Nat → Option V} {ρ : Operand → Value} {o : Oper}

theorem op_box (h : MOk E.eT G M w J anc fp) (hev : ∀ x v, opv F x = some v → VRel E.eT w J M anc v (ρ x)) {t : TypeId} {x : Operand} (ho : o.op = .box t x) (hr : opA E M dk κ F (.box t x) = some r) :
    OpRes E.P E.eT G M w J anc ρ o κ r := by
  simp only [opA] at hr
  split at hr
  · rename_i T T' y hT hx
    split at hr
    · rename_i hc
      simp only [Bool.and_eq_true, decide_eq_true_eq] at hc
      obtain ⟨cs, hcn, hval⟩ := hev _ _ hx
      refine ⟨_, _, _, _, hr, after_box h hcn t, .inl ?_⟩
      simp only [execOp, ho, Instr.box, Sem.run_bind, hval, run_newVar (Cn_length hcn) (Cn_one hc.2 hcn), Result.andThen_ok, Sem.run_pure]
    · cases hr
  · cases hr

theorem zer_pure : ∀ {T : Ty}, T.pure = true → T.zer.pure = true := by
  intro T
  induction T with
  | arr n T ih => intro hp; exact ih hp
  | pair A B ha hb => intro hp; simp only [Ty.pure, Ty.zer, Bool.and_eq_true] at hp ⊢; exact ⟨ha hp.1, hb hp.2⟩
  | own T ih => intro hp; simp [Ty.pure] at hp
  | dead => intro hp; simp [Ty.pure] at hp
  | _ => intro _; rfl

theorem zer_era : ∀ {T : Ty}, T.pure = true → T.zer.era = T.era := by
  intro T
  induction T with
  | arr n T ih => intro hp; simp only [Ty.zer, Ty.era, ih hp]
  | pair A B ha hb => intro hp; simp only [Ty.pure, Bool.and_eq_true] at hp; simp only [Ty.zer, Ty.era, ha hp.1, hb hp.2]
  | own T ih => intro hp; simp [Ty.pure] at hp
  | dead => intro hp; simp [Ty.pure] at hp
  | _ => intro _; rfl

theorem op_alloc (hE : EnvTy E) (h : MOk E.eT G M w J anc fp) {t : TypeId} (ho : o.op = .alloc t) (hr : opA E M dk κ F (.alloc t) = some r) : OpRes E.P E.eT G M w J anc ρ o κ r := by
  simp only [opA] at hr
  split at hr
  · rename_i T hT
    obtain ⟨hp, n, hty⟩ := hE.ty t T hT
    refine ⟨_, _, _, _, hr, after_box h (Cn_zero (eT := E.eT) (w := w) (J := J) T hp) t, .inl ?_⟩
    simp only [execOp, ho, Sem.run_bind, run_alloc (tyOk_F hty) hp, Result.andThen_ok, Sem.run_pure]
  · cases hr

/-- A part's place in a struct, or in an array. -/
theorem place_field {P : Program} {S : Ty} {eT : TypeId} {m : Nat} {fs : List Field} (hfs : fieldsOk (tyOk P m) fs 0 S = true) (places : Nat → Option (Nat × Nat))
    (hpl : ∀ i f, fs[i]? = some f → ∃ s, places i = some (f.offset, s) ∧ ∀ k T, tyOk P k f.type T = true → s = T.size) :
    ∀ i, hasField S i = true → ∀ (T : Ty) (x : T.den) (w : World) (J : Nat → Prop) (cs : List Value), T.era = S.era → T.pure = true → Cn eT w J T x cs [] →
      okP T x (fieldPath i) ∧ places i = some (offT T (fieldPath i), (typeAt T (fieldPath i)).size) := by
  intro i hi T x w J cs he hp hc
  obtain ⟨fld, g1, g2, g3, g4, g5, g6, g7⟩ := field_at i fs 0 S T hfs hi he.symm
  have hok := okP_field i T x (by rw [← hasField_era i S T he.symm]; exact hi)
  refine ⟨hok, ?_⟩
  obtain ⟨s, h1, h2⟩ := hpl i fld g1
  rw [h1, h2 _ _ g3, Ty.size_of_era g5]
  have h3 := g6 w 0 0
  rw [Adr_off _ _ x w 0 0 hp hok] at h3
  simp only [Option.some.injEq, Prod.mk.injEq, true_and, Nat.zero_add, Nat.sub_zero] at h3
  rw [h3]

theorem run_places {P : Program} {m : Nat} {w : World} : ∀ (fs : List Field) (off : Nat) (S : Ty), fieldsOk (tyOk P m) fs off S = true →
    ∃ ps : List (Nat × Nat), (fs.mapM (fun (f : Field) => do pure (f.offset, ← sizeOf f.type)) : Sem (List (Nat × Nat))).run P w = .ok ps w ∧ ∀ (i : Nat) (f : Field), fs[i]? = some f → ∃ s, ps[i]? = some (f.offset, s) ∧ ∀ k T, tyOk P k f.type T = true → s = T.size := by
  intro fs
  induction fs with
  | nil => intro off S _; exact ⟨[], rfl, fun i f hf => by simp at hf⟩
  | cons f fs ih =>
    intro off S h
    cases S with
    | pair A B =>
      simp only [fieldsOk, Bool.and_eq_true] at h
      obtain ⟨⟨⟨_, _⟩, h3⟩, h4⟩ := h
      obtain ⟨ps, h5, h6⟩ := ih _ _ h4
      refine ⟨(f.offset, A.size) :: ps, ?_, ?_⟩
      · simp only [List.mapM_cons, Sem.run_bind, run_sizeOf (tyOk_F h3), Result.andThen_ok, Sem.run_pure, h5]
      · intro i g hg
        cases i with
        | zero =>
          simp at hg; subst hg
          refine ⟨A.size, rfl, fun k T hT => ?_⟩
          obtain ⟨i1, e1, e2, _⟩ := (tyOk_F h3).info
          obtain ⟨i2, e3, e4, _⟩ := (tyOk_F hT).info
          rw [e1] at e3; cases e3; omega
        | succ i => exact h6 i g (by simpa using hg)
    | _ => simp [fieldsOk] at h

/-- A struct, or an array, out of its parts. -/
theorem op_build (hE : EnvTy E) (h : MOk E.eT G M w J anc fp) (hev : ∀ x v, opv F x = some v → VRel E.eT w J M anc v (ρ x)) {t : TypeId} {parts : Array (Nat × Operand)} (ho : o.op = .build t parts)
    (hr : opA E M dk κ F (.build t parts) = some r) : OpRes E.P E.eT G M w J anc ρ o κ r := by
  have hparts : (parts.map fun (i, x) => (i, ρ x)).toList = parts.toList.map fun (i, x) => (i, ρ x) := by simp
  have fin : ∀ (y : TV) (us : List (Nat × Root)) (J' : Nat → Prop) (anc' : Nat → Pl) (fp' : Nat → List Nat) (cs' : List Value), κ (some (.a (.val y.T y.x))) us = some r → MOk E.eT G (updM M us) w J' anc' fp' →
      (∀ x u, ARel E.eT w J M anc x u → ARel E.eT w J' (updM M us) anc' x u) → y.T.agg = true →
      Cn E.eT w J' y.T y.x cs' [] → (Instr.build t (parts.map fun (i, x) => (i, ρ x))).run E.P w = .ok (.agg cs'.toArray) w → OpRes E.P E.eT G M w J anc ρ o κ r := by
    intro y us J' anc' fp' cs' hr m2 k2 hagg hcn hrun
    refine ⟨_, _, .agg cs'.toArray, _, hr, ⟨J', anc', fp', m2, k2, fun z hz => ?_⟩, .inl ?_⟩
    · cases hz; exact ⟨cs', hcn, by simp [conc, hagg]⟩
    · simp only [execOp, ho, Sem.run_bind, hrun, Result.andThen_ok, Sem.run_pure]
  simp only [opA] at hr
  split at hr
  · rename_i m S hT
    obtain ⟨hp, n, hty⟩ := hE.ty t _ hT
    split at hr
    · rename_i y us hb
      split at hr
      · have hz := Cn_zero (eT := E.eT) (w := w) (J := J) _ hp
        have hcells : (conc (.arr m S) (zeroCs (.arr m S))).cells = (zeroCs (.arr m S)).toArray := conc_cells' (zeroCs_length _) (zeroCs_one hp)
        obtain ⟨k, e, hu, he⟩ := tyOk_elem hty
        obtain ⟨J', anc', fp', cs', m2, _, k2, e2, c2, f2⟩ := buildA_ok (S := .arr m S) (ev := opv F) (ρ := ρ) (place := fun i => some (i * S.size, S.size)) (w := w) (G := G) (eT := E.eT) (by
          intro i hi T x w J cs heT hpT hcT
          simp only [Nat.blt_eq] at hi
          cases T <;> simp only [Ty.era, reduceCtorEq, Ty.arr.injEq] at heT
          rename_i m' T
          simp only [Cn] at hcT
          refine ⟨⟨by show i < List.length x; omega, okP_nil _ _⟩, ?_⟩
          simp only [offT, typeAt, typeAt_nil]
          rw [Ty.size_of_era heT.2, Nat.add_zero]) parts.toList M J anc fp _ _ y us h hev (zer_era hp) (zer_pure hp) hz hb
        refine fin y us J' anc' fp' cs' hr m2 k2 (by rw [Ty.agg_of_era e2]; rfl) c2 ?_
        simp only [Instr.build, Sem.run_bind, run_zero (tyOk_F hty), underlying, run_program, Result.andThen_ok, hu, Sem.run_pure, run_sizeOf (tyOk_F he), hcells, hparts, f2]
      · cases hr
    · cases hr
  · rename_i A B hT
    obtain ⟨hp, n, hty⟩ := hE.ty t _ hT
    split at hr
    · rename_i y us hb
      split at hr
      · have hz := Cn_zero (eT := E.eT) (w := w) (J := J) _ hp
        have hcells : (conc (.pair A B) (zeroCs (.pair A B))).cells = (zeroCs (.pair A B)).toArray := conc_cells' (zeroCs_length _) (zeroCs_one hp)
        obtain ⟨m, fs, hu, hfs⟩ := tyOk_struct (f := 0) hty rfl
        obtain ⟨ps, hps, hpl⟩ := run_places (w := w) fs.toList 0 _ hfs
        have hmap : (fs.mapM (fun (f : Field) => do pure (f.offset, ← sizeOf f.type)) : Sem (Array (Nat × Nat))).run E.P w = .ok ps.toArray w := by
          rw [Array.mapM_eq_mapM_toList, Sem.run_map, hps]; rfl
        obtain ⟨J', anc', fp', cs', m2, _, k2, e2, c2, f2⟩ := buildA_ok (S := .pair A B) (ev := opv F) (ρ := ρ) (place := fun i => ps.toArray[i]?) (w := w) (G := G) (eT := E.eT) (place_field hfs _ (by simpa using hpl)) parts.toList M J anc fp _ _ y us h hev (zer_era hp) (zer_pure hp) hz hb
        refine fin y us J' anc' fp' cs' hr m2 k2 (by rw [Ty.agg_of_era e2]; rfl) c2 ?_
        simp only [Instr.build, Sem.run_bind, run_zero (tyOk_F hty), underlying, run_program, Result.andThen_ok, hu, Sem.run_pure, hmap, hcells, hparts, f2]
      · cases hr
    · cases hr
  · cases hr
end
end Go.Ev
end

section
set_option linter.all false
set_option linter.unusedSimpArgs false
set_option linter.unusedVariables false
namespace Go.Ev
open Go
section
variable {eT : TypeId} {G : Gh} {M : Nat → Option Root} {w : World} {J : Nat → Prop} {anc : Nat → Pl} {fp : Nat → List Nat} {P : Program} {R : Type}

theorem setCells_kit (b : Nat) : ∀ (vs : List Value) (o : Nat) (w : World), w.setCells b o vs = setCells w b o vs := by
  intro vs
  induction vs with
  | nil => intro o w; rfl
  | cons v vs ih => intro o w; simp only [World.setCells, setCells, ih]

/-- What is appended. -/
structure Tail (P : Program) (eT : TypeId) (w : World) (J : Nat → Prop) (T : Ty) (m : List T.den) (tx : TypeId) (x : Value) (news : List Value) (gss : List (List Nat)) : Prop where
  src : Src P T.size tx x m.length news w
  len : gss.length = m.length
  el : ∀ i (h : i < m.length), Cn eT w J T (m.get ⟨i, h⟩) ((news.drop (i * T.size)).take T.size) (gss.getD i [])

theorem cellsAt_full {b o n m : Nat} (ho : ownB w b (o + m)) (h : n ≤ m) : (cellsAt w b o n).length = n := by
  obtain ⟨c, e, h1, h2⟩ := ho
  unfold cellsAt; rw [h1]; simp; omega

theorem getD_append_left {fss gss : List (List Nat)} {i : Nat} (h : i < fss.length) : (fss ++ gss).getD i [] = fss.getD i [] := by
  simp [List.getD_eq_getElem?_getD, List.getElem?_append, h]
theorem getD_append_right {fss gss : List (List Nat)} {i : Nat} (h : fss.length ≤ i) : (fss ++ gss).getD i [] = gss.getD (i - fss.length) [] := by
  simp [List.getD_eq_getElem?_getD, List.getElem?_append, Nat.not_lt.2 h]
theorem get_append_left {α : Type} {l m : List α} {i : Nat} (h : i < (l ++ m).length) (hi : i < l.length) : (l ++ m).get ⟨i, h⟩ = l.get ⟨i, hi⟩ := by
  simp [List.getElem_append, hi]
theorem get_append_right {α : Type} {l m : List α} {i : Nat} (h : i < (l ++ m).length) (hi : l.length ≤ i) : (l ++ m).get ⟨i, h⟩ = m.get ⟨i - l.length, by simp at h; omega⟩ := by
  simp [List.getElem_append, Nat.not_lt.2 hi]

theorem append_run {t tx ty e : TypeId} {S T : Ty} {n : Nat} {info : TypeInfo} (ht : P.underlying t = some (.slice e)) (hd : tyOk P n e S = true) (hi : P.info? e = some info) (hSp : S.pure = true) (hE : T.era = S.era)
    {l m : List T.den} {a : Option Addr} {cap : Nat} {fs : List Nat} (hc : Cn eT w J (.own T) l [.slice a l.length cap] fs) {x : Value} {news : List Value} {gss : List (List Nat)} (hx : Tail P eT w J T m tx x news gss)
    (hJ : ∀ b, J b → b < w.heap.size ∧ b ∉ fs) (hlt : ∀ b, b ∈ fs ++ gss.flatten → b < w.heap.size) (hnd : (fs ++ gss.flatten).Nodup)
    (hb : (l.length + m.length) * info.bytes ≤ 140737488355328) (hb0 : 0 < info.bytes) :
    ∃ w' val fs', (Builtin.append_ #[t, tx] ty #[.slice a l.length cap, x]).run P w = .ok val w' ∧ Cn eT w' J (.own T) (l ++ m) [val] fs' ∧ fs'.Nodup ∧
      (((w' = w ∨ ∃ b o vs, b ∈ fs ∧ w' = setCells w b o vs) ∧ ∀ c, c ∈ fs' → c ∈ fs ++ gss.flatten) ∨
        (Grow w w' ∧ ∀ c, c ∈ fs' → c ∈ fs ++ gss.flatten ∨ (w.heap.size ≤ c ∧ c < w'.heap.size))) := by
  obtain ⟨info', hi', hsz, z, hz, hzv⟩ := (tyOk_F hd).info
  rw [hi] at hi'; cases hi'
  have hTS : T.size = S.size := Ty.size_of_era hE
  have hsrc : Src P info.size tx x m.length news w := by rw [hsz, ← hTS]; exact hx.src
  have hnl := hx.src.newsLen
  have hc0 := hc
  simp only [Cn] at hc
  obtain ⟨a', cap', hcs, hcap, hor⟩ := hc
  cases hcs
  have hbig : l.length + m.length ≤ 140737488355328 := Nat.le_trans (Nat.le_mul_of_pos_right _ hb0) hb
  by_cases hroom : l.length + m.length ≤ cap
  · rcases hor with ⟨rfl, rfl, rfl⟩ | ⟨b, o, fss, rfl, hown, hfl, rfl, hel⟩
    · have hl0 : l = [] := List.eq_nil_of_length_eq_zero (by omega)
      have hm0 : m = [] := List.eq_nil_of_length_eq_zero (by omega)
      subst hl0 hm0
      have hn0 : news = [] := List.eq_nil_of_length_eq_zero (by simpa using hnl)
      subst hn0
      refine ⟨w, _, [], run_append_nothing w t tx ty e info ht hi none 0 0 (Nat.le_refl _) x hsrc, hc0, by simp, .inl ⟨.inl rfl, by simp⟩⟩
    · have hfit : l.length * T.size + news.length ≤ cap * T.size := by rw [hnl, ← Nat.add_mul]; exact Nat.mul_le_mul_right _ hroom
      obtain ⟨c, el, hheap, hcsz⟩ := hown
      have hown : ownB w b (o + cap * T.size) := ⟨c, el, hheap, hcsz⟩
      have hrun := run_append_room_src w t tx ty e info ht hi b o l.length cap x m.length news hsrc hroom
        (by intro j hj; rw [hsz, ← hTS]; unfold World.cell?; simp only [hheap]; simp; omega) (by intro j hj; unfold World.frozen?; simp [hheap])
      rw [hsz, ← hTS, setCells_kit] at hrun
      have hnb : ∀ c, c ∈ fss.flatten ++ gss.flatten → c ≠ b := by
        rintro c hc rfl
        simp only [List.cons_append, List.nodup_cons] at hnd
        exact hnd.1 hc
      have hJb : ¬ J b := fun h => (hJ b h).2 (by simp)
      refine ⟨_, _, b :: (fss ++ gss).flatten, hrun, ?_, by simpa using hnd, .inl ⟨.inr ⟨b, _, news, by simp, rfl⟩, by simp⟩⟩
      simp only [Cn]
      refine ⟨some ⟨b, o, none⟩, cap, by simp, by simp; omega, .inr ⟨b, o, fss ++ gss, rfl, ownB_set hown, by simp [hfl, hx.len], rfl, fun i hi => ?_⟩⟩
      by_cases h1 : i < l.length
      · rw [get_append_left hi h1, getD_append_left (by omega)]
        have h2 : o + i * T.size + T.size ≤ o + l.length * T.size := by
          have := Nat.mul_le_mul_right T.size (show i + 1 ≤ l.length from h1)
          rw [Nat.add_mul] at this; omega
        rw [cellsAt_set_apart (.inl h2)]
        exact Cn_other (hel i h1) hJb (fun hm => hnb b (by simp [mem_getD_flatten hm]) rfl)
      · have h1' : l.length ≤ i := by omega
        have h3 : i - l.length < m.length := by simp at hi; omega
        rw [get_append_right hi h1', getD_append_right (by omega), hfl]
        have h4 : cellsAt (setCells w b (o + l.length * T.size) news) b (o + i * T.size) T.size = (news.drop ((i - l.length) * T.size)).take T.size := by
          have h5 := cellsAt_set_same (w := w) (b := b) (o := o + l.length * T.size) (vs := news) (cellsAt_full (m := cap * T.size - l.length * T.size) (by rw [Nat.add_assoc, show l.length * T.size + (cap * T.size - l.length * T.size) = cap * T.size by omega]; exact hown) (by omega))
          have h6 := cellsAt_part (setCells w b (o + l.length * T.size) news) b (o + l.length * T.size) (i := i - l.length) (n := m.length) (s := T.size) h3
          rw [← hnl, h5] at h6
          rw [h6]; congr 1
          rw [Nat.sub_mul]; have := Nat.mul_le_mul_right T.size h1'; omega
        rw [h4]
        exact Cn_other (hx.el _ h3) hJb (fun hm => hnb b (by simp [mem_getD_flatten hm]) rfl)
  · -- a new row
    have holds : ∃ olds : List Value, (Builtin.firstCells info.size l.length (.slice a l.length cap)).run P w.drew = .ok olds.toArray w.drew ∧ olds.length = l.length * T.size ∧ ∃ fss : List (List Nat), fss.length = l.length ∧
        (∀ c, c ∈ fss.flatten → c ∈ fs) ∧ (fss.flatten ++ gss.flatten).Nodup ∧ ∀ i (h : i < l.length), Cn eT w J T (l.get ⟨i, h⟩) ((olds.drop (i * T.size)).take T.size) (fss.getD i []) := by
      rcases hor with ⟨rfl, rfl, rfl⟩ | ⟨b, o, fss, rfl, hown, hfl, rfl, hel⟩
      · have hl0 : l = [] := List.eq_nil_of_length_eq_zero (by omega)
        subst hl0
        exact ⟨[], run_firstCells_none _ _ _ _ _, by simp, [], rfl, by simp, by simpa using hnd, fun i h => by simp at h⟩
      · have hle : l.length * T.size ≤ cap * T.size := Nat.mul_le_mul_right _ hcap
        refine ⟨cellsAt w b o (l.length * T.size), ?_, cellsAt_full hown hle, fss, hfl, fun c hc => by simp at hc ⊢; exact .inr hc, by simp only [List.cons_append, List.nodup_cons] at hnd; exact hnd.2, fun i h => by rw [cellsAt_part _ _ _ h]; exact hel i h⟩
        refine run_firstCells_some _ _ _ _ _ _ _ (by rw [cellsAt_full hown hle, hsz, hTS]) fun j v hj => ?_
        rw [add_at]; exact cell_cellsAt (w := w) hj
    obtain ⟨olds, hold, hol, fss, hfl, hfs, hnd2, hel⟩ := holds
    have hrun := run_append_grow_src w t tx ty e info z ht hi hz a l.length cap olds hold x m.length news hsrc (by omega) (by omega) (growslice_fits (by omega) hb)
    have hge := grownCap_ge w (l.length + m.length) cap e
    generalize grownCap w (l.length + m.length) cap e = gc at hrun hge
    generalize hzz : Builtin.zeroCells z.cells (gc - (l.length + m.length)) = zs at hrun
    have hzl : zs.size = (gc - (l.length + m.length)) * T.size := by
      rw [← hzz]
      have : z.cells.size = S.size := by
        rw [hzv, conc_cells' (zeroCs_length S) (zeroCs_one hSp)]; simp [zeroCs_length]
      simp [Builtin.zeroCells, this, hTS]
    have hg : Grow w (w.drew.alloc (.cells ((olds ++ news).toArray ++ zs) e)) := ⟨rfl, rfl, rfl, by show _ ≤ (w.heap.push _).size; simp, fun b hb => by show (w.heap.push _)[b]? = _; rw [Array.getElem?_push, if_neg (Nat.ne_of_lt hb)]⟩
    have hat : (w.drew.alloc (.cells ((olds ++ news).toArray ++ zs) e)).heap[w.heap.size]? = some (.cells ((olds ++ news).toArray ++ zs) e) := by show (w.heap.push _)[w.heap.size]? = _; rw [Array.getElem?_push, if_pos rfl]
    have hrow : ∀ i, i < l.length + m.length → cellsAt (w.drew.alloc (.cells ((olds ++ news).toArray ++ zs) e)) w.heap.size (i * T.size) T.size = ((olds ++ news).drop (i * T.size)).take T.size := by
      intro i hi
      unfold cellsAt; rw [hat]
      simp only [Array.toList_append]
      have h2 : i * T.size + T.size ≤ (olds ++ news).length := by
        have := Nat.mul_le_mul_right T.size (show i + 1 ≤ l.length + m.length from hi)
        rw [List.length_append, hol, hnl, ← Nat.add_mul]; rw [Nat.add_mul] at this; omega
      rw [List.drop_append_of_le_length (by omega), List.take_append_of_le_length (by rw [List.length_drop]; omega)]
    have hkeep : ∀ {x : T.den} {cs : List Value} {f : List Nat}, (∀ c, c ∈ f → c < w.heap.size) → Cn eT w J T x cs f → Cn eT (w.drew.alloc (.cells ((olds ++ news).toArray ++ zs) e)) J T x cs f := fun hf hcn =>
      Cn_congr (fun b hb => ⟨hb, (hg.block b (hJ b hb).1).symm⟩) (fun b hb => (hg.block b (hf b hb)).symm) hcn
    refine ⟨_, _, w.heap.size :: (fss ++ gss).flatten, hrun, ?_, ?_, .inr ⟨hg, fun c hc => ?_⟩⟩
    · simp only [Cn]
      refine ⟨some ⟨w.heap.size, 0, none⟩, gc, by simp, by simpa using hge, .inr ⟨w.heap.size, 0, fss ++ gss, rfl, ⟨_, e, hat, ?_⟩, by simp [hfl, hx.len], rfl, fun i hi => ?_⟩⟩
      · simp only [Array.size_append, List.size_toArray, List.length_append, hol, hnl, hzl]
        rw [← Nat.add_mul, ← Nat.add_mul]
        have : l.length + m.length + (gc - (l.length + m.length)) = gc := by omega
        rw [this]; omega
      · rw [Nat.zero_add, hrow i (by simpa using hi)]
        by_cases h1 : i < l.length
        · rw [get_append_left hi h1, getD_append_left (by omega)]
          have h2 : i * T.size + T.size ≤ olds.length := by
            have := Nat.mul_le_mul_right T.size (show i + 1 ≤ l.length from h1)
            rw [Nat.add_mul] at this; omega
          rw [List.drop_append_of_le_length (by omega), List.take_append_of_le_length (by rw [List.length_drop]; omega)]
          exact hkeep (fun c hc => hlt c (by simp [hfs c (mem_getD_flatten hc)])) (hel i h1)
        · have h1' : l.length ≤ i := by omega
          have h3 : i - l.length < m.length := by simp at hi; omega
          rw [get_append_right hi h1', getD_append_right (by omega), hfl]
          have h4 : (olds ++ news).drop (i * T.size) = news.drop ((i - l.length) * T.size) := by
            have := Nat.mul_le_mul_right T.size h1'
            rw [List.drop_append, List.drop_of_length_le (by omega), List.nil_append, hol, Nat.sub_mul]
          rw [h4]
          exact hkeep (fun c hc => hlt c (by rw [List.mem_append]; exact .inr (mem_getD_flatten hc))) (hx.el _ h3)
    · simp only [List.nodup_cons, List.flatten_append]
      refine ⟨fun hc => ?_, hnd2⟩
      rw [List.mem_append] at hc
      have : w.heap.size < w.heap.size := hlt _ (by rw [List.mem_append]; exact hc.imp (hfs _) id)
      omega
    · simp only [List.mem_cons, List.flatten_append, List.mem_append] at hc ⊢
      rcases hc with rfl | hc | hc
      · exact .inr ⟨Nat.le_refl _, by show _ < (w.heap.push _).size; simp⟩
      · exact .inl (.inl (hfs c hc))
      · exact .inl (.inr hc)
end
end Go.Ev
end

section
set_option linter.all false
set_option linter.unusedSimpArgs false
set_option linter.unusedVariables false
namespace Go.Ev
open Go
section
variable {E : Env} {G : Gh} {M : Nat → Option Root} {w : World} {J : Nat → Prop} {anc : Nat → Pl} {fp : Nat → List Nat} {R : Type} {dk : Nat} {κ : Option V → List (Nat × Root) → Option R} {r : R} {F : Nat → Option V} {ρ : Operand → Value} {o : Oper}

theorem Cn_cast {eT : TypeId} {w : World} {J : Nat → Prop} {A B : Ty} (h : A = B) {l : List A.den} {i : Nat} (hi : i < l.length) (hi' : i < (cast (congrArg (fun t => List (Ty.den t)) h) l).length) {cs : List Value} {fs : List Nat} (hc : Cn eT w J A (l.get ⟨i, hi⟩) cs fs) :
    Cn eT w J B ((cast (congrArg (fun t => List (Ty.den t)) h) l).get ⟨i, hi'⟩) cs fs := by subst h; exact hc

/-- The cells of what is alive are single values. -/
theorem Cn_one' {eT : TypeId} {w : World} {J : Nat → Prop} : ∀ {T : Ty} {x : T.den} {cs : List Value} {fs : List Nat}, T.alive = true → Cn eT w J T x cs fs → ∀ v, v ∈ cs → v.oneCell' = true := by
  intro T
  induction T with
  | slice T ih => intro x cs fs hp h v hv; simp only [Cn] at h; obtain ⟨_, a, cap, rfl, _⟩ := h; simp at hv; subst hv; rfl
  | own T ih => intro x cs fs hp h v hv; simp only [Cn] at h; obtain ⟨a, cap, rfl, _⟩ := h; simp at hv; subst hv; rfl
  | dead => intro x cs fs hp; simp [Ty.alive] at hp
  | arr n T ih =>
    intro x cs fs hp h v hv
    simp only [Cn] at h
    obtain ⟨h1, h2, fss, _, _, h4⟩ := h
    obtain ⟨i, hi, rfl⟩ := List.mem_iff_getElem.1 hv
    rcases Nat.eq_zero_or_pos T.size with h0 | h0
    · rw [h2, h0] at hi; omega
    have hq : i / T.size < n := by
      rw [h2] at hi; exact Nat.div_lt_of_lt_mul (by rw [Nat.mul_comm]; exact hi)
    refine ih (by simpa [Ty.alive] using hp) (h4 (i / T.size) (by omega)) _ ?_
    have hm : i % T.size < T.size := Nat.mod_lt _ h0
    have e : i = i / T.size * T.size + i % T.size := by rw [Nat.mul_comm]; exact (Nat.div_add_mod i T.size).symm
    refine List.mem_iff_getElem?.2 ⟨i % T.size, ?_⟩
    rw [List.getElem?_take, if_pos hm, List.getElem?_drop, ← e, List.getElem?_eq_getElem hi]
  | pair A B ha hb =>
    intro x cs fs hp h v hv
    simp only [Cn] at h
    obtain ⟨f1, f2, _, h1, h2⟩ := h
    simp only [Ty.alive, Bool.and_eq_true] at hp
    rw [← List.take_append_drop A.size cs, List.mem_append] at hv
    rcases hv with hv | hv
    · exact ha hp.1 h1 v hv
    · exact hb hp.2 h2 v hv
  | err => intro x cs fs hp h v hv; cases x <;> (simp only [Cn] at h; obtain ⟨rfl, _⟩ := h; simp at hv; subst hv; rfl)
  | unit => intro x cs fs hp h v hv; simp only [Cn] at h; obtain ⟨rfl, _⟩ := h; simp at hv
  | _ => intro x cs fs hp h v hv; simp only [Cn] at h; obtain ⟨rfl, _⟩ := h; simp at hv; subst hv; rfl

/-- All the cells of a row of elements. -/
theorem cells_one {eT : TypeId} {w : World} {J : Nat → Prop} {T : Ty} (hT : T.alive = true) {m : List T.den} {news : List Value} {gss : List (List Nat)} (hl : news.length = m.length * T.size)
    (hel : ∀ i (h : i < m.length), Cn eT w J T (m.get ⟨i, h⟩) ((news.drop (i * T.size)).take T.size) (gss.getD i [])) : ∀ v, v ∈ news → v.oneCell' = true := by
  intro v hv
  obtain ⟨i, hi, rfl⟩ := List.mem_iff_getElem.1 hv
  rcases Nat.eq_zero_or_pos T.size with h0 | h0
  · rw [hl, h0] at hi; omega
  have hq : i / T.size < m.length := by
    rw [hl] at hi; exact Nat.div_lt_of_lt_mul (by rw [Nat.mul_comm]; exact hi)
  refine Cn_one' hT (hel (i / T.size) (by omega)) _ ?_
  have hm : i % T.size < T.size := Nat.mod_lt _ h0
  have e : i = i / T.size * T.size + i % T.size := by rw [Nat.mul_comm]; exact (Nat.div_add_mod i T.size).symm
  refine List.mem_iff_getElem?.2 ⟨i % T.size, ?_⟩
  rw [List.getElem?_take, if_pos hm, List.getElem?_drop, ← e, List.getElem?_eq_getElem hi]

/-- A slice that is owned, as what is appended. -/
theorem tail_own {P : Program} {eT : TypeId} {T : Ty} (hT : T.alive = true) {m : List T.den} {v : Value} {fs : List Nat} {tx e' : TypeId} (hk : P.underlying tx = some (.slice e')) (hc : Cn eT w J (.own T) m [v] fs) :
    ∃ news gss, Tail P eT w J T m tx v news gss ∧ (∀ c, c ∈ gss.flatten → c ∈ fs) ∧ (fs.Nodup → gss.flatten.Nodup) := by
  simp only [Cn] at hc
  obtain ⟨a, cap, hcs, hcap, hor⟩ := hc
  cases hcs
  rcases hor with ⟨rfl, rfl, rfl⟩ | ⟨b, o, fss, rfl, hown, hfl, rfl, hel⟩
  · have hm0 : m = [] := List.eq_nil_of_length_eq_zero (by omega)
    subst hm0
    exact ⟨[], [], ⟨Src.ofNil w hk 0, rfl, fun i h => by simp at h⟩, by simp, by simp⟩
  · have hle : m.length * T.size ≤ cap * T.size := Nat.mul_le_mul_right _ hcap
    have hl := cellsAt_full hown hle
    have hel' : ∀ i (h : i < m.length), Cn eT w J T (m.get ⟨i, h⟩) (((cellsAt w b o (m.length * T.size)).drop (i * T.size)).take T.size) (fss.getD i []) := fun i h => by rw [cellsAt_part _ _ _ h]; exact hel i h
    refine ⟨cellsAt w b o (m.length * T.size), fss, ⟨Src.ofSlice w hk _ _ _ _ hl (fun j u hj => by rw [add_at]; exact cell_cellsAt (w := w) hj) (cells_one hT hl hel'), hfl, hel'⟩, fun c hc => by simp at hc ⊢; exact .inr hc, fun hn => by simp only [List.nodup_cons] at hn; exact hn.2⟩

theorem pure_alive : ∀ {T : Ty}, T.pure = true → T.alive = true := by
  intro T
  induction T with
  | slice T ih => exact ih
  | arr n T ih => exact ih
  | pair A B ha hb => intro h; simp only [Ty.pure, Ty.alive, Bool.and_eq_true] at h ⊢; exact ⟨ha h.1, hb h.2⟩
  | own T ih => intro h; simp [Ty.pure] at h
  | dead => intro h; simp [Ty.pure] at h
  | _ => intro _; rfl

/-- A slice that nobody writes, as what is appended. -/
theorem tail_val {P : Program} {eT : TypeId} {T : Ty} (hT : T.pure = true) {m : List T.den} {v : Value} {tx e' : TypeId} (hk : P.underlying tx = some (.slice e')) (hc : Cn eT w J (.slice T) m [v] []) :
    ∃ news, Tail P eT w J T m tx v news (List.replicate m.length []) := by
  simp only [Cn] at hc
  obtain ⟨_, a, cap, hcs, hcap, hel⟩ := hc
  cases hcs
  have e0 : ∀ i, (List.replicate m.length ([] : List Nat)).getD i [] = [] := by intro i; simp [List.getD_eq_getElem?_getD, List.getElem?_replicate]; split <;> rfl
  by_cases hm : m = []
  · subst hm
    cases a with
    | none => exact ⟨[], ⟨Src.ofNil w hk _, rfl, fun i h => by simp at h⟩⟩
    | some a => exact ⟨[], ⟨Src.ofSlice w hk a 0 cap [] (by simp) (by simp) (by simp), rfl, fun i h => by simp at h⟩⟩
  · have h0 : 0 < m.length := List.length_pos_iff.2 hm
    obtain ⟨b, o, rfl, hJ, _⟩ := hel 0 h0
    have hall : ∀ i (h : i < m.length), Cn eT w J T (m.get ⟨i, h⟩) (cellsAt w b (o + i * T.size) T.size) [] := by
      intro i h
      obtain ⟨b', o', e, _, hc⟩ := hel i h
      cases e; exact hc
    have hl : (cellsAt w b o (m.length * T.size)).length = m.length * T.size := by
      rcases Nat.eq_zero_or_pos T.size with hz | hz
      · rw [hz]; have := cellsAt_length_le w b o (m.length * 0); simp at this ⊢; omega
      · have h1 := Cn_length (hall (m.length - 1) (by omega))
        unfold cellsAt at h1 ⊢
        split at h1
        · simp only [List.length_take, List.length_drop, Array.length_toList] at h1 ⊢
          have h2 : (m.length - 1) * T.size + T.size = m.length * T.size := by rw [← Nat.add_one_mul]; congr 1; omega
          omega
        · simp at h1; omega
    have hel' : ∀ i (h : i < m.length), Cn eT w J T (m.get ⟨i, h⟩) (((cellsAt w b o (m.length * T.size)).drop (i * T.size)).take T.size) ((List.replicate m.length ([] : List Nat)).getD i []) := fun i h => by
      rw [cellsAt_part _ _ _ h, e0]; exact hall i h
    exact ⟨_, Src.ofSlice w hk _ _ _ _ hl (fun j u hj => by rw [add_at]; exact cell_cellsAt (w := w) hj) (cells_one (pure_alive hT) hl hel'), by simp, hel'⟩

theorem Free.app {fs gs : List Nat} (hf : Free G M w J fp fs) (hg : Free G M w J fp gs) : Free G M w J fp (fs ++ gs) := by
  intro b hb
  rcases List.mem_append.1 hb with h | h
  · exact hf b h
  · exact hg b h

theorem nodupB_nodup : ∀ {l : List Nat}, nodupB l = true → l.Nodup := by
  intro l
  induction l with
  | nil => intro _; simp
  | cons a l ih =>
    intro h
    simp only [nodupB, Bool.and_eq_true, Bool.not_eq_true'] at h
    refine List.nodup_cons.2 ⟨fun hm => ?_, ih h.2⟩
    have := List.any_eq_false.1 h.1 a hm
    exact this (Nat.beq_refl a)

/-- What an append comes to, where both slices are at hand. -/
theorem after_append (h : MOk E.eT G M w J anc fp) {t tx ty e : TypeId} {S T : Ty} {n : Nat} {info : TypeInfo} (ht : E.P.underlying t = some (.slice e)) (hd : tyOk E.P n e S = true) (hi : E.P.info? e = some info) (hSp : S.pure = true) (hE : T.era = S.era)
    {l m : List T.den} {v x : Value} {fs : List Nat} (hc : Cn E.eT w J (.own T) l [v] fs) {news : List Value} {gss : List (List Nat)} (hx : Tail E.P E.eT w J T m tx x news gss)
    (hnd : (fs ++ gss.flatten).Nodup) (hf : Free G M w J fp (fs ++ gss.flatten)) (hb : (l.length + m.length) * info.bytes ≤ 140737488355328) (hb0 : 0 < info.bytes) :
    ∃ w' val, (Builtin.append_ #[t, tx] ty #[v, x]).run E.P w = .ok val w' ∧ After E.eT G M w J anc (some (.a (.hdr dk (nextG M dk) 0 []))) [(dk, ⟨true, false, nextG M dk, 0, 0, .own T, l ++ m⟩)] val w' := by
  have hc0 := hc
  simp only [Cn] at hc0
  obtain ⟨a, cap, hcs, _⟩ := hc0
  cases hcs
  obtain ⟨w', val, fs', hrun, hcn, hnd', hor⟩ := append_run (ty := ty) ht hd hi hSp hE hc hx (fun b hb => ⟨h.jlt b hb, fun hm => (hf b (by rw [List.mem_append]; exact .inl hm)).2.1 hb⟩) (fun b hb => (hf b hb).2.2.1) hnd hb hb0
  refine ⟨w', val, hrun, ?_⟩
  rcases hor with ⟨hw, hsub⟩ | ⟨hg, hsub⟩
  · have hf' : ∀ w1 : World, w1.heap.size = w.heap.size → Free G M w1 J fp fs' := fun w1 hs c hc => by have := hf c (hsub c hc); rw [hs]; exact this
    rcases hw with rfl | ⟨b, o, vs, hbf, rfl⟩
    · exact after_move h rfl rfl rfl rfl hcn hnd' (hf' _ rfl)
    · obtain ⟨s1, s2⟩ := h.scratch (b := b) (o := o) (vs := vs) (fun c hc => by simp at hc; subst hc; exact hf _ (by rw [List.mem_append]; exact .inl hbf))
      exact After.of_keeps (us := []) rfl s2 (after_move s1 rfl rfl rfl rfl hcn hnd' (hf' _ (setCells_size _ _ _ _)))
  · have hroot : RootOk E.eT w' J ⟨true, false, nextG M dk, 0, 0, .own T, l ++ m⟩ (.hd val) fs' := ⟨.inl ⟨_, rfl, rfl, rfl⟩, fs', rfl, by simp only [Pl.cells]; exact hcn⟩
    obtain ⟨k1, k2⟩ := after_new h hg (dk := dk) hroot hnd' rfl (fun b hb => by
      rcases hsub b hb with h1 | h1
      · exact .inr (hf b h1)
      · exact .inl h1)
    refine ⟨J, _, _, k1, k2, fun y hy => ?_⟩
    cases hy
    refine ⟨_, upd_same _ _ _, Nat.le_refl _, fun _ => ⟨Nat.le_refl _, fun _ => ⟨okP_nil _ _, fun hne => absurd ⟨rfl, rfl⟩ hne, ?_⟩⟩⟩
    rw [upd_same]; rfl
end
end Go.Ev
end

section
set_option linter.all false
set_option linter.unusedSimpArgs false
set_option linter.unusedVariables false
namespace Go.Ev
open Go
section
variable {E : Env} {eT : TypeId} {G : Gh} {M : Nat → Option Root} {w : World} {J : Nat → Prop} {anc : Nat → Pl} {fp : Nat → List Nat} {P : Program} {R : Type} {dk : Nat} {κ : Option V → List (Nat × Root) → Option R} {r : R} {F : Nat → Option V} {ρ : Operand → Value} {o : Oper}

/-- The elements of a part of a slice, or of an array. -/
theorem lsl_elems (h : MOk eT G M w J anc fp) {k g ver : Nat} {p : Path} {lo n : Nat} {v : Value} (hx : ARel eT w J M anc (.lsl k g ver p lo n) v) {r0 : Root} (hl : live M k g ver (p ++ [.idx lo]) = some r0) {T : Ty} {l : List T.den}
    (hel : elemsOf (getP r0.T r0.x p) = some ⟨T, l⟩) :
    M k = some r0 ∧ r0.g = g ∧ ∃ a cap, v = .slice a n cap ∧ n ≤ cap ∧ ((l.drop lo).take n).length = n ∧
      ∀ i (hi : i < ((l.drop lo).take n).length), ∃ b o f, a = some ⟨b, o, none⟩ ∧ Cn eT w J T (((l.drop lo).take n).get ⟨i, hi⟩) (cellsAt w b (o + i * T.size) T.size) f ∧ b ∈ fp k ∧ ∀ c, c ∈ f → c ∈ fp k := by
  obtain ⟨h1, h2, h3⟩ := live_some hl
  obtain ⟨r', g1, g2, g3⟩ := hx
  rw [h1] at g1; cases g1
  obtain ⟨g4, g5⟩ := g3 h2
  obtain ⟨a, cap, rfl, hcap, hok, hadr⟩ := g5 h3
  have hty := elemsOf_type hel
  have hget : ∀ j, getP r0.T r0.x (p ++ [.idx j]) = ⟨T, l.getD j T.dft⟩ := by
    intro j
    rw [getP_append]
    generalize getP r0.T r0.x p = y at hel
    obtain ⟨yT, yx⟩ := y
    cases yT <;> simp only [elemsOf, reduceCtorEq, Option.some.injEq, Sigma.mk.injEq] at hel
    · obtain ⟨rfl, hq⟩ := hel; cases hq; simp only [getP, getP_nil]
    · obtain ⟨rfl, hq⟩ := hel; cases hq; simp only [getP, getP_nil]
  have hlen : ∀ j, okP r0.T r0.x (p ++ [.idx j]) → j < l.length := by
    have key : ∀ (p : Path) (T0 : Ty) (x0 : T0.den) (j : Nat), elemsOf (getP T0 x0 p) = some ⟨T, l⟩ → okP T0 x0 (p ++ [.idx j]) → j < l.length := by
      intro p
      induction p with
      | nil =>
        intro T0 x0 j he hk
        rw [getP_nil] at he
        cases T0 <;> simp only [elemsOf, reduceCtorEq, Option.some.injEq, Sigma.mk.injEq] at he
        · obtain ⟨rfl, hq⟩ := he; cases hq; exact hk.1
        · obtain ⟨rfl, hq⟩ := he; cases hq; exact hk.1
      | cons s p ih =>
        intro T0 x0 j he hk
        cases T0 <;> cases s <;> simp only [List.cons_append, okP, getP] at he hk
        · exact ih _ _ j he hk.2
        · exact ih _ _ j he hk.2
        · exact ih _ _ j he hk
        · exact ih _ _ j he hk
    exact fun j => key p _ _ j hel
  have hn : ((l.drop lo).take n).length = n := by
    rw [List.length_take, List.length_drop]
    by_cases hz : n = 0
    · omega
    · have := hlen (lo + (n - 1)) (hok (n - 1) (by omega)); omega
  refine ⟨h1, h2, a, cap, rfl, hcap, hn, fun i hi => ?_⟩
  have hi' : i < n := by omega
  obtain ⟨b, o, ha, rfl⟩ := hadr (by omega)
  have ha' := Adr_later p (j := i) _ _ hty ha
  obtain ⟨f, hcn, hf, hb, _⟩ := at_place h h1 (hok i hi') ha'
  rw [hget] at hcn
  have hil := hlen _ (hok i hi')
  refine ⟨b, o, f, rfl, ?_, hb, hf⟩
  have e : ((l.drop lo).take n).get ⟨i, hi⟩ = l.getD (lo + i) T.dft := by
    rw [getD_get hil]; simp
  rw [e]; exact hcn

theorem tail_lsl {T : Ty} (hT : T.pure = true) {m : List T.den} {a : Option Addr} {cap : Nat} {tx e' : TypeId} (hk : P.underlying tx = some (.slice e')) (hel : ∀ i (hi : i < m.length), ∃ b o f, a = some ⟨b, o, none⟩ ∧ Cn eT w J T (m.get ⟨i, hi⟩) (cellsAt w b (o + i * T.size) T.size) f) :
    ∃ news, Tail P eT w J T m tx (.slice a m.length cap) news (List.replicate m.length []) := by
  have e0 : ∀ i, (List.replicate m.length ([] : List Nat)).getD i [] = [] := by intro i; simp [List.getD_eq_getElem?_getD, List.getElem?_replicate]; split <;> rfl
  by_cases hm : m = []
  · subst hm
    cases a with
    | none => exact ⟨[], ⟨Src.ofNil w hk _, rfl, fun i h => by simp at h⟩⟩
    | some a => exact ⟨[], ⟨Src.ofSlice w hk a 0 cap [] (by simp) (by simp) (by simp), rfl, fun i h => by simp at h⟩⟩
  · have h0 : 0 < m.length := List.length_pos_iff.2 hm
    obtain ⟨b, o, _, rfl, _⟩ := hel 0 h0
    have hall : ∀ i (h : i < m.length), Cn eT w J T (m.get ⟨i, h⟩) (cellsAt w b (o + i * T.size) T.size) [] := by
      intro i h
      obtain ⟨b', o', f, e, hc⟩ := hel i h
      cases e
      have := Cn_pure hT hc; subst this; exact hc
    have hl : (cellsAt w b o (m.length * T.size)).length = m.length * T.size := by
      rcases Nat.eq_zero_or_pos T.size with hz | hz
      · rw [hz]; have := cellsAt_length_le w b o (m.length * 0); simp at this ⊢; omega
      · have h1 := Cn_length (hall (m.length - 1) (by omega))
        unfold cellsAt at h1 ⊢
        split at h1
        · simp only [List.length_take, List.length_drop, Array.length_toList] at h1 ⊢
          have h2 : (m.length - 1) * T.size + T.size = m.length * T.size := by rw [← Nat.add_one_mul]; congr 1; omega
          omega
        · simp at h1; omega
    have hel' : ∀ i (h : i < m.length), Cn eT w J T (m.get ⟨i, h⟩) (((cellsAt w b o (m.length * T.size)).drop (i * T.size)).take T.size) ((List.replicate m.length ([] : List Nat)).getD i []) := fun i h => by
      rw [cellsAt_part _ _ _ h, e0]; exact hall i h
    exact ⟨_, Src.ofSlice w hk _ _ _ _ hl (fun j u hj => by rw [add_at]; exact cell_cellsAt (w := w) hj) (cells_one (pure_alive hT) hl hel'), by simp, hel'⟩

/-- What is appended, at hand. -/
theorem tailA_ok (h : MOk eT G M w J anc fp) {ev : Option V} {val : Value} (hv : ∀ x, ev = some x → VRel eT w J M anc x val) {TT : Ty} {tl : TT.den} {us : List (Nat × Root)} (ht : tailA M ev = some (⟨TT, tl⟩, us)) {tx e' : TypeId} (hk : P.underlying tx = some (.slice e')) :
    ∃ anc' fp', MOk eT G (updM M us) w J anc' fp' ∧ (∀ x u, ARel eT w J M anc x u → ARel eT w J (updM M us) anc' x u) ∧ (∀ fs, Free G M w J fp fs → Free G (updM M us) w J fp' fs) ∧
      ∀ (T : Ty) (m : List T.den), ((⟨TT, tl⟩ : TV) = ⟨.own T, m⟩ ∨ (⟨TT, tl⟩ : TV) = ⟨.slice T, m⟩) → T.alive = true →
        ∃ news gss, Tail P eT w J T m tx val news gss ∧ gss.flatten.Nodup ∧ Free G (updM M us) w J fp' gss.flatten ∧ ∀ c, c ∈ gss.flatten → ∃ k r, M k = some r ∧ c ∈ fp k := by
  have hrep : ∀ n : Nat, (List.replicate n ([] : List Nat)).flatten = [] := fun n => by simp
  unfold tailA at ht
  split at ht
  · rename_i T x
    split at ht
    · rename_i hp
      cases ht
      refine ⟨anc, fp, h, fun _ _ h => h, fun _ h => h, fun T m he hT => ?_⟩
      obtain ⟨cs, hcn, hval⟩ := hv _ rfl
      rcases he with he | he
      · cases he; simp [Ty.pure] at hp
      · cases he
        have hcs : ∃ v, cs = [v] := by have := Cn_length hcn; match cs, this with | [v], _ => exact ⟨v, rfl⟩
        obtain ⟨v, rfl⟩ := hcs
        have hvv : val = v := by rw [hval]; rfl
        subst hvv
        obtain ⟨news, ht⟩ := tail_val (T := T) hp hk hcn
        exact ⟨news, _, ht, by rw [hrep]; simp, by rw [hrep]; intro b hb; simp at hb, by rw [hrep]; intro b hb; simp at hb⟩
    · cases ht
  · rename_i k g ver p
    split at ht
    · rename_i r0 hl
      split at ht
      · rename_i T l hgp
        obtain ⟨hk0, hgg, hok, a, cap, f, rfl, hcn, hfsub, hfn, hfeq, _⟩ := hdr_at h (hv _ rfl) hl hgp
        obtain ⟨hvA⟩ : Nonempty (ARel eT w J M anc (.hdr k g ver p) (.slice a l.length cap)) := ⟨hv _ rfl⟩
        split at ht
        · rename_i hp
          cases ht
          refine ⟨anc, fp, h, fun _ _ h => h, fun _ h => h, fun T' m he hT => ?_⟩
          rcases he with he | he
          · cases he
            simp only [Cn] at hcn
            obtain ⟨a', cap', hcs, hcap, hor⟩ := hcn
            cases hcs
            obtain ⟨news, ht⟩ := tail_lsl (T := T) hp (cap := cap) (a := a) (m := l) hk (fun i hi => by
              rcases hor with ⟨_, h0, _⟩ | ⟨b, o, fss, hab, _, _, _, hel⟩
              · omega
              · exact ⟨b, o, _, hab, hel i hi⟩)
            exact ⟨news, _, ht, by rw [hrep]; simp, by rw [hrep]; intro b hb; simp at hb, by rw [hrep]; intro b hb; simp at hb⟩
          · cases he
        · split at ht
          · rename_i hc
            cases ht
            simp only [Bool.and_eq_true, Bool.not_eq_true', List.isEmpty_iff] at hc
            obtain ⟨⟨hvec, hpar⟩, rfl⟩ := hc
            obtain ⟨_, hcn2, _, hnd, t1, t2, t3⟩ := take_vec h hvA hl hvec hpar
            obtain ⟨hf, _⟩ := hfeq rfl hvec
            subst hf
            refine ⟨_, _, t1, t2, fun fs hf => hf.tomb, fun T' m he hT => ?_⟩
            rcases he with he | he
            · cases he
              obtain ⟨news, gss, ht, hs, hn⟩ := tail_own (w := w) hT hk hcn
              exact ⟨news, gss, ht, hn hnd, fun b hb => t3 b (hs b hb), fun c hc => ⟨k, r0, hk0, hs c hc⟩⟩
            · cases he
          · cases ht
      · cases ht
    · cases ht
  · rename_i k g ver p lo n
    split at ht
    · rename_i r0 hl
      split at ht
      · rename_i T l hel
        split at ht
        · rename_i hp
          cases ht
          obtain ⟨hk0, hgg, a, cap, rfl, hcap, hn, hall⟩ := lsl_elems h (hv _ rfl) hl hel
          refine ⟨anc, fp, h, fun _ _ h => h, fun _ h => h, fun T' m he hT => ?_⟩
          rcases he with he | he
          · cases he
            obtain ⟨news, ht⟩ := tail_lsl (T := T) hp (cap := cap) (a := a) (m := (l.drop lo).take n) hk (fun i hi => by
              obtain ⟨b, o, f, h1, h2, _⟩ := hall i hi
              exact ⟨b, o, f, h1, h2⟩)
            rw [hn] at ht
            exact ⟨news, _, ht, by rw [hrep]; simp, by rw [hrep]; intro b hb; simp at hb, by rw [hrep]; intro b hb; simp at hb⟩
          · cases he
        · cases ht
      · cases ht
    · cases ht
  · cases ht
end
end Go.Ev
end

section
set_option linter.all false
set_option linter.unusedSimpArgs false
set_option linter.unusedVariables false
namespace Go.Ev
open Go
section
variable {E : Env} {G : Gh} {M : Nat → Option Root} {w : World} {J : Nat → Prop} {anc : Nat → Pl} {fp : Nat → List Nat} {R : Type} {dk : Nat} {κ : Option V → List (Nat × Root) → Option R} {r : R} {F : Nat → Option V} {ρ : Operand → Value} {o : Oper}

theorem run_builtin (P : Program) {c : Call} {b : Builtin} (ho : o.op = .call c) (hc : c.callee = .builtin b) :
    (execOp ρ o).run P w = (builtin b c.argTypes o.type (c.args.map fun | .const _ => true | _ => false) (c.args.map ρ)).run P w := by
  simp only [execOp, ho, resolve, hc, invoke, Sem.run_bind, Sem.run_pure, Result.andThen_ok]
  rfl

theorem any_of_nodupB {us : List (Nat × Root)} {k : Nat} (h : k ∉ us.map (·.1)) : (us.any fun u => Nat.beq u.1 k) = false := by
  rw [List.any_eq_false]
  intro u hu hb
  rw [Nat.beq_eq] at hb
  exact h (List.mem_map.2 ⟨u, hu, hb⟩)

theorem op_append (hE : EnvTy E) (h : MOk E.eT G M w J anc fp) {c : Call} (ho : o.op = .call c) (hc : c.callee = .builtin .append) {t t' : TypeId} (hat : c.argTypes.toList = [t, t']) {S S' : Ty} (hS : E.Γ t = some (.slice S)) (hS' : E.Γ t' = some (.slice S')) {by_ : Nat} (hby : E.bytes t = some by_)
    {s u : Option V} {vs vu : Value} (hargs : (c.args.map ρ) = #[vs, vu]) (hs : ∀ x, s = some x → VRel E.eT w J M anc x vs) (hu : ∀ x, u = some x → VRel E.eT w J M anc x vu) (hr : appendA M dk κ by_ S s u = some r) :
    OpRes E.P E.eT G M w J anc ρ o κ r := by
  obtain ⟨_, n, hty⟩ := hE.ty t _ hS
  obtain ⟨_, n', hty'⟩ := hE.ty t' _ hS'
  obtain ⟨d, e, hut, hde, hSp⟩ := tyOk_selem hty
  obtain ⟨d', e', hut', _⟩ := tyOk_selem hty'
  obtain ⟨e1, info, hue, hinfo, hib, hb0⟩ := hE.bytes t by_ hby
  rw [hut] at hue; cases hue
  subst hib
  have hAT : c.argTypes = #[t, t'] := by rw [← Array.toList_inj, hat]
  have hrun : ∀ (w' : World) (val : Value), (Builtin.append_ #[t, t'] o.type #[vs, vu]).run E.P w = .ok val w' → (execOp ρ o).run E.P w = .ok (.value val) w' := by
    intro w' val hh
    rw [run_builtin E.P ho hc, hargs, hAT]
    simp only [builtin, Sem.run_bind, hh, Result.andThen_ok, Sem.run_pure]
  unfold appendA at hr
  split at hr
  · rename_i TT tx us htail
    obtain ⟨anc1, fp1, m1, k1, hfr, htl⟩ := tailA_ok h hu htail hut'
    -- the join, whatever was taken
    have join : ∀ (T : Ty) (l m : List T.den) (us' : List (Nat × Root)) (M2 : Nat → Option Root) (anc2 : Nat → Pl) (fp2 : Nat → List Nat) (fs : List Nat) (news : List Value) (gss : List (List Nat)),
        joinA M dk κ info.bytes S T l m us' = some r → M2 = updM M us' → MOk E.eT G M2 w J anc2 fp2 → (∀ x u, ARel E.eT w J M anc x u → ARel E.eT w J M2 anc2 x u) →
        Cn E.eT w J (.own T) l [vs] fs → Tail E.P E.eT w J T m t' vu news gss → (fs ++ gss.flatten).Nodup → Free G M2 w J fp2 (fs ++ gss.flatten) → OpRes E.P E.eT G M w J anc ρ o κ r := by
      intro T l m us' M2 anc2 fp2 fs news gss hj hM m2 k2 hcn htl hnd hfree
      unfold joinA at hj
      split at hj
      · rename_i hcond
        obtain ⟨hb, hj⟩ := bif_some hj
        simp only [decide_eq_true_eq] at hb
        have hnodup := nodupB_nodup hcond.2.2
        simp only [List.nodup_cons] at hnodup
        have hng : nextG M2 dk = nextG M dk := by rw [hM]; exact nextG_upd (any_of_nodupB hnodup.1)
        obtain ⟨w', val, hr2, haft⟩ := after_append (dk := dk) (ty := o.type) m2 hut hde hinfo hSp hcond.1 hcn htl hnd hfree hb hb0
        rw [hng] at haft
        exact ⟨_, _, _, _, hj, After.of_keeps hM k2 haft, .inl (hrun _ _ hr2)⟩
      · cases hj
    have alive : ∀ (T : Ty) (l m : List T.den) (us' : List (Nat × Root)), joinA M dk κ info.bytes S T l m us' = some r → T.alive = true := by
      intro T l m us' hj
      unfold joinA at hj
      split at hj
      · rename_i hcond; exact hcond.2.1
      · cases hj
    split at hr
    · -- onto nil
      have hvs := hs _ rfl
      have hvs : vs = .slice none 0 0 := (arel_nil (eT := E.eT) (w := w) (J := J) (M := M) (anc := anc)).1 hvs
      subst hvs
      have go : ∀ (T : Ty) (m : List T.den), ((⟨TT, tx⟩ : TV) = ⟨.own T, m⟩ ∨ (⟨TT, tx⟩ : TV) = ⟨.slice T, m⟩) → joinA M dk κ info.bytes S T [] m us = some r → OpRes E.P E.eT G M w J anc ρ o κ r := by
        intro T m he hj
        obtain ⟨news, gss, ht, hn, hf, _⟩ := htl T m he (alive _ _ _ _ hj)
        exact join T [] m us _ anc1 fp1 [] news gss hj rfl m1 k1 (by simp only [Cn]; exact ⟨none, 0, rfl, Nat.le_refl _, .inl ⟨rfl, by trivial⟩⟩) ht (by simpa using hn) (by simpa using hf)
      split at hr
      · exact go _ _ (.inl rfl) hr
      · exact go _ _ (.inr rfl) hr
      · cases hr
    · rename_i k g ver p
      split at hr
      · rename_i r0 hl
        split at hr
        · rename_i T l hgp
          have hvs := hs _ rfl
          split at hr
          · rename_i hvp
            simp only [Bool.and_eq_true, Bool.not_eq_true', List.isEmpty_iff] at hvp
            obtain ⟨hvp, hpe⟩ := hvp
            subst hpe
            have hl1 : ∀ m, joinA M dk κ info.bytes S T l m (us ++ [(k, r0.tomb)]) = some r → ((⟨TT, tx⟩ : TV) = ⟨.own T, m⟩ ∨ (⟨TT, tx⟩ : TV) = ⟨.slice T, m⟩) → OpRes E.P E.eT G M w J anc ρ o κ r := by
              intro m hj he
              have hnd : (us.any fun u => Nat.beq u.1 k) = false := by
                unfold joinA at hj
                split at hj
                · rename_i hcond
                  have hnodup := nodupB_nodup hcond.2.2
                  simp only [List.map_append, List.map_cons, List.map_nil, List.nodup_cons, List.nodup_append] at hnodup
                  refine any_of_nodupB fun hm => ?_
                  exact hnodup.2.2.2 k hm k (by simp) rfl
                · cases hj
              have hkM : updM M us k = M k := updM_other us M k hnd
              have hl2 : liveH (updM M us) k g ver [] = some r0 := by unfold liveH at hl ⊢; rw [hkM]; exact hl
              obtain ⟨news, gss, ht, hn, hf, _⟩ := htl T m he (alive _ _ _ _ hj)
              obtain ⟨hk0, hcn, _, hndk, t1, t2, t3⟩ := take_vec m1 (k1 _ _ hvs) hl2 hvp.1 hvp.2
              rw [getP_nil] at hgp
              obtain ⟨vec, par, g0, ver0, wr0, T0, x0⟩ := r0
              simp only at hgp hcn
              cases hgp
              refine join T l m _ _ _ _ (fp1 k) news gss hj (by rw [updM_append]; rfl) t1 (fun x u hx => t2 x u (k1 x u hx)) hcn ht ?_ (t3.app hf.tomb)
              rw [List.nodup_append]
              exact ⟨hndk, hn, fun a ha b hb e => by subst e; exact (hf a hb).1 k _ hk0 ha⟩
            split at hr
            · split at hr
              · rename_i T' m h; subst h; exact hl1 _ hr (.inl rfl)
              · cases hr
            · split at hr
              · rename_i T' m h; subst h; exact hl1 _ hr (.inr rfl)
              · cases hr
            · cases hr
          · split at hr
            · rename_i hvp
              simp only [Bool.and_eq_true, Bool.not_eq_true'] at hvp
              split at hr
              · rename_i y hy
                have hl1 : ∀ m, joinA M dk κ info.bytes S T l m (us ++ [(k, { r0 with wr := r0.wr + 1, ver := r0.ver + 1, T := y.T, x := y.x })]) = some r → ((⟨TT, tx⟩ : TV) = ⟨.own T, m⟩ ∨ (⟨TT, tx⟩ : TV) = ⟨.slice T, m⟩) → OpRes E.P E.eT G M w J anc ρ o κ r := by
                  intro m hj he
                  have hnd : (us.any fun u => Nat.beq u.1 k) = false := by
                    unfold joinA at hj
                    split at hj
                    · rename_i hcond
                      have hnodup := nodupB_nodup hcond.2.2
                      simp only [List.map_append, List.map_cons, List.map_nil, List.nodup_cons, List.nodup_append] at hnodup
                      refine any_of_nodupB fun hm => ?_
                      exact hnodup.2.2.2 k hm k (by simp) rfl
                    · cases hj
                  have hkM : updM M us k = M k := updM_other us M k hnd
                  have hl2 : liveH (updM M us) k g ver p = some r0 := by unfold liveH at hl ⊢; rw [hkM]; exact hl
                  obtain ⟨news, gss, ht, hn, hf, _⟩ := htl T m he (alive _ _ _ _ hj)
                  obtain ⟨f, fs, hk0, hcn, hndk, hfk, hfs, t1, t2, t3⟩ := take_field m1 (k1 _ _ hvs) hl2 hvp.1 hvp.2 hgp hy
                  refine join T l m _ _ _ _ f news gss hj (by rw [updM_append]; rfl) t1 (fun x u hx => t2 x u (k1 x u hx)) hcn ht ?_ (t3.app ?_)
                  · rw [List.nodup_append]
                    exact ⟨hndk, hn, fun a ha b hb e => by subst e; exact (hf a hb).1 k _ hk0 (hfk a ha)⟩
                  · intro b hb
                    obtain ⟨q1, q2⟩ := hf b hb
                    refine ⟨fun k' r' hk' hb' => ?_, q2⟩
                    by_cases e : k' = k
                    · subst e
                      rw [upd_same] at hb'
                      exact q1 k' r0 hk0 (hfs b hb')
                    · rw [upd_other _ _ e] at hk' hb'; exact q1 k' r' hk' hb'
                split at hr
                · split at hr
                  · rename_i T' m h; subst h; exact hl1 _ hr (.inl rfl)
                  · cases hr
                · split at hr
                  · rename_i T' m h; subst h; exact hl1 _ hr (.inr rfl)
                  · cases hr
                · cases hr
              · cases hr
            · cases hr
        · cases hr
      · cases hr
    · cases hr
  · cases hr

/-- A slice is moved to where it is assigned. -/
theorem move_root (h : MOk E.eT G M w J anc fp) {k g ver : Nat} {val : Value} (ha : ARel E.eT w J M anc (.hdr k g ver []) val) {r0 : Root} (hl : liveH M k g ver [] = some r0) (hv : r0.vec = true) (hp : r0.par = false) (hne : Nat.beq k dk = false) {T : Ty} {x : T.den} (hT : T.size = 1)
    (hc : ∀ fs, Cn E.eT w J r0.T r0.x [val] fs → ∃ fs', Cn E.eT w J T x [val] fs' ∧ fs' = fs) :
    After E.eT G M w J anc (some (.a (.hdr dk (nextG M dk) 0 []))) [(k, r0.tomb), (dk, ⟨true, false, nextG M dk, 0, 0, T, x⟩)] val w := by
  obtain ⟨hk0, hcn, _, hndk, t1, t2, t3⟩ := take_vec h ha hl hv hp
  have hng : nextG (upd M k (some r0.tomb)) dk = nextG M dk := nextG_upd (us := [(k, r0.tomb)]) (M := M) (by simp [hne])
  obtain ⟨fs', hc', rfl⟩ := hc _ hcn
  have := after_move (dk := dk) (r := ⟨true, false, nextG M dk, 0, 0, T, x⟩) t1 rfl hT hng.symm rfl hc' hndk t3
  rw [hng] at this
  exact After.of_keeps (us := [(k, r0.tomb)]) rfl t2 this

theorem op_assign (h : MOk E.eT G M w J anc fp) (hev : ∀ x v, opv F x = some v → VRel E.eT w J M anc v (ρ x)) {x : Operand} (ho : o.op = .assign x) (hr : opA E M dk κ F (.assign x) = some r) : OpRes E.P E.eT G M w J anc ρ o κ r := by
  have hrun : (execOp ρ o).run E.P w = .ok (.value (ρ x)) w := by simp only [execOp, ho, Sem.run_pure]
  have quiet : ∀ v, (∀ y, v = some y → VRel E.eT w J M anc y (ρ x)) → κ v [] = some r → OpRes E.P E.eT G M w J anc ρ o κ r := fun v hv hr => ⟨_, _, _, _, hr, After.quiet h hv, .inl hrun⟩
  simp only [opA] at hr
  split at hr
  · rename_i k g ver hx
    split at hr
    · rename_i r0 hl
      split at hr
      · rename_i hc
        simp only [Bool.and_eq_true, Bool.not_eq_true'] at hc
        have hs : r0.T.size = 1 := (take_vec h (hev _ _ hx) hl hc.1.1 hc.1.2).2.2.1
        exact ⟨_, _, _, _, hr, move_root h (hev _ _ hx) hl hc.1.1 hc.1.2 hc.2 hs (fun fs hf => ⟨fs, hf, rfl⟩), .inl hrun⟩
      · exact quiet _ (fun y hy => hev _ _ hy) hr
    · exact quiet _ (fun y hy => hev _ _ hy) hr
  · exact quiet _ (fun y hy => hev _ _ hy) hr

/-- A slice that is written out. -/
theorem op_buildSlice (hE : EnvTy E) (h : MOk E.eT G M w J anc fp) (hev : ∀ x v, opv F x = some v → VRel E.eT w J M anc v (ρ x)) {t : TypeId} {n : Nat} {parts : Array (Nat × Operand)} (ho : o.op = .buildSlice t n parts)
    (hr : opA E M dk κ F (.buildSlice t n parts) = some r) : OpRes E.P E.eT G M w J anc ρ o κ r := by
  simp only [opA] at hr
  split at hr
  · rename_i T hT
    obtain ⟨hp, m, hty⟩ := hE.ty t _ hT
    obtain ⟨d, e, hut, hde, hSp⟩ := tyOk_selem hty
    split at hr
    · rename_i hn
      rw [Nat.beq_eq] at hn
      subst hn
      have hparts : (parts.map fun (i, x) => (i, ρ x)).toList = parts.toList.map fun (i, x) => (i, ρ x) := by simp
      split at hr
      · split at hr
        · rename_i o1 hpl
          split at hr
          · rename_i k g ver hx
            split at hr
            · rename_i r0 hl
              split at hr
              · rename_i hc
                simp only [Bool.and_eq_true, Bool.not_eq_true'] at hc
                split at hr
                · rename_i E0 hE0
                  split at hr
                  · rename_i he
                    obtain ⟨hk0, hcn, hs1, hndk, t1, t2, t3⟩ := take_vec h (hev _ _ hx) hl hc.1.1 hc.1.2
                    have hng : nextG (upd M k (some r0.tomb)) dk = nextG M dk := nextG_upd (us := [(k, r0.tomb)]) (M := M) (by simp [hc.2])
                    have hsz : T.size = 1 := by rw [← Ty.size_of_era he]; exact hs1
                    have hps : parts.size = 1 := by rw [← Array.length_toList, hpl]; rfl
                    have hg := laid_grow w [ρ o1] e
                    have hcell : (ρ o1).cells = #[ρ o1] := by
                      obtain ⟨vec, par, g0, ver0, wr0, T0, x0⟩ := r0
                      simp only at hE0 hcn; subst hE0
                      simp only [Cn] at hcn
                      obtain ⟨a, cap, hcs, _⟩ := hcn
                      simp only [List.cons.injEq, and_true] at hcs
                      rw [hcs]; rfl
                    have hrun : (Instr.buildSlice t parts.size (parts.map fun (i, x) => (i, ρ x))).run E.P w = .ok (.slice (some ⟨w.heap.size, 0, none⟩) 1 1) (laid w [ρ o1] e) := by
                      rw [hps]
                      refine run_buildSlice hut hde (by rw [hsz]; decide) fun c hcl => ?_
                      rw [hparts, hpl]
                      rw [hsz] at hcl ⊢
                      match c, hcl with
                      | [c0], _ => simp [Instr.fill, hcell]
                    have hroot : RootOk E.eT (laid w [ρ o1] e) J ⟨true, false, nextG (upd M k (some r0.tomb)) dk, 0, 0, .own r0.T, [r0.x]⟩ (.hd (.slice (some ⟨w.heap.size, 0, none⟩) 1 1)) (w.heap.size :: fp k) := by
                      refine ⟨.inl ⟨_, rfl, rfl, rfl⟩, _, rfl, ?_⟩
                      simp only [Pl.cells, Cn]
                      refine ⟨_, 1, rfl, Nat.le_refl _, .inr ⟨w.heap.size, 0, [fp k], rfl, by rw [hs1]; exact laid_own w [ρ o1] e, rfl, by simp, fun i hi => ?_⟩⟩
                      have hi0 : i = 0 := by simpa using hi
                      subst hi0
                      simp only [Nat.zero_mul, Nat.add_zero, hs1, laid_cells, List.drop_zero]
                      exact Cn_congr (fun b hb => ⟨hb, (hg.block b (h.jlt b hb)).symm⟩) (fun b hb => (hg.block b (t3 b hb).2.2.1).symm) hcn
                    obtain ⟨k1, k2⟩ := after_new t1 hg (dk := dk) hroot (List.nodup_cons.2 ⟨fun hm => by have := (t3 _ hm).2.2.1; omega, hndk⟩) rfl (fun b hb => by
                      rcases List.mem_cons.1 hb with rfl | hb
                      · exact .inl ⟨Nat.le_refl _, by simp [laid]⟩
                      · exact .inr (t3 b hb))
                    rw [hng] at k1 k2
                    refine ⟨_, _, .slice (some ⟨w.heap.size, 0, none⟩) 1 1, _, hr, ⟨J, _, _, k1, fun x u hx => k2 x u (t2 x u hx), fun y hy => ?_⟩, .inl ?_⟩
                    · cases hy
                      refine ⟨_, upd_same _ _ _, Nat.le_refl _, fun _ => ⟨Nat.le_refl _, fun _ => ⟨okP_nil _ _, fun hne => absurd ⟨rfl, rfl⟩ hne, ?_⟩⟩⟩
                      rw [upd_same]; rfl
                    · simp only [execOp, ho, Sem.run_bind, hrun, Result.andThen_ok, Sem.run_pure]
                  · cases hr
                · cases hr
              · cases hr
            · cases hr
          · cases hr
        · cases hr
      · split at hr
        · rename_i l us hel
          split at hr
          · cases hr
          · rename_i hc
            simp only [Bool.or_eq_true, not_or, Bool.not_eq_true, Bool.not_eq_true', Bool.not_eq_false] at hc
            obtain ⟨hc1, hc2⟩ := hc
            rw [Nat.ble_eq] at hc2
            obtain ⟨J1, anc1, fp1, css, m1, j1, k1, hl1, hcs, c1, f1⟩ := elemsA_ok parts.toList M J anc fp 0 l us h hev hel
            have hln : l.length = parts.size := by rw [hl1, Array.length_toList]
            have hrun : (Instr.buildSlice t parts.size (parts.map fun (i, x) => (i, ρ x))).run E.P w = .ok (.slice (some ⟨w.heap.size, 0, none⟩) parts.size parts.size) (laid w css e) := by
              refine run_buildSlice hut hde hc2 fun c hcl => ?_
              rw [hparts, f1 c (by rw [hcl, Nat.zero_add, Array.length_toList])]
              simp
            have := after_vec m1 (dk := dk) (E := T) (l := l) (cap := parts.size) (by omega) (by rw [hcs, Array.length_toList]) c1 e
            rw [nextG_upd hc1, hln] at this
            refine ⟨_, _, _, _, hr, After.of_keeps rfl k1 this, .inl ?_⟩
            simp only [execOp, ho, Sem.run_bind, hrun, Result.andThen_ok, Sem.run_pure]
        · cases hr
    · cases hr
  · cases hr
end
end Go.Ev
end

section
set_option linter.all false
set_option linter.unusedSimpArgs false
set_option linter.unusedVariables false
namespace Go.Ev
open Go
section
variable {E : Env} {G : Gh} {M : Nat → Option Root} {w : World} {J : Nat → Prop} {anc : Nat → Pl} {fp : Nat → List Nat} {R : Type} {dk : Nat} {κ : Option V → List (Nat × Root) → Option R} {r : R} {F : Nat → Option V} {ρ : Operand → Value} {o : Oper}

theorem rep_part {m s : Nat} {z : Array Value} (hz : z.size = s) {j : Nat} (hj : j < m) : (((Array.range (m * s)).map (fun x => z[x % z.size]!)).toList.drop (j * s)).take s = z.toList := by
  have h1 : j * s + s ≤ m * s := by rw [← Nat.add_one_mul]; exact Nat.mul_le_mul_right _ hj
  apply List.ext_getElem?
  intro i
  rw [List.getElem?_take]
  by_cases hi : i < s
  · rw [if_pos hi, List.getElem?_drop]
    have h2 : j * s + i < m * s := by omega
    have h3 : (j * s + i) % s = i := by rw [Nat.mul_comm, Nat.mul_add_mod]; exact Nat.mod_eq_of_lt hi
    simp [h2, hz, h3, hi]
  · rw [if_neg hi]; simp; omega

theorem op_makeSlice (hE : EnvTy E) (h : MOk E.eT G M w J anc fp) (hev : ∀ x v, opv F x = some v → VRel E.eT w J M anc v (ρ x)) {t : TypeId} {x y : Operand} (ho : o.op = .makeSlice t x y)
    (hr : opA E M dk κ F (.makeSlice t x y) = some r) : OpRes E.P E.eT G M w J anc ρ o κ r := by
  simp only [opA] at hr
  split at hr
  · rename_i T by_ n m hT hby hn hm
    obtain ⟨hp, k0, hty⟩ := hE.ty t _ hT
    obtain ⟨d, e, hut, hde, hSp⟩ := tyOk_selem hty
    obtain ⟨e1, info, hue, hinfo, hib, hb0⟩ := hE.bytes t by_ hby
    rw [hut] at hue; cases hue
    subst hib
    obtain ⟨kx, hvx⟩ := intOfA_rel (eT := E.eT) (w := w) (J := J) (M := M) (anc := anc) hn (fun v hv => hev x v hv)
    obtain ⟨ky, hvy⟩ := intOfA_rel (eT := E.eT) (w := w) (J := J) (M := M) (anc := anc) hm (fun v hv => hev y v hv)
    have run : ∀ (_ : 0 ≤ n) (_ : n ≤ m) (_ : m * info.bytes ≤ 140737488355328), ∃ cs : List Value, (Instr.makeSlice t (ρ x) (ρ y)).run E.P w = .ok (.slice (some ⟨w.heap.size, 0, none⟩) n.toNat m.toNat) (laid w cs e) ∧ cs.length = m.toNat * T.size ∧
        ∀ j, j < m.toNat → (cs.drop (j * T.size)).take T.size = zeroCs T := by
      intro hn0 hnm hb
      obtain ⟨i2, hi2, hisz, z, hz, hzv⟩ := (tyOk_F hde).info
      rw [hinfo] at hi2; cases hi2
      have hzc : z.cells = (zeroCs T).toArray := by rw [hzv]; exact conc_cells' (zeroCs_length T) (zeroCs_one hSp)
      have hm0 : 0 ≤ m := by omega
      obtain ⟨mN, rfl⟩ : ∃ k : Nat, m = k := ⟨m.toNat, by omega⟩
      have hbN : mN * info.bytes ≤ 140737488355328 := by rw [← Int.natCast_mul] at hb; omega
      have hmN : mN ≤ 140737488355328 := Nat.le_trans (Nat.le_mul_of_pos_right _ hb0) hbN
      have hb2 : (info.bytes : Int) * (mN : Int) ≤ 281474976710656 := by
        have e1 : (info.bytes : Int) * mN = ((info.bytes * mN : Nat) : Int) := (Int.natCast_mul _ _).symm
        rw [e1, Nat.mul_comm]; omega
      have hr := run_make (P := E.P) w t e info z hut hinfo hz kx ky n mN hn0 hnm hb2 (by omega)
      refine ⟨(madeCells z.cells (mN * T.size)).toList, ?_, by rw [Array.length_toList, size_madeCells]; rfl, fun j hj => ?_⟩
      · rw [hvx, hvy, hr, hisz]
        rfl
      · have := rep_part (s := T.size) (z := z.cells) (by rw [hzc]; simp [zeroCs_length]) (m := mN) (j := j) (by simpa using hj)
        rw [hzc] at this
        simpa [madeCells, hzc] using this
    have fin : ∀ (l : List T.den) (_ : l.length = n.toNat) (_ : 0 ≤ n) (_ : n ≤ m) (_ : m * info.bytes ≤ 140737488355328) (_ : ∀ i (hi : i < l.length), Cn E.eT w J T (l.get ⟨i, hi⟩) (zeroCs T) []),
        κ (some (.a (.hdr dk (nextG M dk) 0 []))) [(dk, ⟨true, false, nextG M dk, 0, 0, .own T, l⟩)] = some r → OpRes E.P E.eT G M w J anc ρ o κ r := by
      intro l hl h1 h2 h3 hc hr
      obtain ⟨cs, hrun, hcl, hel⟩ := run h1 h2 h3
      have := after_vec h (dk := dk) (E := T) (l := l) (cap := m.toNat) (cs := cs) (by omega) hcl (fun i hi => by rw [hel i (by omega)]; exact hc i hi) e
      rw [hl] at this
      refine ⟨_, _, _, _, hr, this, .inl ?_⟩
      simp only [execOp, ho, Sem.run_bind, hrun, Result.andThen_ok, Sem.run_pure]
    split at hr
    · rename_i hz
      obtain ⟨hb, hr⟩ := bif_some hr
      simp only [Bool.and_eq_true, decide_eq_true_eq] at hb
      refine fin _ (by simp) hb.1.1 hb.1.2 hb.2 (fun i hi => ?_) hr
      have hzero := Cn_zero (eT := E.eT) (w := w) (J := J) T hSp
      rw [hz] at hzero
      simpa using hzero
    · obtain ⟨hb, hr⟩ := bif_some hr
      simp only [Bool.and_eq_true, decide_eq_true_eq] at hb
      exact fin [] (by simp [hb.1.1]) (by omega) (by omega) hb.2 (fun i hi => by simp at hi) hr
  · cases hr

/-- A store. -/
theorem op_store0 (hE : EnvTy E) (h : MOk E.eT G M w J anc fp) {t : TypeId} {x y : Operand} (ho : o.op = .store t x y) {T : Ty} (hT : E.Γ t = some T) {sx sy : Option V} (hsx : ∀ v, sx = some v → VRel E.eT w J M anc v (ρ x)) (hsy : ∀ v, sy = some v → VRel E.eT w J M anc v (ρ y))
    (hr : storeA M κ T sx sy = some r) : OpRes E.P E.eT G M w J anc ρ o κ r := by
  · obtain ⟨hp, k0, hty⟩ := hE.ty t _ hT
    unfold storeA at hr
    split at hr
    · rename_i k g ver p v
      split at hr
      · rename_i r0 hl
        obtain ⟨hk, hg, hok, b, off, hadr, hval⟩ := ref_live (eT := E.eT) (J := J) (hsx _ rfl) hl
        have hpath := pathOk_of_adr (h.roots k r0 hk) hadr
        simp only at hr
        split at hr
        · rename_i hST
          have run : ∀ (vs : List Value) (w1 : World), (ρ y).cells = vs.toArray → vs.length = T.size → (∀ v, v ∈ vs → v.oneCell' = true) → ownB w b (off + vs.length) → w1 = setCells w b off vs → (execOp ρ o).run E.P w = .ok .skip w1 := by
            intro vs w1 hc hl h1 hown hw1
            have := run_storeCells_own (P := E.P) (b := b) vs off 0 w (by simpa using hown) h1
            simp only [execOp, ho, Instr.storeAt, Instr.sureAddr, hval, Sem.run_bind, Sem.run_pure, Result.andThen_ok, storeVar, run_sizeOf (tyOk_F hty), hc, List.size_toArray, hl, ne_eq, not_true_eq_false, if_false, List.toList_toArray, this, hw1, Nat.add_zero]
          split at hr
          · rename_i T' z
            split at hr
            · rename_i hc
              simp only [Bool.and_eq_true, decide_eq_true_eq] at hc
              obtain ⟨cs, hcn, hvy⟩ := hsy _ rfl
              have hcl := Cn_length hcn
              have hone := Cn_one hc.2 hcn
              have hcells : (ρ y).cells = cs.toArray := by rw [hvy]; exact conc_cells' hcl hone
              have hcT : cs.length = T.size := by rw [hcl]; exact Ty.size_of_era hc.1
              have put : ∀ (n z : TV), Cn E.eT w J n.T n.x cs [] → n.T.pure = true → n.T.era = (typeAt r0.T p).era → setP r0.T r0.x p n = some z →
                  κ none [(k, { r0 with wr := r0.wr + 1, ver := if (typeAt r0.T p).pure then r0.ver else r0.ver + 1, T := z.T, x := z.x })] = some r → OpRes E.P E.eT G M w J anc ρ o κ r := by
                intro n z hn hnp hne hset hr
                cases hSp : (typeAt r0.T p).pure with
                | true =>
                  obtain ⟨b', o', ha', hown, hlen, m1, k1⟩ := h.write hk hok hpath hSp hnp hne hset hn
                  rw [hadr] at ha'; cases ha'
                  rw [hSp] at hr
                  refine ⟨_, _, undef, _, hr, ⟨J, anc, fp, m1, k1, fun x hx => by cases hx⟩, .inr ⟨run cs _ hcells hcT hone (by rw [hlen]; exact hown) rfl, rfl⟩⟩
                | false =>
                  obtain ⟨b', o', fs, ha', hown, hlen, m1, k1⟩ := h.write_any hk hok hpath hne hset hn (fun b hb => by simp at hb) (by simp)
                  rw [hadr] at ha'; cases ha'
                  rw [hSp] at hr
                  refine ⟨_, _, undef, _, hr, ⟨J, anc, _, m1, k1, fun x hx => by cases hx⟩, .inr ⟨run cs _ hcells hcT hone (by rw [hlen]; exact hown) rfl, rfl⟩⟩
              split at hr
              · rename_i z' hco
                split at hr
                · rename_i z2 hset
                  obtain ⟨g1, g2, g3⟩ := co_Cn hco hc.2 hcn
                  exact put ⟨_, z'⟩ z2 g1 g3 rfl hset hr
                · cases hr
              · split at hr
                · rename_i z2 hset
                  exact put ⟨T', z⟩ z2 hcn hc.2 (hc.1.trans hST.symm) hset hr
                · cases hr
            · cases hr
          · rename_i k2 g2 ver2
            split at hr
            · rename_i r2 hl2
              split at hr
              · rename_i hc
                simp only [Bool.and_eq_true, Bool.not_eq_true'] at hc
                split at hr
                · rename_i E2 hE2
                  split at hr
                  · rename_i he
                    split at hr
                    · rename_i z2 hset
                      obtain ⟨hk2, hcn, hs1, hnd, t1, t2, t3⟩ := take_vec h (hsy _ rfl) hl2 hc.1.1 hc.1.2
                      have hne : k ≠ k2 := fun e => by have := hc.2; rw [e, Nat.beq_refl] at this; cases this
                      have hk' : upd M k2 (some r2.tomb) k = some r0 := by rw [upd_other _ _ hne]; exact hk
                      have hadr' : Adr w r0.T (upd anc k2 (.hd undef) k) p = some (b, off) := by rw [upd_other _ _ hne]; exact hadr
                      obtain ⟨b', o', fs, ha', hown, hlen, m1, k1⟩ := t1.write_any hk' hok hpath (n := ⟨r2.T, r2.x⟩) (he.trans hST.symm) hset hcn t3 hnd
                      rw [hadr'] at ha'; cases ha'
                      have hcell : (ρ y).cells = [ρ y].toArray := by
                        obtain ⟨vec, par, g0, ver0, wr0, T0, x0⟩ := r2
                        simp only at hE2 hcn; subst hE2
                        simp only [Cn] at hcn
                        obtain ⟨a, cap, hcs, _⟩ := hcn
                        simp only [List.cons.injEq, and_true] at hcs
                        rw [hcs]; rfl
                      have hone : ∀ v, v ∈ [ρ y] → v.oneCell' = true := by
                        obtain ⟨vec, par, g0, ver0, wr0, T0, x0⟩ := r2
                        simp only at hE2 hcn; subst hE2
                        simp only [Cn] at hcn
                        obtain ⟨a, cap, hcs, _⟩ := hcn
                        simp only [List.cons.injEq, and_true] at hcs
                        intro v hv
                        simp only [List.mem_singleton] at hv
                        rw [hv, hcs]; rfl
                      refine ⟨_, _, undef, _, hr, ⟨J, _, _, m1, fun x u hx => k1 x u (t2 x u hx), fun x hx => by cases hx⟩, .inr ⟨run [ρ y] _ hcell (by rw [← Ty.size_of_era he, hs1]; rfl) hone (by rw [hlen]; exact hown) rfl, rfl⟩⟩
                    · cases hr
                  · cases hr
                · cases hr
              · cases hr
            · cases hr
          · cases hr
        · cases hr
      · cases hr
    · cases hr

theorem op_store (hE : EnvTy E) (h : MOk E.eT G M w J anc fp) (hev : ∀ x v, opv F x = some v → VRel E.eT w J M anc v (ρ x)) {t : TypeId} {x y : Operand} (ho : o.op = .store t x y)
    (hr : opA E M dk κ F (.store t x y) = some r) : OpRes E.P E.eT G M w J anc ρ o κ r := by
  simp only [opA] at hr
  split at hr
  · rename_i T hT
    unfold storeG at hr
    split at hr
    · rename_i k g wr p hy
      split at hr
      · rename_i z us hg
        obtain ⟨J1, anc1, fp1, m1, j1, k1, hzp, cs, hc, hval⟩ := give_ok h (hev _ _ hy) hg
        rw [updR_eq] at hr
        obtain ⟨v, us', val, w', h1, h2, h3⟩ := op_store0 hE m1 ho hT (fun v hv => keepsV k1 _ _ (hev x v hv)) (fun v hv => by cases hv; exact ⟨cs, hc, hval⟩) hr
        exact ⟨v, us ++ us', val, w', h1, After.of_keeps rfl k1 h2, h3⟩
      · cases hr
    · exact op_store0 hE h ho hT (fun v hv => hev x v hv) (fun v hv => hev y v hv) hr
  · cases hr

end
end Go.Ev
end

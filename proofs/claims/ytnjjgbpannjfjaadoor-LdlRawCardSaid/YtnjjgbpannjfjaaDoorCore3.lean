/- A part of the proof of the claim: Core3. -/
import Derived.Test.YtnjjgbpannjfjaaDoorCore2
import Derived.Laws.StructEq
section
set_option linter.all false
set_option linter.unusedSimpArgs false
set_option linter.unusedVariables false
namespace Go.Ev
open Go
section
variable {eT : TypeId} {G : Gh} {M : Nat → Option Root} {w : World} {J : Nat → Prop} {anc : Nat → Pl} {fp : Nat → List Nat} {P : Program} {R : Type}

theorem bif_some {b : Bool} {x : Option R} {r : R} (h : (bif b then x else none) = some r) : b = true ∧ x = some r := by
  cases b <;> simp_all

theorem conc_one {T : Ty} (h : T.agg = false) (v : Value) : conc T [v] = v := by simp [conc, h]

/-- What is known of a slice's value. -/
theorem arel_slice {T : Ty} {l : List T.den} {v : Value} (h : ARel eT w J M anc (.val (.slice T) l) v) :
    ∃ a cap, v = .slice a l.length cap ∧ l.length ≤ cap ∧
      ∀ i (h : i < l.length), ∃ b o, a = some ⟨b, o, none⟩ ∧ J b ∧ Cn eT w J T (l.get ⟨i, h⟩) (cellsAt w b (o + i * T.size) T.size) [] := by
  obtain ⟨cs, hc, rfl⟩ := h
  simp only [Cn] at hc
  obtain ⟨_, a, cap, rfl, h1, h2⟩ := hc
  exact ⟨a, cap, rfl, h1, h2⟩

theorem arel_slice_mk {T : Ty} {l : List T.den} {a : Option Addr} {cap : Nat} (h1 : l.length ≤ cap)
    (h2 : ∀ i (h : i < l.length), ∃ b o, a = some ⟨b, o, none⟩ ∧ J b ∧ Cn eT w J T (l.get ⟨i, h⟩) (cellsAt w b (o + i * T.size) T.size) []) :
    ARel eT w J M anc (.val (.slice T) l) (.slice a l.length cap) :=
  ⟨_, by simp only [Cn]; exact ⟨by trivial, a, cap, rfl, h1, h2⟩, rfl⟩

/-- The header of an owned slice at a live place. -/
theorem hdr_at (h : MOk eT G M w J anc fp) {k g ver : Nat} {p : Path} {r : Root} {v : Value} (ha : ARel eT w J M anc (.hdr k g ver p) v) (hl : liveH M k g ver p = some r) {E : Ty} {l : List E.den}
    (hg : getP r.T r.x p = ⟨.own E, l⟩) :
    M k = some r ∧ r.g = g ∧ okP r.T r.x p ∧ ∃ a cap f, v = .slice a l.length cap ∧ Cn eT w J (.own E) l [v] f ∧ (∀ c, c ∈ f → c ∈ fp k) ∧ f.Nodup ∧
      (p = [] → r.vec = true → f = fp k ∧ anc k = .hd v) ∧
      (∀ i q, i < l.length → ∀ b o, a = some ⟨b, o, none⟩ → Adr w r.T (anc k) (p ++ .idx i :: q) = Adr w E (.at b (o + i * E.size)) q) := by
  obtain ⟨hk, hgg, hok, hty, hh⟩ := hdr_live (eT := eT) (J := J) ha hl
  refine ⟨hk, hgg, hok, ?_⟩
  have hroot := h.roots k r hk
  by_cases hv : r.vec = true ∧ p = []
  · obtain ⟨hvec, rfl⟩ := hv
    obtain ⟨hpl, fs', hfp, hcn⟩ := hroot
    have hhd : anc k = .hd v := by
      rcases hpl with ⟨v', h1, _⟩ | ⟨b', _, h2, _⟩
      · rw [h1] at hh ⊢; simp only [hdrAt, Pl.hdr] at hh; rw [Option.some.inj hh]
      · rw [h2] at hvec; cases hvec
    rw [getP_nil] at hg
    obtain ⟨vec, par, g', ver', wr', T, x⟩ := r
    simp only at hg hcn hvec ⊢
    cases hg
    rw [hhd] at hcn hfp
    simp only [Pl.cells] at hcn
    simp only [Pl.row, List.nil_append] at hfp
    have hcn0 := hcn
    simp only [Cn] at hcn
    obtain ⟨a, cap, hcs, _⟩ := hcn
    cases hcs
    refine ⟨a, cap, fs', rfl, hcn0, fun c hc => by rw [hfp]; exact hc, by rw [← hfp]; exact h.nodup k _ hk, fun _ _ => ⟨hfp.symm, hhd⟩, ?_⟩
    intro i q hi b o hab
    subst hab
    rw [hhd]; simp only [List.nil_append, Adr, Pl.hdr]
  · -- a header that stands in memory
    have hadr : ∃ b o, Adr w r.T (anc k) p = some (b, o) ∧ w.cell? ⟨b, o, none⟩ = some v := by
      cases p with
      | nil =>
        rcases hroot.1 with ⟨v', h1, h2, _⟩ | ⟨b', h1, _⟩
        · exact absurd ⟨h2, rfl⟩ hv
        · rw [h1] at hh ⊢; exact ⟨b', 0, by cases r.T <;> rfl, hh⟩
      | cons s p =>
        simp only [hdrAt] at hh
        split at hh
        · rename_i b o hb; exact ⟨b, o, hb, hh⟩
        · cases hh
    obtain ⟨b, o, hb, hcell⟩ := hadr
    obtain ⟨f, hcn, hf1, hf2, hf3, hf4⟩ := at_place h hk hok hb
    rw [hg] at hcn
    have hcn0 := hcn
    simp only [Cn] at hcn
    obtain ⟨a, cap, hcs, _⟩ := hcn
    have hvv : v = .slice a l.length cap := by
      have := cell_of_cellsAt hcs; rw [hcell] at this; exact Option.some.inj this
    refine ⟨a, cap, f, hvv, ?_, hf1, hf3, fun hp hvec => absurd ⟨hvec, hp⟩ hv, ?_⟩
    · have e : cellsAt w b o (Ty.own E).size = [v] := by rw [hvv]; exact hcs
      rw [← e]; exact hcn0
    · intro i q hi b1 o1 hab
      rw [Adr_append _ _ _ _ _ _ _ hb]
      have hty' : typeAt r.T p = .own E := by rw [← getP_T p r.T r.x, hg]
      rw [hty']
      simp only [Adr, Pl.hdr, hcell, hvv, hab]

theorem run_asInt (k : IntKind) (n : Int) : (asIntOf (.int k n)).run P w = .ok (k, n) w := rfl

theorem intOfA_rel {v : Option V} {n : Int} {val : Value} (h : intOfA v = some n) (hv : ∀ x, v = some x → VRel eT w J M anc x val) : ∃ k, val = .int k n := by
  unfold intOfA at h
  split at h
  · rename_i k m; cases h; exact ⟨k, (arel_int (eT := eT) (w := w) (J := J) (M := M) (anc := anc)).1 (hv _ rfl)⟩
  · cases h

theorem elemsOf_type {T E : Ty} {x : T.den} {p : Path} {l : List E.den} (h : elemsOf (getP T x p) = some ⟨E, l⟩) : (∃ n, typeAt T p = .arr n E) ∨ typeAt T p = .own E := by
  have hT := getP_T p T x
  generalize getP T x p = y at h hT
  obtain ⟨yT, yx⟩ := y
  simp only at hT; rw [← hT]
  cases yT <;> simp [elemsOf] at h
  · exact .inr (by rw [h.1])
  · exact .inl ⟨_, by rw [h.1]⟩

theorem Adr_later {w : World} (p : Path) {E : Ty} {i j b o : Nat} : ∀ (T : Ty) (pl : Pl), ((∃ n, typeAt T p = .arr n E) ∨ typeAt T p = .own E) → Adr w T pl (p ++ [.idx i]) = some (b, o) →
    Adr w T pl (p ++ [.idx (i + j)]) = some (b, o + j * E.size) := by
  induction p with
  | nil =>
    intro T pl ht h
    rw [typeAt_nil] at ht
    rcases ht with ⟨n, rfl⟩ | rfl
    · cases pl with
      | hd v => simp [Adr] at h
      | «at» b' o' =>
        simp only [List.nil_append, Adr] at h ⊢
        have e : (b', o' + i * E.size) = (b, o) := by cases E <;> simpa [Adr] using h
        cases e
        have : o' + (i + j) * E.size = o' + i * E.size + j * E.size := by rw [Nat.add_mul]; omega
        cases E <;> simp [this]
    · simp only [List.nil_append, Adr] at h ⊢
      split at h
      · rename_i a _ _ _
        have e : (a.block, a.off + i * E.size) = (b, o) := by cases E <;> simpa [Adr] using h
        cases e
        have : a.off + (i + j) * E.size = a.off + i * E.size + j * E.size := by rw [Nat.add_mul]; omega
        cases E <;> simp [this]
      · cases h
  | cons s p ih =>
    intro T pl ht h
    cases pl with
    | hd v =>
      cases T <;> cases s <;> simp only [List.cons_append, Adr, typeAt, reduceCtorEq] at h ht ⊢
      split at h
      · exact ih _ _ ht h
      · cases h
    | «at» b' o' =>
      cases T <;> cases s <;> simp only [List.cons_append, Adr, typeAt, reduceCtorEq] at h ht ⊢ <;> first
        | exact ih _ _ ht h
        | (split at h
           · exact ih _ _ ht h
           · cases h)

/-- The element of an array that lies at a place. -/
theorem run_indexArr {t d : TypeId} {n m : Nat} {E T : Ty} (hu : P.underlying t = some (.array n d)) (hd : tyOk P m d E = true) (he : T.era = E.era) {b o : Nat} {ki : IntKind} {i : Int} (h0 : 0 ≤ i) (h1 : i < n) :
    (Instr.indexAt t (.pointer (some ⟨b, o, none⟩)) (.int ki i)).run P w = .ok (.pointer (some ⟨b, o + i.toNat * T.size, none⟩)) w := by
  simp only [Instr.indexAt, Sem.run_bind, run_asInt, Result.andThen_ok, underlying, run_program, hu, Sem.run_pure, Instr.sureAddr, h0, h1, and_self, if_true, run_sizeOf (tyOk_F hd), add_at]
  rw [Ty.size_of_era he]

theorem run_indexSlice {t d : TypeId} {m : Nat} {E T : Ty} (hu : P.underlying t = some (.slice d)) (hd : tyOk P m d E = true) (he : T.era = E.era) {b o len cap : Nat} {ki : IntKind} {i : Int} (h0 : 0 ≤ i) (h1 : i < len) :
    (Instr.indexAt t (.slice (some ⟨b, o, none⟩) len cap) (.int ki i)).run P w = .ok (.pointer (some ⟨b, o + i.toNat * T.size, none⟩)) w := by
  simp only [Instr.indexAt, Sem.run_bind, run_asInt, Result.andThen_ok, underlying, run_program, hu, Sem.run_pure, h0, h1, and_self, if_true, run_sizeOf (tyOk_F hd), add_at]
  rw [Ty.size_of_era he]

/-- An index, and where it leads. -/
theorem indexA_res (h : MOk eT G M w J anc fp) {t : TypeId} {S : Ty} {ns : Nat} (hS : tyOk P ns t S = true) {x : A} {vx : Value} (hx : ARel eT w J M anc x vx) {ki : IntKind} {i : Int}
    {κ : Option V → List (Nat × Root) → Option R} {r : R} (hr : indexA M κ S x i = some r) :
    ∃ v val, κ v [] = some r ∧ (∀ y, v = some y → VRel eT w J M anc y val) ∧ (Instr.indexAt t vx (.int ki i)).run P w = .ok val w := by
  unfold indexA at hr
  split at hr
  · rename_i E T l
    split at hr
    · rename_i he
      obtain ⟨hb, hr⟩ := bif_some hr
      simp only [Bool.and_eq_true, decide_eq_true_eq] at hb
      obtain ⟨a, cap, rfl, hcap, hel⟩ := arel_slice hx
      obtain ⟨k, d, hu, hd, _⟩ := tyOk_selem hS
      have hi : i.toNat < List.length l := by omega
      obtain ⟨b, o, rfl, hJ, hcn⟩ := hel i.toNat hi
      refine ⟨_, .pointer (some ⟨b, o + i.toNat * T.size, none⟩), hr, fun y hy => ?_, run_indexSlice hu hd he hb.1 hb.2⟩
      cases hy
      refine ⟨b, _, rfl, hJ, ?_⟩
      rw [getD_get hi]; exact hcn
    · cases hr
  · rename_i m E n T l
    split at hr
    · rename_i he
      obtain ⟨rfl, he⟩ := he
      obtain ⟨hb, hr⟩ := bif_some hr
      simp only [Bool.and_eq_true, decide_eq_true_eq] at hb
      obtain ⟨b, o, rfl, hJ, hcn⟩ := hx
      obtain ⟨k, d, hu, hd⟩ := tyOk_elem hS
      simp only [Cn, Ty.size] at hcn
      obtain ⟨hl, _, fss, _, hff, hel⟩ := hcn
      have hi : i.toNat < List.length l := by omega
      have hcn := hel i.toNat hi
      rw [cellsAt_part _ _ _ (by omega)] at hcn
      have e0 : fss.getD i.toNat [] = [] := by
        rw [List.getD_eq_getElem?_getD]
        by_cases hlt : i.toNat < fss.length
        · rw [List.getElem?_eq_getElem hlt]
          exact List.flatten_eq_nil_iff.1 hff.symm _ (List.getElem_mem hlt)
        · rw [List.getElem?_eq_none (by omega)]; rfl
      rw [e0] at hcn
      refine ⟨_, .pointer (some ⟨b, o + i.toNat * T.size, none⟩), hr, fun y hy => ?_, run_indexArr hu hd he hb.1 hb.2⟩
      cases hy
      refine ⟨b, _, rfl, hJ, ?_⟩
      rw [getD_get hi]; exact hcn
    · cases hr
  · rename_i m E k g ver p
    split at hr
    · rename_i r0 hl
      obtain ⟨hk, hg, hok, b, o, ha, rfl⟩ := ref_live (eT := eT) (J := J) hx hl
      split at hr
      · rename_i n T hty
        split at hr
        · rename_i he
          obtain ⟨rfl, he⟩ := he
          obtain ⟨hb, hr⟩ := bif_some hr
          simp only [Bool.and_eq_true, decide_eq_true_eq] at hb
          obtain ⟨k', d, hu, hd⟩ := tyOk_elem hS
          obtain ⟨f, hcn, _⟩ := at_place h hk hok ha
          refine ⟨_, .pointer (some ⟨b, o + i.toNat * T.size, none⟩), hr, fun y hy => ?_, run_indexArr hu hd he hb.1 hb.2⟩
          cases hy
          refine ⟨r0, hk, by omega, fun _ => ⟨Nat.le_refl _, fun _ => ⟨?_, b, _, ?_, rfl⟩⟩⟩
          · refine okP_append _ _ _ _ hok ?_
            have hT := getP_T p r0.T r0.x
            generalize getP r0.T r0.x p = y at hcn hT ⊢
            obtain ⟨yT, yx⟩ := y
            simp only at hT; rw [hty] at hT; subst hT
            simp only [Cn] at hcn
            refine ⟨?_, okP_nil _ _⟩
            have := hcn.1
            show i.toNat < List.length yx
            omega
          · rw [Adr_append _ _ _ _ _ _ _ ha, hty]; simp only [Adr]
        · cases hr
      · cases hr
    · cases hr
  · rename_i E k g ver p
    split at hr
    · rename_i r0 hl
      split at hr
      · rename_i T l hgp
        split at hr
        · rename_i he
          obtain ⟨hb, hr⟩ := bif_some hr
          simp only [Bool.and_eq_true, decide_eq_true_eq] at hb
          obtain ⟨hk, hg, hok, a, cap, f, rfl, hcn, _, _, _, hadr⟩ := hdr_at h hx hl hgp
          obtain ⟨k', d, hu, hd, _⟩ := tyOk_selem hS
          have hi : i.toNat < List.length l := by omega
          simp only [Cn] at hcn
          obtain ⟨a', cap', hcs, _, hor⟩ := hcn
          cases hcs
          rcases hor with ⟨_, h0, _⟩ | ⟨b, o, fss, rfl, _⟩
          · omega
          refine ⟨_, .pointer (some ⟨b, o + i.toNat * T.size, none⟩), hr, fun y hy => ?_, run_indexSlice hu hd he hb.1 hb.2⟩
          cases hy
          refine ⟨r0, hk, by omega, fun _ => ⟨Nat.le_refl _, fun _ => ⟨?_, b, _, ?_, rfl⟩⟩⟩
          · refine okP_append _ _ _ _ hok ?_
            rw [hgp]; exact ⟨hi, okP_nil _ _⟩
          · rw [hadr i.toNat [] hi b o rfl]; cases T <;> rfl
        · cases hr
      · cases hr
    · cases hr
  · rename_i E k g ver p lo n
    split at hr
    · rename_i r0 hl
      split at hr
      · rename_i T l hel
        split at hr
        · rename_i he
          obtain ⟨hb, hr⟩ := bif_some hr
          simp only [Bool.and_eq_true, decide_eq_true_eq] at hb
          obtain ⟨k', d, hu, hd, _⟩ := tyOk_selem hS
          obtain ⟨h1, h2, h3⟩ := live_some hl
          obtain ⟨r1, g1, g2, g3⟩ := hx
          rw [h1] at g1; cases g1
          obtain ⟨a, cap, rfl, hcap, hj, hbase⟩ := (g3 h2).2 h3
          obtain ⟨b, o, hadr, rfl⟩ := hbase (by omega)
          refine ⟨_, .pointer (some ⟨b, o + i.toNat * T.size, none⟩), hr, fun y hy => ?_, run_indexSlice hu hd he hb.1 hb.2⟩
          cases hy
          refine ⟨r0, h1, by omega, fun _ => ⟨Nat.le_refl _, fun _ => ⟨hj i.toNat (by omega), b, _, ?_, rfl⟩⟩⟩
          exact Adr_later p r0.T (anc k) (elemsOf_type hel) hadr
        · cases hr
      · cases hr
    · cases hr
  · cases hr
end
end Go.Ev
end

section
set_option linter.all false
set_option linter.unusedSimpArgs false
set_option linter.unusedVariables false
namespace Go.Ev
open Go
section
variable {eT : TypeId} {G : Gh} {M : Nat → Option Root} {w : World} {J : Nat → Prop} {anc : Nat → Pl} {fp : Nat → List Nat} {P : Program} {R : Type}

theorem run_sliceBound (k : IntKind) (i : Int) (y : Nat) (c : BoundsCode) (h0 : 0 ≤ i) (h1 : i ≤ y) : (Instr.sliceBound (.int k i) y c).run P w = .ok i.toNat w := by
  simp only [Instr.sliceBound, Sem.run_bind, run_asInt, Result.andThen_ok, h0, h1, and_self, if_true, Sem.run_pure]

theorem run_sliceBounds (isS : Bool) (len cap : Nat) (lo hi : Option Int) (vlo vhi : Option Value) (hcap : len ≤ cap)
    (hlo : vlo = none ∧ lo = none ∨ ∃ k i, vlo = some (.int k i) ∧ lo = some i) (hhi : vhi = none ∧ hi = none ∨ ∃ k i, vhi = some (.int k i) ∧ hi = some i)
    (h0 : 0 ≤ hi.getD (len : Int)) (h1 : hi.getD (len : Int) ≤ len) (h2 : 0 ≤ lo.getD 0) (h3 : lo.getD 0 ≤ hi.getD (len : Int)) :
    (Instr.sliceBounds isS len cap vlo vhi none).run P w = .ok ((lo.getD 0).toNat, (hi.getD (len : Int)).toNat, cap) w := by
  rcases hlo with ⟨rfl, rfl⟩ | ⟨k, i, rfl, rfl⟩ <;> rcases hhi with ⟨rfl, rfl⟩ | ⟨k', j, rfl, rfl⟩ <;> simp only [Option.getD_none, Option.getD_some] at h0 h1 h2 h3 ⊢
  · simp [Instr.sliceBounds]
  · simp only [Instr.sliceBounds, Sem.run_bind, Sem.run_pure, Result.andThen_ok, run_sliceBound k' j cap _ h0 (by omega)]; rfl
  · simp only [Instr.sliceBounds, Sem.run_bind, Sem.run_pure, Result.andThen_ok, run_sliceBound k i len _ h2 (by omega)]; simp
  · simp only [Instr.sliceBounds, Sem.run_bind, Sem.run_pure, Result.andThen_ok, run_sliceBound k' j cap _ h0 (by omega), run_sliceBound k i j.toNat _ h2 (by omega)]

/-- The addresses of a part of a slice. -/
theorem slice_base {a : Option Addr} {b o m l s : Nat} (h : a = some ⟨b, o, none⟩) : (if m = l then a else a.map (·.add (l * s))) = some ⟨b, if m = l then o else o + l * s, none⟩ := by
  subst h; split
  · rfl
  · simp only [Option.map_some, add_at]

theorem run_sliceSlice {t d : TypeId} {m : Nat} {E : Ty} (hu : P.underlying t = some (.slice d)) (hd : tyOk P m d E = true) {a : Option Addr} {len cap : Nat} {lo hi : Option Int} {vlo vhi : Option Value} (hcap : len ≤ cap)
    (hlo : vlo = none ∧ lo = none ∨ ∃ k i, vlo = some (.int k i) ∧ lo = some i) (hhi : vhi = none ∧ hi = none ∨ ∃ k i, vhi = some (.int k i) ∧ hi = some i)
    (h0 : 0 ≤ hi.getD (len : Int)) (h1 : hi.getD (len : Int) ≤ len) (h2 : 0 ≤ lo.getD 0) (h3 : lo.getD 0 ≤ hi.getD (len : Int)) :
    (Instr.sliceAt t (.slice a len cap) vlo vhi none).run P w =
      .ok (.slice (if cap = (lo.getD 0).toNat then a else a.map (·.add ((lo.getD 0).toNat * E.size))) ((hi.getD (len : Int)).toNat - (lo.getD 0).toNat) (cap - (lo.getD 0).toNat)) w := by
  simp only [Instr.sliceAt, Sem.run_bind, underlying, run_program, Result.andThen_ok, hu, Sem.run_pure, Instr.slice,
    run_sliceBounds true len cap lo hi vlo vhi hcap hlo hhi h0 h1 h2 h3, run_sizeOf (tyOk_F hd)]

theorem run_sliceArr {t d : TypeId} {m n : Nat} {E : Ty} (hu : P.underlying t = some (.array n d)) (hd : tyOk P m d E = true) {b o : Nat} {lo hi : Option Int} {vlo vhi : Option Value}
    (hlo : vlo = none ∧ lo = none ∨ ∃ k i, vlo = some (.int k i) ∧ lo = some i) (hhi : vhi = none ∧ hi = none ∨ ∃ k i, vhi = some (.int k i) ∧ hi = some i)
    (h0 : 0 ≤ hi.getD (n : Int)) (h1 : hi.getD (n : Int) ≤ n) (h2 : 0 ≤ lo.getD 0) (h3 : lo.getD 0 ≤ hi.getD (n : Int)) :
    (Instr.sliceAt t (.pointer (some ⟨b, o, none⟩)) vlo vhi none).run P w =
      .ok (.slice (some ⟨b, if n = (lo.getD 0).toNat then o else o + (lo.getD 0).toNat * E.size, none⟩) ((hi.getD (n : Int)).toNat - (lo.getD 0).toNat) (n - (lo.getD 0).toNat)) w := by
  simp only [Instr.sliceAt, Sem.run_bind, underlying, run_program, Result.andThen_ok, hu, Sem.run_pure, Instr.sureAddr,
    run_sliceBounds false n n lo hi vlo vhi (Nat.le_refl _) hlo hhi h0 h1 h2 h3, run_sizeOf (tyOk_F hd), add_at]
  congr 4
  split <;> rfl

theorem sliceA_res (h : MOk eT G M w J anc fp) {t : TypeId} {S : Ty} {ns : Nat} (hS : tyOk P ns t S = true) {x : A} {vx : Value} (hx : ARel eT w J M anc x vx) {lo hi : Option Int} {vlo vhi : Option Value}
    (hlo : vlo = none ∧ lo = none ∨ ∃ k i, vlo = some (.int k i) ∧ lo = some i) (hhi : vhi = none ∧ hi = none ∨ ∃ k i, vhi = some (.int k i) ∧ hi = some i)
    {κ : Option V → List (Nat × Root) → Option R} {r : R} (hr : sliceA M κ S x lo hi = some r) :
    ∃ v val, κ v [] = some r ∧ (∀ y, v = some y → VRel eT w J M anc y val) ∧ (Instr.sliceAt t vx vlo vhi none).run P w = .ok val w := by
  unfold sliceA at hr
  split at hr
  · rename_i E T l
    split at hr
    · rename_i he
      obtain ⟨hb, hr⟩ := bif_some hr
      simp only [Bool.and_eq_true, decide_eq_true_eq] at hb
      obtain ⟨⟨⟨h0, h1⟩, h2⟩, h3⟩ := hb
      obtain ⟨a, cap, rfl, hcap, hel⟩ := arel_slice hx
      obtain ⟨k, d, hu, hd, _⟩ := tyOk_selem hS
      refine ⟨_, _, hr, fun y hy => ?_, run_sliceSlice hu hd hcap hlo hhi h0 h1 h2 h3⟩
      cases hy
      generalize hhv : hi.getD (List.length l : Int) = hv at h0 h1 h3 ⊢
      generalize lo.getD 0 = lv at h2 h3 ⊢
      have hlen : ((List.take hv.toNat l).drop lv.toNat).length = hv.toNat - lv.toNat := by simp; omega
      rw [← hlen]
      refine arel_slice_mk (M := M) (anc := anc) (by rw [hlen]; omega) fun i hi => ?_
      have hi2 : lv.toNat + i < List.length l := by rw [hlen] at hi; omega
      obtain ⟨b, o, rfl, hJ, hcn⟩ := hel (lv.toNat + i) hi2
      rw [hlen] at hi
      refine ⟨b, o + lv.toNat * E.size, ?_, hJ, ?_⟩
      · rw [slice_base rfl, if_neg (by omega)]
      · have e1 : ((List.take hv.toNat l).drop lv.toNat).get ⟨i, by rw [hlen]; exact hi⟩ = l.get ⟨lv.toNat + i, hi2⟩ := by simp
        rw [e1]
        rw [show o + lv.toNat * E.size + i * T.size = o + (lv.toNat + i) * T.size by rw [Nat.add_mul, Ty.size_of_era he]; omega]
        exact hcn
    · cases hr
  · rename_i m E n T l
    split at hr
    · rename_i he
      obtain ⟨rfl, he⟩ := he
      obtain ⟨hb, hr⟩ := bif_some hr
      simp only [Bool.and_eq_true, decide_eq_true_eq] at hb
      obtain ⟨⟨⟨h0, h1⟩, h2⟩, h3⟩ := hb
      obtain ⟨b, o, rfl, hJ, hcn⟩ := hx
      obtain ⟨k, d, hu, hd⟩ := tyOk_elem hS
      refine ⟨_, _, hr, fun y hy => ?_, run_sliceArr hu hd hlo hhi h0 h1 h2 h3⟩
      cases hy
      simp only [Cn, Ty.size] at hcn
      obtain ⟨hl, _, fss, _, hff, hel⟩ := hcn
      generalize hhv : hi.getD (m : Int) = hv at h0 h1 h3 ⊢
      generalize lo.getD 0 = lv at h2 h3 ⊢
      have hlen : ((List.take hv.toNat l).drop lv.toNat).length = hv.toNat - lv.toNat := by simp; omega
      rw [← hlen]
      refine arel_slice_mk (M := M) (anc := anc) (by rw [hlen]; omega) fun i hi => ?_
      have hi2 : lv.toNat + i < List.length l := by rw [hlen] at hi; omega
      have hcn := hel (lv.toNat + i) hi2
      rw [cellsAt_part _ _ _ (by omega)] at hcn
      have e0 : fss.getD (lv.toNat + i) [] = [] := by
        rw [List.getD_eq_getElem?_getD]
        by_cases hlt : lv.toNat + i < fss.length
        · rw [List.getElem?_eq_getElem hlt]
          exact List.flatten_eq_nil_iff.1 hff.symm _ (List.getElem_mem hlt)
        · rw [List.getElem?_eq_none (by omega)]; rfl
      rw [e0] at hcn
      rw [hlen] at hi
      refine ⟨b, o + lv.toNat * E.size, by rw [if_neg (by omega)], hJ, ?_⟩
      have e1 : ((List.take hv.toNat l).drop lv.toNat).get ⟨i, by rw [hlen]; exact hi⟩ = l.get ⟨lv.toNat + i, hi2⟩ := by simp
      rw [e1]
      rw [show o + lv.toNat * E.size + i * T.size = o + (lv.toNat + i) * T.size by rw [Nat.add_mul, Ty.size_of_era he]; omega]
      exact hcn
    · cases hr
  · rename_i m E k g ver p
    split at hr
    · rename_i r0 hl
      obtain ⟨hk, hg, hok, b, o, ha, rfl⟩ := ref_live (eT := eT) (J := J) hx hl
      split at hr
      · rename_i n T hty
        split at hr
        · rename_i he
          obtain ⟨rfl, he⟩ := he
          obtain ⟨hb, hr⟩ := bif_some hr
          simp only [Bool.and_eq_true, decide_eq_true_eq] at hb
          obtain ⟨⟨⟨h0, h1⟩, h2⟩, h3⟩ := hb
          obtain ⟨k', d, hu, hd⟩ := tyOk_elem hS
          obtain ⟨f, hcn, _⟩ := at_place h hk hok ha
          refine ⟨_, _, hr, fun y hy => ?_, run_sliceArr hu hd hlo hhi h0 h1 h2 h3⟩
          cases hy
          generalize hhv : hi.getD (m : Int) = hv at h0 h1 h3 ⊢
          generalize lo.getD 0 = lv at h2 h3 ⊢
          refine ⟨r0, hk, by omega, fun _ => ⟨Nat.le_refl _, fun _ => ?_⟩⟩
          refine ⟨some ⟨b, if m = lv.toNat then o else o + lv.toNat * E.size, none⟩, m - lv.toNat, by congr 1; omega, by omega, fun j hj => ?_, fun hn => ?_⟩
          · refine okP_append _ _ _ _ hok ?_
            have hT := getP_T p r0.T r0.x
            generalize getP r0.T r0.x p = y at hcn hT ⊢
            obtain ⟨yT, yx⟩ := y
            simp only at hT; rw [hty] at hT; subst hT
            simp only [Cn] at hcn
            refine ⟨?_, okP_nil _ _⟩
            have := hcn.1
            show lv.toNat + j < List.length yx
            omega
          · rw [if_neg (by omega)]
            refine ⟨b, o + lv.toNat * E.size, ?_, rfl⟩
            rw [Adr_append _ _ _ _ _ _ _ ha, hty]; simp only [Adr]
            rw [Ty.size_of_era he]
        · cases hr
      · cases hr
    · cases hr
  · rename_i E k g ver p
    split at hr
    · rename_i r0 hl
      split at hr
      · rename_i T l hgp
        split at hr
        · rename_i he
          obtain ⟨hb, hr⟩ := bif_some hr
          simp only [Bool.and_eq_true, decide_eq_true_eq] at hb
          obtain ⟨⟨⟨h0, h1⟩, h2⟩, h3⟩ := hb
          obtain ⟨hk, hg, hok, a, cap, f, rfl, hcn, _, _, _, hadr⟩ := hdr_at h hx hl hgp
          obtain ⟨k', d, hu, hd, _⟩ := tyOk_selem hS
          simp only [Cn] at hcn
          obtain ⟨a', cap', hcs, hcap, hor⟩ := hcn
          cases hcs
          refine ⟨_, _, hr, fun y hy => ?_, run_sliceSlice hu hd hcap hlo hhi h0 h1 h2 h3⟩
          cases hy
          generalize hhv : hi.getD (List.length l : Int) = hv at h0 h1 h3 ⊢
          generalize lo.getD 0 = lv at h2 h3 ⊢
          refine ⟨r0, hk, by omega, fun _ => ⟨Nat.le_refl _, fun _ => ?_⟩⟩
          refine ⟨if cap = lv.toNat then a else a.map (·.add (lv.toNat * E.size)), cap - lv.toNat, by congr 1; omega, by omega, fun j hj => ?_, fun hn => ?_⟩
          · refine okP_append _ _ _ _ hok ?_
            rw [hgp]; refine ⟨?_, okP_nil _ _⟩
            show lv.toNat + j < List.length l
            omega
          · rcases hor with ⟨_, h0, _⟩ | ⟨b, o, fss, rfl, _⟩
            · omega
            rw [slice_base rfl, if_neg (by omega)]
            refine ⟨b, o + lv.toNat * E.size, ?_, rfl⟩
            rw [hadr lv.toNat [] (by omega) b o rfl, Ty.size_of_era he]
            cases T <;> rfl
        · cases hr
      · cases hr
    · cases hr
  · cases hr

/-- The address of a field. -/
theorem run_fieldAt {t : TypeId} {S T : Ty} {n f : Nat} (hS : tyOk P n t S = true) (hf : hasField S f = true) (he : S.era = T.era) (b o : Nat) :
    ∃ o', (Instr.fieldAt t (.pointer (some ⟨b, o, none⟩)) f).run P w = .ok (.pointer (some ⟨b, o', none⟩)) w ∧ Adr w T (.at b o) (fieldPath f) = some (b, o') ∧
      (∀ {x : T.den}, T.pure = true → Cn eT w J T x (cellsAt w b o T.size) [] → Cn eT w J (getP T x (fieldPath f)).T (getP T x (fieldPath f)).x (cellsAt w b o' (getP T x (fieldPath f)).T.size) []) := by
  obtain ⟨m, fs, hu, hfs⟩ := tyOk_struct hS hf
  obtain ⟨fld, g1, g2, g3, g4, g5, g6, g7⟩ := field_at f fs.toList 0 S T hfs hf he
  have hfld : fs[f]? = some fld := by rw [← Array.getElem?_toList]; exact g1
  refine ⟨o + fld.offset, ?_, by rw [g6]; simp, fun {x} hp hc => ?_⟩
  · simp only [Instr.fieldAt, Sem.run_bind, underlying, run_program, Result.andThen_ok, hu, Sem.run_pure, hfld, Instr.sureAddr, fieldPlace, run_sizeOf (tyOk_F g3), g4, if_false, add_at]
  · have := g7 hp hc
    have hsz : (getP T x (fieldPath f)).T.size = (typeAt S (fieldPath f)).size := by rw [getP_T]; exact (Ty.size_of_era g5).symm
    rw [← hsz] at this
    have hlen := Cn_length this
    rw [Nat.sub_zero] at this hlen
    have e : (List.drop fld.offset (cellsAt w b o T.size)).take (getP T x (fieldPath f)).T.size = cellsAt w b (o + fld.offset) (getP T x (fieldPath f)).T.size := by
      apply List.ext_getElem?
      intro i
      have hb : fld.offset + (getP T x (fieldPath f)).T.size ≤ T.size := by
        have h1 := Cn_length hc
        rw [List.length_take, List.length_drop, h1] at hlen
        have : (getP T x (fieldPath f)).T.size ≠ 0 := by rw [hsz]; exact g4
        omega
      rw [List.getElem?_take, cellsAt_getElem?]
      split
      · rw [List.getElem?_drop, cellsAt_getElem?, if_pos (by omega), Nat.add_assoc]
      · rfl
    rw [e] at this; exact this
end
end Go.Ev
end

section
set_option linter.all false
set_option linter.unusedSimpArgs false
set_option linter.unusedVariables false
namespace Go.Ev
open Go

def eqFieldsOk (P : Program) (ok : TypeId → Ty → Bool) : List Field → Ty → Bool
  | [], .unit => true
  | f :: fs, .pair A B => (f.name != "_") && ok f.type A && eqFieldsOk P ok fs B
  | _, _ => false

/-- Are values of a type compared part by part? -/
def eqOk (P : Program) : Nat → TypeId → Ty → Bool
  | 0, _, _ => false
  | n + 1, t, T =>
    match P.underlying t, T with
    | some (.int _), .int _ => true
    | some .bool, .bool => true
    | some .string, .str => true
    | some (.array _ e), .arr _ E => eqOk P n e E
    | some (.struct fs), .pair A B => !P.stoodInHeld t && eqFieldsOk P (eqOk P n) fs.toList (.pair A B)
    | _, _ => false

section
variable {eT : TypeId} {w : World} {J : Nat → Prop} {P : Program}

theorem run_part {t : TypeId} {T : Ty} (h : TyF P t T) (cs : List Value) (off : Nat) (hl : ((cs.drop off).take T.size).length = T.size) :
    (part t cs.toArray off).run P w = .ok (conc T ((cs.drop off).take T.size)) w := by
  simp only [part, Sem.run_bind, run_isAgg h, Result.andThen_ok, Sem.run_ite]
  cases hT : T.agg with
  | true =>
    simp only [run_sizeOf h, Result.andThen_ok, if_true, Sem.run_pure, conc, hT]
    congr 2
    apply Array.ext'
    simp [List.extract]
  | false =>
    have h1 := Ty.size_one hT
    rw [h1] at hl ⊢
    match hc : (cs.drop off).take 1, hl with
    | [v], _ =>
      have : cs[off]? = some v := by
        have : ((cs.drop off).take 1)[0]? = some v := by rw [hc]; rfl
        simpa [List.getElem?_take, List.getElem?_drop] using this
      simp [conc, hT, this]

theorem run_equalIn_arr (d len n : Nat) (t e : TypeId) (xs ys : Array Value) (f g : Nat → Value) (q : Nat → Bool) (ht : P.underlying t = some (.array len e)) (hs : (sizeOf e).run P w = .ok n w)
    (hf : ∀ i, i < len → (part e xs (i * n)).run P w = .ok (f i) w) (hg : ∀ i, i < len → (part e ys (i * n)).run P w = .ok (g i) w) (hq : ∀ i, i < len → (Op.equalIn d e (f i) (g i)).run P w = .ok (q i) w) :
    (Op.equalIn (d + 1) t (.agg xs) (.agg ys)).run P w = .ok ((List.range len).all q) w := by
  have hu : (underlying t).run P w = .ok (.array len e) w := by simp [underlying, ht]
  simp only [Op.equalIn, Sem.run_bind, hu, Result.andThen_ok, hs]
  rw [Std.Legacy.Range.forIn_eq_forIn_range']
  simp only [Std.Legacy.Range.size]
  have key : ∀ (k i : Nat), i + k ≤ len → (forIn (List.range' i k 1) ((none : Option Bool), ()) fun i _ => do
        let a ← part e xs (i * n)
        let b ← part e ys (i * n)
        let r ← Op.equalIn d e a b
        if (!r) = true then pure (ForInStep.done (some false, ())) else pure (ForInStep.yield ((none : Option Bool), ())) : Sem (Option Bool × Unit)).run P w =
      .ok (if (List.range' i k 1).all q then (none, ()) else (some false, ())) w := by
    intro k
    induction k with
    | zero => intro i _; simp
    | succ k ih =>
      intro i hi
      rw [List.range'_succ, List.forIn_cons]
      simp only [Sem.run_bind, hf i (by omega), hg i (by omega), hq i (by omega), Result.andThen_ok, Sem.run_ite, Sem.run_pure]
      cases hqi : q i with
      | false => simp [hqi]
      | true =>
        have := ih (i + 1) (by omega)
        simp only [Bool.not_true, Bool.false_eq_true, if_false, Result.andThen_ok, List.all_cons, hqi, Bool.true_and]
        exact this
  have e0 : (len - 0 + 1 - 1) / 1 = len := by simp
  rw [e0, key len 0 (by omega), List.range_eq_range']
  simp only [Result.andThen_ok]
  cases hall : (List.range' 0 len).all q <;> rfl

theorem eqD_arr (E : Ty) : ∀ (x y : List E.den) (n : Nat), x.length = n → y.length = n → eqD (.arr n E) x y = (List.range n).all (fun i => eqD E (x.getD i E.dft) (y.getD i E.dft)) := by
  intro x
  induction x with
  | nil =>
    intro y n h1 h2
    have hn : n = 0 := by simpa using h1.symm
    subst hn
    have hy : y = [] := by simpa using h2
    subst hy; rfl
  | cons a x ih =>
    intro y n h1 h2
    cases y with
    | nil => simp at h1 h2; omega
    | cons b y =>
      cases n with
      | zero => simp at h1
      | succ n =>
        have := ih y n (by simpa using h1) (by simpa using h2)
        simp only [eqD, eqD.go] at this ⊢
        rw [this, List.range_succ_eq_map, List.all_cons, List.all_map]
        simp [List.getD]
        rfl

theorem plain_pure {T : Ty} (h : T.plain = true) : T.pure = true := by
  induction T with
  | arr n T ih => exact ih h
  | pair A B ha hb => simp only [Ty.plain, Ty.pure, Bool.and_eq_true] at h ⊢; exact ⟨ha h.1, hb h.2⟩
  | _ => simp_all [Ty.plain, Ty.pure]

theorem fieldsOk_agg {ok : TypeId → Ty → Bool} {fs : List Field} {off : Nat} {T : Ty} (h : fieldsOk ok fs off T = true) : T.agg = true := by
  cases fs <;> cases T <;> first | rfl | simp [fieldsOk] at h

theorem run_eqFields (m d : Nat)
    (ih : ∀ (t : TypeId) (T : Ty) (n : Nat) (x y : T.den) (cs ds : List Value), tyOk P n t T = true → eqOk P m t T = true → T.plain = true → Cn eT w J T x cs [] → Cn eT w J T y ds [] → (Op.equalIn d t (conc T cs) (conc T ds)).run P w = .ok (eqD T x y) w) :
    ∀ (fs : List Field) (off k : Nat) (T : Ty) (x y : T.den) (cs ds : List Value), fieldsOk (tyOk P k) fs off T = true → eqFieldsOk P (eqOk P m) fs T = true → T.plain = true → T.agg = true →
      Cn eT w J T x (cs.drop off) [] → Cn eT w J T y (ds.drop off) [] → (Op.eqFields d cs.toArray ds.toArray fs).run P w = .ok (eqD T x y) w := by
  intro fs
  induction fs with
  | nil => intro off k T x y cs ds h1 h2 hp _ hx hy; cases T <;> simp [fieldsOk, eqFieldsOk, Ty.plain] at h1 h2 hp; rfl
  | cons f fs ihf =>
    intro off k T x y cs ds h1 h2 hp ha hx hy
    cases T with
    | pair A B =>
      simp only [fieldsOk, Bool.and_eq_true, Nat.beq_eq] at h1
      obtain ⟨⟨⟨h11, _⟩, h13⟩, h14⟩ := h1
      simp only [eqFieldsOk, Bool.and_eq_true, bne_iff_ne] at h2
      obtain ⟨⟨h21, h22⟩, h23⟩ := h2
      simp only [Ty.plain, Bool.and_eq_true] at hp
      simp only [Cn] at hx hy
      obtain ⟨f1, f2, hff, hx1, hx2⟩ := hx
      obtain ⟨g1, g2, hgg, hy1, hy2⟩ := hy
      obtain ⟨rfl, rfl⟩ := List.append_eq_nil_iff.1 hff.symm
      obtain ⟨rfl, rfl⟩ := List.append_eq_nil_iff.1 hgg.symm
      rw [List.drop_drop] at hx2 hy2
      simp only [Op.eqFields, if_pos h21, Sem.run_bind, h11, run_part (tyOk_F h13) cs off (Cn_length hx1), run_part (tyOk_F h13) ds off (Cn_length hy1), Result.andThen_ok,
        ih f.type A k x.1 y.1 _ _ h13 h22 hp.1 hx1 hy1, Sem.run_ite, Sem.run_pure]
      rw [ihf (off + A.size) k B x.2 y.2 cs ds h14 h23 hp.2 (fieldsOk_agg h14) hx2 hy2]
      simp only [eqD]
      cases eqD A x.1 y.1 <;> simp
    | _ => simp [eqFieldsOk] at h2

theorem run_equalIn_ok : ∀ (m d : Nat), m ≤ d → ∀ (t : TypeId) (T : Ty) (n : Nat) (x y : T.den) (cs ds : List Value), tyOk P n t T = true → eqOk P m t T = true → T.plain = true → Cn eT w J T x cs [] → Cn eT w J T y ds [] →
    (Op.equalIn d t (conc T cs) (conc T ds)).run P w = .ok (eqD T x y) w := by
  intro m
  induction m with
  | zero => intro d _ t T n x y cs ds _ h; simp [eqOk] at h
  | succ m ih =>
    intro d hd t T n x y cs ds ht h hp hx hy
    obtain ⟨d, rfl⟩ : ∃ d', d = d' + 1 := ⟨d - 1, by omega⟩
    cases T with
    | int k =>
      simp only [Cn] at hx hy
      obtain ⟨rfl, _⟩ := hx; obtain ⟨rfl, _⟩ := hy
      simp only [eqOk] at h
      cases hu : P.underlying t with
      | none => rw [hu] at h; cases h
      | some dd => rw [hu] at h; cases dd <;> simp_all; rename_i k'; exact run_equalIn_int w d t k k' x y hu
    | bool =>
      simp only [Cn] at hx hy
      obtain ⟨rfl, _⟩ := hx; obtain ⟨rfl, _⟩ := hy
      simp only [eqOk] at h
      cases hu : P.underlying t with
      | none => rw [hu] at h; cases h
      | some dd => rw [hu] at h; cases dd <;> simp_all; exact run_equalIn_bool w d t x y hu
    | str =>
      simp only [Cn] at hx hy
      obtain ⟨rfl, _⟩ := hx; obtain ⟨rfl, _⟩ := hy
      simp only [eqOk] at h
      cases hu : P.underlying t with
      | none => rw [hu] at h; cases h
      | some dd =>
        rw [hu] at h; cases dd <;> simp_all
        have := run_equalIn_string w d t x y hu
        rw [← beq_toListBytes] at this; exact this
    | arr len E =>
      obtain ⟨k, e, hu, he⟩ := tyOk_elem ht
      have heq : eqOk P m e E = true := by simp only [eqOk, hu] at h; exact h
      simp only [Cn] at hx hy
      obtain ⟨hx1, hx2, fss, _, hff, hxe⟩ := hx
      obtain ⟨hy1, hy2, gss, _, hgg, hye⟩ := hy
      have z : ∀ (fss : List (List Nat)) i, ([] : List Nat) = fss.flatten → fss.getD i [] = [] := by
        intro fss i hff
        rw [List.getD_eq_getElem?_getD]
        by_cases hlt : i < fss.length
        · rw [List.getElem?_eq_getElem hlt]; exact List.flatten_eq_nil_iff.1 hff.symm _ (List.getElem_mem hlt)
        · rw [List.getElem?_eq_none (by omega)]; rfl
      have hxe' : ∀ i (hi : i < len), Cn eT w J E (List.getD x i E.dft) ((cs.drop (i * E.size)).take E.size) [] := fun i hi => by
        have := hxe i (by omega); rw [z fss i hff] at this; rw [getD_get (by omega)]; exact this
      have hye' : ∀ i (hi : i < len), Cn eT w J E (List.getD y i E.dft) ((ds.drop (i * E.size)).take E.size) [] := fun i hi => by
        have := hye i (by omega); rw [z gss i hgg] at this; rw [getD_get (by omega)]; exact this
      simp only [conc, Ty.agg, if_true]
      rw [run_equalIn_arr d len E.size t e cs.toArray ds.toArray (fun i => conc E ((cs.drop (i * E.size)).take E.size)) (fun i => conc E ((ds.drop (i * E.size)).take E.size)) (fun i => eqD E (List.getD x i E.dft) (List.getD y i E.dft)) hu (run_sizeOf (tyOk_F he))
        (fun i hi => run_part (tyOk_F he) cs _ (Cn_length (hxe' i hi))) (fun i hi => run_part (tyOk_F he) ds _ (Cn_length (hye' i hi)))
        (fun i hi => ih d (by omega) e E k _ _ _ _ he heq hp (hxe' i hi) (hye' i hi)), eqD_arr E x y len hx1 hy1]
    | unit =>
      simp only [eqOk] at h
      cases hu : P.underlying t with
      | none => rw [hu] at h; cases h
      | some dd => rw [hu] at h; cases dd <;> simp_all
    | pair A B =>
      obtain ⟨k, fs, hu, hfs⟩ := tyOk_struct (f := 0) ht rfl
      have : P.stoodInHeld t = false ∧ eqFieldsOk P (eqOk P m) fs.toList (.pair A B) = true := by
        simp only [eqOk, hu, Bool.and_eq_true, Bool.not_eq_true'] at h; exact h
      have hfo : P.fieldsOf t = fs := by simp [Program.fieldsOf, hu]
      simp only [conc, Ty.agg, if_true]
      rw [run_equalIn_struct w d t _ _ (by rw [hfo]; exact hu) this.1, hfo]
      exact run_eqFields m d (fun t T n x y cs ds h1 h2 h3 h4 h5 => ih d (by omega) t T n x y cs ds h1 h2 h3 h4 h5) fs.toList 0 k (.pair A B) x y cs ds hfs this.2 hp rfl hx hy
    | _ => simp [Ty.plain] at hp
end
end Go.Ev
end

section
set_option linter.all false
set_option linter.unusedSimpArgs false
set_option linter.unusedVariables false
namespace Go.Ev
open Go

structure EnvTy (E : Env) : Prop where
  ty : ∀ t T, E.Γ t = some T → T.pure = true ∧ ∃ n, tyOk E.P n t T = true
  bytes : ∀ t b, E.bytes t = some b → ∃ e i, E.P.underlying t = some (.slice e) ∧ E.P.info? e = some i ∧ i.bytes = b ∧ 0 < b
  err : E.P.underlying E.eT = some (.int .i64)
  eqs : ∀ t T, E.eqT t = true → E.Γ t = some T → E.P.eqGuardType E.P.depth t = false ∧ ∃ m, m ≤ 10000 ∧ eqOk E.P m t T = true

section
variable {eT : TypeId} {G : Gh} {M : Nat → Option Root} {w : World} {J : Nat → Prop} {anc : Nat → Pl} {fp : Nat → List Nat} {P : Program} {R : Type}

theorem bif_none {b : Bool} {x : Option R} {r : R} (h : (bif b then none else x) = some r) : b = false ∧ x = some r := by
  cases b <;> simp_all

theorem vrel_int {k : IntKind} {n : Int} : VRel eT w J M anc (.a (.val (.int k) n)) (.int k n) := by
  show ARel eT w J M anc (.val (.int k) n) (.int k n)
  exact arel_int.2 rfl
theorem vrel_bool {n : Bool} : VRel eT w J M anc (.a (.val .bool n)) (.bool n) := by
  show ARel eT w J M anc (.val .bool n) (.bool n)
  exact arel_bool.2 rfl

theorem arel_err_cases {a : Option Int} {v : Value} (h : ARel eT w J M anc (.val .err a) v) : (a = none ∧ v = .nilIface) ∨ ∃ n, a = some n ∧ v = .iface eT (.int .i64 n) := by
  cases a with
  | none => exact .inl ⟨rfl, arel_err0.1 h⟩
  | some n => exact .inr ⟨n, rfl, arel_err1.1 h⟩

/-- An error against nil. -/
theorem run_err_nil {t : TypeId} {ms : Array (String × TypeId)} (hub : P.underlying t = some (.interface ms)) (neg : Bool) {a b : Option Int} {u v : Value} (hab : a = none ∨ b = none)
    (hu : (a = none ∧ u = .nilIface) ∨ ∃ n, a = some n ∧ u = .iface eT (.int .i64 n)) (hv : (b = none ∧ v = .nilIface) ∨ ∃ n, b = some n ∧ v = .iface eT (.int .i64 n)) :
    (binOp (if neg then .neq else .eql) t u v).run P w = .ok (.bool (if neg then !(a.isNone && b.isNone) else (a.isNone && b.isNone))) w := by
  have f1 : ∀ d, (Op.equalIn (d + 1) t .nilIface .nilIface).run P w = .ok true w := fun d => by simp [Op.equalIn, run_underlying hub]
  have f2 : ∀ d T z, (Op.equalIn (d + 1) t .nilIface (.iface T z)).run P w = .ok false w := fun d T z => by simp [Op.equalIn, run_underlying hub]
  have f3 : ∀ d T z, (Op.equalIn (d + 1) t (.iface T z) .nilIface).run P w = .ok false w := fun d T z => by simp [Op.equalIn, run_underlying hub]
  have e1 : (Op.equal t .nilIface .nilIface).run P w = .ok true w := f1 9999
  have e2 : ∀ T z, (Op.equal t .nilIface (.iface T z)).run P w = .ok false w := f2 9999
  have e3 : ∀ T z, (Op.equal t (.iface T z) .nilIface).run P w = .ok false w := f3 9999
  have h1 : ∀ u v : Value, (u = .nilIface ∨ ∃ T z, u = .iface T z) → (v = .nilIface ∨ ∃ T z, v = .iface T z) → binOp (if neg then .neq else .eql) t u v = (do let r ← Op.equal t u v; pure (.bool (if neg then !r else r))) := by
    rintro u v (rfl | ⟨T, z, rfl⟩) (rfl | ⟨T', z', rfl⟩) <;> cases neg <;> rfl
  rcases hu with ⟨rfl, rfl⟩ | ⟨n, rfl, rfl⟩ <;> rcases hv with ⟨rfl, rfl⟩ | ⟨m, rfl, rfl⟩
  · rw [h1 _ _ (.inl rfl) (.inl rfl), Sem.run_bind, e1]; rfl
  · rw [h1 _ _ (.inl rfl) (.inr ⟨_, _, rfl⟩), Sem.run_bind, e2]; rfl
  · rw [h1 _ _ (.inr ⟨_, _, rfl⟩) (.inl rfl), Sem.run_bind, e3]; rfl
  · rcases hab with h | h <;> cases h

theorem run_eqGuard_err (op : BinOp) (t : TypeId) (x y : Operand) {a b : Option Int} {u v : Value} (hxy : x = .const .nilIface ∨ y = .const .nilIface)
    (hu : (a = none ∧ u = .nilIface) ∨ ∃ n, a = some n ∧ u = .iface eT (.int .i64 n)) (hv : (b = none ∧ v = .nilIface) ∨ ∃ n, b = some n ∧ v = .iface eT (.int .i64 n)) :
    (eqGuard op t x y u v).run P w = .ok () w := by
  rcases hu with ⟨rfl, rfl⟩ | ⟨n, rfl, rfl⟩ <;> rcases hv with ⟨rfl, rfl⟩ | ⟨m, rfl, rfl⟩ <;> rcases hxy with rfl | rfl <;> cases op <;> simp [eqGuard]

theorem binA_res {op : BinOp} {t yt : TypeId} {x y : Operand} {isNil : Bool} {S : Option Ty} {eqOK : Bool} {u v : A} {o : Oper} {ρ : Operand → Value} (ho : o.op = .binOp op t x y yt)
    (hu : ARel eT w J M anc u (ρ x)) (hv : ARel eT w J M anc v (ρ y)) (hnil : isNil = true → x = .const .nilIface ∨ y = .const .nilIface) (hc : ∀ c, ρ (.const c) = c)
    (hS : ∀ T, S = some T → ∃ n, tyOk P n t T = true) (hE : ∀ T, eqOK = true → S = some T → P.eqGuardType P.depth t = false ∧ ∃ m, m ≤ 10000 ∧ eqOk P m t T = true)
    {κ : Option V → List (Nat × Root) → Option R} {r : R} (hr : binA κ op S eqOK isNil u v = some r) :
    ∃ v val, κ v [] = some r ∧ (∀ y, v = some y → VRel eT w J M anc y val) ∧ (execOp ρ o).run P w = .ok (.value val) w := by
  unfold binA at hr
  split at hr
  · rename_i k a k' b
    rw [arel_int] at hu hv
    split at hr
    · obtain ⟨hb, hr⟩ := bif_none hr
      have hb' : ¬ (b : Int) < 0 := by simpa using hb
      exact ⟨_, _, hr, fun y hy => by cases hy; exact vrel_int, by rw [run_shift P _ t x y k k' a b yt o ρ ho hu hv (.inl rfl) hb']; rfl⟩
    · obtain ⟨hb, hr⟩ := bif_none hr
      have hb' : ¬ (b : Int) < 0 := by simpa using hb
      exact ⟨_, _, hr, fun y hy => by cases hy; exact vrel_int, by rw [run_shift P _ t x y k k' a b yt o ρ ho hu hv (.inr rfl) hb']; rfl⟩
    · rename_i h1 h2
      split at hr
      · rename_i hk
        subst hk
        have hrun := run_bin_int (w := w) P op t x y k a b yt o ρ ho hu hv h1 h2
        cases op <;> simp only at hr hrun <;> first
          | exact absurd rfl h1
          | exact absurd rfl h2
          | exact ⟨_, _, hr, fun y hy => by cases hy; exact vrel_int, hrun⟩
          | exact ⟨_, _, hr, fun y hy => by cases hy; exact vrel_bool, hrun⟩
          | skip
        · obtain ⟨hb, hr⟩ := bif_none hr
          have hb' : ¬ (b : Int) = 0 := by simpa using hb
          refine ⟨_, _, hr, fun y hy => by cases hy; exact vrel_int, ?_⟩
          rw [hrun]; simp [Op.intDiv, hb']
        · obtain ⟨hb, hr⟩ := bif_none hr
          have hb' : ¬ (b : Int) = 0 := by simpa using hb
          refine ⟨_, _, hr, fun y hy => by cases hy; exact vrel_int, ?_⟩
          rw [hrun]; simp [Op.intDiv, hb']
      · cases hr
  · rename_i a b
    rw [arel_bool] at hu hv
    split at hr
    · obtain ⟨n, hn⟩ := hS _ rfl
      have hub : P.underlying t = some .bool := by
        cases n with
        | zero => simp [tyOk] at hn
        | succ n => simp only [tyOk, Bool.and_eq_true] at hn; have := hn.2; cases hx : P.underlying t with
          | none => rw [hx] at this; cases this
          | some d => rw [hx] at this; cases d <;> simp_all [fieldsOk]
      refine ⟨_, _, hr, fun y hy => by cases hy; exact vrel_bool, ?_⟩
      simp only [execOp, ho, hu, hv]
      simp [eqGuard, binOp, run_equal_bool w t a b hub]
    · obtain ⟨n, hn⟩ := hS _ rfl
      have hub : P.underlying t = some .bool := by
        cases n with
        | zero => simp [tyOk] at hn
        | succ n => simp only [tyOk, Bool.and_eq_true] at hn; have := hn.2; cases hx : P.underlying t with
          | none => rw [hx] at this; cases this
          | some d => rw [hx] at this; cases d <;> simp_all [fieldsOk]
      refine ⟨_, _, hr, fun y hy => by cases hy; exact vrel_bool, ?_⟩
      simp only [execOp, ho, hu, hv]
      simp [eqGuard, binOp, run_equal_bool w t a b hub]
    · cases hr
  · rename_i a b
    rw [arel_str] at hu hv
    split at hr
    · refine ⟨_, _, hr, fun y hy => by cases hy; exact vrel_bool, ?_⟩
      simp only [execOp, ho, hu, hv]
      simp [eqGuard, binOp, Op.stringOp]
      exact (beq_toListBytes a b).symm
    · refine ⟨_, _, hr, fun y hy => by cases hy; exact vrel_bool, ?_⟩
      simp only [execOp, ho, hu, hv]
      simp [eqGuard, binOp, Op.stringOp]
      exact (beq_toListBytes a b).symm
    · cases hr
  · rename_i a b
    have key : isNil = true → S = some .err → ∀ neg : Bool, (op = if neg then .neq else .eql) → (execOp ρ o).run P w = .ok (.value (.bool (if neg then !(Option.isNone (α := Int) a && Option.isNone (α := Int) b) else (Option.isNone (α := Int) a && Option.isNone (α := Int) b)))) w := by
      intro h1 h2 neg h3
      obtain ⟨n, hn⟩ := hS _ h2
      have hub : ∃ ms, P.underlying t = some (.interface ms) := by
        cases n with
        | zero => simp [tyOk] at hn
        | succ n => simp only [tyOk, Bool.and_eq_true] at hn; have := hn.2; cases hx : P.underlying t with
          | none => rw [hx] at this; cases this
          | some d => rw [hx] at this; cases d <;> simp_all [fieldsOk]
      obtain ⟨ms, hub⟩ := hub
      have hab : a = none ∨ b = none := by
        rcases hnil h1 with hx | hy
        · subst hx; rw [hc] at hu; rcases arel_err_cases hu with ⟨h, _⟩ | ⟨_, _, h⟩
          · exact .inl h
          · cases h
        · subst hy; rw [hc] at hv; rcases arel_err_cases hv with ⟨h, _⟩ | ⟨_, _, h⟩
          · exact .inr h
          · cases h
      have hb := run_err_nil (eT := eT) (w := w) hub neg hab (arel_err_cases hu) (arel_err_cases hv)
      have hgd := run_eqGuard_err (w := w) (P := P) (eT := eT) op t x y (hnil h1) (arel_err_cases hu) (arel_err_cases hv)
      simp only [execOp, ho, Sem.run_bind, hgd, Result.andThen_ok, Sem.run_pure]
      rw [h3, hb]; rfl
    split at hr
    · rename_i hn
      split at hr
      · exact ⟨_, _, hr, fun y hy => by cases hy; exact vrel_bool, key hn rfl false rfl⟩
      · exact ⟨_, _, hr, fun y hy => by cases hy; exact vrel_bool, key hn rfl true rfl⟩
      · cases hr
    · cases hr
  · rename_i A1 A2 a T b
    split at hr
    · rename_i hT
      subst hT
      split at hr
      · rename_i hcond
        simp only [Bool.and_eq_true] at hcond
        obtain ⟨⟨hp, heq⟩, hSS⟩ := hcond
        cases S with
        | none => simp [isTy] at hSS
        | some U =>
          simp only [isTy, decide_eq_true_eq] at hSS
          subst hSS
          obtain ⟨n, hn⟩ := hS _ rfl
          obtain ⟨hg, m, hm, hok⟩ := hE _ heq rfl
          obtain ⟨cs, hca, hxa⟩ := hu
          obtain ⟨ds, hcb, hyb⟩ := hv
          have hrun := run_equalIn_ok (w := w) m 10000 hm t _ n a b cs ds hn hok hp hca hcb
          simp only [conc, Ty.agg, if_true] at hxa hyb hrun
          have hgd : ∀ op, (eqGuard op t x y (.agg cs.toArray) (.agg ds.toArray)).run P w = .ok () w := fun op => run_eqGuard_agg w op t x y _ _ hg
          split at hr
          · refine ⟨_, _, hr, fun y hy => by cases hy; exact vrel_bool, ?_⟩
            simp only [execOp, ho, hxa, hyb, Sem.run_bind, hgd, Result.andThen_ok, run_eql_struct, hrun, Sem.run_pure]
            rfl
          · refine ⟨_, _, hr, fun y hy => by cases hy; exact vrel_bool, ?_⟩
            simp only [execOp, ho, hxa, hyb, Sem.run_bind, hgd, Result.andThen_ok, run_neq_struct, hrun, Sem.run_pure]
            rfl
          · cases hr
      · cases hr
    · cases hr
  · cases hr
end
end Go.Ev
end

section
set_option linter.all false
set_option linter.unusedSimpArgs false
set_option linter.unusedVariables false
namespace Go.Ev
open Go
section
variable {eT : TypeId} {G : Gh} {M : Nat → Option Root} {w : World} {J : Nat → Prop} {anc : Nat → Pl} {fp : Nat → List Nat} {P : Program} {R : Type}

/-- A new row. -/
def laid (w : World) (cs : List Value) (e : TypeId) : World := { w with heap := w.heap.push (.cells cs.toArray e) }

theorem laid_grow (w : World) (cs : List Value) (e : TypeId) : Grow w (laid w cs e) :=
  ⟨rfl, rfl, rfl, by simp [laid], fun b hb => by show (w.heap.push _)[b]? = _; rw [Array.getElem?_push, if_neg (Nat.ne_of_lt hb)]⟩

theorem laid_at (w : World) (cs : List Value) (e : TypeId) : (laid w cs e).heap[w.heap.size]? = some (.cells cs.toArray e) := by show (w.heap.push _)[w.heap.size]? = _; rw [Array.getElem?_push, if_pos rfl]

theorem laid_cells (w : World) (cs : List Value) (e : TypeId) (o n : Nat) : cellsAt (laid w cs e) w.heap.size o n = (cs.drop o).take n := by
  unfold cellsAt; rw [laid_at]

theorem laid_own (w : World) (cs : List Value) (e : TypeId) : ownB (laid w cs e) w.heap.size cs.length := ⟨_, e, laid_at w cs e, by simp⟩

theorem nextG_lt (M : Nat → Option Root) (k : Nat) : ∀ r0, M k = some r0 → r0.g < nextG M k := by
  intro r0 h; unfold nextG; rw [h]; simp

/-- A root in new memory (which may take over rows that nobody owned). -/
theorem after_new (h : MOk eT G M w J anc fp) {w' : World} (hg : Grow w w') {dk : Nat} {r : Root} {pl : Pl} {fs : List Nat} (hr : RootOk eT w' J r pl fs) (hn : fs.Nodup) (hrg : r.g = nextG M dk)
    (hfs : ∀ b, b ∈ fs → (w.heap.size ≤ b ∧ b < w'.heap.size) ∨ ((∀ k' r', M k' = some r' → b ∉ fp k') ∧ ¬ J b ∧ b < w.heap.size ∧ G.w0.heap.size ≤ b)) :
    MOk eT G (upd M dk (some r)) w' J (upd anc dk pl) (upd fp dk fs) ∧ (∀ x v, ARel eT w J M anc x v → ARel eT w' J (upd M dk (some r)) (upd anc dk pl) x v) := by
  have h1 := h.grow hg
  refine ⟨h1.add hr hn ?_ ?_, fun x v hx => h1.add_keeps (fun r0 h0 => by rw [hrg]; exact nextG_lt M dk r0 h0) x v (h.grow_keeps hg x v hx)⟩
  · intro k' r' _ hk b hb hb2
    rcases hfs b hb with h2 | h2
    · have := (h.owned k' r' hk b hb2).2.1; omega
    · exact h2.1 k' r' hk hb2
  · intro b hb
    rcases hfs b hb with h2 | h2
    · exact ⟨fun hJ => by have := h.jlt b hJ; omega, h2.2, .inl (by have := h.size; omega)⟩
    · exact ⟨h2.2.1, by have := hg.size; omega, .inl h2.2.2.2⟩

theorem after_box (h : MOk eT G M w J anc fp) {dk : Nat} {T : Ty} {x : T.den} {cs : List Value} (hc : Cn eT w J T x cs []) (e : TypeId) :
    After eT G M w J anc (some (.a (.ref dk (nextG M dk) 0 []))) [(dk, ⟨false, false, nextG M dk, 0, 0, T, x⟩)] (.pointer (some ⟨w.heap.size, 0, none⟩)) (laid w cs e) := by
  have hg := laid_grow w cs e
  have hl := Cn_length hc
  have hroot : RootOk eT (laid w cs e) J ⟨false, false, nextG M dk, 0, 0, T, x⟩ (.at w.heap.size 0) [w.heap.size] := by
    refine ⟨.inr ⟨_, rfl, rfl, by have := laid_own w cs e; rw [hl] at this; exact this⟩, [], rfl, ?_⟩
    simp only [Pl.cells, laid_cells, List.drop_zero]
    rw [← hl, List.take_length]
    exact Cn_congr (fun b hb => ⟨hb, (hg.block b (h.jlt b hb)).symm⟩) (by simp) hc
  obtain ⟨k1, k2⟩ := after_new h hg (dk := dk) hroot (by simp) rfl (fun b hb => by simp at hb; subst hb; exact .inl ⟨Nat.le_refl _, by simp [laid]⟩)
  refine ⟨J, _, _, k1, k2, fun y hy => ?_⟩
  cases hy
  refine ⟨_, upd_same _ _ _, Nat.le_refl _, fun _ => ⟨Nat.le_refl _, fun _ => ⟨okP_nil _ _, w.heap.size, 0, ?_, rfl⟩⟩⟩
  rw [upd_same]; cases T <;> rfl

/-- A slice in new memory whose elements own nothing. -/
theorem after_vec (h : MOk eT G M w J anc fp) {dk : Nat} {E : Ty} {l : List E.den} {cs : List Value} {cap : Nat} (hcap : l.length ≤ cap) (hlen : cs.length = cap * E.size)
    (hc : ∀ i (hi : i < l.length), Cn eT w J E (l.get ⟨i, hi⟩) ((cs.drop (i * E.size)).take E.size) []) (e : TypeId) :
    After eT G M w J anc (some (.a (.hdr dk (nextG M dk) 0 []))) [(dk, ⟨true, false, nextG M dk, 0, 0, .own E, l⟩)] (.slice (some ⟨w.heap.size, 0, none⟩) l.length cap) (laid w cs e) := by
  have hg := laid_grow w cs e
  have hroot : RootOk eT (laid w cs e) J ⟨true, false, nextG M dk, 0, 0, .own E, l⟩ (.hd (.slice (some ⟨w.heap.size, 0, none⟩) l.length cap)) [w.heap.size] := by
    refine ⟨.inl ⟨_, rfl, rfl, rfl⟩, [w.heap.size], rfl, ?_⟩
    simp only [Pl.cells, Cn]
    refine ⟨_, cap, rfl, hcap, .inr ⟨w.heap.size, 0, List.replicate l.length [], rfl, ?_, by simp, by simp, fun i hi => ?_⟩⟩
    · have := laid_own w cs e; rw [hlen] at this; simpa using this
    · rw [laid_cells, Nat.zero_add]
      have e0 : (List.replicate l.length ([] : List Nat)).getD i [] = [] := by simp [List.getD_eq_getElem?_getD, List.getElem?_replicate]; split <;> rfl
      rw [e0]
      exact Cn_congr (fun b hb => ⟨hb, (hg.block b (h.jlt b hb)).symm⟩) (by simp) (hc i hi)
  obtain ⟨k1, k2⟩ := after_new h hg (dk := dk) hroot (by simp) rfl (fun b hb => by simp at hb; subst hb; exact .inl ⟨Nat.le_refl _, by simp [laid]⟩)
  refine ⟨J, _, _, k1, k2, fun y hy => ?_⟩
  cases hy
  refine ⟨_, upd_same _ _ _, Nat.le_refl _, fun _ => ⟨Nat.le_refl _, fun _ => ⟨okP_nil _ _, fun hne => absurd ⟨rfl, rfl⟩ hne, ?_⟩⟩⟩
  rw [upd_same]; rfl

/-- A root is given up. -/
theorem tomb_ok (h : MOk eT G M w J anc fp) {k : Nat} {r : Root} (hk : M k = some r) :
    MOk eT G (upd M k (some r.tomb)) w J (upd anc k (.hd undef)) (upd fp k []) ∧ (∀ x v, ARel eT w J M anc x v → ARel eT w J (upd M k (some r.tomb)) (upd anc k (.hd undef)) x v) := by
  refine ⟨h.add (r := r.tomb) ⟨.inl ⟨_, rfl, rfl, rfl⟩, [], rfl, by simp only [Root.tomb, Pl.cells, Cn]; exact ⟨rfl, by trivial⟩⟩ (by simp) (fun _ _ _ _ b hb => by simp at hb) (fun b hb => by simp at hb), ?_⟩
  exact h.add_keeps (fun r0 h0 => by rw [hk] at h0; cases h0; simp [Root.tomb])

theorem run_newVar {t : TypeId} {T : Ty} {cs : List Value} (hl : cs.length = T.size) (hone : ∀ v, v ∈ cs → v.oneCell' = true) :
    (newVar t (conc T cs)).run P w = .ok ⟨w.heap.size, 0, none⟩ (laid w cs t) := by
  simp only [newVar, newRow, Sem.run_bind, run_newObj, Result.andThen_ok, Sem.run_pure, conc_cells' hl hone]
  rfl

theorem zeroCs_one {T : Ty} (hp : T.pure = true) : ∀ v, v ∈ zeroCs T → v.oneCell' = true := by
  have hz : T.zer.pure = true := by
    induction T with
    | arr n T ih => exact ih hp
    | pair A B ha hb => simp only [Ty.pure, Ty.zer, Bool.and_eq_true] at hp ⊢; exact ⟨ha hp.1, hb hp.2⟩
    | own T ih => simp [Ty.pure] at hp
    | dead => simp [Ty.pure] at hp
    | _ => rfl
  exact Cn_one hz (Cn_zero (eT := 0) (w := default) (J := fun _ => False) T hp)

theorem run_alloc {t : TypeId} {T : Ty} (hT : TyF P t T) (hp : T.pure = true) :
    (Instr.alloc t true (.tuple #[])).run P w = .ok (.pointer (some ⟨w.heap.size, 0, none⟩)) (laid w (zeroCs T) t) := by
  simp only [Instr.alloc, Sem.run_bind, run_zero hT, Result.andThen_ok, run_newVar (zeroCs_length T) (zeroCs_one hp), Sem.run_pure]
end
end Go.Ev
end

section
set_option linter.all false
set_option linter.unusedSimpArgs false
set_option linter.unusedVariables false
namespace Go.Ev
open Go
section
variable {eT : TypeId} {G : Gh} {M : Nat → Option Root} {w : World} {J : Nat → Prop} {anc : Nat → Pl} {fp : Nat → List Nat} {P : Program} {R : Type}

theorem updR_eq : ∀ (us : List (Nat × Root)) (M : Nat → Option Root), updR M us = updM M us := by
  intro us
  induction us with
  | nil => intro M; rfl
  | cons u us ih =>
    intro M
    simp only [updR, updM_cons]
    rw [ih]; congr 1
    funext s; simp only [upd, Nat.beq_eq]

def over (cs : List Value) (o : Nat) (vs : List Value) : List Value := cs.take o ++ vs ++ cs.drop (o + vs.length)

theorem over_getElem? {cs vs : List Value} {o : Nat} (h : o + vs.length ≤ cs.length) (i : Nat) : (over cs o vs)[i]? = if i < o ∨ o + vs.length ≤ i then cs[i]? else vs[i - o]? := by
  unfold over
  rw [List.append_assoc, List.getElem?_append]
  simp only [List.length_take]
  rw [Nat.min_eq_left (by omega)]
  by_cases h1 : i < o
  · simp [h1]
  · rw [if_neg h1, List.getElem?_append]
    by_cases h2 : o + vs.length ≤ i
    · rw [if_neg (by omega), if_pos (.inr h2), List.getElem?_drop]; congr 1; omega
    · rw [if_pos (by omega), if_neg (by omega)]

theorem over_length {cs vs : List Value} {o : Nat} (h : o + vs.length ≤ cs.length) : (over cs o vs).length = cs.length := by
  unfold over; simp; omega

def offT : Ty → Path → Nat
  | .pair A _, .fst :: p => offT A p
  | .pair A B, .snd :: p => A.size + offT B p
  | .arr _ T, .idx i :: p => i * T.size + offT T p
  | _, _ => 0

theorem Adr_off (p : Path) : ∀ (T : Ty) (x : T.den) (w : World) (b o : Nat), T.pure = true → okP T x p → Adr w T (.at b o) p = some (b, o + offT T p) := by
  induction p with
  | nil => intro T x w b o _ _; cases T <;> rfl
  | cons s p ih =>
    intro T x w b o hp hok
    cases T <;> cases s <;> simp only [okP, Ty.pure, Bool.and_eq_true, Adr, offT, Bool.false_eq_true] at hok hp ⊢
    · rw [ih _ _ w b _ hp hok.2, Nat.add_assoc]
    · exact ih _ _ w b _ hp.1 hok
    · rw [ih _ _ w b _ hp.2 hok, Nat.add_assoc]

/-- A part of a value laid anew. -/
theorem value_set {T : Ty} {x : T.den} {cs : List Value} (hc : Cn eT w J T x cs []) (hp : T.pure = true) {p : Path} (hok : okP T x p) {n z : TV} (hset : setP T x p n = some z) {vs : List Value}
    (hn : Cn eT w J n.T n.x vs []) (hsz : n.T.size = (typeAt T p).size) (hjlt : ∀ b, J b → b < w.heap.size) :
    ∃ o, (∀ (w1 : World) (b o1 : Nat), Adr w1 T (.at b o1) p = some (b, o1 + o)) ∧ o + vs.length ≤ cs.length ∧ Cn eT w J z.T z.x (over cs o vs) [] := by
  have hg := laid_grow w cs 0
  have hcell : cellsAt (laid w cs 0) w.heap.size 0 T.size = cs := by rw [laid_cells, List.drop_zero, ← Cn_length hc, List.take_length]
  have hc1 : Cn eT (laid w cs 0) J T x (Pl.cells (laid w cs 0) T.size (.at w.heap.size 0)) [] := by
    simp only [Pl.cells, hcell]
    exact Cn_congr (fun b hb => ⟨hb, (hg.block b (hjlt b hb)).symm⟩) (by simp) hc
  obtain ⟨b', o', l, f, r, L⟩ := lens p T x (.at w.heap.size 0) [] hc1 (by simp [Pl.row]) hok (by intro v e; cases e)
  have hfs := L.split
  obtain ⟨hl00, hr0⟩ := List.append_eq_nil_iff.1 hfs.symm
  obtain ⟨hl0, _⟩ := List.append_eq_nil_iff.1 hl00
  subst hl0 hr0
  have hb' : b' = w.heap.size := by simpa [Pl.row] using L.inRow
  subst hb'
  have hlen : vs.length = (getP T x p).T.size := by rw [Cn_length hn, getP_T, hsz]
  have hw := L.within w.heap.size 0 rfl rfl
  have hnJ : ¬ J w.heap.size := fun hJ => by have := hjlt _ hJ; omega
  have hn1 : Cn eT (setCells (laid w cs 0) w.heap.size o' vs) J n.T n.x vs [] := by
    refine Cn_other ?_ hnJ (by simp)
    exact Cn_congr (fun b hb => ⟨hb, (hg.block b (hjlt b hb)).symm⟩) (by simp) hn
  obtain ⟨hz, hzs⟩ := L.set vs n [] z hlen (by rw [getP_T]; exact hsz) hnJ hset hn1
  have hcl := Cn_length hc
  refine ⟨o', ?_, by omega, ?_⟩
  · intro w1 b o1
    have h1 := Adr_off p T x (laid w cs 0) w.heap.size 0 hp hok
    rw [L.adr] at h1
    have : o' = offT T p := by have := congrArg (fun z => z.map Prod.snd) h1; simpa using this
    rw [this]; exact Adr_off p T x w1 b o1 hp hok
  · have hcells : Pl.cells (setCells (laid w cs 0) w.heap.size o' vs) T.size (.at w.heap.size 0) = over cs o' vs := by
      simp only [Pl.cells]
      obtain ⟨c', g1, g2, g3, g4⟩ := setCells_same w.heap.size vs o' (laid w cs 0) cs.toArray 0 (0, 0) (laid_at w cs 0)
      apply List.ext_getElem?
      intro i
      rw [cellsAt_getElem?, g1, over_getElem? (by omega)]
      simp only [Nat.zero_add]
      by_cases hi : i < T.size
      · rw [if_pos hi]
        by_cases h1 : i < o' ∨ o' + vs.length ≤ i
        · rw [if_pos h1, g3 i h1]; simp
        · rw [if_neg h1]
          have := g4 (i - o') (by omega) (by simp; omega)
          rw [show o' + (i - o') = i by omega] at this; exact this
      · rw [if_neg hi, if_pos (by omega), List.getElem?_eq_none (by omega)]
    rw [hcells] at hz
    refine Cn_congr (fun b hb => ⟨hb, ?_⟩) (by simp) (by simpa using hz)
    have hlt := hjlt b hb
    rw [setCells_other _ _ (by omega), hg.block b hlt]

/-- What is given up is written no more. -/
theorem give_ok (h : MOk eT G M w J anc fp) {v : V} {val : Value} (hv : VRel eT w J M anc v val) {y : TV} {us : List (Nat × Root)} (hg : give M v = some (y, us)) :
    ∃ J' anc' fp', MOk eT G (updM M us) w J' anc' fp' ∧ (∀ b, J b → J' b) ∧ (∀ x u, ARel eT w J M anc x u → ARel eT w J' (updM M us) anc' x u) ∧ y.T.pure = true ∧
      ∃ cs, Cn eT w J' y.T y.x cs [] ∧ val = conc y.T cs := by
  unfold give at hg
  split at hg
  · split at hg
    · rename_i hp
      cases hg
      obtain ⟨cs, hc, rfl⟩ := hv
      exact ⟨J, anc, fp, h, fun _ h => h, fun _ _ h => h, hp, cs, hc, rfl⟩
    · cases hg
  · rename_i k g ver
    split at hg
    · rename_i r hl
      split at hg
      · rename_i hvp
        simp only [Bool.and_eq_true, Bool.not_eq_true'] at hvp
        split at hg
        · rename_i E l hT hx
          split at hg
          · rename_i hp
            cases hg
            obtain ⟨vec, par, g0, ver0, wr0, T, x⟩ := r
            simp only at hT hx hvp
            subst hT
            have hx' := eq_of_heq hx
            subst hx'
            obtain ⟨hk, hgg, hok, a, cap, f, rfl, hcn, _, _, hf, _⟩ := hdr_at h hv hl (getP_nil _ _)
            obtain ⟨hf, hanc⟩ := hf rfl hvp.1
            subst hf
            obtain ⟨t1, t2⟩ := tomb_ok h hk
            have hS : ∀ b, b ∈ fp k → b < w.heap.size ∧ ¬ G.W b ∧ G.w0.heap.size ≤ b ∧ ∀ k' r', (upd M k (some (Root.tomb ⟨vec, par, g0, ver0, wr0, .own E, x⟩))) k' = some r' → b ∉ (upd fp k []) k' := by
              intro b hb
              obtain ⟨o1, o2, o3⟩ := h.owned k _ hk b hb
              have o4 : G.w0.heap.size ≤ b := by rcases o3 with o3 | o3; · exact o3
                                                 · simp only at o3; rw [hvp.2] at o3; cases o3.1
              refine ⟨o2, fun hW => by have := h.wlt b hW; omega, o4, fun k' r' hk' hb' => ?_⟩
              by_cases e : k' = k
              · subst e; rw [upd_same] at hb'; simp at hb'
              · rw [upd_other _ _ e] at hk' hb'; exact h.apart k k' _ _ (Ne.symm e) hk hk' b hb hb'
            refine ⟨_, _, _, t1.jext (S := fun b => b ∈ fp k) hS, fun b hb => .inl hb, fun x u hx => t1.jext_keeps x u (t2 x u hx), ?_, [.slice a (List.length x) cap], ?_, ?_⟩
            · simp only [Ty.imm, Ty.pure]; exact hp
            · exact Cn_toImm (T := .own E) (fun b hb => Or.inl hb) (by simp) (fun b hb => Or.inr hb) hcn (by simp only [Ty.imm, Ty.pure]; exact hp)
            · rfl
          · cases hg
        · cases hg
      · cases hg
    · cases hg
  · rename_i k g wr
    split at hg
    · rename_i r hl
      split at hg
      · rename_i hpar
        simp only [Bool.not_eq_true'] at hpar
        split at hg
        · rename_i hp
          cases hg
          obtain ⟨h1, h2, h3⟩ := liveV_some hl
          obtain ⟨r', g1, g2, g3⟩ := hv
          rw [h1] at g1; cases g1
          obtain ⟨g4, g5⟩ := g3 h2
          obtain ⟨hok, b, o, ha, rfl⟩ := g5 h3
          obtain ⟨f, hcn, hf, hb, _⟩ := at_place h h1 hok ha
          rw [getP_nil] at hcn
          rw [typeAt_nil]
          obtain ⟨t1, t2⟩ := tomb_ok h h1
          have hS : ∀ b, b ∈ fp k → b < w.heap.size ∧ ¬ G.W b ∧ G.w0.heap.size ≤ b ∧ ∀ k' r', (upd M k (some r.tomb)) k' = some r' → b ∉ (upd fp k []) k' := by
            intro b hb
            obtain ⟨o1, o2, o3⟩ := h.owned k _ h1 b hb
            have o4 : G.w0.heap.size ≤ b := by rcases o3 with o3 | o3; · exact o3
                                               · rw [hpar] at o3; cases o3.1
            refine ⟨o2, fun hW => by have := h.wlt b hW; omega, o4, fun k' r' hk' hb' => ?_⟩
            by_cases e : k' = k
            · subst e; rw [upd_same] at hb'; simp at hb'
            · rw [upd_other _ _ e] at hk' hb'; exact h.apart k k' _ _ (Ne.symm e) h1 hk' b hb hb'
          refine ⟨_, _, _, t1.jext (S := fun b => b ∈ fp k) hS, fun b hb => .inl hb, fun x u hx => t1.jext_keeps x u (t2 x u hx), hp, _, Cn_toImm (fun b hb => Or.inl hb) (by intro e; rw [e] at hp; simp [Ty.imm, Ty.pure] at hp) (fun b hb => Or.inr (hf b hb)) hcn hp, ?_⟩
          unfold conc; rw [Ty.agg_imm]
        · cases hg
      · cases hg
    · cases hg
  · cases hg
end
end Go.Ev
end

section
set_option linter.all false
set_option linter.unusedSimpArgs false
set_option linter.unusedVariables false
namespace Go.Ev
open Go
section
variable {eT : TypeId} {G : Gh} {M : Nat → Option Root} {w : World} {J : Nat → Prop} {anc : Nat → Pl} {fp : Nat → List Nat} {P : Program} {R : Type}

theorem setP_pure (p : Path) : ∀ (T : Ty) (x : T.den) (n y : TV), setP T x p n = some y → T.pure = true → n.T.pure = true → y.T.pure = true := by
  induction p with
  | nil => intro T x n y h _ hn
           have h1 : setP T x [] n = some n := by cases T <;> rfl
           rw [h1] at h; cases h; exact hn
  | cons s p ih =>
    intro T x n y h hp hn
    cases T with
    | pair A B =>
      simp only [Ty.pure, Bool.and_eq_true] at hp
      cases s with
      | fst =>
        simp only [setP] at h
        split at h
        · rename_i r hr; cases h; simp only [Ty.pure, Bool.and_eq_true]; exact ⟨ih _ _ _ _ hr hp.1 hn, hp.2⟩
        · cases h
      | snd =>
        simp only [setP] at h
        split at h
        · rename_i r hr; cases h; simp only [Ty.pure, Bool.and_eq_true]; exact ⟨hp.1, ih _ _ _ _ hr hp.2 hn⟩
        · cases h
      | idx i => simp [setP] at h
    | arr m T =>
      cases s with
      | fst => simp [setP] at h
      | snd => simp [setP] at h
      | idx i =>
        simp only [setP] at h
        split at h
        · split at h
          · cases h; exact hp
          · cases h
        · cases h
    | own T => simp [Ty.pure] at hp
    | _ => simp [setP] at h

theorem typeAt_pure_pure (p : Path) : ∀ (T : Ty) (x : T.den), T.pure = true → okP T x p → (typeAt T p).pure = true := by
  induction p with
  | nil => intro T x hp _; rw [typeAt_nil]; exact hp
  | cons s p ih =>
    intro T x hp hok
    cases T <;> cases s <;> simp only [okP, Ty.pure, Bool.and_eq_true, typeAt, Bool.false_eq_true] at hok hp ⊢
    · exact ih _ _ hp hok.2
    · exact ih _ _ hp.1 hok
    · exact ih _ _ hp.2 hok

/-- A value seen as one of another type has the same cells. -/
theorem co_Cn : ∀ {A B : Ty} {x : A.den} {y : B.den} {cs : List Value}, Ty.co A B x = some y → A.pure = true → Cn eT w J A x cs [] → Cn eT w J B y cs [] ∧ B.era = A.era ∧ B.pure = true := by
  have base : ∀ {A B : Ty} {x : A.den} {y : B.den} {cs : List Value}, (if h : A = B then some (cast (congrArg Ty.den h) x) else none) = some y → A.pure = true → Cn eT w J A x cs [] → Cn eT w J B y cs [] ∧ B.era = A.era ∧ B.pure = true := by
    intro A B x y cs h hp hc
    split at h
    · rename_i e; subst e; cases h; exact ⟨hc, rfl, hp⟩
    · cases h
  intro A
  induction A with
  | pair A1 A2 ih1 ih2 =>
    intro B x y cs h hp hc
    cases B with
    | pair B1 B2 =>
      simp only [Ty.co] at h
      split at h
      · rename_i a b h1 h2
        cases h
        simp only [Ty.pure, Bool.and_eq_true] at hp
        simp only [Cn] at hc ⊢
        obtain ⟨f1, f2, hff, hc1, hc2⟩ := hc
        obtain ⟨rfl, rfl⟩ := List.append_eq_nil_iff.1 hff.symm
        obtain ⟨g1, g2, g3⟩ := ih1 h1 hp.1 hc1
        have hsz := Ty.size_of_era g2
        obtain ⟨k1, k2, k3⟩ := ih2 h2 hp.2 hc2
        exact ⟨⟨[], [], rfl, by rw [hsz]; exact g1, by rw [hsz]; exact k1⟩, by simp only [Ty.era, g2, k2], by simp only [Ty.pure, g3, k3, Bool.and_self]⟩
      · cases h
    | _ => exact base h hp hc
  | nil =>
    intro B x y cs h hp hc
    cases B with
    | slice T =>
      simp only [Ty.co] at h
      split at h
      · rename_i hT
        cases h
        simp only [Cn] at hc ⊢
        obtain ⟨rfl, _⟩ := hc
        exact ⟨⟨by trivial, none, 0, rfl, Nat.le_refl _, fun i hi => by simp at hi⟩, rfl, hT⟩
      · cases h
    | _ => exact base h hp hc
  | _ => intro B x y cs h hp hc; cases B <;> exact base h hp hc

theorem fill_cells {cs vs : List Value} {o : Nat} (h : o + vs.length ≤ cs.length) (c : Array Value) (hc : c.toList = cs) (v : Array Value) (hv : v.toList = vs) :
    v.zipIdx.foldl (fun a (x : Value × Nat) => a.setIfInBounds (o + x.2) x.1) c = (over cs o vs).toArray := by
  subst hc hv
  have key : ∀ (l : List Value) (k : Nat) (a : Array Value), a.size = c.size → o + k + l.length ≤ c.size →
      ∀ i, ((l.zipIdx k).foldl (fun a (x : Value × Nat) => a.setIfInBounds (o + x.2) x.1) a)[i]? = if i < o + k ∨ o + k + l.length ≤ i then a[i]? else l[i - (o + k)]? := by
    intro l
    induction l with
    | nil => intro k a _ _ i; simp; intro h1 h2; omega
    | cons x l ih =>
      intro k a ha hl i
      rw [List.zipIdx_cons, List.foldl_cons]
      have := ih (k + 1) (a.setIfInBounds (o + k) x) (by simpa using ha) (by simp at hl; omega) i
      rw [this]
      simp only [List.length_cons] at hl ⊢
      by_cases h1 : i < o + k
      · rw [if_pos (by omega), if_pos (by omega), Array.getElem?_setIfInBounds_ne (by omega)]
      · by_cases h2 : i = o + k
        · subst h2
          rw [if_pos (by omega), if_neg (by omega)]
          have hlt : o + k < a.size := by omega
          simp [hlt]
        · by_cases h3 : o + (k + 1) + l.length ≤ i
          · rw [if_pos (by omega), if_pos (by omega), Array.getElem?_setIfInBounds_ne (by omega)]
          · rw [if_neg (by omega), if_neg (by omega)]
            rw [show i - (o + k) = (i - (o + (k + 1))) + 1 by omega, List.getElem?_cons_succ]
  apply Array.ext_getElem?
  intro i
  rw [← Array.foldl_toList, Array.toList_zipIdx]
  rw [key v.toList 0 c rfl (by simpa using h) i]
  simp only [Nat.add_zero]
  have := over_getElem? h i
  rw [show (over c.toList o v.toList).toArray[i]? = (over c.toList o v.toList)[i]? from by simp, this]
  simp

/-- A struct's, or an array's, value out of its parts. -/
theorem buildA_ok {S : Ty} {okI : Nat → Bool} {path : Nat → Path} {place : Nat → Option (Nat × Nat)} {ev : Operand → Option V} {ρ : Operand → Value}
    (hplace : ∀ i, okI i = true → ∀ (T : Ty) (x : T.den) (w : World) (J : Nat → Prop) (cs : List Value), T.era = S.era → T.pure = true → Cn eT w J T x cs [] → okP T x (path i) ∧ place i = some (offT T (path i), (typeAt T (path i)).size)) :
    ∀ (parts : List (Nat × Operand)) (M : Nat → Option Root) (J : Nat → Prop) (anc : Nat → Pl) (fp : Nat → List Nat) (x : TV) (cs : List Value) (r : TV) (us : List (Nat × Root)),
      MOk eT G M w J anc fp → (∀ o v, ev o = some v → VRel eT w J M anc v (ρ o)) → x.T.era = S.era → x.T.pure = true → Cn eT w J x.T x.x cs [] → buildA okI path ev M parts x = some (r, us) →
      ∃ J' anc' fp' cs', MOk eT G (updM M us) w J' anc' fp' ∧ (∀ b, J b → J' b) ∧ (∀ x u, ARel eT w J M anc x u → ARel eT w J' (updM M us) anc' x u) ∧ r.T.era = S.era ∧ Cn eT w J' r.T r.x cs' [] ∧
        Instr.fill place cs.toArray (parts.map fun (i, o) => (i, ρ o)) = some cs'.toArray := by
  intro parts
  induction parts with
  | nil =>
    intro M J anc fp x cs r us hm hev he hp hc h
    simp only [buildA] at h; cases h
    exact ⟨J, anc, fp, cs, hm, fun _ h => h, fun _ _ h => h, he, hc, rfl⟩
  | cons part parts ih =>
    obtain ⟨i, o⟩ := part
    intro M J anc fp x cs r us hm hev he hp hc h
    simp only [buildA] at h
    split at h
    · rename_i v hv
      split at h
      · rename_i y u hg
        split at h
        · rename_i hcond
          split at h
          · rename_i z hz
            split at h
            · rename_i r' us' hrec
              cases h
              obtain ⟨J1, anc1, fp1, m1, j1, k1, yp, vs, hy, hval⟩ := give_ok hm (hev o v hv) hg
              have hc1 : Cn eT w J1 x.T x.x cs [] := Cn_congr (fun b hb => ⟨j1 b hb, rfl⟩) (by simp) hc
              obtain ⟨hok, hpl⟩ := hplace i hcond.1 x.T x.x w J1 cs he hp hc1
              have hTp := typeAt_pure_pure _ _ _ hp hok
              -- the part, as it is laid
              have hput : ∃ n : TV, setP x.T x.x (path i) n = some z ∧ Cn eT w J1 n.T n.x vs [] ∧ n.T.era = (typeAt x.T (path i)).era ∧ n.T.pure = true := by
                unfold putPart at hz
                split at hz
                · rename_i y' hy'
                  obtain ⟨g1, g2, g3⟩ := co_Cn hy' yp hy
                  exact ⟨⟨_, y'⟩, hz, g1, rfl, g3⟩
                · exact ⟨y, hz, hy, hcond.2, yp⟩
              obtain ⟨n, hset, hn, hne, hnp⟩ := hput
              obtain ⟨off, hadr, hoff, hcz⟩ := value_set hc1 hp hok hset hn (Ty.size_of_era hne) m1.jlt
              have hoff0 : off = offT x.T (path i) := by
                have h1 := hadr w 0 0
                rw [Adr_off _ _ _ w 0 0 hp hok] at h1
                have := congrArg (fun z => z.map Prod.snd) h1
                simpa using this.symm
              have hze : z.T.era = S.era := (setP_era _ _ _ _ _ hset hne).trans he
              have hzp : z.T.pure = true := setP_pure _ _ _ _ _ hset hp hnp
              rw [updR_eq] at hrec
              obtain ⟨J2, anc2, fp2, cs2, m2, j2, k2, e2, c2, f2⟩ := ih (updM M u) J1 anc1 fp1 z (over cs off vs) _ _ m1 (fun o v hv => keepsV k1 _ _ (hev o v hv)) hze hzp hcz hrec
              refine ⟨J2, anc2, fp2, cs2, by rw [updM_append]; exact m2, fun b hb => j2 b (j1 b hb), fun x u hx => by rw [updM_append]; exact k2 x u (k1 x u hx), e2, c2, ?_⟩
              have hvl := Cn_length hy
              have hcells : (ρ o).cells = vs.toArray := by rw [hval]; exact conc_cells' hvl (Cn_one yp hy)
              have hsz : vs.length = (typeAt x.T (path i)).size := by rw [Cn_length hn]; exact Ty.size_of_era hne
              simp only [List.map_cons, Instr.fill, hpl, hcells]
              have h3 : ¬ ((vs.toArray.size ≠ (typeAt x.T (path i)).size || decide (offT x.T (path i) + vs.toArray.size > cs.toArray.size)) = true) := by
                simp only [List.size_toArray, Bool.or_eq_true, decide_eq_true_eq, ne_eq]
                rw [← hoff0]
                omega
              rw [if_neg h3]
              have h4 := fill_cells (o := off) hoff cs.toArray rfl vs.toArray rfl
              rw [← hoff0]
              rw [h4]; exact f2
            · cases h
          · cases h
        · cases h
      · cases h
    · cases h
end
end Go.Ev
end

section
set_option linter.all false
set_option linter.unusedSimpArgs false
set_option linter.unusedVariables false
namespace Go.Ev
open Go
section
variable {eT : TypeId} {G : Gh} {M : Nat → Option Root} {w : World} {J : Nat → Prop} {anc : Nat → Pl} {fp : Nat → List Nat} {P : Program} {R : Type}

theorem After.of_keeps {M1 : Nat → Option Root} {us vs : List (Nat × Root)} {w1 w2 : World} {J1 : Nat → Prop} {anc1 : Nat → Pl} {v : Option V} {val : Value} (hM : M1 = updM M us)
    (hk : ∀ x u, ARel eT w J M anc x u → ARel eT w1 J1 M1 anc1 x u) (h : After eT G M1 w1 J1 anc1 v vs val w2) : After eT G M w J anc v (us ++ vs) val w2 := by
  obtain ⟨J2, anc2, fp2, m2, k2, h2⟩ := h
  subst hM
  refine ⟨J2, anc2, fp2, by rw [updM_append]; exact m2, fun x u hx => by rw [updM_append]; exact k2 x u (hk x u hx), fun x hx => by rw [updM_append]; exact h2 x hx⟩

theorem updM_other : ∀ (us : List (Nat × Root)) (M : Nat → Option Root) (k : Nat), (us.any fun u => Nat.beq u.1 k) = false → updM M us k = M k := by
  intro us
  induction us with
  | nil => intro M k _; rfl
  | cons u us ih =>
    intro M k h
    simp only [List.any_cons, Bool.or_eq_false_iff] at h
    rw [updM_cons, ih _ k h.2]
    refine upd_other _ _ fun e => ?_
    subst e
    have := h.1
    rw [Nat.beq_eq_false_iff_ne'] at this
    exact this rfl
where
  Nat.beq_eq_false_iff_ne' {a b : Nat} : (Nat.beq a b = false) = (a ≠ b) := by
    apply propext
    constructor
    · intro h e; subst e; rw [Nat.beq_refl] at h; cases h
    · intro h; cases hb : Nat.beq a b with
      | false => rfl
      | true => rw [Nat.beq_eq] at hb; exact absurd hb h

theorem nextG_upd {us : List (Nat × Root)} {M : Nat → Option Root} {k : Nat} (h : (us.any fun u => Nat.beq u.1 k) = false) : nextG (updM M us) k = nextG M k := by
  unfold nextG; rw [updM_other us M k h]

/-- The elements of a slice that is written out. -/
theorem elemsA_ok {T : Ty} {ev : Operand → Option V} {ρ : Operand → Value} :
    ∀ (parts : List (Nat × Operand)) (M : Nat → Option Root) (J : Nat → Prop) (anc : Nat → Pl) (fp : Nat → List Nat) (i : Nat) (l : List T.den) (us : List (Nat × Root)),
      MOk eT G M w J anc fp → (∀ o v, ev o = some v → VRel eT w J M anc v (ρ o)) → elemsA T ev M i parts = some (l, us) →
      ∃ J' anc' fp' css, MOk eT G (updM M us) w J' anc' fp' ∧ (∀ b, J b → J' b) ∧ (∀ x u, ARel eT w J M anc x u → ARel eT w J' (updM M us) anc' x u) ∧ l.length = parts.length ∧ css.length = parts.length * T.size ∧
        (∀ j (hj : j < l.length), Cn eT w J' T (l.get ⟨j, hj⟩) ((css.drop (j * T.size)).take T.size) []) ∧
        ∀ c : List Value, c.length = (i + parts.length) * T.size → Instr.fill (fun i => some (i * T.size, T.size)) c.toArray (parts.map fun (i, o) => (i, ρ o)) = some (c.take (i * T.size) ++ css).toArray := by
  intro parts
  induction parts with
  | nil =>
    intro M J anc fp i l us hm hev h
    simp only [elemsA] at h; cases h
    refine ⟨J, anc, fp, [], hm, fun _ h => h, fun _ _ h => h, rfl, by simp, fun j hj => by simp at hj, fun c hcl => ?_⟩
    simp only [List.map_nil, Instr.fill, List.append_nil]
    rw [List.take_of_length_le (by rw [hcl]; simp)]
  | cons part parts ih =>
    obtain ⟨j0, o⟩ := part
    intro M J anc fp i l us hm hev h
    simp only [elemsA] at h
    split at h
    · rename_i hij
      rw [Nat.beq_eq] at hij
      subst hij
      split at h
      · rename_i v hv
        split at h
        · rename_i y u hg
          split at h
          · rename_i z r us' hz hrec
            cases h
            obtain ⟨J1, anc1, fp1, m1, j1, k1, yp, vs, hy, hval⟩ := give_ok hm (hev o v hv) hg
            obtain ⟨g1, g2, g3⟩ := co_Cn hz yp hy
            have hvl := Cn_length hy
            have hvl' := Cn_length g1
            have hcells : (ρ o).cells = vs.toArray := by rw [hval]; exact conc_cells' hvl (Cn_one yp hy)
            rw [updR_eq] at hrec
            obtain ⟨J2, anc2, fp2, css, m2, j2, k2, hl2, hcs2, c2, f2⟩ := ih (updM M u) J1 anc1 fp1 (i + 1) _ _ m1 (fun o v hv => keepsV k1 _ _ (hev o v hv)) hrec
            refine ⟨J2, anc2, fp2, vs ++ css, by rw [updM_append]; exact m2, fun b hb => j2 b (j1 b hb), fun x u hx => by rw [updM_append]; exact k2 x u (k1 x u hx), by simp [hl2], by simp [hcs2, hvl', Nat.add_mul]; omega, ?_, fun c hcl => ?_⟩
            · intro j hj
              cases j with
              | zero =>
                simp only [Nat.zero_mul, List.drop_zero, List.get_eq_getElem, List.getElem_cons_zero]
                rw [List.take_left' hvl']
                exact Cn_congr (fun b hb => ⟨j2 b hb, rfl⟩) (by simp) g1
              | succ j =>
                have := c2 j (by simpa using hj)
                have ej : (j + 1) * T.size = T.size + j * T.size := by rw [Nat.add_mul]; omega
                rw [ej, ← List.drop_drop, List.drop_left' hvl']
                exact this
            · have hfit : i * T.size + vs.length ≤ c.length := by
                rw [hcl, hvl', List.length_cons, ← Nat.add_one_mul]
                exact Nat.mul_le_mul_right _ (by omega)
              simp only [List.map_cons, Instr.fill, hcells]
              have h3 : ¬ ((vs.toArray.size ≠ T.size || decide (i * T.size + vs.toArray.size > c.toArray.size)) = true) := by
                simp only [List.size_toArray, Bool.or_eq_true, decide_eq_true_eq, ne_eq]
                omega
              rw [if_neg h3, fill_cells hfit c.toArray rfl vs.toArray rfl, f2 _ (by rw [over_length hfit, hcl, List.length_cons]; congr 1; omega)]
              congr 2
              have e1 : (over c (i * T.size) vs).take ((i + 1) * T.size) = c.take (i * T.size) ++ vs := by
                unfold over
                rw [List.take_left']
                simp; rw [Nat.min_eq_left (by omega), Nat.add_mul, hvl']; omega
              rw [e1, List.append_assoc]
          · cases h
        · cases h
      · cases h
    · cases h

theorem run_buildSlice {t d : TypeId} {m n : Nat} {E : Ty} (hu : P.underlying t = some (.slice d)) (hd : tyOk P m d E = true) {parts : Array (Nat × Value)} {cs : List Value} (hn : n * E.size ≤ 16777216)
    (hf : ∀ c : List Value, c.length = n * E.size → Instr.fill (fun i => some (i * E.size, E.size)) c.toArray parts.toList = some cs.toArray) :
    (Instr.buildSlice t n parts).run P w = .ok (.slice (some ⟨w.heap.size, 0, none⟩) n n) (laid w cs d) := by
  have h1 : ¬ n * E.size > 2 ^ 24 := by omega
  have key : ∀ zero : Array Value, (match Instr.fill (fun i => some (i * E.size, E.size)) (Array.map (fun x => zero[x % zero.size]!) (Array.range (n * E.size))) parts.toList with
      | some cells => do
        let r ← newRow d cells
        pure (Value.slice (some r) n n)
      | _ => stuck "buildSlice: a part of the wrong size" : Sem Value).run P w = .ok (.slice (some ⟨w.heap.size, 0, none⟩) n n) (laid w cs d) := by
    intro zero
    rw [show (Array.map (fun x => zero[x % zero.size]!) (Array.range (n * E.size))) = ((Array.map (fun x => zero[x % zero.size]!) (Array.range (n * E.size))).toList).toArray from (Array.toArray_toList).symm, hf _ (by simp)]
    simp only [Sem.run_bind, newRow, run_newObj, Result.andThen_ok, Sem.run_pure]
    rfl
  simp only [Instr.buildSlice, Sem.run_bind, underlying, run_program, Result.andThen_ok, hu, Sem.run_pure, run_sizeOf (tyOk_F hd), if_neg h1]
  split
  · simp only [Sem.run_bind, Sem.run_pure, Result.andThen_ok]
    exact key _
  · simp only [Sem.run_bind, run_zero (tyOk_F hd), Sem.run_pure, Result.andThen_ok]
    exact key _
end
end Go.Ev
end

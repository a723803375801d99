/- A part of the proof of the claim: Row. -/
import Derived.Test.YtnjjgbpannjfjaaDoorLaws
import Derived.Test.YtnjjgbpannjfjaaDoorOk
import Derived.Test.YtnjjgbpannjfjaaDoorRows
import Derived.ChangeSlices
import Derived.ChangeSame
import Derived.ChangeVars
import Derived.JoinedOf
import Derived.RowKit
import Derived.RowKit3
import Derived.RowKitTokens
import Derived.LaidLaws
import Derived.LaidHandle
import Derived.Stop.Joined
section
set_option linter.all false
set_option linter.unusedSimpArgs false
set_option linter.unusedVariables false
namespace Go.Proofs.YtnjjgbpannjfjaaDoor
open Go.ChangeShapes Go.WideShapes Go.RowKit Go Go.Ev Go.Proofs
set_option linter.unusedVariables false
set_option maxRecDepth 100000

theorem Tryd.own : ownKnob Tryd.prog.godebug = Option.none := by kernel_rfl
theorem Tryd.et : Tryd.prog.globalNamed "errors.errorType" = some 0 := by kernel_rfl
theorem Tryd.rt : (Tryd.prog.cutTypes.find? (·.1 == "internal/reflectlite.rtype")).map (·.2) = some 106 := by kernel_rfl
theorem Tryd.oneRow : ((List.range Tryd.prog.types.size).filter fun t => Tryd.prog.rowNamed t [101, 114, 114, 111, 114]) = [28] := by kernel_rfl
theorem Tryd.hh : typeHandle Tryd.prog 28 = .pointer (some ⟨3, 28, Option.none⟩) := by kernel_rfl
theorem Tryd.u3 : Tryd.prog.underlying 3 = some (.int .i64) := by kernel_rfl
theorem Tryd.u4 : Tryd.prog.underlying 4 = some .bool := by kernel_rfl
theorem Tryd.u22 : Tryd.prog.underlying 22 = some (.slice 2) := by kernel_rfl
theorem Tryd.u2 : Tryd.prog.underlying 2 = some (.int .i64) := by kernel_rfl
theorem Tryd.c2 : Tryd.prog.cellsOf 2 = 1 := by kernel_rfl

/-- What the condition gives: the variable's one cell. -/
theorem handle_of_laid {W : World} (h : handlesMet Tryd.prog [("errors.errorType", Rows.laid_errors_errorType)] W) : W.cell? ⟨0, 0, Option.none⟩ = some hdv := by
  obtain ⟨name, u, ty, e1, e2, e3, e4, e5⟩ := h _ (List.mem_singleton.2 rfl)
  have en : name = [101, 114, 114, 111, 114] := (Option.some.inj e1).symm
  subst en
  obtain rfl := Option.some.inj (Tryd.rt.symm.trans e2)
  have hm : ty ∈ (List.range Tryd.prog.types.size).filter fun t => Tryd.prog.rowNamed t [101, 114, 114, 111, 114] := List.mem_filter.2 ⟨List.mem_range.2 e3, e4⟩
  rw [Tryd.oneRow] at hm
  obtain rfl := List.mem_singleton.1 hm
  rw [Tryd.hh] at e5
  have := World.var?_cell Tryd.et e5 0
  simpa [hdv] using this

/-- A world that meets the condition. -/
noncomputable def laidWorld (os : Os) : World :=
  let w0 := World.holding Tryd.prog os ⟨#[], #[], []⟩
  { w0 with heap := w0.heap.modify 0 fun
      | .cells _ t frozen => .cells #[hdv] t frozen
      | o => o }
theorem laidWorld_met (os : Os) (args : Array Value) : laidMetH Tryd.prog [("errors.errorType", Rows.laid_errors_errorType)] ((laidWorld os).forCall (fun _ _ => 0) ⟨#[], args, []⟩).memory :=
  laidMetH_of_parts (laidMet_nil _ _) (by kernel_rfl)

/-- The rows that stand when the law begins. -/
def stood (W : World) : Nat → Prop := fun b => b < W.heap.size

theorem cell_at {W : World} {b o : Nat} {v : Value} (h : W.cell? ⟨b, o, Option.none⟩ = some v) : stood W b ∧ cellsAt W b o 1 = [v] := by
  unfold World.cell? at h
  unfold stood cellsAt
  cases hb : W.heap[b]? with
  | none => rw [hb] at h; cases h
  | some x =>
    refine ⟨(Array.getElem?_eq_some_iff.1 hb).1, ?_⟩
    rw [hb] at h
    cases x with
    | cells c t fr =>
      have h' : c[o]? = some v := h
      have h2 : c.toList[o]? = some v := by simpa using h'
      obtain ⟨hlt, he⟩ := List.getElem?_eq_some_iff.mp h2
      show (c.toList.drop o).take 1 = [v]
      rw [List.drop_eq_getElem_cons hlt, he]
      rfl
    | _ => cases h

theorem i64_of_wf {n : Int} (h : (Lit.int .i64 n).wf = true) : I64 n := by
  simpa [Lit.wf, I64, show IntKind.i64.min = -9223372036854775808 by rfl] using h
theorem wf_i64 {n : Int} (h : I64 n) : (Lit.int .i64 n).wf = true := by
  simpa [Lit.wf, I64, show IntKind.i64.min = -9223372036854775808 by rfl] using h

/-- A slice of numbers that the law is handed: what is read of it, what the walk is told, and that it reads so again. -/
theorem slice_arg {H : Type} {enc : TypeId × Value → H} {W : World} {t : TypeId} {v : Value} {d : DataW H} {p : List MemPlace} (h22 : Tryd.prog.underlying t = some (.slice 2))
    (hval : ∃ r b0, Value.okWide Tryd.prog W r b0 t v) (hd : DataW.Trod enc Tryd.prog W 0 (fun _ => true) true t v d p) :
    ∃ l : List Int, AllI l ∧ Go.Ev.ArgRel 52 W (stood W) (.v (.slice (.int .i64)) l) v ∧
      ∀ (W' : World) (sp : Nat → Bool), (∀ b, b < W.heap.size → W'.heap[b]? = W.heap[b]?) → (∀ q ∈ p, sp q.block = true) → DataW.Trod enc Tryd.prog W' 0 sp true t v d p := by
  obtain ⟨r, b0, hval⟩ := hval
  obtain ⟨a0, len, cap, rfl⟩ := okWide_slice h22 hval
  obtain ⟨fuel, hf⟩ := hd
  rcases open_ints h22 Tryd.u2 Tryd.c2 hf with ⟨hcs, hx⟩ | ⟨a, len', cap', zs, hcs, _, hl, hm, hz, hx, hcell, hwz⟩
  · simp [Value.cells] at hcs
    obtain ⟨rfl, rfl, rfl⟩ := hcs
    simp only [Prod.mk.injEq] at hx
    obtain ⟨rfl, rfl⟩ := hx
    exact ⟨[], AllI.nil, ⟨[.slice Option.none 0 0], ⟨rfl, Option.none, 0, rfl, Nat.le_refl 0, fun i hi => absurd hi (Nat.not_lt_zero i)⟩, rfl⟩, fun W' sp _ _ => shut_slice_nil h22⟩
  · simp [Value.cells] at hcs
    obtain ⟨rfl, rfl, rfl⟩ := hcs
    simp only [Prod.mk.injEq] at hx
    obtain ⟨rfl, rfl⟩ := hx
    simp only [if_true] at hz
    have hlen : (zs.take len).length = len := by rw [List.length_take]; omega
    refine ⟨zs.take len, fun x hx => i64_of_wf (hwz x (List.mem_of_mem_take hx)), ⟨[.slice (some a) len cap], ⟨rfl, some a, cap, by rw [hlen], by rw [hlen]; exact hl, fun i hi => ?_⟩, rfl⟩, fun W' sp hb hsp => ?_⟩
    · have hi' : i < len := by have : i < (zs.take len).length := hi; omega
      obtain ⟨b, off, spot⟩ := a
      have hspot : spot = Option.none := by simpa [Addr.add] using World.cell?_spot (hcell 0 (by omega))
      subst hspot
      have hc := hcell i (by omega)
      rw [add_plain] at hc
      obtain ⟨h1, h2⟩ := cell_at hc
      refine ⟨b, off, rfl, h1, ?_⟩
      show cellsAt W b (off + i * 1) 1 = [.int .i64 _] ∧ [] = []
      rw [Nat.mul_one, h2]
      refine ⟨?_, rfl⟩
      have : (zs.take len)[i]'hi = zs.getD i 0 := by
        rw [List.getElem_take, List.getD_eq_getElem?_getD, List.getElem?_eq_getElem (by omega)]; rfl
      show [Value.int .i64 (zs.getD i 0)] = [.int .i64 ((zs.take len)[i]'hi)]
      rw [this]
    · have hcell' : ∀ i, i < zs.length → W'.cell? (a.add i) = some (.int .i64 (zs.getD i 0)) := fun i hi => by
        rw [← hcell i hi]
        unfold World.cell?
        rw [hb]
        have := hcell i hi
        unfold World.cell? at this
        cases hx : W.heap[(a.add i).block]? with
        | none => rw [hx] at this; cases this
        | some x => exact (Array.getElem?_eq_some_iff.1 hx).1
      by_cases hz0 : zs.length = 0
      · have hc0 : cap = 0 := by omega
        have hl0 : len = 0 := by omega
        subst hc0; subst hl0
        have t0 := shut_ints (enc := enc) (w := W') (base := 0) (spare := sp) (held := true) (a := a) (len := 0) (cap := 0) (zs := zs) 0 h22 Tryd.u2 Tryd.c2 (Nat.zero_le _) (Nat.le_refl _) hm (by simp [hz0]) hcell' hwz
        exact ⟨2, by simpa [Value.cells] using t0⟩
      · have hspb : sp a.block = true := by
          have := hsp (.cell a.block a.off) (MemPlace.mem_row.2 ⟨0, by omega, by simp⟩)
          exact this
        have t0 := shut_ints (enc := enc) (w := W') (base := 0) (spare := sp) (held := true) (a := a) (len := len) (cap := cap) (zs := zs) 0 h22 Tryd.u2 Tryd.c2 (Nat.zero_le _) hl hm (by simp [hspb, hz]) hcell' hwz
        exact ⟨2, by simpa [Value.cells] using t0⟩

/-- Of what stood nothing turns. -/
theorem kept_of {W W' : World} (h1 : W'.os = W.os) (h2 : W'.output = W.output) (hb : ∀ b, b < W.heap.size → W'.heap[b]? = W.heap[b]?) (may : MemPlace → Prop) : W.keptBut W' may := by
  refine ⟨h1, h2, fun i hi => ?_⟩
  rw [hb i hi]
  cases W.heap[i]? with
  | none => rfl
  | some x =>
    cases x with
    | cells c t fr => exact ⟨rfl, rfl, rfl, fun _ _ => rfl⟩
    | map es clock => exact Or.inr ⟨rfl, rfl⟩
    | _ => rfl
end Go.Proofs.YtnjjgbpannjfjaaDoor
end

section
set_option linter.all false
set_option linter.unusedSimpArgs false
set_option linter.unusedVariables false
namespace Go.Proofs.YtnjjgbpannjfjaaDoor
open Go.ChangeShapes Go.WideShapes Go.RowKit Go Go.Ev Go.Proofs
set_option linter.unusedVariables false
set_option maxRecDepth 100000

theorem calls_of {P : Program} {f : FuncId} {fn : Func} {c : Code} (hf : P.funcs[f]? = some fn) (hname : (fn.name == "runtime.NumGoroutine") = false) (hb : fn.body = some c) {args : Array Value} {w : World} {Q : Value → World → Prop}
    (h : Enters P f args w Q) : Calls P f args w fun e w' => ∃ v, e = .returned v ∧ Q v w' := by
  rcases h with ⟨_, h⟩ | ⟨v, w', h, _⟩
  · exact h
  · rw [run_enter hf hname hb] at h; cases h

/-- One answer, that is true. -/
theorem post_true {eT : TypeId} {w : World} {J : Nat → Prop} {args : List Arg} {vs : List Value} {w' : World} {v : Value} {upd : List TV} (h : Go.Ev.Post eT w J args vs w' v [⟨.bool, true⟩] upd) : v = .bool true := by
  obtain ⟨J', rs, fss, _, _, _, hv, hr, _⟩ := h.out
  cases hr with
  | cons h1 h2 =>
    cases h2
    obtain ⟨_, _, cs, hc, rfl⟩ := h1
    obtain ⟨rfl, _⟩ := hc
    exact hv

theorem raw_run (n : Int) (l d : List Int) (hn : I64 n) (hl : AllI l) (hd : AllI d) :
    (sp_law09_LdlRaw.run [.v (.int .i64) n, .v (.slice (.int .i64)) l, .v (.slice (.int .i64)) d] fun a b => some (a, b)) = some ([⟨.bool, true⟩], []) := by
  have e : (sp_law09_LdlRaw.run [.v (.int .i64) n, .v (.slice (.int .i64)) l, .v (.slice (.int .i64)) d] fun a b => some (a, b)) = F_law09_LdlRaw n l d (fun r1 => some ([⟨.bool, r1⟩], [])) := by kernel_rfl
  rw [e, raw_true hn hl hd]

theorem law_lifted (os : Os) (started : os.Started) (H : Type) (enc : TypeId × Value → H) :
    ReturnsInHanded {} Tryd.checked os 3 .any (fun w args => (Rows.ldlRawSpec.pre enc Tryd.prog Tryd.f3 [] false w args ∧ laidMetH Tryd.prog [("errors.errorType", Rows.laid_errors_errorType)] w) ∧ sizedMet enc Tryd.prog Tryd.f3 (OpenSpec.ofChange Rows.ldlRawSpec) false w args)
      (Rows.ldlRawSpec.post enc Tryd.prog Tryd.f3 false true false false) := by
  refine returnsInHanded_of_change_and (C := Tryd.checked) (X := fun w _ => laidMetH Tryd.prog [("errors.errorType", Rows.laid_errors_errorType)] w) (fun _ _ _ hh h => h.of_heap hh) Tryd.own started (by kernel_rfl) Tryd.func3
    (ChangeSpec.witness_at (enc := enc) (C := Tryd.checked) (os := os) (X := fun w _ => laidMetH Tryd.prog [("errors.errorType", Rows.laid_errors_errorType)] w) false (laidWorld os) #[.int .i64 0, .slice Option.none 0 0, .slice Option.none 0 0] 8 rfl (by kernel_rfl) (by kernel_rfl) (by kernel_rfl) (by kernel_rfl) (by kernel_rfl) (laidWorld_met os _)) ?_
  intro W base args ds gs before hval0 hW _ _ hL _
  have hval : ∀ (j : Nat) t v, Tryd.f3.params[j]? = some t → args[j]? = some v → Value.okWide Tryd.prog W .any base t v := hval0
  have hW' := hW
  have hlt : ∀ p ∈ before, p.block < W.heap.size := hW.lt
  obtain ⟨p, q, hA0, hV0, rfl, hfz, hnd⟩ := hW
  have hA : DataW.TrodAll enc Tryd.prog W 0 (fun _ => true) true Tryd.f3.params.toList args.toList ds p := hA0
  have hV : DataW.TrodVars enc Tryd.prog W (fun _ => true) [] gs q := hV0
  rw [Tryd.params3] at hA hval
  obtain ⟨v0, v1, v2, d0, d1, d2, p0, p1, p2, rfl, rfl, rfl, h0, h1, h2⟩ := trodAll_three hA
  obtain ⟨rfl, rfl⟩ := trodVars_none hV
  obtain ⟨n, rfl, rfl, rfl, hwn⟩ := open_int Tryd.u3 (hval 0 3 v0 rfl rfl) h0
  obtain ⟨l, hl, al, rl⟩ := slice_arg Tryd.u22 ⟨_, _, hval 1 22 v1 rfl rfl⟩ h1
  obtain ⟨d, hd, ad, rd⟩ := slice_arg Tryd.u22 ⟨_, _, hval 2 22 v2 rfl rfl⟩ h2
  have hg : W.cell? ⟨0, 0, Option.none⟩ = some hdv := handle_of_laid hL.2
  have hH : Held tab.hd W (stood W) := by
    intro b o hb
    have hb' : (0, hdv) = (b, o) := Option.some.inj hb
    cases hb'
    exact ⟨(cell_at hg).1, hg⟩
  have a0 : Go.Ev.ArgRel 52 W (stood W) (.v (.int .i64) n) (.int .i64 n) := ⟨[.int .i64 n], ⟨rfl, rfl⟩, rfl⟩
  have hE := ok_law09_LdlRaw.2 _ _ _ (raw_run n l d (i64_of_wf hwn) hl hd) W (stood W) [.int .i64 n, v1, v2] hH (.cons a0 (.cons al (.cons ad .nil))) .nil (fun b hb => by cases hb) (fun b hb => hb)
  have hC := calls_of Tryd.func3 (by kernel_rfl) rfl hE
  refine hC.mono fun e W' ⟨v, he, hp⟩ => ?_
  have hv := post_true hp
  subst hv
  have hb : ∀ b, b < W.heap.size → W'.heap[b]? = W.heap[b]? := fun b hb => hp.block b hb (fun h => by cases h)
  refine ⟨_, he, [_, _, _], [], _, [], [] ++ (p1 ++ p2), [], hW', ?_, ?_, ?_, kept_of hp.os hp.output hb _, fun h => by cases h⟩
  · exact trodAll_mk1 (shut_bool Tryd.u4 true)
  · have hs : ∀ q ∈ p1 ++ p2, (fun b => decide (b < W.heap.size)) q.block = true := fun q hq => by
      simpa using hlt q (by simpa using hq)
    exact trodAll_mk3 (shut_int Tryd.u3 hwn) (rl W' _ hb fun q hq => hs q (List.mem_append_left _ hq)) (rd W' _ hb fun q hq => hs q (List.mem_append_right _ hq))
  · rfl

theorem raw_holds : Rows.LdlRawSaid :=
  OpenClaim.holds_of_wide 3 Tryd.f3 rfl rfl rfl rfl rfl rfl rfl ⟨rfl, rfl, rfl, rfl, rfl⟩ rfl rfl rfl rfl rfl (by kernel_rfl) Tryd.func3 (by kernel_rfl)
    (of_decide_eq_true (by kernel_rfl)) (by unfold Func.isWrapper; rw [if_neg (of_decide_eq_false (by kernel_rfl))]; exact ⟨rfl, rfl⟩)
    (fun os started H enc _ => law_lifted os started H enc)
#print axioms raw_holds
end Go.Proofs.YtnjjgbpannjfjaaDoor
end

/- A part of the proof of the claim: Ok. -/
import Derived.Test.YtnjjgbpannjfjaaDoorFn
import Derived.Test.YtnjjgbpannjfjaaDoorNum
import Derived.KernelRfl
section
set_option linter.all false
set_option linter.unusedSimpArgs false
set_option linter.unusedVariables false
namespace Go.Proofs
open Go Go.Ev
set_option linter.unusedVariables false
set_option maxRecDepth 100000
def gam : List (Nat × Ty) := [(2, (.int .i64)), (3, (.int .i64)), (4, .bool), (5, (.int .u8)), (9, .str), (22, (.slice (.int .i64))), (23, (.arr 36 (.int .i64))), (24, (.arr 6 (.int .i64))), (26, (.pair (.int .i64) (.pair (.arr 36 (.int .i64)) (.pair (.arr 6 (.int .i64)) .unit)))), (28, .err), (39, (.slice (.slice (.int .i64)))), (44, (.pair (.int .i64) (.pair (.int .i64) (.pair (.arr 36 (.int .i64)) .unit)))), (58, (.pair .bool .unit)), (96, (.int .u64)), (123, (.arr 3 (.int .u64))), (130, (.int .u64))]
def byt : List (Nat × Nat) := [(22, 8), (39, 24)]
def eqs : List Nat := [4, 44]
/-- A row of the program that stands as it was laid: the handle of the type 'error'. -/
def hdv : Value := .iface 106 (.agg #[.pointer (some ⟨3, 28, none⟩)])
noncomputable def tab : Tab := ⟨Tryd.prog, 52, gam, byt, eqs, some (0, hdv)⟩
theorem tabOk : tab.Ok := ⟨by kernel_rfl, by kernel_rfl, by kernel_rfl, by kernel_rfl, by kernel_rfl⟩
theorem ok_num : Fact tab 6 sp_num := by
  refine num_fact (tb := tab) Tryd.func6 (by kernel_rfl) rfl (fun w => (num_nil w).mono ?_) (fun w J n hH => ?_)
  · rintro e w' ⟨rfl, rfl⟩; exact ⟨rfl, Grow.alloc _ _⟩
  · have hg : w.cell? ⟨0, 0, none⟩ = some hdv := (hH 0 hdv rfl).2
    refine (num_some n w hg).mono ?_
    rintro e w' ⟨rfl, rfl⟩
    exact ⟨rfl, ((((Grow.alloc _ _).trans (Grow.alloc _ _)).trans (Grow.alloc _ _)).trans (Grow.alloc _ _)).trans (Grow.alloc _ _)⟩
theorem ok_Add64 : Fact tab 71 sp_Add64 := add64_ok Tryd.func71 (by kernel_rfl) (by kernel_rfl) (by kernel_rfl) (by kernel_rfl)
noncomputable def sp_ldl_bounded : Sp := Sp.of [(.v (.int .i64))] [.bool] (fun x κ => F_ldl_bounded x.1 (fun r1 => κ (r1, ()) ()))
theorem ok_ldl_bounded : Fact tab 35 sp_ldl_bounded :=
  tabOk.fact (deep := []) (kp := []) (tbl := []) .nil Tryd.func35 (by kernel_rfl) rfl rfl (rvs := [.tmp 2]) rfl
    (.seq .leaf (.seq (.join ⟨[], [(2, .a (.val .bool))], []⟩ .leaf) .leaf))
    (by kernel_rfl) (by kernel_rfl) (fun R x κ => by kernel_rfl)
noncomputable def sp_ldl_right : Sp := Sp.of [(.v (.int .i64)), (.v (.int .i64)), (.v (.int .i64))] [.bool] (fun x κ => F_ldl_right x.1 x.2.1 x.2.2.1 (fun r1 => κ (r1, ()) ()))
theorem ok_ldl_right : Fact tab 17 sp_ldl_right :=
  tabOk.fact (deep := []) (kp := []) (tbl := [(35, sp_ldl_bounded)]) (.cons ok_ldl_bounded .nil) Tryd.func17 (by kernel_rfl) rfl rfl (rvs := [.tmp 6]) rfl
    (.seq .leaf (.seq (.block (.seq .leaf (.cond (.seq .leaf .leaf) (.seq .leaf (.cond (.seq .leaf .leaf) .leaf))))) (.seq .leaf .leaf)))
    (by kernel_rfl) (by kernel_rfl) (fun R x κ => by kernel_rfl)
noncomputable def sp_ldl_Check : Sp := Sp.of [(.v (.pair (.int .i64) (.pair (.arr 36 (.int .i64)) (.pair (.arr 6 (.int .i64)) .unit))))] [.err] (fun x κ => F_ldl_Check x.1 (fun r1 => κ (r1, ()) ()))
theorem ok_ldl_Check : Fact tab 5 sp_ldl_Check :=
  tabOk.fact (deep := []) (kp := []) (tbl := [(17, sp_ldl_right)]) (.cons ok_ldl_right .nil) Tryd.func5 (by kernel_rfl) rfl rfl (rvs := [.tmp 2]) rfl
    (.seq .leaf (.seq (.seq (.join ⟨[], [(1, .a (.ref 8 [])), (14, .a (.val .bool))], [⟨8, false, false, (.pair (.int .i64) (.pair (.arr 36 (.int .i64)) (.pair (.arr 6 (.int .i64)) .unit)))⟩]⟩ .leaf) (.cond (.seq .leaf .leaf) .leaf)) (.seq (.seq .leaf (.block (.loop ⟨[], [(1, .a (.ref 8 [])), (17, .a (.val (.arr 36 (.int .i64)))), (18, .a (.val (.int .i64)))], [⟨8, false, false, (.pair (.int .i64) (.pair (.arr 36 (.int .i64)) (.pair (.arr 6 (.int .i64)) .unit)))⟩]⟩ (.seq .leaf (.seq (.cond .leaf .leaf) (.seq (.block (.seq .leaf (.seq (.join ⟨[], [(1, .a (.ref 8 [])), (17, .a (.val (.arr 36 (.int .i64)))), (18, .a (.val (.int .i64))), (54, .a (.val .bool))], [⟨8, false, false, (.pair (.int .i64) (.pair (.arr 36 (.int .i64)) (.pair (.arr 6 (.int .i64)) .unit)))⟩]⟩ .leaf) (.cond (.seq .leaf .leaf) .leaf)))) .leaf)))))) (.seq (.seq .leaf (.block (.loop ⟨[], [(1, .a (.ref 8 [])), (58, .a (.val (.arr 6 (.int .i64)))), (59, .a (.val (.int .i64)))], [⟨8, false, false, (.pair (.int .i64) (.pair (.arr 36 (.int .i64)) (.pair (.arr 6 (.int .i64)) .unit)))⟩]⟩ (.seq .leaf (.seq (.cond .leaf .leaf) (.seq (.block (.seq .leaf (.seq (.join ⟨[], [(1, .a (.ref 8 [])), (58, .a (.val (.arr 6 (.int .i64)))), (59, .a (.val (.int .i64))), (84, .a (.val .bool))], [⟨8, false, false, (.pair (.int .i64) (.pair (.arr 36 (.int .i64)) (.pair (.arr 6 (.int .i64)) .unit)))⟩]⟩ .leaf) (.cond (.seq .leaf .leaf) .leaf)))) .leaf)))))) (.seq .leaf .leaf)))))
    (by kernel_rfl) (by kernel_rfl) (fun R x κ => by kernel_rfl)
noncomputable def sp_qnum_pointed : Sp := Sp.of [(.v (.int .i64))] [.bool] (fun x κ => F_qnum_pointed x.1 (fun r1 => κ (r1, ()) ()))
theorem ok_qnum_pointed : Fact tab 56 sp_qnum_pointed :=
  tabOk.fact (deep := []) (kp := []) (tbl := []) .nil Tryd.func56 (by kernel_rfl) rfl rfl (rvs := [.tmp 2]) rfl
    (.seq .leaf (.seq (.join ⟨[], [(2, .a (.val .bool))], []⟩ .leaf) .leaf))
    (by kernel_rfl) (by kernel_rfl) (fun R x κ => by kernel_rfl)
noncomputable def sp_qnum_size : Sp := Sp.of [(.v (.int .i64))] [(.int .u64)] (fun x κ => F_qnum_size x.1 (fun r1 => κ (r1, ()) ()))
theorem ok_qnum_size : Fact tab 58 sp_qnum_size :=
  tabOk.fact (deep := []) (kp := []) (tbl := []) .nil Tryd.func58 (by kernel_rfl) rfl rfl (rvs := [.tmp 2]) rfl
    (.seq .leaf (.seq (.seq .leaf (.cond (.seq .leaf .leaf) .leaf)) (.seq .leaf .leaf)))
    (by kernel_rfl) (by kernel_rfl) (fun R x κ => by kernel_rfl)
noncomputable def sp_bits_Mul64 : Sp := Sp.of [(.v (.int .u64)), (.v (.int .u64))] [(.int .u64), (.int .u64)] (fun x κ => F_bits_Mul64 x.1 x.2.1 (fun r1 r2 => κ (r1, r2, ()) ()))
theorem ok_bits_Mul64 : Fact tab 73 sp_bits_Mul64 :=
  tabOk.fact (deep := []) (kp := []) (tbl := []) .nil Tryd.func73 (by kernel_rfl) rfl rfl (rvs := [.tmp 4, .tmp 5]) rfl
    (.seq .leaf (.seq .leaf (.seq .leaf (.seq .leaf (.seq .leaf (.seq .leaf (.seq .leaf (.seq .leaf (.seq .leaf (.seq .leaf (.seq .leaf (.seq .leaf .leaf))))))))))))
    (by kernel_rfl) (by kernel_rfl) (fun R x κ => by kernel_rfl)
noncomputable def sp_qnum_sum_neg : Sp := Sp.of [(.v (.arr 3 (.int .u64)))] [(.arr 3 (.int .u64))] (fun x κ => F_qnum_sum_neg x.1 (fun r1 => κ (r1, ()) ()))
theorem ok_qnum_sum_neg : Fact tab 59 sp_qnum_sum_neg :=
  tabOk.fact (deep := []) (kp := []) (tbl := [(71, sp_Add64)]) (.cons ok_Add64 .nil) Tryd.func59 (by kernel_rfl) rfl rfl (rvs := [.cell 2 123]) rfl
    (.seq .leaf (.seq .leaf (.seq (.seq .leaf (.block (.loop ⟨[], [(1, .a (.ref 8 [])), (2, .a (.ref 16 [])), (3, .a (.val (.int .u64))), (5, .a (.val (.int .i64)))], [⟨8, false, false, (.arr 3 (.int .u64))⟩, ⟨16, false, false, (.arr 3 (.int .u64))⟩]⟩ (.seq .leaf (.seq (.cond .leaf .leaf) (.seq (.block (.seq .leaf .leaf)) .leaf)))))) (.seq .leaf .leaf))))
    (by kernel_rfl) (by kernel_rfl) (fun R x κ => by kernel_rfl)
noncomputable def sp_qnum_product : Sp := Sp.of [(.v (.int .i64)), (.v (.int .i64))] [(.arr 3 (.int .u64))] (fun x κ => F_qnum_product x.1 x.2.1 (fun r1 => κ (r1, ()) ()))
theorem ok_qnum_product : Fact tab 63 sp_qnum_product :=
  tabOk.fact (deep := []) (kp := []) (tbl := [(58, sp_qnum_size), (59, sp_qnum_sum_neg), (73, sp_bits_Mul64)]) (.cons ok_qnum_size (.cons ok_qnum_sum_neg (.cons ok_bits_Mul64 .nil))) Tryd.func63 (by kernel_rfl) rfl rfl (rvs := [.cell 4 123]) rfl
    (.seq .leaf (.seq .leaf (.seq .leaf (.seq (.seq .leaf (.cond (.seq .leaf .leaf) .leaf)) (.seq .leaf .leaf)))))
    (by kernel_rfl) (by kernel_rfl) (fun R x κ => by kernel_rfl)
noncomputable def sp_qnum_sum_plus : Sp := Sp.of [(.v (.arr 3 (.int .u64))), (.v (.arr 3 (.int .u64)))] [(.arr 3 (.int .u64))] (fun x κ => F_qnum_sum_plus x.1 x.2.1 (fun r1 => κ (r1, ()) ()))
theorem ok_qnum_sum_plus : Fact tab 62 sp_qnum_sum_plus :=
  tabOk.fact (deep := []) (kp := []) (tbl := [(71, sp_Add64)]) (.cons ok_Add64 .nil) Tryd.func62 (by kernel_rfl) rfl rfl (rvs := [.cell 4 123]) rfl
    (.seq .leaf (.seq .leaf (.seq (.seq .leaf (.block (.loop ⟨[], [(2, .a (.ref 16 [])), (3, .a (.ref 24 [])), (4, .a (.ref 32 [])), (5, .a (.val (.int .u64))), (7, .a (.val (.int .i64)))], [⟨16, false, false, (.arr 3 (.int .u64))⟩, ⟨24, false, false, (.arr 3 (.int .u64))⟩, ⟨32, false, false, (.arr 3 (.int .u64))⟩]⟩ (.seq .leaf (.seq (.cond .leaf .leaf) (.seq (.block (.seq .leaf .leaf)) .leaf)))))) (.seq .leaf .leaf))))
    (by kernel_rfl) (by kernel_rfl) (fun R x κ => by kernel_rfl)
noncomputable def sp_qnum_sum_below : Sp := Sp.of [(.v (.arr 3 (.int .u64)))] [.bool] (fun x κ => F_qnum_sum_below x.1 (fun r1 => κ (r1, ()) ()))
theorem ok_qnum_sum_below : Fact tab 72 sp_qnum_sum_below :=
  tabOk.fact (deep := []) (kp := []) (tbl := []) .nil Tryd.func72 (by kernel_rfl) rfl rfl (rvs := [.tmp 2]) rfl
    (.seq .leaf (.seq .leaf .leaf))
    (by kernel_rfl) (by kernel_rfl) (fun R x κ => by kernel_rfl)
noncomputable def sp_qnum_sum_half : Sp := Sp.of [(.v (.arr 3 (.int .u64))), (.v (.int .i64))] [(.arr 3 (.int .u64))] (fun x κ => F_qnum_sum_half x.1 x.2.1 (fun r1 => κ (r1, ()) ()))
theorem ok_qnum_sum_half : Fact tab 64 sp_qnum_sum_half :=
  tabOk.fact (deep := []) (kp := []) (tbl := [(62, sp_qnum_sum_plus), (72, sp_qnum_sum_below)]) (.cons ok_qnum_sum_plus (.cons ok_qnum_sum_below .nil)) Tryd.func64 (by kernel_rfl) rfl rfl (rvs := [.cell 4 123]) rfl
    (.seq .leaf (.seq (.seq .leaf (.cond (.seq .leaf .leaf) .leaf)) (.seq .leaf (.seq (.seq .leaf (.block (.loop ⟨[], [(1, .a (.val (.int .i64))), (2, .a (.ref 16 [])), (4, .a (.ref 32 [])), (5, .a (.val (.int .u64))), (18, .a (.val (.int .i64)))], [⟨16, false, false, (.arr 3 (.int .u64))⟩, ⟨32, false, false, (.arr 3 (.int .u64))⟩]⟩ (.seq .leaf (.seq (.cond .leaf .leaf) (.seq (.block (.seq .leaf (.seq .leaf (.seq (.join ⟨[], [(1, .a (.val (.int .i64))), (2, .a (.ref 16 [])), (4, .a (.ref 32 [])), (5, .a (.val (.int .u64))), (6, .a (.val (.int .i64))), (7, .a (.val (.int .u64))), (18, .a (.val (.int .i64)))], [⟨16, false, false, (.arr 3 (.int .u64))⟩, ⟨32, false, false, (.arr 3 (.int .u64))⟩]⟩ (.seq .leaf (.cond .leaf (.seq .leaf (.cond .leaf .leaf))))) .leaf)))) .leaf)))))) (.seq .leaf (.seq (.join ⟨[], [(2, .a (.ref 16 [])), (4, .a (.ref 32 []))], [⟨16, false, false, (.arr 3 (.int .u64))⟩, ⟨32, false, false, (.arr 3 (.int .u64))⟩]⟩ (.seq (.join ⟨[], [(2, .a (.ref 16 [])), (4, .a (.ref 32 [])), (62, .a (.val .bool))], [⟨16, false, false, (.arr 3 (.int .u64))⟩, ⟨32, false, false, (.arr 3 (.int .u64))⟩]⟩ .leaf) (.cond .leaf .leaf))) (.seq .leaf .leaf)))))))
    (by kernel_rfl) (by kernel_rfl) (fun R x κ => by kernel_rfl)
noncomputable def sp_qnum_of : Sp := Sp.of [(.v (.int .i64))] [(.arr 3 (.int .u64))] (fun x κ => F_qnum_of x.1 (fun r1 => κ (r1, ()) ()))
theorem ok_qnum_of : Fact tab 61 sp_qnum_of :=
  tabOk.fact (deep := []) (kp := []) (tbl := []) .nil Tryd.func61 (by kernel_rfl) rfl rfl (rvs := [.cell 2 123]) rfl
    (.seq .leaf (.seq .leaf (.seq .leaf .leaf)))
    (by kernel_rfl) (by kernel_rfl) (fun R x κ => by kernel_rfl)
noncomputable def sp_qnum_sum_bounded : Sp := Sp.of [(.v (.arr 3 (.int .u64)))] [(.int .i64), .bool] (fun x κ => F_qnum_sum_bounded x.1 (fun r1 r2 => κ (r1, r2, ()) ()))
theorem ok_qnum_sum_bounded : Fact tab 60 sp_qnum_sum_bounded :=
  tabOk.fact (deep := []) (kp := []) (tbl := [(61, sp_qnum_of), (62, sp_qnum_sum_plus), (72, sp_qnum_sum_below)]) (.cons ok_qnum_of (.cons ok_qnum_sum_plus (.cons ok_qnum_sum_below .nil))) Tryd.func60 (by kernel_rfl) rfl rfl (rvs := [.tmp 2, .tmp 3]) rfl
    (.seq .leaf (.seq .leaf (.seq .leaf (.seq (.block (.seq .leaf (.cond (.seq .leaf .leaf) (.seq .leaf (.cond (.seq .leaf .leaf) .leaf))))) (.seq .leaf .leaf)))))
    (by kernel_rfl) (by kernel_rfl) (fun R x κ => by kernel_rfl)
noncomputable def sp_qnum_Dot : Sp := Sp.of [(.v (.slice (.int .i64))), (.v (.slice (.int .i64))), (.v (.int .i64))] [(.int .i64), .bool, .err] (fun x κ => F_qnum_Dot x.1 x.2.1 x.2.2.1 (fun r1 r2 r3 => κ (r1, r2, r3, ()) ()))
theorem ok_qnum_Dot : Fact tab 42 sp_qnum_Dot :=
  tabOk.fact (deep := []) (kp := []) (tbl := [(56, sp_qnum_pointed), (60, sp_qnum_sum_bounded), (62, sp_qnum_sum_plus), (63, sp_qnum_product), (64, sp_qnum_sum_half)]) (.cons ok_qnum_pointed (.cons ok_qnum_sum_bounded (.cons ok_qnum_sum_plus (.cons ok_qnum_product (.cons ok_qnum_sum_half .nil))))) Tryd.func42 (by kernel_rfl) rfl rfl (rvs := [.tmp 6, .tmp 7, .tmp 8]) rfl
    (.seq .leaf (.seq (.seq (.join ⟨[], [(0, .a (.val (.slice (.int .i64)))), (1, .a (.val (.slice (.int .i64)))), (2, .a (.val (.int .i64))), (28, .a (.val .bool))], []⟩ .leaf) (.cond (.seq .leaf .leaf) .leaf)) (.seq .leaf (.seq (.seq .leaf (.block (.loop ⟨[], [(1, .a (.val (.slice (.int .i64)))), (2, .a (.val (.int .i64))), (9, .a (.ref 72 [])), (30, .a (.val (.slice (.int .i64)))), (31, .a (.val (.int .i64))), (32, .a (.val (.int .i64)))], [⟨72, false, false, (.arr 3 (.int .u64))⟩]⟩ (.seq .leaf (.seq (.cond .leaf .leaf) (.seq (.block (.seq .leaf .leaf)) .leaf)))))) (.seq .leaf (.seq .leaf .leaf))))))
    (by kernel_rfl) (by kernel_rfl) (fun R x κ => by kernel_rfl)
noncomputable def sp_ldl_tally_dot : Sp := Sp.of [(.p (.pair .bool .unit)), (.v (.slice (.int .i64))), (.v (.slice (.int .i64))), (.v (.int .i64))] [(.int .i64)] (fun x κ => F_ldl_tally_dot x.1 x.2.1 x.2.2.1 x.2.2.2.1 (fun r1 u1 => κ (r1, ()) (u1, ())))
theorem ok_ldl_tally_dot : Fact tab 23 sp_ldl_tally_dot :=
  tabOk.fact (deep := []) (kp := [0]) (tbl := [(42, sp_qnum_Dot)]) (.cons ok_qnum_Dot .nil) Tryd.func23 (by kernel_rfl) rfl rfl (rvs := [.tmp 8]) rfl
    (.seq .leaf (.seq .leaf (.seq (.join ⟨[], [(0, .a (.ref 0 [])), (9, .a (.val (.int .i64)))], [⟨0, false, true, (.pair .bool .unit)⟩]⟩ .leaf) (.seq .leaf .leaf))))
    (by kernel_rfl) (by kernel_rfl) (fun R x κ => by kernel_rfl)
noncomputable def sp_qnum_Sub : Sp := Sp.of [(.v (.int .i64)), (.v (.int .i64))] [(.int .i64), .bool] (fun x κ => F_qnum_Sub x.1 x.2.1 (fun r1 r2 => κ (r1, r2, ()) ()))
theorem ok_qnum_Sub : Fact tab 41 sp_qnum_Sub :=
  tabOk.fact (deep := []) (kp := []) (tbl := [(59, sp_qnum_sum_neg), (60, sp_qnum_sum_bounded), (61, sp_qnum_of), (62, sp_qnum_sum_plus)]) (.cons ok_qnum_sum_neg (.cons ok_qnum_sum_bounded (.cons ok_qnum_of (.cons ok_qnum_sum_plus .nil)))) Tryd.func41 (by kernel_rfl) rfl rfl (rvs := [.tmp 4, .tmp 5]) rfl
    (.seq .leaf (.seq .leaf .leaf))
    (by kernel_rfl) (by kernel_rfl) (fun R x κ => by kernel_rfl)
noncomputable def sp_ldl_tally_less : Sp := Sp.of [(.p (.pair .bool .unit)), (.v (.int .i64)), (.v (.int .i64))] [(.int .i64)] (fun x κ => F_ldl_tally_less x.1 x.2.1 x.2.2.1 (fun r1 u1 => κ (r1, ()) (u1, ())))
theorem ok_ldl_tally_less : Fact tab 22 sp_ldl_tally_less :=
  tabOk.fact (deep := []) (kp := [0]) (tbl := [(41, sp_qnum_Sub)]) (.cons ok_qnum_Sub .nil) Tryd.func22 (by kernel_rfl) rfl rfl (rvs := [.tmp 6]) rfl
    (.seq .leaf (.seq .leaf (.seq (.join ⟨[], [(0, .a (.ref 0 [])), (7, .a (.val (.int .i64)))], [⟨0, false, true, (.pair .bool .unit)⟩]⟩ .leaf) (.seq .leaf .leaf))))
    (by kernel_rfl) (by kernel_rfl) (fun R x κ => by kernel_rfl)
noncomputable def sp_ldl_tally_down : Sp := Sp.of [(.p (.pair .bool .unit)), (.pin (.pair (.int .i64) (.pair (.arr 36 (.int .i64)) (.pair (.arr 6 (.int .i64)) .unit)))), (.v (.slice (.int .i64)))] [(.own (.int .i64))] (fun x κ => F_ldl_tally_down x.1 x.2.1 x.2.2.1 (fun r1 u1 => κ (r1, ()) (u1, ())))
theorem ok_ldl_tally_down : Fact tab 19 sp_ldl_tally_down :=
  tabOk.fact (deep := []) (kp := [0]) (tbl := [(22, sp_ldl_tally_less), (23, sp_ldl_tally_dot)]) (.cons ok_ldl_tally_less (.cons ok_ldl_tally_dot .nil)) Tryd.func19 (by kernel_rfl) rfl rfl (rvs := [.tmp 6]) rfl
    (.seq .leaf (.seq .leaf (.seq (.seq .leaf (.block (.loop ⟨[], [(0, .a (.ref 0 [])), (1, .a (.pin (.pair (.int .i64) (.pair (.arr 36 (.int .i64)) (.pair (.arr 6 (.int .i64)) .unit))))), (2, .a (.val (.slice (.int .i64)))), (7, .a (.hdr 56 [])), (17, .a (.val (.int .i64))), (18, .a (.val (.int .i64)))], [⟨0, false, true, (.pair .bool .unit)⟩, ⟨56, true, false, (.own (.int .i64))⟩]⟩ (.seq .leaf (.seq (.cond .leaf .leaf) (.seq (.block (.seq .leaf .leaf)) .leaf)))))) (.seq .leaf .leaf))))
    (by kernel_rfl) (by kernel_rfl) (fun R x κ => by kernel_rfl)
noncomputable def sp_bits_Len64 : Sp := Sp.of [(.v (.int .u64))] [(.int .i64)] (fun x κ => F_bits_Len64 x.1 (fun r1 => κ (r1, ()) ()))
theorem ok_bits_Len64 : Fact tab 43 sp_bits_Len64 :=
  tabOk.fact (deep := []) (kp := []) (tbl := []) .nil Tryd.func43 (by kernel_rfl) rfl rfl (rvs := [.tmp 2]) rfl
    (.seq .leaf (.seq (.join ⟨[], [(0, .a (.val (.int .u64))), (2, .a (.val (.int .i64)))], []⟩ (.seq .leaf (.cond (.seq .leaf .leaf) .leaf))) (.seq (.join ⟨[], [(0, .a (.val (.int .u64))), (2, .a (.val (.int .i64)))], []⟩ (.seq .leaf (.cond (.seq .leaf .leaf) .leaf))) (.seq (.join ⟨[], [(0, .a (.val (.int .u64))), (2, .a (.val (.int .i64)))], []⟩ (.seq .leaf (.cond (.seq .leaf .leaf) .leaf))) (.seq .leaf .leaf)))))
    (by kernel_rfl) (by kernel_rfl) (fun R x κ => by kernel_rfl)
noncomputable def sp_bits_LeadingZeros64 : Sp := Sp.of [(.v (.int .u64))] [(.int .i64)] (fun x κ => F_bits_LeadingZeros64 x.1 (fun r1 => κ (r1, ()) ()))
theorem ok_bits_LeadingZeros64 : Fact tab 75 sp_bits_LeadingZeros64 :=
  tabOk.fact (deep := []) (kp := []) (tbl := [(43, sp_bits_Len64)]) (.cons ok_bits_Len64 .nil) Tryd.func75 (by kernel_rfl) rfl rfl (rvs := [.tmp 2]) rfl
    (.seq .leaf (.seq .leaf .leaf))
    (by kernel_rfl) (by kernel_rfl) (fun R x κ => by kernel_rfl)
noncomputable def sp_bits_Div64 : Sp := Sp.of [(.v (.int .u64)), (.v (.int .u64)), (.v (.int .u64))] [(.int .u64), (.int .u64)] (fun x κ => F_bits_Div64 x.1 x.2.1 x.2.2.1 (fun r1 r2 => κ (r1, r2, ()) ()))
theorem ok_bits_Div64 : Fact tab 70 sp_bits_Div64 :=
  tabOk.fact (deep := []) (kp := []) (tbl := [(75, sp_bits_LeadingZeros64)]) (.cons ok_bits_LeadingZeros64 .nil) Tryd.func70 (by kernel_rfl) rfl rfl (rvs := [.tmp 6, .tmp 7]) rfl
    (.seq .leaf (.seq (.seq .leaf (.cond .leaf .leaf)) (.seq (.seq .leaf (.cond .leaf .leaf)) (.seq (.seq .leaf (.cond (.seq .leaf .leaf) .leaf)) (.seq .leaf (.seq .leaf (.seq .leaf (.seq .leaf (.seq .leaf (.seq .leaf (.seq .leaf (.seq .leaf (.seq .leaf (.seq .leaf (.seq (.join ⟨[], [(2, .a (.val (.int .u64))), (8, .a (.val (.int .u64))), (9, .a (.val (.int .u64))), (10, .a (.val (.int .u64))), (11, .a (.val (.int .u64))), (13, .a (.val (.int .u64))), (14, .a (.val (.int .u64))), (15, .a (.val (.int .u64)))], []⟩ (.block (.loop ⟨[], [(2, .a (.val (.int .u64))), (8, .a (.val (.int .u64))), (9, .a (.val (.int .u64))), (10, .a (.val (.int .u64))), (11, .a (.val (.int .u64))), (13, .a (.val (.int .u64))), (14, .a (.val (.int .u64))), (15, .a (.val (.int .u64))), (16, .a (.val (.int .u64)))], []⟩ (.seq (.seq (.join ⟨[], [(2, .a (.val (.int .u64))), (8, .a (.val (.int .u64))), (9, .a (.val (.int .u64))), (10, .a (.val (.int .u64))), (11, .a (.val (.int .u64))), (13, .a (.val (.int .u64))), (14, .a (.val (.int .u64))), (15, .a (.val (.int .u64))), (16, .a (.val (.int .u64))), (78, .a (.val .bool))], []⟩ .leaf) (.cond .leaf .leaf)) (.block (.seq .leaf (.seq .leaf (.seq .leaf (.cond .leaf .leaf))))))))) (.seq .leaf (.seq .leaf (.seq .leaf (.seq (.join ⟨[], [(2, .a (.val (.int .u64))), (8, .a (.val (.int .u64))), (14, .a (.val (.int .u64))), (15, .a (.val (.int .u64))), (17, .a (.val (.int .u64))), (18, .a (.val (.int .u64)))], []⟩ (.block (.loop ⟨[], [(2, .a (.val (.int .u64))), (8, .a (.val (.int .u64))), (9, .a (.val (.int .u64))), (10, .a (.val (.int .u64))), (14, .a (.val (.int .u64))), (15, .a (.val (.int .u64))), (16, .a (.val (.int .u64))), (17, .a (.val (.int .u64))), (18, .a (.val (.int .u64)))], []⟩ (.seq (.seq (.join ⟨[], [(2, .a (.val (.int .u64))), (8, .a (.val (.int .u64))), (9, .a (.val (.int .u64))), (10, .a (.val (.int .u64))), (14, .a (.val (.int .u64))), (15, .a (.val (.int .u64))), (16, .a (.val (.int .u64))), (17, .a (.val (.int .u64))), (18, .a (.val (.int .u64))), (113, .a (.val .bool))], []⟩ .leaf) (.cond .leaf .leaf)) (.block (.seq .leaf (.seq .leaf (.seq .leaf (.cond .leaf .leaf))))))))) (.seq .leaf .leaf))))))))))))))))))))
    (by kernel_rfl) (by kernel_rfl) (fun R x κ => by kernel_rfl)
noncomputable def sp_qnum_quotient : Sp := Sp.of [(.v (.int .u64)), (.v (.int .u64)), (.v (.int .i64))] [(.int .u64), .bool, (.int .i64)] (fun x κ => F_qnum_quotient x.1 x.2.1 x.2.2.1 (fun r1 r2 r3 => κ (r1, r2, r3, ()) ()))
theorem ok_qnum_quotient : Fact tab 57 sp_qnum_quotient :=
  tabOk.fact (deep := []) (kp := []) (tbl := [(70, sp_bits_Div64)]) (.cons ok_bits_Div64 .nil) Tryd.func57 (by kernel_rfl) rfl rfl (rvs := [.tmp 6, .tmp 7, .tmp 8]) rfl
    (.seq .leaf (.seq .leaf (.seq (.join ⟨[], [(1, .a (.val (.int .u64))), (9, .a (.val (.int .u64))), (10, .a (.val (.int .u64)))], []⟩ (.seq .leaf (.cond .leaf .leaf))) (.seq .leaf (.seq .leaf (.seq (.block (.seq .leaf (.cond (.seq .leaf .leaf) (.seq .leaf (.cond (.seq .leaf .leaf) .leaf))))) (.seq .leaf .leaf)))))))
    (by kernel_rfl) (by kernel_rfl) (fun R x κ => by kernel_rfl)
noncomputable def sp_qnum_Div : Sp := Sp.of [(.v (.int .i64)), (.v (.int .i64)), (.v (.int .i64))] [(.int .i64), .bool, .err] (fun x κ => F_qnum_Div x.1 x.2.1 x.2.2.1 (fun r1 r2 r3 => κ (r1, r2, r3, ()) ()))
theorem ok_qnum_Div : Fact tab 40 sp_qnum_Div :=
  tabOk.fact (deep := []) (kp := []) (tbl := [(56, sp_qnum_pointed), (57, sp_qnum_quotient), (58, sp_qnum_size), (59, sp_qnum_sum_neg), (60, sp_qnum_sum_bounded)]) (.cons ok_qnum_pointed (.cons ok_qnum_quotient (.cons ok_qnum_size (.cons ok_qnum_sum_neg (.cons ok_qnum_sum_bounded .nil))))) Tryd.func40 (by kernel_rfl) rfl rfl (rvs := [.tmp 6, .tmp 7, .tmp 8]) rfl
    (.seq .leaf (.seq (.block (.seq .leaf (.cond (.seq .leaf .leaf) (.seq .leaf (.cond (.seq .leaf .leaf) .leaf))))) (.seq .leaf (.seq (.join ⟨[], [(0, .a (.val (.int .i64))), (1, .a (.val (.int .i64))), (9, .a (.val (.int .u64))), (10, .a (.val .bool))], []⟩ (.seq (.join ⟨[], [(0, .a (.val (.int .i64))), (1, .a (.val (.int .i64))), (9, .a (.val (.int .u64))), (10, .a (.val .bool)), (44, .a (.val .bool))], []⟩ .leaf) (.cond (.seq .leaf .leaf) .leaf))) (.seq .leaf (.seq (.join ⟨[], [(0, .a (.val (.int .i64))), (1, .a (.val (.int .i64))), (12, .a (.ref 96 []))], [⟨96, false, false, (.arr 3 (.int .u64))⟩]⟩ (.seq .leaf (.cond .leaf .leaf))) (.seq (.join ⟨[], [(12, .a (.ref 96 []))], [⟨96, false, false, (.arr 3 (.int .u64))⟩]⟩ (.seq .leaf (.cond .leaf .leaf))) (.seq .leaf (.seq .leaf .leaf)))))))))
    (by kernel_rfl) (by kernel_rfl) (fun R x κ => by kernel_rfl)
noncomputable def sp_ldl_tally_by : Sp := Sp.of [(.p (.pair .bool .unit)), (.v (.int .i64)), (.v (.int .i64)), (.v (.int .i64))] [(.int .i64)] (fun x κ => F_ldl_tally_by x.1 x.2.1 x.2.2.1 x.2.2.2.1 (fun r1 u1 => κ (r1, ()) (u1, ())))
theorem ok_ldl_tally_by : Fact tab 20 sp_ldl_tally_by :=
  tabOk.fact (deep := []) (kp := [0]) (tbl := [(40, sp_qnum_Div)]) (.cons ok_qnum_Div .nil) Tryd.func20 (by kernel_rfl) rfl rfl (rvs := [.tmp 8]) rfl
    (.seq .leaf (.seq .leaf (.seq (.join ⟨[], [(0, .a (.ref 0 [])), (9, .a (.val (.int .i64)))], [⟨0, false, true, (.pair .bool .unit)⟩]⟩ .leaf) (.seq .leaf .leaf))))
    (by kernel_rfl) (by kernel_rfl) (fun R x κ => by kernel_rfl)
noncomputable def sp_ldl_Factors_at : Sp := Sp.of [(.pin (.pair (.int .i64) (.pair (.arr 36 (.int .i64)) (.pair (.arr 6 (.int .i64)) .unit)))), (.v (.int .i64)), (.v (.int .i64))] [(.int .i64)] (fun x κ => F_ldl_Factors_at x.1 x.2.1 x.2.2.1 (fun r1 => κ (r1, ()) ()))
theorem ok_ldl_Factors_at : Fact tab 21 sp_ldl_Factors_at :=
  tabOk.fact (deep := []) (kp := []) (tbl := []) .nil Tryd.func21 (by kernel_rfl) rfl rfl (rvs := [.tmp 6]) rfl
    (.seq .leaf (.seq .leaf .leaf))
    (by kernel_rfl) (by kernel_rfl) (fun R x κ => by kernel_rfl)
noncomputable def sp_ldl_Solve : Sp := Sp.of [(.v (.pair (.int .i64) (.pair (.arr 36 (.int .i64)) (.pair (.arr 6 (.int .i64)) .unit)))), (.v (.slice (.int .i64)))] [(.own (.int .i64)), .bool, .err] (fun x κ => F_ldl_Solve x.1 x.2.1 (fun r1 r2 r3 => κ (r1, r2, r3, ()) ()))
theorem ok_ldl_Solve : Fact tab 7 sp_ldl_Solve :=
  tabOk.fact (deep := []) (kp := []) (tbl := [(5, sp_ldl_Check), (19, sp_ldl_tally_down), (20, sp_ldl_tally_by), (21, sp_ldl_Factors_at), (22, sp_ldl_tally_less), (23, sp_ldl_tally_dot)]) (.cons ok_ldl_Check (.cons ok_ldl_tally_down (.cons ok_ldl_tally_by (.cons ok_ldl_Factors_at (.cons ok_ldl_tally_less (.cons ok_ldl_tally_dot .nil)))))) Tryd.func7 (by kernel_rfl) rfl rfl (rvs := [.tmp 4, .tmp 5, .tmp 6]) rfl
    (.seq .leaf (.seq (.seq (.join ⟨[], [(1, .a (.val (.slice (.int .i64)))), (2, .a (.ref 16 [])), (23, .a (.val .bool))], [⟨16, false, false, (.pair (.int .i64) (.pair (.arr 36 (.int .i64)) (.pair (.arr 6 (.int .i64)) .unit)))⟩]⟩ .leaf) (.cond (.seq .leaf .leaf) .leaf)) (.seq .leaf (.seq .leaf (.seq (.seq .leaf (.block (.loop ⟨[], [(2, .a (.ref 16 [])), (7, .a (.ref 208 [])), (8, .a (.hdr 64 [])), (31, .a (.val (.int .i64))), (32, .a (.val (.int .i64)))], [⟨16, false, false, (.pair (.int .i64) (.pair (.arr 36 (.int .i64)) (.pair (.arr 6 (.int .i64)) .unit)))⟩, ⟨64, true, false, (.own (.int .i64))⟩, ⟨208, false, false, (.pair .bool .unit)⟩]⟩ (.seq .leaf (.seq (.cond .leaf .leaf) (.seq (.block (.seq .leaf .leaf)) .leaf)))))) (.seq (.seq .leaf (.block (.loop ⟨[], [(2, .a (.ref 16 [])), (7, .a (.ref 208 [])), (8, .a (.hdr 64 [])), (10, .a (.val (.int .i64)))], [⟨16, false, false, (.pair (.int .i64) (.pair (.arr 36 (.int .i64)) (.pair (.arr 6 (.int .i64)) .unit)))⟩, ⟨64, true, false, (.own (.int .i64))⟩, ⟨208, false, false, (.pair .bool .unit)⟩]⟩ (.seq (.seq .leaf (.cond .leaf .leaf)) (.seq (.block (.seq .leaf (.seq (.seq .leaf (.block (.loop ⟨[.own 11 88 (.int .i64), .own 12 96 (.int .i64)], [(2, .a (.ref 16 [])), (7, .a (.ref 208 [])), (8, .a (.hdr 64 [])), (10, .a (.val (.int .i64))), (11, .a (.hdr 88 [])), (12, .a (.hdr 96 [])), (13, .a (.val (.int .i64)))], [⟨16, false, false, (.pair (.int .i64) (.pair (.arr 36 (.int .i64)) (.pair (.arr 6 (.int .i64)) .unit)))⟩, ⟨64, true, false, (.own (.int .i64))⟩, ⟨88, true, false, (.own (.int .i64))⟩, ⟨96, true, false, (.own (.int .i64))⟩, ⟨208, false, false, (.pair .bool .unit)⟩]⟩ (.seq (.seq .leaf (.cond .leaf .leaf)) (.seq (.block .leaf) .leaf))))) .leaf))) .leaf))))) (.seq .leaf .leaf)))))))
    (by kernel_rfl) (by kernel_rfl) (fun R x κ => by kernel_rfl)
noncomputable def sp_ldl_Far : Sp := Sp.of [(.v (.pair (.int .i64) (.pair (.arr 36 (.int .i64)) (.pair (.arr 6 (.int .i64)) .unit)))), (.v (.slice (.int .i64)))] [(.int .i64), .bool, .err] (fun x κ => F_ldl_Far x.1 x.2.1 (fun r1 r2 r3 => κ (r1, r2, r3, ()) ()))
theorem ok_ldl_Far : Fact tab 8 sp_ldl_Far :=
  tabOk.fact (deep := []) (kp := []) (tbl := [(5, sp_ldl_Check), (19, sp_ldl_tally_down), (20, sp_ldl_tally_by), (22, sp_ldl_tally_less), (23, sp_ldl_tally_dot)]) (.cons ok_ldl_Check (.cons ok_ldl_tally_down (.cons ok_ldl_tally_by (.cons ok_ldl_tally_less (.cons ok_ldl_tally_dot .nil))))) Tryd.func8 (by kernel_rfl) rfl rfl (rvs := [.tmp 4, .tmp 5, .tmp 6]) rfl
    (.seq .leaf (.seq (.seq (.join ⟨[], [(1, .a (.val (.slice (.int .i64)))), (2, .a (.ref 16 [])), (21, .a (.val .bool))], [⟨16, false, false, (.pair (.int .i64) (.pair (.arr 36 (.int .i64)) (.pair (.arr 6 (.int .i64)) .unit)))⟩]⟩ .leaf) (.cond (.seq .leaf .leaf) .leaf)) (.seq .leaf (.seq .leaf (.seq (.seq .leaf (.block (.loop ⟨[], [(2, .a (.ref 16 [])), (7, .a (.ref 192 [])), (8, .a (.val (.int .i64))), (27, .a (.hdr 216 [])), (28, .a (.val (.int .i64))), (29, .a (.val (.int .i64)))], [⟨16, false, false, (.pair (.int .i64) (.pair (.arr 36 (.int .i64)) (.pair (.arr 6 (.int .i64)) .unit)))⟩, ⟨192, false, false, (.pair .bool .unit)⟩, ⟨216, true, false, (.own (.int .i64))⟩]⟩ (.seq .leaf (.seq (.cond .leaf .leaf) (.seq (.block (.seq .leaf (.seq .leaf .leaf))) .leaf)))))) (.seq .leaf .leaf))))))
    (by kernel_rfl) (by kernel_rfl) (fun R x κ => by kernel_rfl)
noncomputable def sp_qnum_Mul : Sp := Sp.of [(.v (.int .i64)), (.v (.int .i64)), (.v (.int .i64))] [(.int .i64), .bool, .err] (fun x κ => F_qnum_Mul x.1 x.2.1 x.2.2.1 (fun r1 r2 r3 => κ (r1, r2, r3, ()) ()))
theorem ok_qnum_Mul : Fact tab 74 sp_qnum_Mul :=
  tabOk.fact (deep := []) (kp := []) (tbl := [(42, sp_qnum_Dot)]) (.cons ok_qnum_Dot .nil) Tryd.func74 (by kernel_rfl) rfl rfl (rvs := [.tmp 6, .tmp 7, .tmp 8]) rfl
    (.seq .leaf (.seq .leaf .leaf))
    (by kernel_rfl) (by kernel_rfl) (fun R x κ => by kernel_rfl)
noncomputable def sp_grow_times : Sp := Sp.of [(.v (.int .i64)), (.v (.int .i64))] [(.int .i64)] (fun x κ => F_grow_times x.1 x.2.1 (fun r1 => κ (r1, ()) ()))
theorem ok_grow_times : Fact tab 65 sp_grow_times :=
  tabOk.fact (deep := []) (kp := []) (tbl := [(74, sp_qnum_Mul)]) (.cons ok_qnum_Mul .nil) Tryd.func65 (by kernel_rfl) rfl rfl (rvs := [.tmp 4]) rfl
    (.seq .leaf (.seq .leaf (.seq (.seq .leaf (.cond (.seq .leaf .leaf) .leaf)) (.seq .leaf .leaf))))
    (by kernel_rfl) (by kernel_rfl) (fun R x κ => by kernel_rfl)
noncomputable def sp_grow_rise : Sp := Sp.of [(.v (.int .i64))] [(.int .i64)] (fun x κ => F_grow_rise x.1 (fun r1 => κ (r1, ()) ()))
theorem ok_grow_rise : Fact tab 45 sp_grow_rise :=
  tabOk.fact (deep := []) (kp := []) (tbl := [(40, sp_qnum_Div), (65, sp_grow_times)]) (.cons ok_qnum_Div (.cons ok_grow_times .nil)) Tryd.func45 (by kernel_rfl) rfl rfl (rvs := [.tmp 2]) rfl
    (.seq .leaf (.seq .leaf (.seq (.seq .leaf (.cond (.seq .leaf .leaf) .leaf)) (.seq .leaf (.seq .leaf (.seq (.seq .leaf (.block (.loop ⟨[], [(3, .a (.val (.int .i64))), (6, .a (.val (.int .i64))), (7, .a (.val (.int .i64))), (8, .a (.val (.int .i64)))], []⟩ (.seq (.seq .leaf (.cond .leaf .leaf)) (.seq (.block (.seq .leaf .leaf)) .leaf))))) (.seq .leaf .leaf)))))))
    (by kernel_rfl) (by kernel_rfl) (fun R x κ => by kernel_rfl)
noncomputable def sp_qnum_Move : Sp := Sp.of [(.v (.int .i64)), (.v (.int .i64)), (.v (.int .i64))] [(.int .i64), .bool, .err] (fun x κ => F_qnum_Move x.1 x.2.1 x.2.2.1 (fun r1 r2 r3 => κ (r1, r2, r3, ()) ()))
theorem ok_qnum_Move : Fact tab 44 sp_qnum_Move :=
  tabOk.fact (deep := []) (kp := []) (tbl := [(56, sp_qnum_pointed), (60, sp_qnum_sum_bounded), (61, sp_qnum_of), (63, sp_qnum_product), (64, sp_qnum_sum_half)]) (.cons ok_qnum_pointed (.cons ok_qnum_sum_bounded (.cons ok_qnum_of (.cons ok_qnum_product (.cons ok_qnum_sum_half .nil))))) Tryd.func44 (by kernel_rfl) rfl rfl (rvs := [.tmp 6, .tmp 7, .tmp 8]) rfl
    (.seq .leaf (.seq (.seq (.join ⟨[], [(0, .a (.val (.int .i64))), (1, .a (.val (.int .i64))), (2, .a (.val (.int .i64))), (19, .a (.val .bool))], []⟩ .leaf) (.cond (.seq .leaf .leaf) .leaf)) (.seq .leaf (.seq (.join ⟨[], [(9, .a (.ref 72 []))], [⟨72, false, false, (.arr 3 (.int .u64))⟩]⟩ (.seq .leaf (.cond .leaf .leaf))) (.seq .leaf (.seq .leaf .leaf))))))
    (by kernel_rfl) (by kernel_rfl) (fun R x κ => by kernel_rfl)
noncomputable def sp_grow_Log : Sp := Sp.of [(.v (.int .i64)), (.v (.int .i64))] [(.int .i64), .err] (fun x κ => F_grow_Log x.1 x.2.1 (fun r1 r2 => κ (r1, r2, ()) ()))
theorem ok_grow_Log : Fact tab 24 sp_grow_Log :=
  tabOk.fact (deep := []) (kp := []) (tbl := [(43, sp_bits_Len64), (44, sp_qnum_Move), (45, sp_grow_rise)]) (.cons ok_bits_Len64 (.cons ok_qnum_Move (.cons ok_grow_rise .nil))) Tryd.func24 (by kernel_rfl) rfl rfl (rvs := [.tmp 4, .tmp 5]) rfl
    (.seq .leaf (.seq (.seq (.join ⟨[], [(0, .a (.val (.int .i64))), (1, .a (.val (.int .i64))), (25, .a (.val .bool))], []⟩ .leaf) (.cond (.seq .leaf .leaf) .leaf)) (.seq .leaf (.seq .leaf (.seq .leaf (.seq .leaf (.seq .leaf .leaf)))))))
    (by kernel_rfl) (by kernel_rfl) (fun R x κ => by kernel_rfl)
noncomputable def sp_ldl_Log : Sp := Sp.of [(.v (.pair (.int .i64) (.pair (.arr 36 (.int .i64)) (.pair (.arr 6 (.int .i64)) .unit))))] [(.int .i64), .err] (fun x κ => F_ldl_Log x.1 (fun r1 r2 => κ (r1, r2, ()) ()))
theorem ok_ldl_Log : Fact tab 9 sp_ldl_Log :=
  tabOk.fact (deep := []) (kp := []) (tbl := [(5, sp_ldl_Check), (24, sp_grow_Log)]) (.cons ok_ldl_Check (.cons ok_grow_Log .nil)) Tryd.func9 (by kernel_rfl) rfl rfl (rvs := [.tmp 2, .tmp 3]) rfl
    (.seq .leaf (.seq (.seq .leaf (.cond (.seq .leaf .leaf) .leaf)) (.seq .leaf (.seq (.seq .leaf (.block (.loop ⟨[], [(4, .a (.val (.int .i64))), (16, .a (.lsl 8 [.snd, .snd, .fst])), (17, .a (.val (.int .i64))), (18, .a (.val (.int .i64)))], [⟨8, false, false, (.pair (.int .i64) (.pair (.arr 36 (.int .i64)) (.pair (.arr 6 (.int .i64)) .unit)))⟩]⟩ (.seq .leaf (.seq (.cond .leaf .leaf) (.seq (.block (.seq .leaf (.seq .leaf (.seq (.seq .leaf (.cond (.seq .leaf .leaf) .leaf)) .leaf)))) .leaf)))))) (.seq .leaf .leaf)))))
    (by kernel_rfl) (by kernel_rfl) (fun R x κ => by kernel_rfl)
noncomputable def sp_mat_sized : Sp := Sp.of [(.v (.int .i64))] [.bool] (fun x κ => F_mat_sized x.1 (fun r1 => κ (r1, ()) ()))
theorem ok_mat_sized : Fact tab 47 sp_mat_sized :=
  tabOk.fact (deep := []) (kp := []) (tbl := []) .nil Tryd.func47 (by kernel_rfl) rfl rfl (rvs := [.tmp 2]) rfl
    (.seq .leaf (.seq (.join ⟨[], [(2, .a (.val .bool))], []⟩ .leaf) .leaf))
    (by kernel_rfl) (by kernel_rfl) (fun R x κ => by kernel_rfl)
noncomputable def sp_mat_Of : Sp := Sp.of [(.v (.slice (.slice (.int .i64))))] [(.pair (.int .i64) (.pair (.int .i64) (.pair (.arr 36 (.int .i64)) .unit))), .err] (fun x κ => F_mat_Of x.1 (fun r1 r2 => κ (r1, r2, ()) ()))
theorem ok_mat_Of : Fact tab 28 sp_mat_Of :=
  tabOk.fact (deep := []) (kp := []) (tbl := [(47, sp_mat_sized)]) (.cons ok_mat_sized .nil) Tryd.func28 (by kernel_rfl) rfl rfl (rvs := [.cell 2 44, .tmp 3]) rfl
    (.seq .leaf (.seq (.seq (.join ⟨[], [(0, .a (.val (.slice (.slice (.int .i64))))), (2, .a (.ref 16 [])), (18, .a (.val .bool))], [⟨16, false, false, (.pair (.int .i64) (.pair (.int .i64) (.pair (.arr 36 (.int .i64)) .unit)))⟩]⟩ .leaf) (.cond (.seq .leaf .leaf) .leaf)) (.seq .leaf (.seq (.seq .leaf (.block (.loop ⟨[], [(2, .a (.ref 16 [])), (4, .a (.ref 32 [])), (28, .a (.val (.slice (.slice (.int .i64))))), (29, .a (.val (.int .i64))), (30, .a (.val (.int .i64)))], [⟨16, false, false, (.pair (.int .i64) (.pair (.int .i64) (.pair (.arr 36 (.int .i64)) .unit)))⟩, ⟨32, false, false, (.pair (.int .i64) (.pair (.int .i64) (.pair (.arr 36 (.int .i64)) .unit)))⟩]⟩ (.seq .leaf (.seq (.cond .leaf .leaf) (.seq (.block (.seq .leaf (.seq (.seq .leaf (.cond (.seq .leaf .leaf) .leaf)) .leaf))) .leaf)))))) (.seq .leaf .leaf)))))
    (by kernel_rfl) (by kernel_rfl) (fun R x κ => by kernel_rfl)
noncomputable def sp_law09_matOf : Sp := Sp.of [(.v (.slice (.slice (.int .i64))))] [(.pair (.int .i64) (.pair (.int .i64) (.pair (.arr 36 (.int .i64)) .unit)))] (fun x κ => F_law09_matOf x.1 (fun r1 => κ (r1, ()) ()))
theorem ok_law09_matOf : Fact tab 13 sp_law09_matOf :=
  tabOk.fact (deep := []) (kp := []) (tbl := [(28, sp_mat_Of)]) (.cons ok_mat_Of .nil) Tryd.func13 (by kernel_rfl) rfl rfl (rvs := [.cell 2 44]) rfl
    (.seq .leaf (.seq .leaf (.seq (.seq .leaf (.cond (.seq .leaf .leaf) .leaf)) (.seq .leaf .leaf))))
    (by kernel_rfl) (by kernel_rfl) (fun R x κ => by kernel_rfl)
noncomputable def sp_mat_Check : Sp := Sp.of [(.v (.pair (.int .i64) (.pair (.int .i64) (.pair (.arr 36 (.int .i64)) .unit))))] [.err] (fun x κ => F_mat_Check x.1 (fun r1 => κ (r1, ()) ()))
theorem ok_mat_Check : Fact tab 66 sp_mat_Check :=
  tabOk.fact (deep := []) (kp := []) (tbl := [(47, sp_mat_sized)]) (.cons ok_mat_sized .nil) Tryd.func66 (by kernel_rfl) rfl rfl (rvs := [.tmp 2]) rfl
    (.seq .leaf (.seq (.seq (.join ⟨[], [(1, .a (.ref 8 [])), (14, .a (.val .bool))], [⟨8, false, false, (.pair (.int .i64) (.pair (.int .i64) (.pair (.arr 36 (.int .i64)) .unit)))⟩]⟩ .leaf) (.cond (.seq .leaf .leaf) .leaf)) (.seq (.seq .leaf (.block (.loop ⟨[], [(22, .a (.lsl 8 [.snd, .snd, .fst])), (23, .a (.val (.int .i64))), (24, .a (.val (.int .i64)))], [⟨8, false, false, (.pair (.int .i64) (.pair (.int .i64) (.pair (.arr 36 (.int .i64)) .unit)))⟩]⟩ (.seq .leaf (.seq (.cond .leaf .leaf) (.seq (.block (.seq .leaf (.seq .leaf (.cond (.seq .leaf .leaf) .leaf)))) .leaf)))))) (.seq .leaf .leaf))))
    (by kernel_rfl) (by kernel_rfl) (fun R x κ => by kernel_rfl)
noncomputable def sp_mat_Mat_at : Sp := Sp.of [(.v (.pair (.int .i64) (.pair (.int .i64) (.pair (.arr 36 (.int .i64)) .unit)))), (.v (.int .i64)), (.v (.int .i64))] [(.int .i64)] (fun x κ => F_mat_Mat_at x.1 x.2.1 x.2.2.1 (fun r1 => κ (r1, ()) ()))
theorem ok_mat_Mat_at : Fact tab 69 sp_mat_Mat_at :=
  tabOk.fact (deep := []) (kp := []) (tbl := []) .nil Tryd.func69 (by kernel_rfl) rfl rfl (rvs := [.tmp 6]) rfl
    (.seq .leaf (.seq .leaf .leaf))
    (by kernel_rfl) (by kernel_rfl) (fun R x κ => by kernel_rfl)
noncomputable def sp_mat_Turn_c1 : Sp := Sp.of [(.v (.int .i64)), (.v (.int .i64)), (.pin (.pair (.int .i64) (.pair (.int .i64) (.pair (.arr 36 (.int .i64)) .unit))))] [(.int .i64), .bool] (fun x κ => F_mat_Turn_c1 x.1 x.2.1 x.2.2.1 (fun r1 r2 => κ (r1, r2, ()) ()))
theorem ok_mat_Turn_c1 : Fact tab 68 sp_mat_Turn_c1 :=
  tabOk.fact (deep := []) (kp := []) (tbl := [(69, sp_mat_Mat_at)]) (.cons ok_mat_Mat_at .nil) Tryd.func68 (by kernel_rfl) rfl rfl (rvs := [.tmp 5, .tmp 6]) rfl
    (.seq .leaf (.seq .leaf .leaf))
    (by kernel_rfl) (by kernel_rfl) (fun R x κ => by kernel_rfl)
noncomputable def sp_mat_made : Sp := Sp.of [(.v (.int .i64)), (.v (.int .i64)), (.clo 68 [(true, (.pair (.int .i64) (.pair (.int .i64) (.pair (.arr 36 (.int .i64)) .unit))))])] [(.pair (.int .i64) (.pair (.int .i64) (.pair (.arr 36 (.int .i64)) .unit))), .bool] (fun x κ => F_mat_made x.1 x.2.1 x.2.2.1 (fun c1 a1 a2 κ => F_mat_Turn_c1 a1 a2 c1 κ) (fun r1 r2 => κ (r1, r2, ()) ()))
theorem ok_mat_made : Fact tab 67 sp_mat_made :=
  tabOk.fact (deep := []) (kp := []) (tbl := [(68, sp_mat_Turn_c1)]) (.cons ok_mat_Turn_c1 .nil) Tryd.func67 (by kernel_rfl) rfl rfl (rvs := [.cell 6 44, .tmp 7]) rfl
    (.seq .leaf (.seq .leaf (.seq .leaf (.seq (.seq .leaf (.block (.loop ⟨[], [(1, .a (.val (.int .i64))), (2, .clo 68 [.pin (.pair (.int .i64) (.pair (.int .i64) (.pair (.arr 36 (.int .i64)) .unit)))]), (6, .a (.ref 48 [])), (8, .a (.ref 64 [])), (9, .a (.val .bool)), (17, .a (.val (.int .i64))), (18, .a (.val (.int .i64)))], [⟨48, false, false, (.pair (.int .i64) (.pair (.int .i64) (.pair (.arr 36 (.int .i64)) .unit)))⟩, ⟨64, false, false, (.pair (.int .i64) (.pair (.int .i64) (.pair (.arr 36 (.int .i64)) .unit)))⟩]⟩ (.seq .leaf (.seq (.cond .leaf .leaf) (.seq (.block (.seq .leaf (.seq .leaf (.block (.loop ⟨[], [(1, .a (.val (.int .i64))), (2, .clo 68 [.pin (.pair (.int .i64) (.pair (.int .i64) (.pair (.arr 36 (.int .i64)) .unit)))]), (6, .a (.ref 48 [])), (8, .a (.ref 64 [])), (9, .a (.val .bool)), (10, .a (.val (.int .i64))), (17, .a (.val (.int .i64))), (18, .a (.val (.int .i64))), (21, .a (.val (.int .i64))), (22, .a (.val (.int .i64)))], [⟨48, false, false, (.pair (.int .i64) (.pair (.int .i64) (.pair (.arr 36 (.int .i64)) .unit)))⟩, ⟨64, false, false, (.pair (.int .i64) (.pair (.int .i64) (.pair (.arr 36 (.int .i64)) .unit)))⟩]⟩ (.seq .leaf (.seq (.cond .leaf .leaf) (.seq (.join ⟨[], [(1, .a (.val (.int .i64))), (2, .clo 68 [.pin (.pair (.int .i64) (.pair (.int .i64) (.pair (.arr 36 (.int .i64)) .unit)))]), (6, .a (.ref 48 [])), (8, .a (.ref 64 [])), (9, .a (.val .bool)), (10, .a (.val (.int .i64))), (17, .a (.val (.int .i64))), (18, .a (.val (.int .i64))), (21, .a (.val (.int .i64))), (22, .a (.val (.int .i64)))], [⟨48, false, false, (.pair (.int .i64) (.pair (.int .i64) (.pair (.arr 36 (.int .i64)) .unit)))⟩, ⟨64, false, false, (.pair (.int .i64) (.pair (.int .i64) (.pair (.arr 36 (.int .i64)) .unit)))⟩]⟩ (.block (.seq .leaf (.seq .leaf (.seq .leaf .leaf))))) .leaf)))))))) .leaf)))))) (.seq .leaf .leaf)))))
    (by kernel_rfl) (by kernel_rfl) (fun R x κ => by kernel_rfl)
noncomputable def sp_mat_Turn : Sp := Sp.of [(.v (.pair (.int .i64) (.pair (.int .i64) (.pair (.arr 36 (.int .i64)) .unit))))] [(.pair (.int .i64) (.pair (.int .i64) (.pair (.arr 36 (.int .i64)) .unit))), .err] (fun x κ => F_mat_Turn x.1 (fun r1 r2 => κ (r1, r2, ()) ()))
theorem ok_mat_Turn : Fact tab 46 sp_mat_Turn :=
  tabOk.fact (deep := []) (kp := []) (tbl := [(66, sp_mat_Check), (67, sp_mat_made), (68, sp_mat_Turn_c1)]) (.cons ok_mat_Check (.cons ok_mat_made (.cons ok_mat_Turn_c1 .nil))) Tryd.func46 (by kernel_rfl) rfl rfl (rvs := [.cell 2 44, .tmp 3]) rfl
    (.seq .leaf (.seq (.seq .leaf (.seq .leaf (.cond (.seq .leaf .leaf) .leaf))) (.seq .leaf (.seq .leaf .leaf))))
    (by kernel_rfl) (by kernel_rfl) (fun R x κ => by kernel_rfl)
noncomputable def sp_ldl_even : Sp := Sp.of [(.v (.pair (.int .i64) (.pair (.int .i64) (.pair (.arr 36 (.int .i64)) .unit))))] [.bool] (fun x κ => F_ldl_even x.1 (fun r1 => κ (r1, ()) ()))
theorem ok_ldl_even : Fact tab 26 sp_ldl_even :=
  tabOk.fact (deep := []) (kp := []) (tbl := [(46, sp_mat_Turn)]) (.cons ok_mat_Turn .nil) Tryd.func26 (by kernel_rfl) rfl rfl (rvs := [.tmp 2]) rfl
    (.seq .leaf (.seq .leaf (.seq (.join ⟨[], [(2, .a (.val .bool))], []⟩ .leaf) .leaf)))
    (by kernel_rfl) (by kernel_rfl) (fun R x κ => by kernel_rfl)
noncomputable def sp_ldl_tally_rest : Sp := Sp.of [(.p (.pair .bool .unit)), (.pin (.pair (.int .i64) (.pair (.arr 36 (.int .i64)) (.pair (.arr 6 (.int .i64)) .unit)))), (.v (.int .i64)), (.v (.int .i64)), (.v (.int .i64))] [(.int .i64)] (fun x κ => F_ldl_tally_rest x.1 x.2.1 x.2.2.1 x.2.2.2.1 x.2.2.2.2.1 (fun r1 u1 => κ (r1, ()) (u1, ())))
theorem ok_ldl_tally_rest : Fact tab 27 sp_ldl_tally_rest :=
  tabOk.fact (deep := []) (kp := [0]) (tbl := [(21, sp_ldl_Factors_at), (22, sp_ldl_tally_less), (23, sp_ldl_tally_dot)]) (.cons ok_ldl_Factors_at (.cons ok_ldl_tally_less (.cons ok_ldl_tally_dot .nil))) Tryd.func27 (by kernel_rfl) rfl rfl (rvs := [.tmp 10]) rfl
    (.seq .leaf (.seq .leaf (.seq (.seq .leaf (.block (.loop ⟨[], [(0, .a (.ref 0 [])), (1, .a (.pin (.pair (.int .i64) (.pair (.arr 36 (.int .i64)) (.pair (.arr 6 (.int .i64)) .unit))))), (2, .a (.val (.int .i64))), (3, .a (.val (.int .i64))), (4, .a (.val (.int .i64))), (11, .a (.hdr 88 [])), (15, .a (.val (.int .i64))), (16, .a (.val (.int .i64)))], [⟨0, false, true, (.pair .bool .unit)⟩, ⟨88, true, false, (.own (.int .i64))⟩]⟩ (.seq .leaf (.seq (.cond .leaf .leaf) (.seq (.block (.seq .leaf .leaf)) .leaf)))))) (.seq .leaf .leaf))))
    (by kernel_rfl) (by kernel_rfl) (fun R x κ => by kernel_rfl)
noncomputable def sp_ldl_Of : Sp := Sp.of [(.v (.pair (.int .i64) (.pair (.int .i64) (.pair (.arr 36 (.int .i64)) .unit))))] [(.pair (.int .i64) (.pair (.arr 36 (.int .i64)) (.pair (.arr 6 (.int .i64)) .unit))), .err] (fun x κ => F_ldl_Of x.1 (fun r1 r2 => κ (r1, r2, ()) ()))
theorem ok_ldl_Of : Fact tab 12 sp_ldl_Of :=
  tabOk.fact (deep := []) (kp := []) (tbl := [(20, sp_ldl_tally_by), (26, sp_ldl_even), (27, sp_ldl_tally_rest)]) (.cons ok_ldl_tally_by (.cons ok_ldl_even (.cons ok_ldl_tally_rest .nil))) Tryd.func12 (by kernel_rfl) rfl rfl (rvs := [.cell 2 26, .tmp 3]) rfl
    (.seq .leaf (.seq (.seq .leaf (.cond (.seq .leaf .leaf) .leaf)) (.seq .leaf (.seq .leaf (.seq (.seq .leaf (.block (.loop ⟨[], [(1, .a (.ref 8 [])), (2, .a (.ref 16 [])), (4, .a (.ref 128 [])), (5, .a (.ref 144 [])), (22, .a (.val (.int .i64))), (23, .a (.val (.int .i64)))], [⟨8, false, false, (.pair (.int .i64) (.pair (.int .i64) (.pair (.arr 36 (.int .i64)) .unit)))⟩, ⟨16, false, false, (.pair (.int .i64) (.pair (.arr 36 (.int .i64)) (.pair (.arr 6 (.int .i64)) .unit)))⟩, ⟨128, false, false, (.pair (.int .i64) (.pair (.arr 36 (.int .i64)) (.pair (.arr 6 (.int .i64)) .unit)))⟩, ⟨144, false, false, (.pair .bool .unit)⟩]⟩ (.seq .leaf (.seq (.cond .leaf .leaf) (.seq (.block (.seq .leaf (.seq (.seq .leaf (.block (.loop ⟨[], [(1, .a (.ref 8 [])), (2, .a (.ref 16 [])), (4, .a (.ref 128 [])), (5, .a (.ref 144 [])), (6, .a (.val (.int .i64))), (22, .a (.val (.int .i64))), (23, .a (.val (.int .i64))), (26, .a (.val (.int .i64))), (27, .a (.val (.int .i64)))], [⟨8, false, false, (.pair (.int .i64) (.pair (.int .i64) (.pair (.arr 36 (.int .i64)) .unit)))⟩, ⟨16, false, false, (.pair (.int .i64) (.pair (.arr 36 (.int .i64)) (.pair (.arr 6 (.int .i64)) .unit)))⟩, ⟨128, false, false, (.pair (.int .i64) (.pair (.arr 36 (.int .i64)) (.pair (.arr 6 (.int .i64)) .unit)))⟩, ⟨144, false, false, (.pair .bool .unit)⟩]⟩ (.seq .leaf (.seq (.cond .leaf .leaf) (.seq (.block (.seq .leaf .leaf)) .leaf)))))) (.seq .leaf (.seq .leaf (.seq (.join ⟨[], [(1, .a (.ref 8 [])), (2, .a (.ref 16 [])), (4, .a (.ref 128 [])), (5, .a (.ref 144 [])), (22, .a (.val (.int .i64))), (23, .a (.val (.int .i64))), (112, .a (.val .bool))], [⟨8, false, false, (.pair (.int .i64) (.pair (.int .i64) (.pair (.arr 36 (.int .i64)) .unit)))⟩, ⟨16, false, false, (.pair (.int .i64) (.pair (.arr 36 (.int .i64)) (.pair (.arr 6 (.int .i64)) .unit)))⟩, ⟨128, false, false, (.pair (.int .i64) (.pair (.arr 36 (.int .i64)) (.pair (.arr 6 (.int .i64)) .unit)))⟩, ⟨144, false, false, (.pair .bool .unit)⟩]⟩ .leaf) (.cond (.seq .leaf .leaf) .leaf))))))) .leaf)))))) (.seq .leaf .leaf))))))
    (by kernel_rfl) (by kernel_rfl) (fun R x κ => by kernel_rfl)
noncomputable def sp_law09_nums : Sp := Sp.of [(.v (.slice (.int .i64))), (.v (.slice (.int .i64)))] [.bool] (fun x κ => F_law09_nums x.1 x.2.1 (fun r1 => κ (r1, ()) ()))
theorem ok_law09_nums : Fact tab 16 sp_law09_nums :=
  tabOk.fact (deep := []) (kp := []) (tbl := []) .nil Tryd.func16 (by kernel_rfl) rfl rfl (rvs := [.tmp 4]) rfl
    (.seq .leaf (.seq (.seq .leaf (.cond (.seq .leaf .leaf) .leaf)) (.seq (.seq .leaf (.block (.loop ⟨[], [(0, .a (.val (.slice (.int .i64)))), (1, .a (.val (.slice (.int .i64)))), (5, .a (.val (.int .i64)))], []⟩ (.seq (.seq .leaf (.cond .leaf .leaf)) (.seq (.block (.seq .leaf (.cond (.seq .leaf .leaf) .leaf))) .leaf))))) (.seq .leaf .leaf))))
    (by kernel_rfl) (by kernel_rfl) (fun R x κ => by kernel_rfl)
noncomputable def sp_law09_sure : Sp := Sp.of [] [.bool] (fun x κ => F_law09_sure (fun r1 => κ (r1, ()) ()))
theorem ok_law09_sure : Fact tab 10 sp_law09_sure :=
  tabOk.fact (deep := []) (kp := []) (tbl := [(7, sp_ldl_Solve), (8, sp_ldl_Far), (9, sp_ldl_Log), (12, sp_ldl_Of), (13, sp_law09_matOf), (16, sp_law09_nums)]) (.cons ok_ldl_Solve (.cons ok_ldl_Far (.cons ok_ldl_Log (.cons ok_ldl_Of (.cons ok_law09_matOf (.cons ok_law09_nums .nil)))))) Tryd.func10 (by kernel_rfl) rfl rfl (rvs := [.tmp 0]) rfl
    (.seq .leaf (.seq .leaf (.seq .leaf (.seq .leaf (.seq .leaf (.seq .leaf (.seq (.join ⟨[], [(0, .a (.val .bool))], []⟩ .leaf) .leaf)))))))
    (by kernel_rfl) (by kernel_rfl) (fun R x κ => by kernel_rfl)
noncomputable def sp_law09_LdlRaw : Sp := Sp.of [(.v (.int .i64)), (.v (.slice (.int .i64))), (.v (.slice (.int .i64)))] [.bool] (fun x κ => F_law09_LdlRaw x.1 x.2.1 x.2.2.1 (fun r1 => κ (r1, ()) ()))
theorem ok_law09_LdlRaw : Fact tab 3 sp_law09_LdlRaw :=
  tabOk.fact (deep := []) (kp := []) (tbl := [(5, sp_ldl_Check), (6, sp_num), (7, sp_ldl_Solve), (8, sp_ldl_Far), (9, sp_ldl_Log), (10, sp_law09_sure)]) (.cons ok_ldl_Check (.cons ok_num (.cons ok_ldl_Solve (.cons ok_ldl_Far (.cons ok_ldl_Log (.cons ok_law09_sure .nil)))))) Tryd.func3 (by kernel_rfl) rfl rfl (rvs := [.tmp 6]) rfl
    (.seq .leaf (.seq .leaf (.seq (.seq .leaf (.block (.loop ⟨[], [(0, .a (.val (.int .i64))), (1, .a (.val (.slice (.int .i64)))), (2, .a (.val (.slice (.int .i64)))), (7, .a (.ref 56 [])), (8, .a (.val (.int .i64)))], [⟨56, false, false, (.pair (.int .i64) (.pair (.arr 36 (.int .i64)) (.pair (.arr 6 (.int .i64)) .unit)))⟩]⟩ (.seq (.seq (.join ⟨[], [(0, .a (.val (.int .i64))), (1, .a (.val (.slice (.int .i64)))), (2, .a (.val (.slice (.int .i64)))), (7, .a (.ref 56 [])), (8, .a (.val (.int .i64))), (35, .a (.val .bool))], [⟨56, false, false, (.pair (.int .i64) (.pair (.arr 36 (.int .i64)) (.pair (.arr 6 (.int .i64)) .unit)))⟩]⟩ .leaf) (.cond .leaf .leaf)) (.seq (.block .leaf) .leaf))))) (.seq (.seq .leaf (.block (.loop ⟨[], [(0, .a (.val (.int .i64))), (2, .a (.val (.slice (.int .i64)))), (7, .a (.ref 56 [])), (9, .a (.val (.int .i64)))], [⟨56, false, false, (.pair (.int .i64) (.pair (.arr 36 (.int .i64)) (.pair (.arr 6 (.int .i64)) .unit)))⟩]⟩ (.seq (.seq (.join ⟨[], [(0, .a (.val (.int .i64))), (2, .a (.val (.slice (.int .i64)))), (7, .a (.ref 56 [])), (9, .a (.val (.int .i64))), (52, .a (.val .bool))], [⟨56, false, false, (.pair (.int .i64) (.pair (.arr 36 (.int .i64)) (.pair (.arr 6 (.int .i64)) .unit)))⟩]⟩ .leaf) (.cond .leaf .leaf)) (.seq (.block .leaf) .leaf))))) (.seq (.join ⟨[], [(0, .a (.val (.int .i64))), (7, .a (.ref 56 [])), (10, .a (.val .bool))], [⟨56, false, false, (.pair (.int .i64) (.pair (.arr 36 (.int .i64)) (.pair (.arr 6 (.int .i64)) .unit)))⟩]⟩ .leaf) (.seq (.seq .leaf (.block (.loop ⟨[], [(0, .a (.val (.int .i64))), (7, .a (.ref 56 [])), (10, .a (.val .bool)), (11, .a (.val (.int .i64)))], [⟨56, false, false, (.pair (.int .i64) (.pair (.arr 36 (.int .i64)) (.pair (.arr 6 (.int .i64)) .unit)))⟩]⟩ (.seq (.seq (.join ⟨[], [(0, .a (.val (.int .i64))), (7, .a (.ref 56 [])), (10, .a (.val .bool)), (11, .a (.val (.int .i64))), (72, .a (.val .bool))], [⟨56, false, false, (.pair (.int .i64) (.pair (.arr 36 (.int .i64)) (.pair (.arr 6 (.int .i64)) .unit)))⟩]⟩ .leaf) (.cond .leaf .leaf)) (.seq (.join ⟨[], [(0, .a (.val (.int .i64))), (7, .a (.ref 56 [])), (10, .a (.val .bool)), (11, .a (.val (.int .i64)))], [⟨56, false, false, (.pair (.int .i64) (.pair (.arr 36 (.int .i64)) (.pair (.arr 6 (.int .i64)) .unit)))⟩]⟩ (.block (.seq .leaf (.seq .leaf (.block (.seq (.join ⟨[], [(0, .a (.val (.int .i64))), (7, .a (.ref 56 [])), (11, .a (.val (.int .i64))), (12, .a (.val (.int .i64))), (13, .a (.val (.int .i64))), (14, .a (.val (.int .i64))), (91, .a (.val .bool))], [⟨56, false, false, (.pair (.int .i64) (.pair (.arr 36 (.int .i64)) (.pair (.arr 6 (.int .i64)) .unit)))⟩]⟩ .leaf) (.cond .leaf (.seq .leaf (.cond .leaf .leaf))))))))) .leaf))))) (.seq (.seq .leaf (.block (.loop ⟨[], [(0, .a (.val (.int .i64))), (7, .a (.ref 56 [])), (10, .a (.val .bool)), (15, .a (.val (.int .i64)))], [⟨56, false, false, (.pair (.int .i64) (.pair (.arr 36 (.int .i64)) (.pair (.arr 6 (.int .i64)) .unit)))⟩]⟩ (.seq (.seq (.join ⟨[], [(0, .a (.val (.int .i64))), (7, .a (.ref 56 [])), (10, .a (.val .bool)), (15, .a (.val (.int .i64))), (114, .a (.val .bool))], [⟨56, false, false, (.pair (.int .i64) (.pair (.arr 36 (.int .i64)) (.pair (.arr 6 (.int .i64)) .unit)))⟩]⟩ .leaf) (.cond .leaf .leaf)) (.seq (.join ⟨[], [(0, .a (.val (.int .i64))), (7, .a (.ref 56 [])), (10, .a (.val .bool)), (15, .a (.val (.int .i64)))], [⟨56, false, false, (.pair (.int .i64) (.pair (.arr 36 (.int .i64)) (.pair (.arr 6 (.int .i64)) .unit)))⟩]⟩ (.block .leaf)) .leaf))))) (.seq .leaf (.seq (.seq (.join ⟨[], [(0, .a (.val (.int .i64))), (7, .a (.ref 56 [])), (10, .a (.val .bool)), (160, .a (.val .bool))], [⟨56, false, false, (.pair (.int .i64) (.pair (.arr 36 (.int .i64)) (.pair (.arr 6 (.int .i64)) .unit)))⟩]⟩ .leaf) (.cond (.seq .leaf .leaf) .leaf)) (.seq .leaf (.seq .leaf (.seq .leaf (.seq .leaf (.seq (.seq .leaf (.cond (.seq (.join ⟨[], [(6, .a (.val .bool))], []⟩ .leaf) .leaf) .leaf)) (.seq (.join ⟨[], [(6, .a (.val .bool))], []⟩ .leaf) .leaf)))))))))))))))
    (by kernel_rfl) (by kernel_rfl) (fun R x κ => by kernel_rfl)
end Go.Proofs
end

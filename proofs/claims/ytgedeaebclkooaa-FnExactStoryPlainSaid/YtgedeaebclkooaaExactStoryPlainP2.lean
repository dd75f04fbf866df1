/- Proved: for every input the law FnExactStoryPlain returns true and leaves its arguments as they were. Part 2: the functions that the law reaches, as plain functions, and plain laws about them; no conditions. -/
import Derived.Test.YtgedeaebclkooaaExactStoryPlainP1
set_option linter.all false
-- FUNCS vszOpS vszOpSS vszEventS vtoConfig vtoShape vtoOp vtoOpS vtoOpSS vtoEvent vtoEventS sConfigOk sStoryOk sGraphNew sl5Refs sGraphOk sShapeOk sOpOk sl5Ints sl5Copy sl5Fields sl5Begin sl5Field sl5Pins sl5One sGraphDo sStoryPlain iConfigOk iprogsOk_1 kIndexFunc_SSOp_SOp_iprogsOk_1 kContainsFunc_SSOp_SOp_iprogsOk_1 iprogsOk math_bits_Mul64 math_bits_Mul kRepeat_Sint_int inone iGraphNew iGraph_leads_1 kIndexFunc_Sint_int_iGraph_leads_1 kContainsFunc_Sint_int_iGraph_leads_1 iGraph_leads iGraphOk iShapeOk iOpOk kClone_Sint_int iGraph_copy iOp_handles iOp_early iOp_field itruth ilastOf kDelete_Sint_int iGraphDo iStoryPlain veqIntS veqNode veqNodeS veqIntSS veqGraph veqEvent veqEventS veqShape veqOp veqOpS veqOpSS vmarkOpS vmarkOpSS vmarkEventS vmarkIntS vmarkNodeS vmarkIntSS vmarkGraph vheldIntS vheldNodeS vheldIntSS vheldGraph vheldEventS vFnExactStoryPlain
set_option maxRecDepth 100000
set_option linter.all false
namespace Go.Fl
open Go Go.Proofs
/-! ### 44: impl.Graph).copy -/

noncomputable def diniGraph_copy : Desc := { n := 1, regs := [.one (.val (.pair (.sl (.pair (.sl (.int .i64)) (.pair (.sl (.int .i64)) .unit))) (.pair (.sl (.sl (.int .i64))) (.pair (.sl (.int .i64)) .unit))))], bx := [], pins := [] }
noncomputable def outiGraph_copy : Outs := [(.ret, { n := 1, regs := [.agg [.lit (.row 1012993), .lit (.row 1012994), .lit (.row 1012929)]], bx := [(1012993, .row (.pair (.sl (.int .i64)) (.pair (.sl (.int .i64)) .unit))), (1012994, .row (.sl (.int .i64))), (1012929, .row (.int .i64))], pins := [] })]
noncomputable def HiGraph_copy : Hints := [(0, [(0, { fz := true })]),
  (1, [(3, { nl := [(0, (.pair (.sl (.int .i64)) (.pair (.sl (.int .i64)) .unit))), (1, (.sl (.int .i64)))] })]),
  (5, [(9, { dp := true }), (10, { dp := true })]),
  (10, [(4, { dp := true }), (5, { dp := true })])]
noncomputable def EiGraph_copy (N : Nat) : Env := { te := TE, cs := [conkClone_Sint_int N] }
noncomputable def diGraph_copy_0 : Desc := { n := 48, regs := [u, .one (.fpt (.pair (.sl (.pair (.sl (.int .i64)) (.pair (.sl (.int .i64)) .unit))) (.pair (.sl (.sl (.int .i64))) (.pair (.sl (.int .i64)) .unit)))), .one (.lit (.ptr 1000064 0)), .one (.lit (.ptr 1013056 0)), u, u, u, u, u, u, u, u, u, .one (.val (.sl (.pair (.sl (.int .i64)) (.pair (.sl (.int .i64)) .unit)))), .one (.val (.int .i64)), .one (.val (.int .i64))], bx := [(1000064, .var [.lit .nil, .lit .nil, .lit .nil]), (1013056, .var [.lit (.row 1012993), .lit (.row 1012994), .lit (.row 1012929)]), (1012993, .row (.pair (.sl (.int .i64)) (.pair (.sl (.int .i64)) .unit))), (1012994, .row (.sl (.int .i64))), (1012929, .row (.int .i64))], pins := [] }
noncomputable def oiGraph_copy_0 : Outs := [(.exit 0, { n := 48, regs := [u, .one (.fpt (.pair (.sl (.pair (.sl (.int .i64)) (.pair (.sl (.int .i64)) .unit))) (.pair (.sl (.sl (.int .i64))) (.pair (.sl (.int .i64)) .unit)))), .one (.lit (.ptr 1000064 0)), .one (.lit (.ptr 1013056 0))], bx := [(1000064, .var [.lit .nil, .lit .nil, .lit .nil]), (1013056, .var [.lit (.row 1012993), .lit (.row 1012994), .lit (.row 1012929)]), (1012993, .row (.pair (.sl (.int .i64)) (.pair (.sl (.int .i64)) .unit))), (1012994, .row (.sl (.int .i64))), (1012929, .row (.int .i64))], pins := [] })]
noncomputable def diGraph_copy_2 : Desc := { n := 48, regs := [u, u, .one (.lit (.ptr 1000064 0)), .one (.lit (.ptr 1013056 0)), u, u, u, u, u, u, u, u, u, u, u, u, u, u, u, u, u, u, u, u, u, u, u, u, u, u, u, u, u, .one (.val (.sl (.sl (.int .i64)))), .one (.val (.int .i64)), .one (.val (.int .i64))], bx := [(1000064, .var [.lit .nil, .lit .nil, .lit .nil]), (1013056, .var [.lit (.row 1012993), .lit (.row 1012994), .lit (.row 1012929)]), (1012993, .row (.pair (.sl (.int .i64)) (.pair (.sl (.int .i64)) .unit))), (1012994, .row (.sl (.int .i64))), (1012929, .row (.int .i64))], pins := [] }
noncomputable def oiGraph_copy_2 : Outs := [(.exit 2, { n := 48, regs := [u, u, .one (.lit (.ptr 1000064 0)), .one (.lit (.ptr 1013056 0))], bx := [(1000064, .var [.lit .nil, .lit .nil, .lit .nil]), (1013056, .var [.lit (.row 1012993), .lit (.row 1012994), .lit (.row 1012929)]), (1012993, .row (.pair (.sl (.int .i64)) (.pair (.sl (.int .i64)) .unit))), (1012994, .row (.sl (.int .i64))), (1012929, .row (.int .i64))], pins := [] })]
noncomputable def liGraph_copy_0 (N : Nat) : Nat → (((List ((List Int) × ((List Int) × Unit))) × ((List (List Int)) × ((List Int) × Unit))) × ((List ((List Int) × ((List Int) × Unit))) × (Int × (Int × ((List ((List Int) × ((List Int) × Unit))) × ((List (List Int)) × ((List Int) × Unit))))))) → Option (((List ((List Int) × ((List Int) × Unit))) × ((List (List Int)) × ((List Int) × Unit))) × ((List ((List Int) × ((List Int) × Unit))) × ((List (List Int)) × ((List Int) × Unit))))
  | 0, _ => none
  | n + 1, v =>
    bif decide (v.2.2.2.1 < v.2.2.1) then
     bif decide (0 ≤ v.2.2.2.1) then
     bif decide (v.2.2.2.1.toNat < v.2.1.length) then
     let y3 := v.2.1.getD v.2.2.2.1.toNat (([] : (List Int)), ([] : (List Int)), ())
     (FkClone_Sint_int N (y3.1, ())).bind fun r4 =>
     (FkClone_Sint_int N (y3.2.1, ())).bind fun r5 =>
     bif decide (v.2.2.2.2.1.length + [(r4.1, r5.1, ())].length ≤ lim) then
     liGraph_copy_0 N n (v.1, v.2.1, v.2.2.1, w64 (v.2.2.2.1 + (1 : Int)), v.2.2.2.2.1 ++ [(r4.1, r5.1, ())], v.2.2.2.2.2.1, v.2.2.2.2.2.2.1, ())
     else none
     else none
     else none
    else
    some (v.1, v.2.2.2.2.1, v.2.2.2.2.2.1, v.2.2.2.2.2.2.1, ())
noncomputable def liGraph_copy_2 (N : Nat) : Nat → ((List (List Int)) × (Int × (Int × ((List ((List Int) × ((List Int) × Unit))) × ((List (List Int)) × ((List Int) × Unit)))))) → Option ((List ((List Int) × ((List Int) × Unit))) × ((List (List Int)) × ((List Int) × Unit)))
  | 0, _ => none
  | n + 1, v =>
    bif decide (v.2.2.1 < v.2.1) then
     bif decide (0 ≤ v.2.2.1) then
     bif decide (v.2.2.1.toNat < v.1.length) then
     let y7 := v.1.getD v.2.2.1.toNat ([] : (List Int))
     (FkClone_Sint_int N (y7, ())).bind fun r8 =>
     bif decide (v.2.2.2.2.1.length + [r8.1].length ≤ lim) then
     liGraph_copy_2 N n (v.1, v.2.1, w64 (v.2.2.1 + (1 : Int)), v.2.2.2.1, v.2.2.2.2.1 ++ [r8.1], v.2.2.2.2.2.1, ())
     else none
     else none
     else none
    else
    some (v.2.2.2.1, v.2.2.2.2.1, v.2.2.2.2.2.1, ())
noncomputable def FiGraph_copy (N : Nat) (x : (((List ((List Int) × ((List Int) × Unit))) × ((List (List Int)) × ((List Int) × Unit))) × Unit)) : Option ((List ((List Int) × ((List Int) × Unit))) × ((List (List Int)) × ((List Int) × Unit))) :=
  (FkClone_Sint_int N (x.1.2.2.1, ())).bind fun r1 =>
  let y2 := ([] : (List ((List Int) × ((List Int) × Unit))))
  (liGraph_copy_0 N N (x.1, x.1.1, (x.1.1.length : Int), (0 : Int), y2, ([] : (List (List Int))), r1.1, ())).bind fun o6 =>
  (liGraph_copy_2 N N (o6.1.2.1, (o6.1.2.1.length : Int), (0 : Int), o6.2.1, o6.2.2.1, o6.2.2.2.1, ())).bind fun o9 =>
  some (o9.1, o9.2.1, o9.2.2.1, ())
noncomputable def coniGraph_copy (N : Nat) : Con := { f := 44, din := diniGraph_copy, outs := outiGraph_copy, F := FiGraph_copy N }
noncomputable def XiGraph_copy (N : Nat) : Ctx := { E := EiGraph_copy N, H := HiGraph_copy, lp := [(0, { hd := diGraph_copy_0, outs := oiGraph_copy_0, run := fun v => liGraph_copy_0 N N v }), (2, { hd := diGraph_copy_2, outs := oiGraph_copy_2, run := fun v => liGraph_copy_2 N N v })], jn := [] }
noncomputable def biGraph_copy_2 : Code := loopBody (codeOf Try.f44) 1
noncomputable def biGraph_copy_0 : Code := loopBody (codeOf Try.f44) 0
theorem FiGraph_copy_eq (N : Nat) (x : (((List ((List Int) × ((List Int) × Unit))) × ((List (List Int)) × ((List Int) × Unit))) × Unit)) : evFn (XiGraph_copy N) Try.f44 diniGraph_copy outiGraph_copy x = FiGraph_copy N x := by kernel_rfl
theorem liGraph_copy_0_eq (N n : Nat) (v : (((List ((List Int) × ((List Int) × Unit))) × ((List (List Int)) × ((List Int) × Unit))) × ((List ((List Int) × ((List Int) × Unit))) × (Int × (Int × ((List ((List Int) × ((List Int) × Unit))) × ((List (List Int)) × ((List Int) × Unit)))))))) : liGraph_copy_0 N (n + 1) v = ev (XiGraph_copy N) biGraph_copy_0 (roundK diGraph_copy_0 oiGraph_copy_0 (liGraph_copy_0 N n)) (diGraph_copy_0.mk' v) := by kernel_rfl
theorem liGraph_copy_2_eq (N n : Nat) (v : ((List (List Int)) × (Int × (Int × ((List ((List Int) × ((List Int) × Unit))) × ((List (List Int)) × ((List Int) × Unit))))))) : liGraph_copy_2 N (n + 1) v = ev (XiGraph_copy N) biGraph_copy_2 (roundK diGraph_copy_2 oiGraph_copy_2 (liGraph_copy_2 N n)) (diGraph_copy_2.mk' v) := by kernel_rfl
theorem cxiGraph_copy (N : Nat) : CtxOk Try.prog (XiGraph_copy N) := ⟨⟨TE_ok, List.forall_mem_cons.2 ⟨speckClone_Sint_int N, fun k hk => absurd hk List.not_mem_nil⟩⟩, mixed⟩
theorem lpiGraph_copy_0 (N : Nat) : LoopOk Try.prog { hd := diGraph_copy_0, outs := oiGraph_copy_0, run := fun v => liGraph_copy_0 N N v } biGraph_copy_0 :=
  loop_fuel (d := diGraph_copy_0) (os := oiGraph_copy_0) (cxiGraph_copy N) (loops_at (ids := []) (by kernel_rfl) (trivial)) (liGraph_copy_0 N) (fun _ => rfl) (fun n v => liGraph_copy_0_eq N n v) (fun _ => N)
theorem lpiGraph_copy_2 (N : Nat) : LoopOk Try.prog { hd := diGraph_copy_2, outs := oiGraph_copy_2, run := fun v => liGraph_copy_2 N N v } biGraph_copy_2 :=
  loop_fuel (d := diGraph_copy_2) (os := oiGraph_copy_2) (cxiGraph_copy N) (loops_at (ids := []) (by kernel_rfl) (trivial)) (liGraph_copy_2 N) (fun _ => rfl) (fun n v => liGraph_copy_2_eq N n v) (fun _ => N)
theorem speciGraph_copy (N : Nat) : Spec Try.prog (coniGraph_copy N) :=
  Spec.of_eq (fn_spec (cxiGraph_copy N) (f := 44) (fn := Try.f44) (c := codeOf Try.f44) (by kernel_rfl) (by kernel_rfl) (by kernel_rfl) (loops_at (ids := [0, 2]) (by kernel_rfl) ⟨lp_of (lpiGraph_copy_0 N), ⟨lp_of (lpiGraph_copy_2 N), trivial⟩⟩) (by kernel_rfl)) (fun x r h => (FiGraph_copy_eq N x).trans h)

/-! ### 89: impl.Op).handles -/

noncomputable def diniOp_handles : Desc := { n := 1, regs := [.one (.val (.pair (.int .i64) (.pair (.int .i64) (.pair (.int .i64) (.pair (.int .i64) (.pair (.int .i64) (.pair (.int .i64) (.pair (.pair (.int .i64) (.pair (.int .i64) .unit)) .unit))))))))], bx := [], pins := [] }
noncomputable def outiOp_handles : Outs := [(.ret, { n := 1, regs := [.one (.lit (.row 1051200))], bx := [(1051200, .row (.int .i64))], pins := [] })]
noncomputable def HiOp_handles : Hints := [(0, [(0, { fz := true })]),
  (4, [(0, { nl := [(0, (.int .i64))] })])]
noncomputable def EiOp_handles (_N : Nat) : Env := { te := TE, cs := [] }
noncomputable def FiOp_handles (N : Nat) (x : ((Int × (Int × (Int × (Int × (Int × (Int × ((Int × (Int × Unit)) × Unit))))))) × Unit)) : Option ((List Int) × Unit) :=
  bif x.1.1 == (1 : Int) then
   some (([] : (List Int)), ())
  else
  bif x.1.1 == (8 : Int) then
   some (([] : (List Int)), ())
  else
  bif x.1.1 == (3 : Int) then
   some ([x.1.2.1, x.1.2.2.1], ())
  else
  bif x.1.1 == (6 : Int) then
   some ([x.1.2.1, x.1.2.2.1], ())
  else
  bif x.1.1 == (7 : Int) then
   some ([x.1.2.1, x.1.2.2.1, x.1.2.2.2.1], ())
  else
  some ([x.1.2.1], ())
noncomputable def coniOp_handles (N : Nat) : Con := { f := 89, din := diniOp_handles, outs := outiOp_handles, F := FiOp_handles N }
noncomputable def XiOp_handles (N : Nat) : Ctx := { E := EiOp_handles N, H := HiOp_handles, lp := [], jn := [] }
theorem FiOp_handles_eq (N : Nat) (x : ((Int × (Int × (Int × (Int × (Int × (Int × ((Int × (Int × Unit)) × Unit))))))) × Unit)) : evFn (XiOp_handles N) Try.f89 diniOp_handles outiOp_handles x = FiOp_handles N x := by kernel_rfl
theorem cxiOp_handles (N : Nat) : CtxOk Try.prog (XiOp_handles N) := ⟨⟨TE_ok, fun k hk => absurd hk List.not_mem_nil⟩, mixed⟩
theorem speciOp_handles (N : Nat) : Spec Try.prog (coniOp_handles N) :=
  Spec.of_eq (fn_spec (cxiOp_handles N) (f := 89) (fn := Try.f89) (c := codeOf Try.f89) (by kernel_rfl) (by kernel_rfl) (by kernel_rfl) (loops_at (ids := []) (by kernel_rfl) (trivial)) (by kernel_rfl)) (fun x r h => (FiOp_handles_eq N x).trans h)

/-! ### 45: impl.Op).early -/

noncomputable def diniOp_early : Desc := { n := 3, regs := [.one (.val (.pair (.int .i64) (.pair (.int .i64) (.pair (.int .i64) (.pair (.int .i64) (.pair (.int .i64) (.pair (.int .i64) (.pair (.pair (.int .i64) (.pair (.int .i64) .unit)) .unit)))))))), .one (.val (.sl (.int .i64))), .one (.val (.int .i64))], bx := [], pins := [] }
noncomputable def outiOp_early : Outs := [(.ret, { n := 1, regs := [.one (.val (.int .i64))], bx := [], pins := [] })]
noncomputable def HiOp_early : Hints := [(0, [(0, { fz := true })])]
noncomputable def EiOp_early (N : Nat) : Env := { te := TE, cs := [coniOp_handles N] }
noncomputable def diOp_early_0 : Desc := { n := 61, regs := [u, .one (.val (.sl (.int .i64))), .one (.val (.int .i64)), .one (.fpt (.pair (.int .i64) (.pair (.int .i64) (.pair (.int .i64) (.pair (.int .i64) (.pair (.int .i64) (.pair (.int .i64) (.pair (.pair (.int .i64) (.pair (.int .i64) .unit)) .unit)))))))), u, u, u, u, u, u, .one (.lit (.row 1012865)), .one (.val (.int .i64)), .one (.val (.int .i64))], bx := [(1012865, .row (.int .i64))], pins := [] }
noncomputable def oiOp_early_0 : Outs := [(.exit 0, { n := 61, regs := [u, .one (.val (.sl (.int .i64))), .one (.val (.int .i64)), .one (.fpt (.pair (.int .i64) (.pair (.int .i64) (.pair (.int .i64) (.pair (.int .i64) (.pair (.int .i64) (.pair (.int .i64) (.pair (.pair (.int .i64) (.pair (.int .i64) .unit)) .unit))))))))], bx := [], pins := [] }), (.ret, { n := 61, regs := [u, u, u, u, u, u, .one (.val (.int .i64))], bx := [], pins := [] })]
noncomputable def jiOp_early_16 : Outs := [(.normal, { n := 61, regs := [u, .one (.val (.sl (.int .i64))), u, .one (.fpt (.pair (.int .i64) (.pair (.int .i64) (.pair (.int .i64) (.pair (.int .i64) (.pair (.int .i64) (.pair (.int .i64) (.pair (.pair (.int .i64) (.pair (.int .i64) .unit)) .unit))))))))], bx := [], pins := [] }), (.ret, { n := 61, regs := [u, u, u, u, u, u, .one (.val (.int .i64))], bx := [], pins := [] })]
noncomputable def liOp_early_0 (N : Nat) : Nat → ((List Int) × (Int × ((Int × (Int × (Int × (Int × (Int × (Int × ((Int × (Int × Unit)) × Unit))))))) × (Int × (Int × ((List Int) × Unit)))))) → Option (((List Int) × (Int × ((Int × (Int × (Int × (Int × (Int × (Int × ((Int × (Int × Unit)) × Unit))))))) × Unit))) ⊕ (Int × Unit))
  | 0, _ => none
  | n + 1, v =>
    bif decide (v.2.2.2.2.1 < v.2.2.2.1) then
     bif decide (0 ≤ v.2.2.2.2.1) then
     bif decide (v.2.2.2.2.1.toNat < v.2.2.2.2.2.1.length) then
     let y2 := v.2.2.2.2.2.1.getD v.2.2.2.2.1.toNat (0 : Int)
     bif decide (y2 < (0 : Int)) then
      some (.inr (((2 : Int), ())))
     else
     bif decide (y2 ≥ (v.1.length : Int)) then
      some (.inr (((2 : Int), ())))
     else
     liOp_early_0 N n (v.1, v.2.1, v.2.2.1, v.2.2.2.1, w64 (v.2.2.2.2.1 + (1 : Int)), v.2.2.2.2.2.1, ())
     else none
     else none
    else
    some (.inl (v.1, v.2.1, v.2.2.1, ()))
noncomputable def FiOp_early (N : Nat) (x : ((Int × (Int × (Int × (Int × (Int × (Int × ((Int × (Int × Unit)) × Unit))))))) × ((List Int) × (Int × Unit)))) : Option (Int × Unit) :=
  (FiOp_handles N (x.1, ())).bind fun r1 =>
  (liOp_early_0 N N (x.2.1, x.2.2.1, x.1, (r1.1.length : Int), (0 : Int), r1.1, ())).bind fun o3 =>
  Sum.elim (fun o4 =>
   Option.bind (
    bif o4.2.2.1.1 == (8 : Int) then
     bif (o4.1.length : Int) == (0 : Int) then
      some (.inr (((2 : Int), ())))
     else
     some (.inl (o4.1, o4.2.2.1, ()))
    else
    bif o4.2.2.1.1 == (1 : Int) then
     some (.inl (o4.1, o4.2.2.1, ()))
    else
    bif o4.2.2.1.1 == (6 : Int) then
     some (.inl (o4.1, o4.2.2.1, ()))
    else
    bif o4.2.2.1.1 == (9 : Int) then
     some (.inl (o4.1, o4.2.2.1, ()))
    else
    bif decide (0 ≤ o4.2.2.1.2.1) then
    bif decide (o4.2.2.1.2.1.toNat < o4.1.length) then
    let y5 := o4.1.getD o4.2.2.1.2.1.toNat (0 : Int)
    bif y5 == o4.2.1 then
     some (.inr (((3 : Int), ())))
    else
    some (.inl (o4.1, o4.2.2.1, ()))
    else none
    else none) fun o6 =>
   Sum.elim (fun o7 =>
    bif o7.2.1.1 == (1 : Int) then
     let y8 := decide ((o7.1.length : Int) ≥ (8 : Int))
     bif y8 then
      some ((5 : Int), ())
     else
     some ((0 : Int), ())
    else
    bif o7.2.1.1 == (2 : Int) then
     let y9 := decide ((o7.1.length : Int) ≥ (8 : Int))
     bif y9 then
      some ((5 : Int), ())
     else
     some ((0 : Int), ())
    else
    bif o7.2.1.1 == (9 : Int) then
     let y10 := decide ((o7.1.length : Int) ≥ (8 : Int))
     bif y10 then
      some ((5 : Int), ())
     else
     some ((0 : Int), ())
    else
    some ((0 : Int), ())) (fun o11 =>
    some (o11.1, ())) o6) (fun o12 =>
   some (o12.1, ())) o3
noncomputable def coniOp_early (N : Nat) : Con := { f := 45, din := diniOp_early, outs := outiOp_early, F := FiOp_early N }
noncomputable def XiOp_early (N : Nat) : Ctx := { E := EiOp_early N, H := HiOp_early, lp := [(0, { hd := diOp_early_0, outs := oiOp_early_0, run := fun v => liOp_early_0 N N v })], jn := [(16, jiOp_early_16)] }
noncomputable def biOp_early_0 : Code := loopBody (codeOf Try.f45) 0
theorem FiOp_early_eq (N : Nat) (x : ((Int × (Int × (Int × (Int × (Int × (Int × ((Int × (Int × Unit)) × Unit))))))) × ((List Int) × (Int × Unit)))) : evFn (XiOp_early N) Try.f45 diniOp_early outiOp_early x = FiOp_early N x := by kernel_rfl
theorem liOp_early_0_eq (N n : Nat) (v : ((List Int) × (Int × ((Int × (Int × (Int × (Int × (Int × (Int × ((Int × (Int × Unit)) × Unit))))))) × (Int × (Int × ((List Int) × Unit))))))) : liOp_early_0 N (n + 1) v = ev (XiOp_early N) biOp_early_0 (roundK diOp_early_0 oiOp_early_0 (liOp_early_0 N n)) (diOp_early_0.mk' v) := by kernel_rfl
theorem cxiOp_early (N : Nat) : CtxOk Try.prog (XiOp_early N) := ⟨⟨TE_ok, List.forall_mem_cons.2 ⟨speciOp_handles N, fun k hk => absurd hk List.not_mem_nil⟩⟩, mixed⟩
theorem lpiOp_early_0 (N : Nat) : LoopOk Try.prog { hd := diOp_early_0, outs := oiOp_early_0, run := fun v => liOp_early_0 N N v } biOp_early_0 :=
  loop_fuel (d := diOp_early_0) (os := oiOp_early_0) (cxiOp_early N) (loops_at (ids := []) (by kernel_rfl) (trivial)) (liOp_early_0 N) (fun _ => rfl) (fun n v => liOp_early_0_eq N n v) (fun _ => N)
theorem speciOp_early (N : Nat) : Spec Try.prog (coniOp_early N) :=
  Spec.of_eq (fn_spec (cxiOp_early N) (f := 45) (fn := Try.f45) (c := codeOf Try.f45) (by kernel_rfl) (by kernel_rfl) (by kernel_rfl) (loops_at (ids := [0]) (by kernel_rfl) ⟨lp_of (lpiOp_early_0 N), trivial⟩) (by kernel_rfl)) (fun x r h => (FiOp_early_eq N x).trans h)

/-! ### 46: impl.Op).field -/

noncomputable def diniOp_field : Desc := { n := 3, regs := [.one (.val (.pair (.int .i64) (.pair (.int .i64) (.pair (.int .i64) (.pair (.int .i64) (.pair (.int .i64) (.pair (.int .i64) (.pair (.pair (.int .i64) (.pair (.int .i64) .unit)) .unit)))))))), .one (.val (.int .i64)), .one (.val (.int .i64))], bx := [], pins := [] }
noncomputable def outiOp_field : Outs := [(.ret, { n := 1, regs := [.one (.val .bool)], bx := [], pins := [] })]
noncomputable def HiOp_field : Hints := [(0, [(0, { fz := true })])]
noncomputable def EiOp_field (_N : Nat) : Env := { te := TE, cs := [] }
noncomputable def FiOp_field (N : Nat) (x : ((Int × (Int × (Int × (Int × (Int × (Int × ((Int × (Int × Unit)) × Unit))))))) × (Int × (Int × Unit)))) : Option (Bool × Unit) :=
  bif x.1.1 == (2 : Int) then
   bif decide (x.1.2.2.2.2.1 ≥ (0 : Int)) then
    some (decide (x.1.2.2.2.2.1 < x.2.1), ())
   else
   some (false, ())
  else
  bif x.1.1 == (3 : Int) then
   bif decide (x.1.2.2.2.2.1 ≥ (0 : Int)) then
    some (decide (x.1.2.2.2.2.1 < x.2.1), ())
   else
   some (false, ())
  else
  bif x.1.1 == (7 : Int) then
   bif decide (x.1.2.2.2.2.1 ≥ (0 : Int)) then
    some (decide (x.1.2.2.2.2.1 < x.2.1), ())
   else
   some (false, ())
  else
  bif x.1.1 == (4 : Int) then
   bif decide (x.1.2.2.2.2.1 ≥ (0 : Int)) then
    some (decide (x.1.2.2.2.2.1 < x.2.2.1), ())
   else
   some (false, ())
  else
  bif x.1.1 == (5 : Int) then
   bif decide (x.1.2.2.2.2.1 ≥ (0 : Int)) then
    some (decide (x.1.2.2.2.2.1 < x.2.2.1), ())
   else
   some (false, ())
  else
  some (true, ())
noncomputable def coniOp_field (N : Nat) : Con := { f := 46, din := diniOp_field, outs := outiOp_field, F := FiOp_field N }
noncomputable def XiOp_field (N : Nat) : Ctx := { E := EiOp_field N, H := HiOp_field, lp := [], jn := [] }
theorem FiOp_field_eq (N : Nat) (x : ((Int × (Int × (Int × (Int × (Int × (Int × ((Int × (Int × Unit)) × Unit))))))) × (Int × (Int × Unit)))) : evFn (XiOp_field N) Try.f46 diniOp_field outiOp_field x = FiOp_field N x := by kernel_rfl
theorem cxiOp_field (N : Nat) : CtxOk Try.prog (XiOp_field N) := ⟨⟨TE_ok, fun k hk => absurd hk List.not_mem_nil⟩, mixed⟩
theorem speciOp_field (N : Nat) : Spec Try.prog (coniOp_field N) :=
  Spec.of_eq (fn_spec (cxiOp_field N) (f := 46) (fn := Try.f46) (c := codeOf Try.f46) (by kernel_rfl) (by kernel_rfl) (by kernel_rfl) (loops_at (ids := []) (by kernel_rfl) (trivial)) (by kernel_rfl)) (fun x r h => (FiOp_field_eq N x).trans h)

/-! ### 48: impl.truth -/

noncomputable def dinitruth : Desc := { n := 1, regs := [.one (.val .bool)], bx := [], pins := [] }
noncomputable def outitruth : Outs := [(.ret, { n := 1, regs := [.one (.val (.int .i64))], bx := [], pins := [] })]
noncomputable def Hitruth : Hints := []
noncomputable def Eitruth (_N : Nat) : Env := { te := TE, cs := [] }
noncomputable def Fitruth (N : Nat) (x : (Bool × Unit)) : Option (Int × Unit) :=
  bif x.1 then
   some ((1 : Int), ())
  else
  some ((0 : Int), ())
noncomputable def conitruth (N : Nat) : Con := { f := 48, din := dinitruth, outs := outitruth, F := Fitruth N }
noncomputable def Xitruth (N : Nat) : Ctx := { E := Eitruth N, H := Hitruth, lp := [], jn := [] }
theorem Fitruth_eq (N : Nat) (x : (Bool × Unit)) : evFn (Xitruth N) Try.f48 dinitruth outitruth x = Fitruth N x := by kernel_rfl
theorem cxitruth (N : Nat) : CtxOk Try.prog (Xitruth N) := ⟨⟨TE_ok, fun k hk => absurd hk List.not_mem_nil⟩, mixed⟩
theorem specitruth (N : Nat) : Spec Try.prog (conitruth N) :=
  Spec.of_eq (fn_spec (cxitruth N) (f := 48) (fn := Try.f48) (c := codeOf Try.f48) (by kernel_rfl) (by kernel_rfl) (by kernel_rfl) (loops_at (ids := []) (by kernel_rfl) (trivial)) (by kernel_rfl)) (fun x r h => (Fitruth_eq N x).trans h)

/-! ### 49: impl.lastOf -/

noncomputable def dinilastOf : Desc := { n := 2, regs := [.one (.val (.sl (.int .i64))), .one (.val (.int .i64))], bx := [], pins := [] }
noncomputable def outilastOf : Outs := [(.ret, { n := 1, regs := [.one (.val (.int .i64))], bx := [], pins := [] })]
noncomputable def HilastOf : Hints := []
noncomputable def EilastOf (_N : Nat) : Env := { te := TE, cs := [] }
noncomputable def dilastOf_0 : Desc := { n := 20, regs := [.one (.val (.sl (.int .i64))), .one (.val (.int .i64)), u, u, u, .one (.val (.int .i64))], bx := [], pins := [] }
noncomputable def oilastOf_0 : Outs := [(.exit 0, { n := 20, regs := [], bx := [], pins := [] }), (.ret, { n := 20, regs := [u, u, u, u, .one (.val (.int .i64))], bx := [], pins := [] })]
noncomputable def lilastOf_0 (N : Nat) : Nat → ((List Int) × (Int × (Int × Unit))) → Option (Unit ⊕ (Int × Unit))
  | 0, _ => none
  | n + 1, v =>
    bif decide (v.2.2.1 ≥ (0 : Int)) then
     bif decide (0 ≤ v.2.2.1) then
     bif decide (v.2.2.1.toNat < v.1.length) then
     let y1 := (v.1.getD v.2.2.1.toNat (0 : Int)) == v.2.1
     bif y1 then
      some (.inr ((v.2.2.1, ())))
     else
     lilastOf_0 N n (v.1, v.2.1, w64 (v.2.2.1 - (1 : Int)), ())
     else none
     else none
    else
    some (.inl ())
noncomputable def FilastOf (N : Nat) (x : ((List Int) × (Int × Unit))) : Option (Int × Unit) :=
  (lilastOf_0 N N (x.1, x.2.1, w64 ((x.1.length : Int) - (1 : Int)), ())).bind fun o2 =>
  Sum.elim (fun o3 =>
   some ((-1 : Int), ())) (fun o4 =>
   some (o4.1, ())) o2
noncomputable def conilastOf (N : Nat) : Con := { f := 49, din := dinilastOf, outs := outilastOf, F := FilastOf N }
noncomputable def XilastOf (N : Nat) : Ctx := { E := EilastOf N, H := HilastOf, lp := [(0, { hd := dilastOf_0, outs := oilastOf_0, run := fun v => lilastOf_0 N N v })], jn := [] }
noncomputable def bilastOf_0 : Code := loopBody (codeOf Try.f49) 0
theorem FilastOf_eq (N : Nat) (x : ((List Int) × (Int × Unit))) : evFn (XilastOf N) Try.f49 dinilastOf outilastOf x = FilastOf N x := by kernel_rfl
theorem lilastOf_0_eq (N n : Nat) (v : ((List Int) × (Int × (Int × Unit)))) : lilastOf_0 N (n + 1) v = ev (XilastOf N) bilastOf_0 (roundK dilastOf_0 oilastOf_0 (lilastOf_0 N n)) (dilastOf_0.mk' v) := by kernel_rfl
theorem cxilastOf (N : Nat) : CtxOk Try.prog (XilastOf N) := ⟨⟨TE_ok, fun k hk => absurd hk List.not_mem_nil⟩, mixed⟩
theorem lpilastOf_0 (N : Nat) : LoopOk Try.prog { hd := dilastOf_0, outs := oilastOf_0, run := fun v => lilastOf_0 N N v } bilastOf_0 :=
  loop_fuel (d := dilastOf_0) (os := oilastOf_0) (cxilastOf N) (loops_at (ids := []) (by kernel_rfl) (trivial)) (lilastOf_0 N) (fun _ => rfl) (fun n v => lilastOf_0_eq N n v) (fun _ => N)
theorem specilastOf (N : Nat) : Spec Try.prog (conilastOf N) :=
  Spec.of_eq (fn_spec (cxilastOf N) (f := 49) (fn := Try.f49) (c := codeOf Try.f49) (by kernel_rfl) (by kernel_rfl) (by kernel_rfl) (loops_at (ids := [0]) (by kernel_rfl) ⟨lp_of (lpilastOf_0 N), trivial⟩) (by kernel_rfl)) (fun x r h => (FilastOf_eq N x).trans h)

/-! ### 50: slices.Delete[[]int,int] -/

noncomputable def dinkDelete_Sint_int : Desc := { n := 3, regs := [.one (.lit (.row 0)), .one (.val (.int .i64)), .one (.val (.int .i64))], bx := [(0, .row (.int .i64))], pins := [] }
noncomputable def outkDelete_Sint_int : Outs := [(.ret, { n := 1, regs := [.one (.lit (.row 0))], bx := [(0, .row (.int .i64))], pins := [] })]
noncomputable def HkDelete_Sint_int : Hints := [(7, [(1, { dp := true })])]
noncomputable def EkDelete_Sint_int (_N : Nat) : Env := { te := TE, cs := [] }
noncomputable def FkDelete_Sint_int (N : Nat) (x : (Int × (Int × ((List Int) × Unit)))) : Option ((List Int) × Unit) :=
  bif decide (0 ≤ x.1) then
  bif decide (x.1 ≤ x.2.1) then
  bif decide (x.2.1 ≤ (x.2.2.1.length : Int)) then
  bif decide ((x.2.2.1.length : Int) ≤ (x.2.2.1.length : Int)) then
  bif x.1 == x.2.1 then
   some (x.2.2.1, ())
  else
  bif decide (0 ≤ x.1) then
  bif decide (x.1 ≤ (x.2.2.1.length : Int)) then
  bif decide (0 ≤ (0 : Int)) then
  bif decide ((0 : Int) ≤ x.1) then
  bif decide (0 ≤ (x.2.2.1.length : Int)) then
  bif decide ((x.2.2.1.length : Int) ≤ (x.2.2.1.length : Int)) then
  bif decide (0 ≤ x.2.1) then
  bif decide (x.2.1 ≤ (x.2.2.1.length : Int)) then
  bif decide ((x.1.toNat - (0 : Int).toNat) + ((x.2.2.1.drop x.2.1.toNat).take ((x.2.2.1.length : Int).toNat - x.2.1.toNat)).length ≤ x.2.2.1.length) then
  let y1 := lay x.2.2.1 (x.1.toNat - (0 : Int).toNat) ((x.2.2.1.drop x.2.1.toNat).take ((x.2.2.1.length : Int).toNat - x.2.1.toNat))
  let y2 := ((((x.1.toNat - (0 : Int).toNat) + ((x.2.2.1.drop x.2.1.toNat).take ((x.2.2.1.length : Int).toNat - x.2.1.toNat)).length) : Nat) : Int)
  bif decide (0 ≤ (x.2.2.1.length : Int)) then
  bif decide ((x.2.2.1.length : Int) ≤ ((y1.length : Nat) : Int)) then
  bif decide (0 ≤ y2) then
  bif decide (y2 ≤ (x.2.2.1.length : Int)) then
  let y3 := lay y1 y2.toNat (List.replicate ((x.2.2.1.length : Int).toNat - y2.toNat) (0 : Int))
  let y4 := y3.take ((x.1.toNat - (0 : Int).toNat) + ((x.2.2.1.drop x.2.1.toNat).take ((x.2.2.1.length : Int).toNat - x.2.1.toNat)).length)
  some (y4, ())
  else none
  else none
  else none
  else none
  else none
  else none
  else none
  else none
  else none
  else none
  else none
  else none
  else none
  else none
  else none
  else none
  else none
noncomputable def conkDelete_Sint_int (N : Nat) : Con := { f := 50, din := dinkDelete_Sint_int, outs := outkDelete_Sint_int, F := FkDelete_Sint_int N }
noncomputable def XkDelete_Sint_int (N : Nat) : Ctx := { E := EkDelete_Sint_int N, H := HkDelete_Sint_int, lp := [], jn := [] }
theorem FkDelete_Sint_int_eq (N : Nat) (x : (Int × (Int × ((List Int) × Unit)))) : evFn (XkDelete_Sint_int N) Try.f50 dinkDelete_Sint_int outkDelete_Sint_int x = FkDelete_Sint_int N x := by kernel_rfl
theorem cxkDelete_Sint_int (N : Nat) : CtxOk Try.prog (XkDelete_Sint_int N) := ⟨⟨TE_ok, fun k hk => absurd hk List.not_mem_nil⟩, mixed⟩
theorem speckDelete_Sint_int (N : Nat) : Spec Try.prog (conkDelete_Sint_int N) :=
  Spec.of_eq (fn_spec (cxkDelete_Sint_int N) (f := 50) (fn := Try.f50) (c := codeOf Try.f50) (by kernel_rfl) (by kernel_rfl) (by kernel_rfl) (loops_at (ids := []) (by kernel_rfl) (trivial)) (by kernel_rfl)) (fun x r h => (FkDelete_Sint_int_eq N x).trans h)

/-! ### 13: impl.GraphDo -/

noncomputable def diniGraphDo : Desc := { n := 3, regs := [.one (.val (.pair (.sl (.pair (.sl (.int .i64)) (.pair (.sl (.int .i64)) .unit))) (.pair (.sl (.sl (.int .i64))) (.pair (.sl (.int .i64)) .unit)))), .one (.val (.int .i64)), .one (.val (.pair (.int .i64) (.pair (.int .i64) (.pair (.int .i64) (.pair (.int .i64) (.pair (.int .i64) (.pair (.int .i64) (.pair (.pair (.int .i64) (.pair (.int .i64) .unit)) .unit))))))))], bx := [], pins := [] }
noncomputable def outiGraphDo : Outs := [(.ret, { n := 3, regs := [.agg [.lit (.row 1038465), .lit (.row 1038466), .lit (.row 1038467)], .one (.val (.int .i64)), .one (.val (.int .i64))], bx := [(1038465, .row (.pair (.sl (.int .i64)) (.pair (.sl (.int .i64)) .unit))), (1038466, .row (.sl (.int .i64))), (1038467, .row (.int .i64))], pins := [] })]
noncomputable def HiGraphDo : Hints := [(0, [(0, { fz := true }), (1, { fz := true })]),
  (1, [(16, { con := 1 })]),
  (2, [(0, { nl := [(0, (.pair (.sl (.int .i64)) (.pair (.sl (.int .i64)) .unit))), (1, (.sl (.int .i64))), (2, (.int .i64))] })]),
  (3, [(1, { con := 2 })]),
  (5, [(4, { con := 3 })]),
  (14, [(11, { con := 4 })]),
  (21, [(5, { con := 5 }), (11, { dp := true }), (12, { dp := true })]),
  (31, [(10, { con := 6 })]),
  (45, [(3, { con := 7 })]),
  (48, [(5, { con := 8, sg := [(0, 1038467)] })])]
noncomputable def EiGraphDo (N : Nat) : Env := { te := TE, cs := [coniGraphOk N, coniOpOk N, coniGraph_copy N, coniOp_early N, coniOp_field N, coninone N, conitruth N, conilastOf N, conkDelete_Sint_int N] }
noncomputable def jiGraphDo_3 : Outs := [(.normal, { n := 272, regs := [u, .one (.val (.int .i64)), u, .one (.fpt (.pair (.sl (.pair (.sl (.int .i64)) (.pair (.sl (.int .i64)) .unit))) (.pair (.sl (.sl (.int .i64))) (.pair (.sl (.int .i64)) .unit)))), u, .one (.fpt (.pair (.int .i64) (.pair (.int .i64) (.pair (.int .i64) (.pair (.int .i64) (.pair (.int .i64) (.pair (.int .i64) (.pair (.pair (.int .i64) (.pair (.int .i64) .unit)) .unit)))))))), .one (.lit (.ptr 1000128 0))], bx := [(1000128, .var [.lit .nil, .lit .nil, .lit .nil])], pins := [] }), (.ret, { n := 272, regs := [u, u, u, u, u, u, .one (.lit (.ptr 1000128 0)), .one (.val (.int .i64)), .one (.val (.int .i64))], bx := [(1000128, .var [.lit (.row 1025601), .lit (.row 1025602), .lit (.row 1025603)]), (1025601, .row (.pair (.sl (.int .i64)) (.pair (.sl (.int .i64)) .unit))), (1025602, .row (.sl (.int .i64))), (1025603, .row (.int .i64))], pins := [] })]
noncomputable def jiGraphDo_12 : Outs := [(.normal, { n := 272, regs := [u, u, u, u, u, .one (.fpt (.pair (.int .i64) (.pair (.int .i64) (.pair (.int .i64) (.pair (.int .i64) (.pair (.int .i64) (.pair (.int .i64) (.pair (.pair (.int .i64) (.pair (.int .i64) .unit)) .unit)))))))), .one (.lit (.ptr 1000128 0)), u, u, .one (.lit (.ptr 1038528 0)), .one (.ept 1038466 0), u, .one (.lit .pnil), .one (.val (.int .i64))], bx := [(1000128, .var [.lit .nil, .lit .nil, .lit .nil]), (1038528, .var [.lit (.row 1038465), .lit (.row 1038466), .lit (.row 1038467)]), (1038465, .row (.pair (.sl (.int .i64)) (.pair (.sl (.int .i64)) .unit))), (1038466, .row (.sl (.int .i64))), (1038467, .row (.int .i64))], pins := [] })]
noncomputable def FiGraphDo (N : Nat) (x : (((List ((List Int) × ((List Int) × Unit))) × ((List (List Int)) × ((List Int) × Unit))) × (Int × ((Int × (Int × (Int × (Int × (Int × (Int × ((Int × (Int × Unit)) × Unit))))))) × Unit)))) : Option (Int × (Int × ((List ((List Int) × ((List Int) × Unit))) × ((List (List Int)) × ((List Int) × Unit))))) :=
  Option.bind (
   (FiGraphOk N (x.1, ())).bind fun r1 =>
   bif !r1.1 then
    let y2 := ([] : (List ((List Int) × ((List Int) × Unit))))
    some (.inr (((0 : Int), (1 : Int), y2, ([] : (List (List Int))), ([] : (List Int)), ())))
   else
   bif decide (x.2.1 < (0 : Int)) then
    let y3 := ([] : (List ((List Int) × ((List Int) × Unit))))
    some (.inr (((0 : Int), (1 : Int), y3, ([] : (List (List Int))), ([] : (List Int)), ())))
   else
   let y4 := decide (x.2.1 ≥ (x.1.2.1.length : Int))
   bif y4 then
    let y5 := ([] : (List ((List Int) × ((List Int) × Unit))))
    some (.inr (((0 : Int), (1 : Int), y5, ([] : (List (List Int))), ([] : (List Int)), ())))
   else
   (FiOpOk N (x.2.2.1, ())).bind fun r6 =>
   bif !r6.1 then
    let y7 := ([] : (List ((List Int) × ((List Int) × Unit))))
    some (.inr (((0 : Int), (1 : Int), y7, ([] : (List (List Int))), ([] : (List Int)), ())))
   else
   some (.inl (x.2.1, x.1, x.2.2.1, ()))) fun o8 =>
  Sum.elim (fun o9 =>
   (FiGraph_copy N (o9.2.1, ())).bind fun r10 =>
   bif decide (0 ≤ o9.1) then
   bif decide (o9.1.toNat < r10.2.1.length) then
   (FiOp_early N (o9.2.2.1, r10.2.1.getD o9.1.toNat ([] : (List Int)), (-1 : Int), ())).bind fun r11 =>
   bif r11.1 != (0 : Int) then
    some ((0 : Int), r11.1, r10.1, r10.2.1, r10.2.2.1, ())
   else
   Option.bind (
    bif o9.2.2.1.1 != (1 : Int) then
     bif o9.2.2.1.1 != (8 : Int) then
      bif decide (0 ≤ o9.2.2.1.2.1) then
      bif decide (o9.2.2.1.2.1.toNat < (r10.2.1.getD o9.1.toNat ([] : (List Int))).length) then
      let y12 := (r10.2.1.getD o9.1.toNat ([] : (List Int))).getD o9.2.2.1.2.1.toNat (0 : Int)
      some (o9.2.2.1, Int.ofNat o9.1.toNat, y12, r10.1, r10.2.1, r10.2.2.1, ())
      else none
      else none
     else
     some (o9.2.2.1, Int.ofNat o9.1.toNat, (-1 : Int), r10.1, r10.2.1, r10.2.2.1, ())
    else
    some (o9.2.2.1, Int.ofNat o9.1.toNat, (-1 : Int), r10.1, r10.2.1, r10.2.2.1, ())) fun o13 =>
   bif decide (o13.2.2.1 ≥ (0 : Int)) then
    bif decide (0 ≤ o13.2.2.1) then
    bif decide (o13.2.2.1.toNat < o13.2.2.2.1.length) then
    let y14 := (((o13.2.2.2.1.getD o13.2.2.1.toNat (([] : (List Int)), ([] : (List Int)), ())).1).length : Int)
    let y15 := ((((o13.2.2.2.1.getD o13.2.2.1.toNat (([] : (List Int)), ([] : (List Int)), ())).2).1).length : Int)
    (FiOp_field N (o13.1, y14, y15, ())).bind fun r16 =>
    bif !r16.1 then
     some ((0 : Int), (4 : Int), o13.2.2.2.1, o13.2.2.2.2.1, o13.2.2.2.2.2.1, ())
    else
    bif o13.1.1 == (1 : Int) then
     let y17 := (o13.2.2.2.1.length : Int) == (200 : Int)
     bif y17 then
      some ((0 : Int), (6 : Int), o13.2.2.2.1, o13.2.2.2.2.1, o13.2.2.2.2.2.1, ())
     else
     bif decide ((o13.2.2.2.2.1.getD o13.2.1.toNat ([] : (List Int))).length + [(o13.2.2.2.1.length : Int)].length ≤ lim) then
     let y18 := (o13.2.2.2.2.1.getD o13.2.1.toNat ([] : (List Int))) ++ [(o13.2.2.2.1.length : Int)]
     bif decide (o13.2.1.toNat = o13.2.1.toNat) then
     (Finone N (o13.1.2.2.2.2.2.2.1.1, ())).bind fun r19 =>
     bif decide (0 ≤ o13.1.2.2.2.2.2.2.1.2.1) then
     bif decide (o13.1.2.2.2.2.2.2.1.2.1.toNat ≤ lim) then
     let y20 := List.replicate o13.1.2.2.2.2.2.2.1.2.1.toNat (0 : Int)
     bif decide (o13.2.2.2.1.length + [(r19.1, y20, ())].length ≤ lim) then
     some ((0 : Int), (0 : Int), o13.2.2.2.1 ++ [(r19.1, y20, ())], o13.2.2.2.2.1.set o13.2.1.toNat y18, o13.2.2.2.2.2.1, ())
     else none
     else none
     else none
     else none
     else none
    else
    bif o13.1.1 == (2 : Int) then
     bif decide (0 ≤ o13.1.2.2.2.2.1) then
     bif decide (o13.1.2.2.2.2.1.toNat < ((o13.2.2.2.1.getD o13.2.2.1.toNat (([] : (List Int)), ([] : (List Int)), ())).1).length) then
     let y21 := ((o13.2.2.2.1.getD o13.2.2.1.toNat (([] : (List Int)), ([] : (List Int)), ())).1).getD o13.1.2.2.2.2.1.toNat (0 : Int)
     bif decide ((o13.2.2.2.2.1.getD o13.2.1.toNat ([] : (List Int))).length + [y21].length ≤ lim) then
     let y22 := (o13.2.2.2.2.1.getD o13.2.1.toNat ([] : (List Int))) ++ [y21]
     bif decide (o13.2.1.toNat = o13.2.1.toNat) then
     some ((0 : Int), (0 : Int), o13.2.2.2.1, o13.2.2.2.2.1.set o13.2.1.toNat y22, o13.2.2.2.2.2.1, ())
     else none
     else none
     else none
     else none
    else
    bif o13.1.1 == (3 : Int) then
     bif decide (0 ≤ o13.1.2.2.1) then
     bif decide (o13.1.2.2.1.toNat < (o13.2.2.2.2.1.getD o13.2.1.toNat ([] : (List Int))).length) then
     let y23 := (o13.2.2.2.2.1.getD o13.2.1.toNat ([] : (List Int))).getD o13.1.2.2.1.toNat (0 : Int)
     bif decide (0 ≤ o13.1.2.2.2.2.1) then
     bif decide (o13.1.2.2.2.2.1.toNat < ((o13.2.2.2.1.getD o13.2.2.1.toNat (([] : (List Int)), ([] : (List Int)), ())).1).length) then
     let y24 := o13.2.2.2.1.set o13.2.2.1.toNat (((o13.2.2.2.1.getD o13.2.2.1.toNat (([] : (List Int)), ([] : (List Int)), ())).1).set o13.1.2.2.2.2.1.toNat y23, (o13.2.2.2.1.getD o13.2.2.1.toNat (([] : (List Int)), ([] : (List Int)), ())).2)
     some ((0 : Int), (0 : Int), y24, o13.2.2.2.2.1, o13.2.2.2.2.2.1, ())
     else none
     else none
     else none
     else none
    else
    bif o13.1.1 == (4 : Int) then
     bif decide (0 ≤ o13.1.2.2.2.2.1) then
     bif decide (o13.1.2.2.2.2.1.toNat < (((o13.2.2.2.1.getD o13.2.2.1.toNat (([] : (List Int)), ([] : (List Int)), ())).2).1).length) then
     let y25 := o13.2.2.2.1.set o13.2.2.1.toNat ((o13.2.2.2.1.getD o13.2.2.1.toNat (([] : (List Int)), ([] : (List Int)), ())).1, (((o13.2.2.2.1.getD o13.2.2.1.toNat (([] : (List Int)), ([] : (List Int)), ())).2).1).set o13.1.2.2.2.2.1.toNat o13.1.2.2.2.2.2.1, ((o13.2.2.2.1.getD o13.2.2.1.toNat (([] : (List Int)), ([] : (List Int)), ())).2).2)
     some ((0 : Int), (0 : Int), y25, o13.2.2.2.2.1, o13.2.2.2.2.2.1, ())
     else none
     else none
    else
    bif o13.1.1 == (5 : Int) then
     bif decide (0 ≤ o13.1.2.2.2.2.1) then
     bif decide (o13.1.2.2.2.2.1.toNat < (((o13.2.2.2.1.getD o13.2.2.1.toNat (([] : (List Int)), ([] : (List Int)), ())).2).1).length) then
     let y26 := (((o13.2.2.2.1.getD o13.2.2.1.toNat (([] : (List Int)), ([] : (List Int)), ())).2).1).getD o13.1.2.2.2.2.1.toNat (0 : Int)
     some (y26, (0 : Int), o13.2.2.2.1, o13.2.2.2.2.1, o13.2.2.2.2.2.1, ())
     else none
     else none
    else
    bif o13.1.1 == (6 : Int) then
     bif decide (0 ≤ o13.1.2.2.1) then
     bif decide (o13.1.2.2.1.toNat < (o13.2.2.2.2.1.getD o13.2.1.toNat ([] : (List Int))).length) then
     let y27 := (o13.2.2.2.2.1.getD o13.2.1.toNat ([] : (List Int))).getD o13.1.2.2.1.toNat (0 : Int)
     (Fitruth N (o13.2.2.1 == y27, ())).bind fun r28 =>
     some (r28.1, (0 : Int), o13.2.2.2.1, o13.2.2.2.2.1, o13.2.2.2.2.2.1, ())
     else none
     else none
    else
    bif o13.1.1 == (7 : Int) then
     bif decide (0 ≤ o13.1.2.2.2.2.1) then
     bif decide (o13.1.2.2.2.2.1.toNat < ((o13.2.2.2.1.getD o13.2.2.1.toNat (([] : (List Int)), ([] : (List Int)), ())).1).length) then
     let y29 := ((o13.2.2.2.1.getD o13.2.2.1.toNat (([] : (List Int)), ([] : (List Int)), ())).1).getD o13.1.2.2.2.2.1.toNat (0 : Int)
     bif decide (0 ≤ o13.1.2.2.1) then
     bif decide (o13.1.2.2.1.toNat < (o13.2.2.2.2.1.getD o13.2.1.toNat ([] : (List Int))).length) then
     let y30 := (o13.2.2.2.2.1.getD o13.2.1.toNat ([] : (List Int))).getD o13.1.2.2.1.toNat (0 : Int)
     bif y29 != y30 then
      some ((0 : Int), (0 : Int), o13.2.2.2.1, o13.2.2.2.2.1, o13.2.2.2.2.2.1, ())
     else
     bif decide (0 ≤ o13.1.2.2.2.1) then
     bif decide (o13.1.2.2.2.1.toNat < (o13.2.2.2.2.1.getD o13.2.1.toNat ([] : (List Int))).length) then
     let y31 := (o13.2.2.2.2.1.getD o13.2.1.toNat ([] : (List Int))).getD o13.1.2.2.2.1.toNat (0 : Int)
     bif decide (0 ≤ o13.1.2.2.2.2.1) then
     bif decide (o13.1.2.2.2.2.1.toNat < ((o13.2.2.2.1.getD o13.2.2.1.toNat (([] : (List Int)), ([] : (List Int)), ())).1).length) then
     let y32 := o13.2.2.2.1.set o13.2.2.1.toNat (((o13.2.2.2.1.getD o13.2.2.1.toNat (([] : (List Int)), ([] : (List Int)), ())).1).set o13.1.2.2.2.2.1.toNat y31, (o13.2.2.2.1.getD o13.2.2.1.toNat (([] : (List Int)), ([] : (List Int)), ())).2)
     some ((1 : Int), (0 : Int), y32, o13.2.2.2.2.1, o13.2.2.2.2.2.1, ())
     else none
     else none
     else none
     else none
     else none
     else none
     else none
     else none
    else
    bif o13.1.1 == (8 : Int) then
     let y33 := ((o13.2.2.2.2.1.getD o13.2.1.toNat ([] : (List Int))).length : Int)
     bif decide (0 ≤ (w64 (y33 - (1 : Int)))) then
     bif decide ((w64 (y33 - (1 : Int))) ≤ ((o13.2.2.2.2.1.getD o13.2.1.toNat ([] : (List Int))).length : Int)) then
     bif decide (0 ≤ (0 : Int)) then
     bif decide ((0 : Int) ≤ (w64 (y33 - (1 : Int)))) then
     bif decide (o13.2.1.toNat = o13.2.1.toNat) then
     let y34 := o13.2.2.2.2.1.set o13.2.1.toNat ((o13.2.2.2.2.1.getD o13.2.1.toNat ([] : (List Int))).take ((w64 (y33 - (1 : Int))).toNat))
     some ((0 : Int), (0 : Int), o13.2.2.2.1, y34, o13.2.2.2.2.2.1, ())
     else none
     else none
     else none
     else none
     else none
    else
    bif o13.1.1 == (9 : Int) then
     bif decide ((o13.2.2.2.2.1.getD o13.2.1.toNat ([] : (List Int))).length + [o13.2.2.1].length ≤ lim) then
     let y35 := (o13.2.2.2.2.1.getD o13.2.1.toNat ([] : (List Int))) ++ [o13.2.2.1]
     bif decide (o13.2.1.toNat = o13.2.1.toNat) then
     some ((0 : Int), (0 : Int), o13.2.2.2.1, o13.2.2.2.2.1.set o13.2.1.toNat y35, o13.2.2.2.2.2.1, ())
     else none
     else none
    else
    bif o13.1.1 == (10 : Int) then
     let y36 := (o13.2.2.2.2.2.1.length : Int) == (8 : Int)
     bif y36 then
      some ((0 : Int), (7 : Int), o13.2.2.2.1, o13.2.2.2.2.1, o13.2.2.2.2.2.1, ())
     else
     bif decide (o13.2.2.2.2.2.1.length + [o13.2.2.1].length ≤ lim) then
     some ((0 : Int), (0 : Int), o13.2.2.2.1, o13.2.2.2.2.1, o13.2.2.2.2.2.1 ++ [o13.2.2.1], ())
     else none
    else
    bif o13.1.1 == (11 : Int) then
     (FilastOf N (o13.2.2.2.2.2.1, o13.2.2.1, ())).bind fun r37 =>
     bif decide (r37.1 < (0 : Int)) then
      some ((0 : Int), (7 : Int), o13.2.2.2.1, o13.2.2.2.2.1, o13.2.2.2.2.2.1, ())
     else
     (FkDelete_Sint_int N (r37.1, w64 (r37.1 + (1 : Int)), o13.2.2.2.2.2.1, ())).bind fun r38 =>
     some ((0 : Int), (0 : Int), o13.2.2.2.1, o13.2.2.2.2.1, r38.1, ())
    else
    some ((0 : Int), (0 : Int), o13.2.2.2.1, o13.2.2.2.2.1, o13.2.2.2.2.2.1, ())
    else none
    else none
   else
   bif o13.1.1 == (1 : Int) then
    let y39 := (o13.2.2.2.1.length : Int) == (200 : Int)
    bif y39 then
     some ((0 : Int), (6 : Int), o13.2.2.2.1, o13.2.2.2.2.1, o13.2.2.2.2.2.1, ())
    else
    bif decide ((o13.2.2.2.2.1.getD o13.2.1.toNat ([] : (List Int))).length + [(o13.2.2.2.1.length : Int)].length ≤ lim) then
    let y40 := (o13.2.2.2.2.1.getD o13.2.1.toNat ([] : (List Int))) ++ [(o13.2.2.2.1.length : Int)]
    bif decide (o13.2.1.toNat = o13.2.1.toNat) then
    (Finone N (o13.1.2.2.2.2.2.2.1.1, ())).bind fun r41 =>
    bif decide (0 ≤ o13.1.2.2.2.2.2.2.1.2.1) then
    bif decide (o13.1.2.2.2.2.2.2.1.2.1.toNat ≤ lim) then
    let y42 := List.replicate o13.1.2.2.2.2.2.2.1.2.1.toNat (0 : Int)
    bif decide (o13.2.2.2.1.length + [(r41.1, y42, ())].length ≤ lim) then
    some ((0 : Int), (0 : Int), o13.2.2.2.1 ++ [(r41.1, y42, ())], o13.2.2.2.2.1.set o13.2.1.toNat y40, o13.2.2.2.2.2.1, ())
    else none
    else none
    else none
    else none
    else none
   else
   bif o13.1.1 == (2 : Int) then
    none
   else
   bif o13.1.1 == (3 : Int) then
    none
   else
   bif o13.1.1 == (4 : Int) then
    none
   else
   bif o13.1.1 == (5 : Int) then
    none
   else
   bif o13.1.1 == (6 : Int) then
    bif decide (0 ≤ o13.1.2.2.1) then
    bif decide (o13.1.2.2.1.toNat < (o13.2.2.2.2.1.getD o13.2.1.toNat ([] : (List Int))).length) then
    let y43 := (o13.2.2.2.2.1.getD o13.2.1.toNat ([] : (List Int))).getD o13.1.2.2.1.toNat (0 : Int)
    (Fitruth N (o13.2.2.1 == y43, ())).bind fun r44 =>
    some (r44.1, (0 : Int), o13.2.2.2.1, o13.2.2.2.2.1, o13.2.2.2.2.2.1, ())
    else none
    else none
   else
   bif o13.1.1 == (7 : Int) then
    none
   else
   bif o13.1.1 == (8 : Int) then
    let y45 := ((o13.2.2.2.2.1.getD o13.2.1.toNat ([] : (List Int))).length : Int)
    bif decide (0 ≤ (w64 (y45 - (1 : Int)))) then
    bif decide ((w64 (y45 - (1 : Int))) ≤ ((o13.2.2.2.2.1.getD o13.2.1.toNat ([] : (List Int))).length : Int)) then
    bif decide (0 ≤ (0 : Int)) then
    bif decide ((0 : Int) ≤ (w64 (y45 - (1 : Int)))) then
    bif decide (o13.2.1.toNat = o13.2.1.toNat) then
    let y46 := o13.2.2.2.2.1.set o13.2.1.toNat ((o13.2.2.2.2.1.getD o13.2.1.toNat ([] : (List Int))).take ((w64 (y45 - (1 : Int))).toNat))
    some ((0 : Int), (0 : Int), o13.2.2.2.1, y46, o13.2.2.2.2.2.1, ())
    else none
    else none
    else none
    else none
    else none
   else
   bif o13.1.1 == (9 : Int) then
    bif decide ((o13.2.2.2.2.1.getD o13.2.1.toNat ([] : (List Int))).length + [o13.2.2.1].length ≤ lim) then
    let y47 := (o13.2.2.2.2.1.getD o13.2.1.toNat ([] : (List Int))) ++ [o13.2.2.1]
    bif decide (o13.2.1.toNat = o13.2.1.toNat) then
    some ((0 : Int), (0 : Int), o13.2.2.2.1, o13.2.2.2.2.1.set o13.2.1.toNat y47, o13.2.2.2.2.2.1, ())
    else none
    else none
   else
   bif o13.1.1 == (10 : Int) then
    let y48 := (o13.2.2.2.2.2.1.length : Int) == (8 : Int)
    bif y48 then
     some ((0 : Int), (7 : Int), o13.2.2.2.1, o13.2.2.2.2.1, o13.2.2.2.2.2.1, ())
    else
    bif decide (o13.2.2.2.2.2.1.length + [o13.2.2.1].length ≤ lim) then
    some ((0 : Int), (0 : Int), o13.2.2.2.1, o13.2.2.2.2.1, o13.2.2.2.2.2.1 ++ [o13.2.2.1], ())
    else none
   else
   bif o13.1.1 == (11 : Int) then
    (FilastOf N (o13.2.2.2.2.2.1, o13.2.2.1, ())).bind fun r49 =>
    bif decide (r49.1 < (0 : Int)) then
     some ((0 : Int), (7 : Int), o13.2.2.2.1, o13.2.2.2.2.1, o13.2.2.2.2.2.1, ())
    else
    (FkDelete_Sint_int N (r49.1, w64 (r49.1 + (1 : Int)), o13.2.2.2.2.2.1, ())).bind fun r50 =>
    some ((0 : Int), (0 : Int), o13.2.2.2.1, o13.2.2.2.2.1, r50.1, ())
   else
   some ((0 : Int), (0 : Int), o13.2.2.2.1, o13.2.2.2.2.1, o13.2.2.2.2.2.1, ())
   else none
   else none) (fun o51 =>
   some (o51.1, o51.2.1, o51.2.2.1, o51.2.2.2.1, o51.2.2.2.2.1, ())) o8
noncomputable def coniGraphDo (N : Nat) : Con := { f := 13, din := diniGraphDo, outs := outiGraphDo, F := FiGraphDo N }
noncomputable def XiGraphDo (N : Nat) : Ctx := { E := EiGraphDo N, H := HiGraphDo, lp := [], jn := [(3, jiGraphDo_3), (12, jiGraphDo_12)] }
theorem FiGraphDo_eq (N : Nat) (x : (((List ((List Int) × ((List Int) × Unit))) × ((List (List Int)) × ((List Int) × Unit))) × (Int × ((Int × (Int × (Int × (Int × (Int × (Int × ((Int × (Int × Unit)) × Unit))))))) × Unit)))) : evFn (XiGraphDo N) Try.f13 diniGraphDo outiGraphDo x = FiGraphDo N x := by kernel_rfl
theorem cxiGraphDo (N : Nat) : CtxOk Try.prog (XiGraphDo N) := ⟨⟨TE_ok, List.forall_mem_cons.2 ⟨speciGraphOk N, List.forall_mem_cons.2 ⟨speciOpOk N, List.forall_mem_cons.2 ⟨speciGraph_copy N, List.forall_mem_cons.2 ⟨speciOp_early N, List.forall_mem_cons.2 ⟨speciOp_field N, List.forall_mem_cons.2 ⟨specinone N, List.forall_mem_cons.2 ⟨specitruth N, List.forall_mem_cons.2 ⟨specilastOf N, List.forall_mem_cons.2 ⟨speckDelete_Sint_int N, fun k hk => absurd hk List.not_mem_nil⟩⟩⟩⟩⟩⟩⟩⟩⟩⟩, mixed⟩
theorem speciGraphDo (N : Nat) : Spec Try.prog (coniGraphDo N) :=
  Spec.of_eq (fn_spec (cxiGraphDo N) (f := 13) (fn := Try.f13) (c := codeOf Try.f13) (by kernel_rfl) (by kernel_rfl) (by kernel_rfl) (loops_at (ids := []) (by kernel_rfl) (trivial)) (by kernel_rfl)) (fun x r h => (FiGraphDo_eq N x).trans h)

/-! ### 29: impl.StoryPlain -/

noncomputable def diniStoryPlain : Desc := { n := 3, regs := [.one (.val (.pair (.int .i64) (.pair (.int .i64) (.pair (.int .i64) .unit)))), .one (.val (.sl (.sl (.pair (.int .i64) (.pair (.int .i64) (.pair (.int .i64) (.pair (.int .i64) (.pair (.int .i64) (.pair (.int .i64) (.pair (.pair (.int .i64) (.pair (.int .i64) .unit)) .unit)))))))))), .one (.val (.sl (.pair (.int .i64) (.pair (.int .i64) (.pair (.int .i64) (.pair (.int .i64) .unit))))))], bx := [], pins := [] }
noncomputable def outiStoryPlain : Outs := [(.ret, { n := 3, regs := [.agg [.lit (.row 1038529), .lit (.row 1038530), .lit (.row 1038659)], .one (.lit (.row 1051200)), .one (.val .bool)], bx := [(1038529, .row (.pair (.sl (.int .i64)) (.pair (.sl (.int .i64)) .unit))), (1038530, .row (.sl (.int .i64))), (1038659, .row (.int .i64)), (1051200, .row (.pair (.int .i64) (.pair (.int .i64) (.pair (.int .i64) (.pair (.int .i64) .unit)))))], pins := [] })]
noncomputable def HiStoryPlain : Hints := [(0, [(0, { fz := true })]),
  (2, [(0, { nl := [(0, (.pair (.sl (.int .i64)) (.pair (.sl (.int .i64)) .unit))), (1, (.sl (.int .i64))), (2, (.int .i64))] }), (2, { nl := [(0, (.pair (.int .i64) (.pair (.int .i64) (.pair (.int .i64) (.pair (.int .i64) .unit)))))] })]),
  (3, [(2, { con := 1 }), (4, { nl := [(2, (.int .i64))] })]),
  (4, [(0, { nl := [(0, (.pair (.int .i64) (.pair (.int .i64) (.pair (.int .i64) (.pair (.int .i64) .unit)))))] })]),
  (9, [(0, { nl := [(0, (.pair (.sl (.int .i64)) (.pair (.sl (.int .i64)) .unit))), (1, (.sl (.int .i64))), (2, (.int .i64))] }), (2, { nl := [(0, (.pair (.int .i64) (.pair (.int .i64) (.pair (.int .i64) (.pair (.int .i64) .unit)))))] })]),
  (13, [(12, { con := 2 })])]
noncomputable def EiStoryPlain (N : Nat) : Env := { te := TE, cs := [coniprogsOk N, coniGraphNew N, coniGraphDo N] }
noncomputable def diStoryPlain_0 : Desc := { n := 107, regs := [u, .one (.val (.sl (.sl (.pair (.int .i64) (.pair (.int .i64) (.pair (.int .i64) (.pair (.int .i64) (.pair (.int .i64) (.pair (.int .i64) (.pair (.pair (.int .i64) (.pair (.int .i64) .unit)) .unit)))))))))), u, .one (.fpt (.pair (.int .i64) (.pair (.int .i64) (.pair (.int .i64) .unit)))), u, u, .one (.lit (.ptr 1000064 0)), u, u, .one (.lit (.ptr 1038784 0)), u, .one (.lit (.row 1051200)), u, u, u, u, u, u, u, u, u, u, u, u, u, u, u, u, u, u, u, u, u, .one (.val (.sl (.pair (.int .i64) (.pair (.int .i64) (.pair (.int .i64) (.pair (.int .i64) .unit)))))), .one (.val (.int .i64)), .one (.val (.int .i64))], bx := [(1000064, .var [.lit .nil, .lit .nil, .lit .nil]), (1038784, .var [.lit (.row 1038529), .lit (.row 1038530), .lit (.row 1038659)]), (1038529, .row (.pair (.sl (.int .i64)) (.pair (.sl (.int .i64)) .unit))), (1038530, .row (.sl (.int .i64))), (1038659, .row (.int .i64)), (1051200, .row (.pair (.int .i64) (.pair (.int .i64) (.pair (.int .i64) (.pair (.int .i64) .unit)))))], pins := [] }
noncomputable def oiStoryPlain_0 : Outs := [(.exit 0, { n := 107, regs := [u, u, u, u, u, u, .one (.lit (.ptr 1000064 0)), u, u, .one (.lit (.ptr 1038784 0)), u, .one (.lit (.row 1051200))], bx := [(1000064, .var [.lit .nil, .lit .nil, .lit .nil]), (1038784, .var [.lit (.row 1038529), .lit (.row 1038530), .lit (.row 1038659)]), (1038529, .row (.pair (.sl (.int .i64)) (.pair (.sl (.int .i64)) .unit))), (1038530, .row (.sl (.int .i64))), (1038659, .row (.int .i64)), (1051200, .row (.pair (.int .i64) (.pair (.int .i64) (.pair (.int .i64) (.pair (.int .i64) .unit)))))], pins := [] }), (.ret, { n := 107, regs := [u, u, u, u, u, u, .one (.lit (.ptr 1000064 0)), .one (.lit (.row 1115328)), .one (.val .bool)], bx := [(1000064, .var [.lit (.row 1115201), .lit (.row 1115202), .lit (.row 1115203)]), (1115201, .row (.pair (.sl (.int .i64)) (.pair (.sl (.int .i64)) .unit))), (1115202, .row (.sl (.int .i64))), (1115203, .row (.int .i64)), (1115328, .row (.pair (.int .i64) (.pair (.int .i64) (.pair (.int .i64) (.pair (.int .i64) .unit)))))], pins := [] })]
noncomputable def jiStoryPlain_3 : Outs := [(.normal, { n := 107, regs := [u, .one (.val (.sl (.sl (.pair (.int .i64) (.pair (.int .i64) (.pair (.int .i64) (.pair (.int .i64) (.pair (.int .i64) (.pair (.int .i64) (.pair (.pair (.int .i64) (.pair (.int .i64) .unit)) .unit)))))))))), .one (.val (.sl (.pair (.int .i64) (.pair (.int .i64) (.pair (.int .i64) (.pair (.int .i64) .unit)))))), .one (.fpt (.pair (.int .i64) (.pair (.int .i64) (.pair (.int .i64) .unit)))), u, u, .one (.lit (.ptr 1000064 0))], bx := [(1000064, .var [.lit .nil, .lit .nil, .lit .nil])], pins := [] }), (.ret, { n := 107, regs := [u, u, u, u, u, u, .one (.lit (.ptr 1000064 0)), .one (.lit (.row 1025728)), .one (.val .bool)], bx := [(1000064, .var [.lit (.row 1025601), .lit (.row 1025602), .lit (.row 1025603)]), (1025601, .row (.pair (.sl (.int .i64)) (.pair (.sl (.int .i64)) .unit))), (1025602, .row (.sl (.int .i64))), (1025603, .row (.int .i64)), (1025728, .row (.pair (.int .i64) (.pair (.int .i64) (.pair (.int .i64) (.pair (.int .i64) .unit)))))], pins := [] })]
noncomputable def jiStoryPlain_10 : Outs := [(.normal, { n := 107, regs := [u, .one (.val (.sl (.sl (.pair (.int .i64) (.pair (.int .i64) (.pair (.int .i64) (.pair (.int .i64) (.pair (.int .i64) (.pair (.int .i64) (.pair (.pair (.int .i64) (.pair (.int .i64) .unit)) .unit)))))))))), u, .one (.fpt (.pair (.int .i64) (.pair (.int .i64) (.pair (.int .i64) .unit)))), u, u, .one (.lit (.ptr 1000064 0)), u, u, .one (.lit (.ptr 1038784 0)), u, .one (.lit (.row 1051200)), u, .one (.lit (.ptr 1089728 0)), u, u, u, u, u, u, u, u, u, u, u, u, u, u, u, u, u, u, u, .one (.val (.sl (.pair (.int .i64) (.pair (.int .i64) (.pair (.int .i64) (.pair (.int .i64) .unit)))))), .one (.val (.int .i64)), .one (.val (.int .i64)), u, u, u, u, u, u, u, .one (.lit (.ptr 1089728 0)), .one (.val (.int .i64)), .one (.fpt (.int .i64)), .one (.val (.int .i64)), .one (.val .bool), u, u, .one (.lit (.ptr 1089728 1)), .one (.val (.int .i64)), .one (.val .bool), u, u, .one (.lit (.ptr 1089728 1)), .one (.val (.int .i64)), .one (.val (.sl (.sl (.pair (.int .i64) (.pair (.int .i64) (.pair (.int .i64) (.pair (.int .i64) (.pair (.int .i64) (.pair (.int .i64) (.pair (.pair (.int .i64) (.pair (.int .i64) .unit)) .unit)))))))))), .one (.lit (.ptr 1089728 0)), .one (.val (.int .i64)), .one (.fpt (.sl (.pair (.int .i64) (.pair (.int .i64) (.pair (.int .i64) (.pair (.int .i64) (.pair (.int .i64) (.pair (.int .i64) (.pair (.pair (.int .i64) (.pair (.int .i64) .unit)) .unit))))))))), .one (.val (.sl (.pair (.int .i64) (.pair (.int .i64) (.pair (.int .i64) (.pair (.int .i64) (.pair (.int .i64) (.pair (.int .i64) (.pair (.pair (.int .i64) (.pair (.int .i64) .unit)) .unit))))))))), .one (.val (.int .i64)), .one (.val .bool)], bx := [(1000064, .var [.lit .nil, .lit .nil, .lit .nil]), (1038784, .var [.lit (.row 1038529), .lit (.row 1038530), .lit (.row 1038659)]), (1038529, .row (.pair (.sl (.int .i64)) (.pair (.sl (.int .i64)) .unit))), (1038530, .row (.sl (.int .i64))), (1038659, .row (.int .i64)), (1051200, .row (.pair (.int .i64) (.pair (.int .i64) (.pair (.int .i64) (.pair (.int .i64) .unit))))), (1089728, .var [.val (.int .i64), .val (.int .i64), .val (.int .i64), .val (.int .i64)])], pins := [] }), (.ret, { n := 107, regs := [u, u, u, u, u, u, .one (.lit (.ptr 1000064 0)), .one (.lit (.row 1115328)), .one (.val .bool)], bx := [(1000064, .var [.lit (.row 1115201), .lit (.row 1115202), .lit (.row 1115203)]), (1115201, .row (.pair (.sl (.int .i64)) (.pair (.sl (.int .i64)) .unit))), (1115202, .row (.sl (.int .i64))), (1115203, .row (.int .i64)), (1115328, .row (.pair (.int .i64) (.pair (.int .i64) (.pair (.int .i64) (.pair (.int .i64) .unit)))))], pins := [] })]
noncomputable def jiStoryPlain_16 : Outs := [(.normal, { n := 107, regs := [u, .one (.val (.sl (.sl (.pair (.int .i64) (.pair (.int .i64) (.pair (.int .i64) (.pair (.int .i64) (.pair (.int .i64) (.pair (.int .i64) (.pair (.pair (.int .i64) (.pair (.int .i64) .unit)) .unit)))))))))), u, .one (.fpt (.pair (.int .i64) (.pair (.int .i64) (.pair (.int .i64) .unit)))), u, u, .one (.lit (.ptr 1000064 0)), u, u, .one (.lit (.ptr 1038784 0)), u, .one (.lit (.row 1051200)), u, .one (.lit (.ptr 1089728 0)), u, .one (.val (.int .i64)), .one (.val (.int .i64)), u, u, u, u, u, u, u, u, u, u, u, u, u, u, u, u, .one (.val (.sl (.pair (.int .i64) (.pair (.int .i64) (.pair (.int .i64) (.pair (.int .i64) .unit)))))), .one (.val (.int .i64)), .one (.val (.int .i64)), u, u, u, u, u, u, u, .one (.lit (.ptr 1089728 0)), .one (.val (.int .i64)), .one (.fpt (.int .i64)), .one (.val (.int .i64)), .one (.val .bool), u, u, .one (.lit (.ptr 1089728 1)), .one (.val (.int .i64)), .one (.val .bool), u, u, .one (.lit (.ptr 1089728 1)), .one (.val (.int .i64)), .one (.val (.sl (.sl (.pair (.int .i64) (.pair (.int .i64) (.pair (.int .i64) (.pair (.int .i64) (.pair (.int .i64) (.pair (.int .i64) (.pair (.pair (.int .i64) (.pair (.int .i64) .unit)) .unit)))))))))), .one (.lit (.ptr 1089728 0)), .one (.val (.int .i64)), .one (.fpt (.sl (.pair (.int .i64) (.pair (.int .i64) (.pair (.int .i64) (.pair (.int .i64) (.pair (.int .i64) (.pair (.int .i64) (.pair (.pair (.int .i64) (.pair (.int .i64) .unit)) .unit))))))))), .one (.val (.sl (.pair (.int .i64) (.pair (.int .i64) (.pair (.int .i64) (.pair (.int .i64) (.pair (.int .i64) (.pair (.int .i64) (.pair (.pair (.int .i64) (.pair (.int .i64) .unit)) .unit))))))))), .one (.val (.int .i64)), .one (.val .bool)], bx := [(1000064, .var [.lit .nil, .lit .nil, .lit .nil]), (1038784, .var [.lit (.row 1167169), .lit (.row 1167170), .lit (.row 1167171)]), (1167169, .row (.pair (.sl (.int .i64)) (.pair (.sl (.int .i64)) .unit))), (1167170, .row (.sl (.int .i64))), (1167171, .row (.int .i64)), (1051200, .row (.pair (.int .i64) (.pair (.int .i64) (.pair (.int .i64) (.pair (.int .i64) .unit))))), (1089728, .var [.val (.int .i64), .val (.int .i64), .val (.int .i64), .val (.int .i64)])], pins := [] })]
noncomputable def liStoryPlain_0 (N : Nat) : Nat → ((List (List (Int × (Int × (Int × (Int × (Int × (Int × ((Int × (Int × Unit)) × Unit))))))))) × ((Int × (Int × (Int × Unit))) × ((List (Int × (Int × (Int × (Int × Unit))))) × (Int × (Int × ((List ((List Int) × ((List Int) × Unit))) × ((List (List Int)) × ((List Int) × ((List (Int × (Int × (Int × (Int × Unit))))) × Unit))))))))) → Option (((List ((List Int) × ((List Int) × Unit))) × ((List (List Int)) × ((List Int) × ((List (Int × (Int × (Int × (Int × Unit))))) × Unit)))) ⊕ (Bool × ((List ((List Int) × ((List Int) × Unit))) × ((List (List Int)) × ((List Int) × ((List (Int × (Int × (Int × (Int × Unit))))) × Unit))))))
  | 0, _ => none
  | n + 1, v =>
    bif decide (v.2.2.2.2.1 < v.2.2.2.1) then
     bif decide (0 ≤ v.2.2.2.2.1) then
     bif decide (v.2.2.2.2.1.toNat < v.2.2.1.length) then
     let y11 := v.2.2.1.getD v.2.2.2.2.1.toNat ((0 : Int), (0 : Int), (0 : Int), (0 : Int), ())
     Option.bind (
      bif decide (y11.1 < (0 : Int)) then
       let y12 := ([] : (List ((List Int) × ((List Int) × Unit))))
       let y13 := ([] : (List (Int × (Int × (Int × (Int × Unit))))))
       some (.inr ((false, y12, ([] : (List (List Int))), ([] : (List Int)), y13, ())))
      else
      bif decide (y11.1 ≥ v.2.1.2.1) then
       let y14 := ([] : (List ((List Int) × ((List Int) × Unit))))
       let y15 := ([] : (List (Int × (Int × (Int × (Int × Unit))))))
       some (.inr ((false, y14, ([] : (List (List Int))), ([] : (List Int)), y15, ())))
      else
      bif decide (y11.2.1 < (0 : Int)) then
       let y16 := ([] : (List ((List Int) × ((List Int) × Unit))))
       let y17 := ([] : (List (Int × (Int × (Int × (Int × Unit))))))
       some (.inr ((false, y16, ([] : (List (List Int))), ([] : (List Int)), y17, ())))
      else
      bif decide (0 ≤ y11.1) then
      bif decide (y11.1.toNat < v.1.length) then
      let y18 := v.1.getD y11.1.toNat ([] : (List (Int × (Int × (Int × (Int × (Int × (Int × ((Int × (Int × Unit)) × Unit)))))))))
      let y19 := decide (y11.2.1 ≥ (y18.length : Int))
      bif y19 then
       let y20 := ([] : (List ((List Int) × ((List Int) × Unit))))
       let y21 := ([] : (List (Int × (Int × (Int × (Int × Unit))))))
       some (.inr ((false, y20, ([] : (List (List Int))), ([] : (List Int)), y21, ())))
      else
      some (.inl (v.1, v.2.1, v.2.2.1, v.2.2.2.1, v.2.2.2.2.1, y11.1, v.2.1.2.1, v.2.1.2.1, decide (y11.1 ≥ v.2.1.2.1), y11.2.1, decide (y11.2.1 < (0 : Int)), y11.2.1, v.1, y11.1, y18, y18, (y18.length : Int), y19, v.2.2.2.2.2.1, v.2.2.2.2.2.2.1, v.2.2.2.2.2.2.2.1, v.2.2.2.2.2.2.2.2.1, y11.1, y11.2.1, y11.2.2.1, y11.2.2.2.1, ()))
      else none
      else none) fun o22 =>
     Sum.elim (fun o23 =>
      let y24 := o23.2.2.2.2.2.2.2.2.2.2.2.2.2.2.2.2.2.2.2.2.2.2.2.2.2.1
      bif y24 == (6 : Int) then
       let y25 := o23.2.2.2.2.2.2.2.2.2.2.2.2.2.2.2.2.2.2.2.2.2.2.1
       let y26 := o23.2.2.2.2.2.2.2.2.2.2.2.2.2.2.2.2.2.2.2.2.2.2.2.1
       let y27 := o23.2.2.2.2.2.2.2.2.2.2.2.2.2.2.2.2.2.2.2.2.2.2.2.2.2.1
       bif decide (o23.2.2.2.2.2.2.2.2.2.2.2.2.2.2.2.2.2.2.2.2.2.1.length + [(y25, y26, (0 : Int), y27, ())].length ≤ lim) then
       let y28 := o23.2.2.2.2.2.2.2.2.2.2.2.2.2.2.2.2.2.2.2.2.2.1 ++ [(y25, y26, (0 : Int), y27, ())]
       liStoryPlain_0 N n (o23.1, o23.2.1, o23.2.2.1, o23.2.2.2.1, w64 (o23.2.2.2.2.1 + (1 : Int)), o23.2.2.2.2.2.2.2.2.2.2.2.2.2.2.2.2.2.2.1, o23.2.2.2.2.2.2.2.2.2.2.2.2.2.2.2.2.2.2.2.1, o23.2.2.2.2.2.2.2.2.2.2.2.2.2.2.2.2.2.2.2.2.1, y28, ())
       else none
      else
      let y29 := o23.2.2.2.2.2.2.2.2.2.2.2.2.2.2.2.2.2.2.2.2.2.2.1
      let y30 := o23.2.2.2.2.2.2.2.2.2.2.2.2.2.2.2.2.2.2.2.2.2.2.1
      bif decide (0 ≤ y30) then
      bif decide (y30.toNat < o23.1.length) then
      let y31 := o23.1.getD y30.toNat ([] : (List (Int × (Int × (Int × (Int × (Int × (Int × ((Int × (Int × Unit)) × Unit)))))))))
      let y32 := o23.2.2.2.2.2.2.2.2.2.2.2.2.2.2.2.2.2.2.2.2.2.2.2.1
      bif decide (0 ≤ y32) then
      bif decide (y32.toNat < y31.length) then
      let y33 := y31.getD y32.toNat ((0 : Int), (0 : Int), (0 : Int), (0 : Int), (0 : Int), (0 : Int), ((0 : Int), (0 : Int), ()), ())
      (FiGraphDo N ((o23.2.2.2.2.2.2.2.2.2.2.2.2.2.2.2.2.2.2.1, o23.2.2.2.2.2.2.2.2.2.2.2.2.2.2.2.2.2.2.2.1, o23.2.2.2.2.2.2.2.2.2.2.2.2.2.2.2.2.2.2.2.2.1, ()), y29, y33, ())).bind fun r34 =>
      Option.bind (
       bif r34.2.1 != (1 : Int) then
        some (o23.1, o23.2.1, r34.1, r34.2.1, o23.2.2.1, o23.2.2.2.1, o23.2.2.2.2.1, o23.2.2.2.2.2.1, o23.2.2.2.2.2.2.1, o23.2.2.2.2.2.2.2.1, o23.2.2.2.2.2.2.2.2.1, o23.2.2.2.2.2.2.2.2.2.1, o23.2.2.2.2.2.2.2.2.2.2.1, o23.2.2.2.2.2.2.2.2.2.2.2.1, o23.2.2.2.2.2.2.2.2.2.2.2.2.1, o23.2.2.2.2.2.2.2.2.2.2.2.2.2.1, o23.2.2.2.2.2.2.2.2.2.2.2.2.2.2.1, o23.2.2.2.2.2.2.2.2.2.2.2.2.2.2.2.1, o23.2.2.2.2.2.2.2.2.2.2.2.2.2.2.2.2.1, o23.2.2.2.2.2.2.2.2.2.2.2.2.2.2.2.2.2.1, r34.2.2.1, r34.2.2.2.1, r34.2.2.2.2.1, o23.2.2.2.2.2.2.2.2.2.2.2.2.2.2.2.2.2.2.2.2.2.1, o23.2.2.2.2.2.2.2.2.2.2.2.2.2.2.2.2.2.2.2.2.2.2.1, o23.2.2.2.2.2.2.2.2.2.2.2.2.2.2.2.2.2.2.2.2.2.2.2.1, o23.2.2.2.2.2.2.2.2.2.2.2.2.2.2.2.2.2.2.2.2.2.2.2.2.1, o23.2.2.2.2.2.2.2.2.2.2.2.2.2.2.2.2.2.2.2.2.2.2.2.2.2.1, ())
       else
       some (o23.1, o23.2.1, r34.1, r34.2.1, o23.2.2.1, o23.2.2.2.1, o23.2.2.2.2.1, o23.2.2.2.2.2.1, o23.2.2.2.2.2.2.1, o23.2.2.2.2.2.2.2.1, o23.2.2.2.2.2.2.2.2.1, o23.2.2.2.2.2.2.2.2.2.1, o23.2.2.2.2.2.2.2.2.2.2.1, o23.2.2.2.2.2.2.2.2.2.2.2.1, o23.2.2.2.2.2.2.2.2.2.2.2.2.1, o23.2.2.2.2.2.2.2.2.2.2.2.2.2.1, o23.2.2.2.2.2.2.2.2.2.2.2.2.2.2.1, o23.2.2.2.2.2.2.2.2.2.2.2.2.2.2.2.1, o23.2.2.2.2.2.2.2.2.2.2.2.2.2.2.2.2.1, o23.2.2.2.2.2.2.2.2.2.2.2.2.2.2.2.2.2.1, o23.2.2.2.2.2.2.2.2.2.2.2.2.2.2.2.2.2.2.1, o23.2.2.2.2.2.2.2.2.2.2.2.2.2.2.2.2.2.2.2.1, o23.2.2.2.2.2.2.2.2.2.2.2.2.2.2.2.2.2.2.2.2.1, o23.2.2.2.2.2.2.2.2.2.2.2.2.2.2.2.2.2.2.2.2.2.1, o23.2.2.2.2.2.2.2.2.2.2.2.2.2.2.2.2.2.2.2.2.2.2.1, o23.2.2.2.2.2.2.2.2.2.2.2.2.2.2.2.2.2.2.2.2.2.2.2.1, o23.2.2.2.2.2.2.2.2.2.2.2.2.2.2.2.2.2.2.2.2.2.2.2.2.1, o23.2.2.2.2.2.2.2.2.2.2.2.2.2.2.2.2.2.2.2.2.2.2.2.2.2.1, ())) fun o35 =>
      let y36 := o35.2.2.2.2.2.2.2.2.2.2.2.2.2.2.2.2.2.2.2.2.2.2.2.2.1
      let y37 := o35.2.2.2.2.2.2.2.2.2.2.2.2.2.2.2.2.2.2.2.2.2.2.2.2.2.1
      let y38 := [(y36, y37, o35.2.2.1, o35.2.2.2.1, ())]
      bif decide (o35.2.2.2.2.2.2.2.2.2.2.2.2.2.2.2.2.2.2.2.2.2.2.2.1.length + y38.length ≤ lim) then
      let y39 := o35.2.2.2.2.2.2.2.2.2.2.2.2.2.2.2.2.2.2.2.2.2.2.2.1 ++ y38
      liStoryPlain_0 N n (o35.1, o35.2.1, o35.2.2.2.2.1, o35.2.2.2.2.2.1, w64 (o35.2.2.2.2.2.2.1 + (1 : Int)), o35.2.2.2.2.2.2.2.2.2.2.2.2.2.2.2.2.2.2.2.2.1, o35.2.2.2.2.2.2.2.2.2.2.2.2.2.2.2.2.2.2.2.2.2.1, o35.2.2.2.2.2.2.2.2.2.2.2.2.2.2.2.2.2.2.2.2.2.2.1, y39, ())
      else none
      else none
      else none
      else none
      else none) (fun o40 =>
      some (.inr ((o40.1, o40.2.1, o40.2.2.1, o40.2.2.2.1, o40.2.2.2.2.1, ())))) o22
     else none
     else none
    else
    some (.inl (v.2.2.2.2.2.1, v.2.2.2.2.2.2.1, v.2.2.2.2.2.2.2.1, v.2.2.2.2.2.2.2.2.1, ()))
noncomputable def FiStoryPlain (N : Nat) (x : ((Int × (Int × (Int × Unit))) × ((List (List (Int × (Int × (Int × (Int × (Int × (Int × ((Int × (Int × Unit)) × Unit))))))))) × ((List (Int × (Int × (Int × (Int × Unit))))) × Unit)))) : Option (Bool × ((List ((List Int) × ((List Int) × Unit))) × ((List (List Int)) × ((List Int) × ((List (Int × (Int × (Int × (Int × Unit))))) × Unit))))) :=
  Option.bind (
   (FiprogsOk N (x.1, x.2.1, ())).bind fun r1 =>
   bif !r1.1 then
    let y2 := ([] : (List ((List Int) × ((List Int) × Unit))))
    let y3 := ([] : (List (Int × (Int × (Int × (Int × Unit))))))
    some (.inr ((false, y2, ([] : (List (List Int))), ([] : (List Int)), y3, ())))
   else
   let y4 := decide ((x.2.2.1.length : Int) > (120 : Int))
   bif y4 then
    let y5 := ([] : (List ((List Int) × ((List Int) × Unit))))
    let y6 := ([] : (List (Int × (Int × (Int × (Int × Unit))))))
    some (.inr ((false, y5, ([] : (List (List Int))), ([] : (List Int)), y6, ())))
   else
   some (.inl (x.2.1, x.2.2.1, x.1, ()))) fun o7 =>
  Sum.elim (fun o8 =>
   (FiGraphNew N (o8.2.2.1.2.1, ())).bind fun r9 =>
   let y10 := ([] : (List (Int × (Int × (Int × (Int × Unit))))))
   (liStoryPlain_0 N N (o8.1, o8.2.2.1, o8.2.1, (o8.2.1.length : Int), (0 : Int), r9.2.1, r9.2.2.1, ([] : (List Int)), y10, ())).bind fun o41 =>
   Sum.elim (fun o42 =>
    some (true, o42.1, o42.2.1, o42.2.2.1, o42.2.2.2.1, ())) (fun o43 =>
    some (o43.1, o43.2.1, o43.2.2.1, o43.2.2.2.1, o43.2.2.2.2.1, ())) o41) (fun o44 =>
   some (o44.1, o44.2.1, o44.2.2.1, o44.2.2.2.1, o44.2.2.2.2.1, ())) o7
noncomputable def coniStoryPlain (N : Nat) : Con := { f := 29, din := diniStoryPlain, outs := outiStoryPlain, F := FiStoryPlain N }
noncomputable def XiStoryPlain (N : Nat) : Ctx := { E := EiStoryPlain N, H := HiStoryPlain, lp := [(0, { hd := diStoryPlain_0, outs := oiStoryPlain_0, run := fun v => liStoryPlain_0 N N v })], jn := [(3, jiStoryPlain_3), (10, jiStoryPlain_10), (16, jiStoryPlain_16)] }
noncomputable def biStoryPlain_0 : Code := loopBody (codeOf Try.f29) 0
theorem FiStoryPlain_eq (N : Nat) (x : ((Int × (Int × (Int × Unit))) × ((List (List (Int × (Int × (Int × (Int × (Int × (Int × ((Int × (Int × Unit)) × Unit))))))))) × ((List (Int × (Int × (Int × (Int × Unit))))) × Unit)))) : evFn (XiStoryPlain N) Try.f29 diniStoryPlain outiStoryPlain x = FiStoryPlain N x := by kernel_rfl
theorem liStoryPlain_0_eq (N n : Nat) (v : ((List (List (Int × (Int × (Int × (Int × (Int × (Int × ((Int × (Int × Unit)) × Unit))))))))) × ((Int × (Int × (Int × Unit))) × ((List (Int × (Int × (Int × (Int × Unit))))) × (Int × (Int × ((List ((List Int) × ((List Int) × Unit))) × ((List (List Int)) × ((List Int) × ((List (Int × (Int × (Int × (Int × Unit))))) × Unit)))))))))) : liStoryPlain_0 N (n + 1) v = ev (XiStoryPlain N) biStoryPlain_0 (roundK diStoryPlain_0 oiStoryPlain_0 (liStoryPlain_0 N n)) (diStoryPlain_0.mk' v) := by kernel_rfl
theorem cxiStoryPlain (N : Nat) : CtxOk Try.prog (XiStoryPlain N) := ⟨⟨TE_ok, List.forall_mem_cons.2 ⟨speciprogsOk N, List.forall_mem_cons.2 ⟨speciGraphNew N, List.forall_mem_cons.2 ⟨speciGraphDo N, fun k hk => absurd hk List.not_mem_nil⟩⟩⟩⟩, mixed⟩
theorem lpiStoryPlain_0 (N : Nat) : LoopOk Try.prog { hd := diStoryPlain_0, outs := oiStoryPlain_0, run := fun v => liStoryPlain_0 N N v } biStoryPlain_0 :=
  loop_fuel (d := diStoryPlain_0) (os := oiStoryPlain_0) (cxiStoryPlain N) (loops_at (ids := []) (by kernel_rfl) (trivial)) (liStoryPlain_0 N) (fun _ => rfl) (fun n v => liStoryPlain_0_eq N n v) (fun _ => N)
theorem speciStoryPlain (N : Nat) : Spec Try.prog (coniStoryPlain N) :=
  Spec.of_eq (fn_spec (cxiStoryPlain N) (f := 29) (fn := Try.f29) (c := codeOf Try.f29) (by kernel_rfl) (by kernel_rfl) (by kernel_rfl) (loops_at (ids := [0]) (by kernel_rfl) ⟨lp_of (lpiStoryPlain_0 N), trivial⟩) (by kernel_rfl)) (fun x r h => (FiStoryPlain_eq N x).trans h)

/-! ### 76: laws.eqIntS -/

noncomputable def dinveqIntS : Desc := { n := 2, regs := [.one (.val (.sl (.int .i64))), .one (.val (.sl (.int .i64)))], bx := [], pins := [] }
noncomputable def outveqIntS : Outs := [(.ret, { n := 1, regs := [.one (.val .bool)], bx := [], pins := [] })]
noncomputable def HveqIntS : Hints := []
noncomputable def EveqIntS (_N : Nat) : Env := { te := TE, cs := [] }
noncomputable def dveqIntS_0 : Desc := { n := 26, regs := [.one (.val (.sl (.int .i64))), .one (.val (.sl (.int .i64))), u, u, u, .one (.val (.int .i64))], bx := [], pins := [] }
noncomputable def oveqIntS_0 : Outs := [(.exit 0, { n := 26, regs := [], bx := [], pins := [] }), (.ret, { n := 26, regs := [u, u, u, u, .one (.val .bool)], bx := [], pins := [] })]
noncomputable def lveqIntS_0 (N : Nat) : Nat → ((List Int) × ((List Int) × (Int × Unit))) → Option (Unit ⊕ (Bool × Unit))
  | 0, _ => none
  | n + 1, v =>
    let y2 := decide (v.2.2.1 < (v.1.length : Int))
    bif y2 then
     bif decide (0 ≤ v.2.2.1) then
     bif decide (v.2.2.1.toNat < v.1.length) then
     bif decide (0 ≤ v.2.2.1) then
     bif decide (v.2.2.1.toNat < v.2.1.length) then
     let y3 := (v.1.getD v.2.2.1.toNat (0 : Int)) != (v.2.1.getD v.2.2.1.toNat (0 : Int))
     bif y3 then
      some (.inr ((false, ())))
     else
     lveqIntS_0 N n (v.1, v.2.1, w64 (v.2.2.1 + (1 : Int)), ())
     else none
     else none
     else none
     else none
    else
    some (.inl ())
noncomputable def FveqIntS (N : Nat) (x : ((List Int) × ((List Int) × Unit))) : Option (Bool × Unit) :=
  let y1 := (x.1.length : Int) != (x.2.1.length : Int)
  bif y1 then
   some (false, ())
  else
  (lveqIntS_0 N N (x.1, x.2.1, (0 : Int), ())).bind fun o4 =>
  Sum.elim (fun o5 =>
   some (true, ())) (fun o6 =>
   some (o6.1, ())) o4
noncomputable def conveqIntS (N : Nat) : Con := { f := 76, din := dinveqIntS, outs := outveqIntS, F := FveqIntS N }
noncomputable def XveqIntS (N : Nat) : Ctx := { E := EveqIntS N, H := HveqIntS, lp := [(0, { hd := dveqIntS_0, outs := oveqIntS_0, run := fun v => lveqIntS_0 N N v })], jn := [] }
noncomputable def bveqIntS_0 : Code := loopBody (codeOf Try.f76) 0
theorem FveqIntS_eq (N : Nat) (x : ((List Int) × ((List Int) × Unit))) : evFn (XveqIntS N) Try.f76 dinveqIntS outveqIntS x = FveqIntS N x := by kernel_rfl
theorem lveqIntS_0_eq (N n : Nat) (v : ((List Int) × ((List Int) × (Int × Unit)))) : lveqIntS_0 N (n + 1) v = ev (XveqIntS N) bveqIntS_0 (roundK dveqIntS_0 oveqIntS_0 (lveqIntS_0 N n)) (dveqIntS_0.mk' v) := by kernel_rfl
theorem cxveqIntS (N : Nat) : CtxOk Try.prog (XveqIntS N) := ⟨⟨TE_ok, fun k hk => absurd hk List.not_mem_nil⟩, mixed⟩
theorem lpveqIntS_0 (N : Nat) : LoopOk Try.prog { hd := dveqIntS_0, outs := oveqIntS_0, run := fun v => lveqIntS_0 N N v } bveqIntS_0 :=
  loop_fuel (d := dveqIntS_0) (os := oveqIntS_0) (cxveqIntS N) (loops_at (ids := []) (by kernel_rfl) (trivial)) (lveqIntS_0 N) (fun _ => rfl) (fun n v => lveqIntS_0_eq N n v) (fun _ => N)
theorem specveqIntS (N : Nat) : Spec Try.prog (conveqIntS N) :=
  Spec.of_eq (fn_spec (cxveqIntS N) (f := 76) (fn := Try.f76) (c := codeOf Try.f76) (by kernel_rfl) (by kernel_rfl) (by kernel_rfl) (loops_at (ids := [0]) (by kernel_rfl) ⟨lp_of (lpveqIntS_0 N), trivial⟩) (by kernel_rfl)) (fun x r h => (FveqIntS_eq N x).trans h)

/-! ### 103: laws.eqNode -/

noncomputable def dinveqNode : Desc := { n := 2, regs := [.one (.val (.pair (.sl (.int .i64)) (.pair (.sl (.int .i64)) .unit))), .one (.val (.pair (.sl (.int .i64)) (.pair (.sl (.int .i64)) .unit)))], bx := [], pins := [] }
noncomputable def outveqNode : Outs := [(.ret, { n := 1, regs := [.one (.val .bool)], bx := [], pins := [] })]
noncomputable def HveqNode : Hints := [(0, [(0, { fz := true }), (1, { fz := true })])]
noncomputable def EveqNode (N : Nat) : Env := { te := TE, cs := [conveqIntS N] }
noncomputable def FveqNode (N : Nat) (x : (((List Int) × ((List Int) × Unit)) × (((List Int) × ((List Int) × Unit)) × Unit))) : Option (Bool × Unit) :=
  (FveqIntS N (x.1.1, x.2.1.1, ())).bind fun r1 =>
  bif !r1.1 then
   some (false, ())
  else
  (FveqIntS N (x.1.2.1, x.2.1.2.1, ())).bind fun r2 =>
  bif !r2.1 then
   some (false, ())
  else
  some (true, ())
noncomputable def conveqNode (N : Nat) : Con := { f := 103, din := dinveqNode, outs := outveqNode, F := FveqNode N }
noncomputable def XveqNode (N : Nat) : Ctx := { E := EveqNode N, H := HveqNode, lp := [], jn := [] }
theorem FveqNode_eq (N : Nat) (x : (((List Int) × ((List Int) × Unit)) × (((List Int) × ((List Int) × Unit)) × Unit))) : evFn (XveqNode N) Try.f103 dinveqNode outveqNode x = FveqNode N x := by kernel_rfl
theorem cxveqNode (N : Nat) : CtxOk Try.prog (XveqNode N) := ⟨⟨TE_ok, List.forall_mem_cons.2 ⟨specveqIntS N, fun k hk => absurd hk List.not_mem_nil⟩⟩, mixed⟩
theorem specveqNode (N : Nat) : Spec Try.prog (conveqNode N) :=
  Spec.of_eq (fn_spec (cxveqNode N) (f := 103) (fn := Try.f103) (c := codeOf Try.f103) (by kernel_rfl) (by kernel_rfl) (by kernel_rfl) (loops_at (ids := []) (by kernel_rfl) (trivial)) (by kernel_rfl)) (fun x r h => (FveqNode_eq N x).trans h)

/-! ### 74: laws.eqNodeS -/

noncomputable def dinveqNodeS : Desc := { n := 2, regs := [.one (.val (.sl (.pair (.sl (.int .i64)) (.pair (.sl (.int .i64)) .unit)))), .one (.val (.sl (.pair (.sl (.int .i64)) (.pair (.sl (.int .i64)) .unit))))], bx := [], pins := [] }
noncomputable def outveqNodeS : Outs := [(.ret, { n := 1, regs := [.one (.val .bool)], bx := [], pins := [] })]
noncomputable def HveqNodeS : Hints := []
noncomputable def EveqNodeS (N : Nat) : Env := { te := TE, cs := [conveqNode N] }
noncomputable def dveqNodeS_0 : Desc := { n := 27, regs := [.one (.val (.sl (.pair (.sl (.int .i64)) (.pair (.sl (.int .i64)) .unit)))), .one (.val (.sl (.pair (.sl (.int .i64)) (.pair (.sl (.int .i64)) .unit)))), u, u, u, .one (.val (.int .i64))], bx := [], pins := [] }
noncomputable def oveqNodeS_0 : Outs := [(.exit 0, { n := 27, regs := [], bx := [], pins := [] }), (.ret, { n := 27, regs := [u, u, u, u, .one (.val .bool)], bx := [], pins := [] })]
noncomputable def lveqNodeS_0 (N : Nat) : Nat → ((List ((List Int) × ((List Int) × Unit))) × ((List ((List Int) × ((List Int) × Unit))) × (Int × Unit))) → Option (Unit ⊕ (Bool × Unit))
  | 0, _ => none
  | n + 1, v =>
    let y2 := decide (v.2.2.1 < (v.1.length : Int))
    bif y2 then
     bif decide (0 ≤ v.2.2.1) then
     bif decide (v.2.2.1.toNat < v.1.length) then
     let y3 := v.1.getD v.2.2.1.toNat (([] : (List Int)), ([] : (List Int)), ())
     bif decide (0 ≤ v.2.2.1) then
     bif decide (v.2.2.1.toNat < v.2.1.length) then
     let y4 := v.2.1.getD v.2.2.1.toNat (([] : (List Int)), ([] : (List Int)), ())
     (FveqNode N (y3, y4, ())).bind fun r5 =>
     bif !r5.1 then
      some (.inr ((false, ())))
     else
     lveqNodeS_0 N n (v.1, v.2.1, w64 (v.2.2.1 + (1 : Int)), ())
     else none
     else none
     else none
     else none
    else
    some (.inl ())
noncomputable def FveqNodeS (N : Nat) (x : ((List ((List Int) × ((List Int) × Unit))) × ((List ((List Int) × ((List Int) × Unit))) × Unit))) : Option (Bool × Unit) :=
  let y1 := (x.1.length : Int) != (x.2.1.length : Int)
  bif y1 then
   some (false, ())
  else
  (lveqNodeS_0 N N (x.1, x.2.1, (0 : Int), ())).bind fun o6 =>
  Sum.elim (fun o7 =>
   some (true, ())) (fun o8 =>
   some (o8.1, ())) o6
noncomputable def conveqNodeS (N : Nat) : Con := { f := 74, din := dinveqNodeS, outs := outveqNodeS, F := FveqNodeS N }
noncomputable def XveqNodeS (N : Nat) : Ctx := { E := EveqNodeS N, H := HveqNodeS, lp := [(0, { hd := dveqNodeS_0, outs := oveqNodeS_0, run := fun v => lveqNodeS_0 N N v })], jn := [] }
noncomputable def bveqNodeS_0 : Code := loopBody (codeOf Try.f74) 0
theorem FveqNodeS_eq (N : Nat) (x : ((List ((List Int) × ((List Int) × Unit))) × ((List ((List Int) × ((List Int) × Unit))) × Unit))) : evFn (XveqNodeS N) Try.f74 dinveqNodeS outveqNodeS x = FveqNodeS N x := by kernel_rfl
theorem lveqNodeS_0_eq (N n : Nat) (v : ((List ((List Int) × ((List Int) × Unit))) × ((List ((List Int) × ((List Int) × Unit))) × (Int × Unit)))) : lveqNodeS_0 N (n + 1) v = ev (XveqNodeS N) bveqNodeS_0 (roundK dveqNodeS_0 oveqNodeS_0 (lveqNodeS_0 N n)) (dveqNodeS_0.mk' v) := by kernel_rfl
theorem cxveqNodeS (N : Nat) : CtxOk Try.prog (XveqNodeS N) := ⟨⟨TE_ok, List.forall_mem_cons.2 ⟨specveqNode N, fun k hk => absurd hk List.not_mem_nil⟩⟩, mixed⟩
theorem lpveqNodeS_0 (N : Nat) : LoopOk Try.prog { hd := dveqNodeS_0, outs := oveqNodeS_0, run := fun v => lveqNodeS_0 N N v } bveqNodeS_0 :=
  loop_fuel (d := dveqNodeS_0) (os := oveqNodeS_0) (cxveqNodeS N) (loops_at (ids := []) (by kernel_rfl) (trivial)) (lveqNodeS_0 N) (fun _ => rfl) (fun n v => lveqNodeS_0_eq N n v) (fun _ => N)
theorem specveqNodeS (N : Nat) : Spec Try.prog (conveqNodeS N) :=
  Spec.of_eq (fn_spec (cxveqNodeS N) (f := 74) (fn := Try.f74) (c := codeOf Try.f74) (by kernel_rfl) (by kernel_rfl) (by kernel_rfl) (loops_at (ids := [0]) (by kernel_rfl) ⟨lp_of (lpveqNodeS_0 N), trivial⟩) (by kernel_rfl)) (fun x r h => (FveqNodeS_eq N x).trans h)

/-! ### 75: laws.eqIntSS -/

noncomputable def dinveqIntSS : Desc := { n := 2, regs := [.one (.val (.sl (.sl (.int .i64)))), .one (.val (.sl (.sl (.int .i64))))], bx := [], pins := [] }
noncomputable def outveqIntSS : Outs := [(.ret, { n := 1, regs := [.one (.val .bool)], bx := [], pins := [] })]
noncomputable def HveqIntSS : Hints := []
noncomputable def EveqIntSS (N : Nat) : Env := { te := TE, cs := [conveqIntS N] }
noncomputable def dveqIntSS_0 : Desc := { n := 27, regs := [.one (.val (.sl (.sl (.int .i64)))), .one (.val (.sl (.sl (.int .i64)))), u, u, u, .one (.val (.int .i64))], bx := [], pins := [] }
noncomputable def oveqIntSS_0 : Outs := [(.exit 0, { n := 27, regs := [], bx := [], pins := [] }), (.ret, { n := 27, regs := [u, u, u, u, .one (.val .bool)], bx := [], pins := [] })]
noncomputable def lveqIntSS_0 (N : Nat) : Nat → ((List (List Int)) × ((List (List Int)) × (Int × Unit))) → Option (Unit ⊕ (Bool × Unit))
  | 0, _ => none
  | n + 1, v =>
    let y2 := decide (v.2.2.1 < (v.1.length : Int))
    bif y2 then
     bif decide (0 ≤ v.2.2.1) then
     bif decide (v.2.2.1.toNat < v.1.length) then
     let y3 := v.1.getD v.2.2.1.toNat ([] : (List Int))
     bif decide (0 ≤ v.2.2.1) then
     bif decide (v.2.2.1.toNat < v.2.1.length) then
     let y4 := v.2.1.getD v.2.2.1.toNat ([] : (List Int))
     (FveqIntS N (y3, y4, ())).bind fun r5 =>
     bif !r5.1 then
      some (.inr ((false, ())))
     else
     lveqIntSS_0 N n (v.1, v.2.1, w64 (v.2.2.1 + (1 : Int)), ())
     else none
     else none
     else none
     else none
    else
    some (.inl ())
noncomputable def FveqIntSS (N : Nat) (x : ((List (List Int)) × ((List (List Int)) × Unit))) : Option (Bool × Unit) :=
  let y1 := (x.1.length : Int) != (x.2.1.length : Int)
  bif y1 then
   some (false, ())
  else
  (lveqIntSS_0 N N (x.1, x.2.1, (0 : Int), ())).bind fun o6 =>
  Sum.elim (fun o7 =>
   some (true, ())) (fun o8 =>
   some (o8.1, ())) o6
noncomputable def conveqIntSS (N : Nat) : Con := { f := 75, din := dinveqIntSS, outs := outveqIntSS, F := FveqIntSS N }
noncomputable def XveqIntSS (N : Nat) : Ctx := { E := EveqIntSS N, H := HveqIntSS, lp := [(0, { hd := dveqIntSS_0, outs := oveqIntSS_0, run := fun v => lveqIntSS_0 N N v })], jn := [] }
noncomputable def bveqIntSS_0 : Code := loopBody (codeOf Try.f75) 0
theorem FveqIntSS_eq (N : Nat) (x : ((List (List Int)) × ((List (List Int)) × Unit))) : evFn (XveqIntSS N) Try.f75 dinveqIntSS outveqIntSS x = FveqIntSS N x := by kernel_rfl
theorem lveqIntSS_0_eq (N n : Nat) (v : ((List (List Int)) × ((List (List Int)) × (Int × Unit)))) : lveqIntSS_0 N (n + 1) v = ev (XveqIntSS N) bveqIntSS_0 (roundK dveqIntSS_0 oveqIntSS_0 (lveqIntSS_0 N n)) (dveqIntSS_0.mk' v) := by kernel_rfl
theorem cxveqIntSS (N : Nat) : CtxOk Try.prog (XveqIntSS N) := ⟨⟨TE_ok, List.forall_mem_cons.2 ⟨specveqIntS N, fun k hk => absurd hk List.not_mem_nil⟩⟩, mixed⟩
theorem lpveqIntSS_0 (N : Nat) : LoopOk Try.prog { hd := dveqIntSS_0, outs := oveqIntSS_0, run := fun v => lveqIntSS_0 N N v } bveqIntSS_0 :=
  loop_fuel (d := dveqIntSS_0) (os := oveqIntSS_0) (cxveqIntSS N) (loops_at (ids := []) (by kernel_rfl) (trivial)) (lveqIntSS_0 N) (fun _ => rfl) (fun n v => lveqIntSS_0_eq N n v) (fun _ => N)
theorem specveqIntSS (N : Nat) : Spec Try.prog (conveqIntSS N) :=
  Spec.of_eq (fn_spec (cxveqIntSS N) (f := 75) (fn := Try.f75) (c := codeOf Try.f75) (by kernel_rfl) (by kernel_rfl) (by kernel_rfl) (loops_at (ids := [0]) (by kernel_rfl) ⟨lp_of (lpveqIntSS_0 N), trivial⟩) (by kernel_rfl)) (fun x r h => (FveqIntSS_eq N x).trans h)

/-! ### 30: laws.eqGraph -/

noncomputable def dinveqGraph : Desc := { n := 2, regs := [.one (.val (.pair (.sl (.pair (.sl (.int .i64)) (.pair (.sl (.int .i64)) .unit))) (.pair (.sl (.sl (.int .i64))) (.pair (.sl (.int .i64)) .unit)))), .one (.val (.pair (.sl (.pair (.sl (.int .i64)) (.pair (.sl (.int .i64)) .unit))) (.pair (.sl (.sl (.int .i64))) (.pair (.sl (.int .i64)) .unit))))], bx := [], pins := [] }
noncomputable def outveqGraph : Outs := [(.ret, { n := 1, regs := [.one (.val .bool)], bx := [], pins := [] })]
noncomputable def HveqGraph : Hints := [(0, [(0, { fz := true }), (1, { fz := true })]),
  (3, [(4, { con := 1 })]),
  (5, [(4, { con := 2 })])]
noncomputable def EveqGraph (N : Nat) : Env := { te := TE, cs := [conveqNodeS N, conveqIntSS N, conveqIntS N] }
noncomputable def FveqGraph (N : Nat) (x : (((List ((List Int) × ((List Int) × Unit))) × ((List (List Int)) × ((List Int) × Unit))) × (((List ((List Int) × ((List Int) × Unit))) × ((List (List Int)) × ((List Int) × Unit))) × Unit))) : Option (Bool × Unit) :=
  (FveqNodeS N (x.1.1, x.2.1.1, ())).bind fun r1 =>
  bif !r1.1 then
   some (false, ())
  else
  (FveqIntSS N (x.1.2.1, x.2.1.2.1, ())).bind fun r2 =>
  bif !r2.1 then
   some (false, ())
  else
  (FveqIntS N (x.1.2.2.1, x.2.1.2.2.1, ())).bind fun r3 =>
  bif !r3.1 then
   some (false, ())
  else
  some (true, ())
noncomputable def conveqGraph (N : Nat) : Con := { f := 30, din := dinveqGraph, outs := outveqGraph, F := FveqGraph N }
noncomputable def XveqGraph (N : Nat) : Ctx := { E := EveqGraph N, H := HveqGraph, lp := [], jn := [] }
theorem FveqGraph_eq (N : Nat) (x : (((List ((List Int) × ((List Int) × Unit))) × ((List (List Int)) × ((List Int) × Unit))) × (((List ((List Int) × ((List Int) × Unit))) × ((List (List Int)) × ((List Int) × Unit))) × Unit))) : evFn (XveqGraph N) Try.f30 dinveqGraph outveqGraph x = FveqGraph N x := by kernel_rfl
theorem cxveqGraph (N : Nat) : CtxOk Try.prog (XveqGraph N) := ⟨⟨TE_ok, List.forall_mem_cons.2 ⟨specveqNodeS N, List.forall_mem_cons.2 ⟨specveqIntSS N, List.forall_mem_cons.2 ⟨specveqIntS N, fun k hk => absurd hk List.not_mem_nil⟩⟩⟩⟩, mixed⟩
theorem specveqGraph (N : Nat) : Spec Try.prog (conveqGraph N) :=
  Spec.of_eq (fn_spec (cxveqGraph N) (f := 30) (fn := Try.f30) (c := codeOf Try.f30) (by kernel_rfl) (by kernel_rfl) (by kernel_rfl) (loops_at (ids := []) (by kernel_rfl) (trivial)) (by kernel_rfl)) (fun x r h => (FveqGraph_eq N x).trans h)

/-! ### 77: laws.eqEvent -/

noncomputable def dinveqEvent : Desc := { n := 2, regs := [.one (.val (.pair (.int .i64) (.pair (.int .i64) (.pair (.int .i64) (.pair (.int .i64) .unit))))), .one (.val (.pair (.int .i64) (.pair (.int .i64) (.pair (.int .i64) (.pair (.int .i64) .unit)))))], bx := [], pins := [] }
noncomputable def outveqEvent : Outs := [(.ret, { n := 1, regs := [.one (.val .bool)], bx := [], pins := [] })]
noncomputable def HveqEvent : Hints := [(0, [(0, { fz := true }), (1, { fz := true })])]
noncomputable def EveqEvent (_N : Nat) : Env := { te := TE, cs := [] }
noncomputable def FveqEvent (N : Nat) (x : ((Int × (Int × (Int × (Int × Unit)))) × ((Int × (Int × (Int × (Int × Unit)))) × Unit))) : Option (Bool × Unit) :=
  bif x.1.1 != x.2.1.1 then
   some (false, ())
  else
  bif x.1.2.1 != x.2.1.2.1 then
   some (false, ())
  else
  bif x.1.2.2.1 != x.2.1.2.2.1 then
   some (false, ())
  else
  bif x.1.2.2.2.1 != x.2.1.2.2.2.1 then
   some (false, ())
  else
  some (true, ())
noncomputable def conveqEvent (N : Nat) : Con := { f := 77, din := dinveqEvent, outs := outveqEvent, F := FveqEvent N }
noncomputable def XveqEvent (N : Nat) : Ctx := { E := EveqEvent N, H := HveqEvent, lp := [], jn := [] }
theorem FveqEvent_eq (N : Nat) (x : ((Int × (Int × (Int × (Int × Unit)))) × ((Int × (Int × (Int × (Int × Unit)))) × Unit))) : evFn (XveqEvent N) Try.f77 dinveqEvent outveqEvent x = FveqEvent N x := by kernel_rfl
theorem cxveqEvent (N : Nat) : CtxOk Try.prog (XveqEvent N) := ⟨⟨TE_ok, fun k hk => absurd hk List.not_mem_nil⟩, mixed⟩
theorem specveqEvent (N : Nat) : Spec Try.prog (conveqEvent N) :=
  Spec.of_eq (fn_spec (cxveqEvent N) (f := 77) (fn := Try.f77) (c := codeOf Try.f77) (by kernel_rfl) (by kernel_rfl) (by kernel_rfl) (loops_at (ids := []) (by kernel_rfl) (trivial)) (by kernel_rfl)) (fun x r h => (FveqEvent_eq N x).trans h)

/-! ### 31: laws.eqEventS -/

noncomputable def dinveqEventS : Desc := { n := 2, regs := [.one (.val (.sl (.pair (.int .i64) (.pair (.int .i64) (.pair (.int .i64) (.pair (.int .i64) .unit)))))), .one (.val (.sl (.pair (.int .i64) (.pair (.int .i64) (.pair (.int .i64) (.pair (.int .i64) .unit))))))], bx := [], pins := [] }
noncomputable def outveqEventS : Outs := [(.ret, { n := 1, regs := [.one (.val .bool)], bx := [], pins := [] })]
noncomputable def HveqEventS : Hints := []
noncomputable def EveqEventS (N : Nat) : Env := { te := TE, cs := [conveqEvent N] }
noncomputable def dveqEventS_0 : Desc := { n := 27, regs := [.one (.val (.sl (.pair (.int .i64) (.pair (.int .i64) (.pair (.int .i64) (.pair (.int .i64) .unit)))))), .one (.val (.sl (.pair (.int .i64) (.pair (.int .i64) (.pair (.int .i64) (.pair (.int .i64) .unit)))))), u, u, u, .one (.val (.int .i64))], bx := [], pins := [] }
noncomputable def oveqEventS_0 : Outs := [(.exit 0, { n := 27, regs := [], bx := [], pins := [] }), (.ret, { n := 27, regs := [u, u, u, u, .one (.val .bool)], bx := [], pins := [] })]
noncomputable def lveqEventS_0 (N : Nat) : Nat → ((List (Int × (Int × (Int × (Int × Unit))))) × ((List (Int × (Int × (Int × (Int × Unit))))) × (Int × Unit))) → Option (Unit ⊕ (Bool × Unit))
  | 0, _ => none
  | n + 1, v =>
    let y2 := decide (v.2.2.1 < (v.1.length : Int))
    bif y2 then
     bif decide (0 ≤ v.2.2.1) then
     bif decide (v.2.2.1.toNat < v.1.length) then
     let y3 := v.1.getD v.2.2.1.toNat ((0 : Int), (0 : Int), (0 : Int), (0 : Int), ())
     bif decide (0 ≤ v.2.2.1) then
     bif decide (v.2.2.1.toNat < v.2.1.length) then
     let y4 := v.2.1.getD v.2.2.1.toNat ((0 : Int), (0 : Int), (0 : Int), (0 : Int), ())
     (FveqEvent N (y3, y4, ())).bind fun r5 =>
     bif !r5.1 then
      some (.inr ((false, ())))
     else
     lveqEventS_0 N n (v.1, v.2.1, w64 (v.2.2.1 + (1 : Int)), ())
     else none
     else none
     else none
     else none
    else
    some (.inl ())
noncomputable def FveqEventS (N : Nat) (x : ((List (Int × (Int × (Int × (Int × Unit))))) × ((List (Int × (Int × (Int × (Int × Unit))))) × Unit))) : Option (Bool × Unit) :=
  let y1 := (x.1.length : Int) != (x.2.1.length : Int)
  bif y1 then
   some (false, ())
  else
  (lveqEventS_0 N N (x.1, x.2.1, (0 : Int), ())).bind fun o6 =>
  Sum.elim (fun o7 =>
   some (true, ())) (fun o8 =>
   some (o8.1, ())) o6
noncomputable def conveqEventS (N : Nat) : Con := { f := 31, din := dinveqEventS, outs := outveqEventS, F := FveqEventS N }
noncomputable def XveqEventS (N : Nat) : Ctx := { E := EveqEventS N, H := HveqEventS, lp := [(0, { hd := dveqEventS_0, outs := oveqEventS_0, run := fun v => lveqEventS_0 N N v })], jn := [] }
noncomputable def bveqEventS_0 : Code := loopBody (codeOf Try.f31) 0
theorem FveqEventS_eq (N : Nat) (x : ((List (Int × (Int × (Int × (Int × Unit))))) × ((List (Int × (Int × (Int × (Int × Unit))))) × Unit))) : evFn (XveqEventS N) Try.f31 dinveqEventS outveqEventS x = FveqEventS N x := by kernel_rfl
theorem lveqEventS_0_eq (N n : Nat) (v : ((List (Int × (Int × (Int × (Int × Unit))))) × ((List (Int × (Int × (Int × (Int × Unit))))) × (Int × Unit)))) : lveqEventS_0 N (n + 1) v = ev (XveqEventS N) bveqEventS_0 (roundK dveqEventS_0 oveqEventS_0 (lveqEventS_0 N n)) (dveqEventS_0.mk' v) := by kernel_rfl
theorem cxveqEventS (N : Nat) : CtxOk Try.prog (XveqEventS N) := ⟨⟨TE_ok, List.forall_mem_cons.2 ⟨specveqEvent N, fun k hk => absurd hk List.not_mem_nil⟩⟩, mixed⟩
theorem lpveqEventS_0 (N : Nat) : LoopOk Try.prog { hd := dveqEventS_0, outs := oveqEventS_0, run := fun v => lveqEventS_0 N N v } bveqEventS_0 :=
  loop_fuel (d := dveqEventS_0) (os := oveqEventS_0) (cxveqEventS N) (loops_at (ids := []) (by kernel_rfl) (trivial)) (lveqEventS_0 N) (fun _ => rfl) (fun n v => lveqEventS_0_eq N n v) (fun _ => N)
theorem specveqEventS (N : Nat) : Spec Try.prog (conveqEventS N) :=
  Spec.of_eq (fn_spec (cxveqEventS N) (f := 31) (fn := Try.f31) (c := codeOf Try.f31) (by kernel_rfl) (by kernel_rfl) (by kernel_rfl) (loops_at (ids := [0]) (by kernel_rfl) ⟨lp_of (lpveqEventS_0 N), trivial⟩) (by kernel_rfl)) (fun x r h => (FveqEventS_eq N x).trans h)

/-! ### 110: laws.eqShape -/

noncomputable def dinveqShape : Desc := { n := 2, regs := [.one (.val (.pair (.int .i64) (.pair (.int .i64) .unit))), .one (.val (.pair (.int .i64) (.pair (.int .i64) .unit)))], bx := [], pins := [] }
noncomputable def outveqShape : Outs := [(.ret, { n := 1, regs := [.one (.val .bool)], bx := [], pins := [] })]
noncomputable def HveqShape : Hints := [(0, [(0, { fz := true }), (1, { fz := true })])]
noncomputable def EveqShape (_N : Nat) : Env := { te := TE, cs := [] }
noncomputable def FveqShape (N : Nat) (x : ((Int × (Int × Unit)) × ((Int × (Int × Unit)) × Unit))) : Option (Bool × Unit) :=
  bif x.1.1 != x.2.1.1 then
   some (false, ())
  else
  bif x.1.2.1 != x.2.1.2.1 then
   some (false, ())
  else
  some (true, ())
noncomputable def conveqShape (N : Nat) : Con := { f := 110, din := dinveqShape, outs := outveqShape, F := FveqShape N }
noncomputable def XveqShape (N : Nat) : Ctx := { E := EveqShape N, H := HveqShape, lp := [], jn := [] }
theorem FveqShape_eq (N : Nat) (x : ((Int × (Int × Unit)) × ((Int × (Int × Unit)) × Unit))) : evFn (XveqShape N) Try.f110 dinveqShape outveqShape x = FveqShape N x := by kernel_rfl
theorem cxveqShape (N : Nat) : CtxOk Try.prog (XveqShape N) := ⟨⟨TE_ok, fun k hk => absurd hk List.not_mem_nil⟩, mixed⟩
theorem specveqShape (N : Nat) : Spec Try.prog (conveqShape N) :=
  Spec.of_eq (fn_spec (cxveqShape N) (f := 110) (fn := Try.f110) (c := codeOf Try.f110) (by kernel_rfl) (by kernel_rfl) (by kernel_rfl) (loops_at (ids := []) (by kernel_rfl) (trivial)) (by kernel_rfl)) (fun x r h => (FveqShape_eq N x).trans h)

/-! ### 104: laws.eqOp -/

noncomputable def dinveqOp : Desc := { n := 2, regs := [.one (.val (.pair (.int .i64) (.pair (.int .i64) (.pair (.int .i64) (.pair (.int .i64) (.pair (.int .i64) (.pair (.int .i64) (.pair (.pair (.int .i64) (.pair (.int .i64) .unit)) .unit)))))))), .one (.val (.pair (.int .i64) (.pair (.int .i64) (.pair (.int .i64) (.pair (.int .i64) (.pair (.int .i64) (.pair (.int .i64) (.pair (.pair (.int .i64) (.pair (.int .i64) .unit)) .unit))))))))], bx := [], pins := [] }
noncomputable def outveqOp : Outs := [(.ret, { n := 1, regs := [.one (.val .bool)], bx := [], pins := [] })]
noncomputable def HveqOp : Hints := [(0, [(0, { fz := true }), (1, { fz := true })])]
noncomputable def EveqOp (N : Nat) : Env := { te := TE, cs := [conveqShape N] }
noncomputable def FveqOp (N : Nat) (x : ((Int × (Int × (Int × (Int × (Int × (Int × ((Int × (Int × Unit)) × Unit))))))) × ((Int × (Int × (Int × (Int × (Int × (Int × ((Int × (Int × Unit)) × Unit))))))) × Unit))) : Option (Bool × Unit) :=
  bif x.1.1 != x.2.1.1 then
   some (false, ())
  else
  bif x.1.2.1 != x.2.1.2.1 then
   some (false, ())
  else
  bif x.1.2.2.1 != x.2.1.2.2.1 then
   some (false, ())
  else
  bif x.1.2.2.2.1 != x.2.1.2.2.2.1 then
   some (false, ())
  else
  bif x.1.2.2.2.2.1 != x.2.1.2.2.2.2.1 then
   some (false, ())
  else
  bif x.1.2.2.2.2.2.1 != x.2.1.2.2.2.2.2.1 then
   some (false, ())
  else
  (FveqShape N (x.1.2.2.2.2.2.2.1, x.2.1.2.2.2.2.2.2.1, ())).bind fun r1 =>
  bif !r1.1 then
   some (false, ())
  else
  some (true, ())
noncomputable def conveqOp (N : Nat) : Con := { f := 104, din := dinveqOp, outs := outveqOp, F := FveqOp N }
noncomputable def XveqOp (N : Nat) : Ctx := { E := EveqOp N, H := HveqOp, lp := [], jn := [] }
theorem FveqOp_eq (N : Nat) (x : ((Int × (Int × (Int × (Int × (Int × (Int × ((Int × (Int × Unit)) × Unit))))))) × ((Int × (Int × (Int × (Int × (Int × (Int × ((Int × (Int × Unit)) × Unit))))))) × Unit))) : evFn (XveqOp N) Try.f104 dinveqOp outveqOp x = FveqOp N x := by kernel_rfl
theorem cxveqOp (N : Nat) : CtxOk Try.prog (XveqOp N) := ⟨⟨TE_ok, List.forall_mem_cons.2 ⟨specveqShape N, fun k hk => absurd hk List.not_mem_nil⟩⟩, mixed⟩
theorem specveqOp (N : Nat) : Spec Try.prog (conveqOp N) :=
  Spec.of_eq (fn_spec (cxveqOp N) (f := 104) (fn := Try.f104) (c := codeOf Try.f104) (by kernel_rfl) (by kernel_rfl) (by kernel_rfl) (loops_at (ids := []) (by kernel_rfl) (trivial)) (by kernel_rfl)) (fun x r h => (FveqOp_eq N x).trans h)

/-! ### 78: laws.eqOpS -/

noncomputable def dinveqOpS : Desc := { n := 2, regs := [.one (.val (.sl (.pair (.int .i64) (.pair (.int .i64) (.pair (.int .i64) (.pair (.int .i64) (.pair (.int .i64) (.pair (.int .i64) (.pair (.pair (.int .i64) (.pair (.int .i64) .unit)) .unit))))))))), .one (.val (.sl (.pair (.int .i64) (.pair (.int .i64) (.pair (.int .i64) (.pair (.int .i64) (.pair (.int .i64) (.pair (.int .i64) (.pair (.pair (.int .i64) (.pair (.int .i64) .unit)) .unit)))))))))], bx := [], pins := [] }
noncomputable def outveqOpS : Outs := [(.ret, { n := 1, regs := [.one (.val .bool)], bx := [], pins := [] })]
noncomputable def HveqOpS : Hints := []
noncomputable def EveqOpS (N : Nat) : Env := { te := TE, cs := [conveqOp N] }
noncomputable def dveqOpS_0 : Desc := { n := 27, regs := [.one (.val (.sl (.pair (.int .i64) (.pair (.int .i64) (.pair (.int .i64) (.pair (.int .i64) (.pair (.int .i64) (.pair (.int .i64) (.pair (.pair (.int .i64) (.pair (.int .i64) .unit)) .unit))))))))), .one (.val (.sl (.pair (.int .i64) (.pair (.int .i64) (.pair (.int .i64) (.pair (.int .i64) (.pair (.int .i64) (.pair (.int .i64) (.pair (.pair (.int .i64) (.pair (.int .i64) .unit)) .unit))))))))), u, u, u, .one (.val (.int .i64))], bx := [], pins := [] }
noncomputable def oveqOpS_0 : Outs := [(.exit 0, { n := 27, regs := [], bx := [], pins := [] }), (.ret, { n := 27, regs := [u, u, u, u, .one (.val .bool)], bx := [], pins := [] })]
noncomputable def lveqOpS_0 (N : Nat) : Nat → ((List (Int × (Int × (Int × (Int × (Int × (Int × ((Int × (Int × Unit)) × Unit)))))))) × ((List (Int × (Int × (Int × (Int × (Int × (Int × ((Int × (Int × Unit)) × Unit)))))))) × (Int × Unit))) → Option (Unit ⊕ (Bool × Unit))
  | 0, _ => none
  | n + 1, v =>
    let y2 := decide (v.2.2.1 < (v.1.length : Int))
    bif y2 then
     bif decide (0 ≤ v.2.2.1) then
     bif decide (v.2.2.1.toNat < v.1.length) then
     let y3 := v.1.getD v.2.2.1.toNat ((0 : Int), (0 : Int), (0 : Int), (0 : Int), (0 : Int), (0 : Int), ((0 : Int), (0 : Int), ()), ())
     bif decide (0 ≤ v.2.2.1) then
     bif decide (v.2.2.1.toNat < v.2.1.length) then
     let y4 := v.2.1.getD v.2.2.1.toNat ((0 : Int), (0 : Int), (0 : Int), (0 : Int), (0 : Int), (0 : Int), ((0 : Int), (0 : Int), ()), ())
     (FveqOp N (y3, y4, ())).bind fun r5 =>
     bif !r5.1 then
      some (.inr ((false, ())))
     else
     lveqOpS_0 N n (v.1, v.2.1, w64 (v.2.2.1 + (1 : Int)), ())
     else none
     else none
     else none
     else none
    else
    some (.inl ())
noncomputable def FveqOpS (N : Nat) (x : ((List (Int × (Int × (Int × (Int × (Int × (Int × ((Int × (Int × Unit)) × Unit)))))))) × ((List (Int × (Int × (Int × (Int × (Int × (Int × ((Int × (Int × Unit)) × Unit)))))))) × Unit))) : Option (Bool × Unit) :=
  let y1 := (x.1.length : Int) != (x.2.1.length : Int)
  bif y1 then
   some (false, ())
  else
  (lveqOpS_0 N N (x.1, x.2.1, (0 : Int), ())).bind fun o6 =>
  Sum.elim (fun o7 =>
   some (true, ())) (fun o8 =>
   some (o8.1, ())) o6
noncomputable def conveqOpS (N : Nat) : Con := { f := 78, din := dinveqOpS, outs := outveqOpS, F := FveqOpS N }
noncomputable def XveqOpS (N : Nat) : Ctx := { E := EveqOpS N, H := HveqOpS, lp := [(0, { hd := dveqOpS_0, outs := oveqOpS_0, run := fun v => lveqOpS_0 N N v })], jn := [] }
noncomputable def bveqOpS_0 : Code := loopBody (codeOf Try.f78) 0
theorem FveqOpS_eq (N : Nat) (x : ((List (Int × (Int × (Int × (Int × (Int × (Int × ((Int × (Int × Unit)) × Unit)))))))) × ((List (Int × (Int × (Int × (Int × (Int × (Int × ((Int × (Int × Unit)) × Unit)))))))) × Unit))) : evFn (XveqOpS N) Try.f78 dinveqOpS outveqOpS x = FveqOpS N x := by kernel_rfl
theorem lveqOpS_0_eq (N n : Nat) (v : ((List (Int × (Int × (Int × (Int × (Int × (Int × ((Int × (Int × Unit)) × Unit)))))))) × ((List (Int × (Int × (Int × (Int × (Int × (Int × ((Int × (Int × Unit)) × Unit)))))))) × (Int × Unit)))) : lveqOpS_0 N (n + 1) v = ev (XveqOpS N) bveqOpS_0 (roundK dveqOpS_0 oveqOpS_0 (lveqOpS_0 N n)) (dveqOpS_0.mk' v) := by kernel_rfl
theorem cxveqOpS (N : Nat) : CtxOk Try.prog (XveqOpS N) := ⟨⟨TE_ok, List.forall_mem_cons.2 ⟨specveqOp N, fun k hk => absurd hk List.not_mem_nil⟩⟩, mixed⟩
theorem lpveqOpS_0 (N : Nat) : LoopOk Try.prog { hd := dveqOpS_0, outs := oveqOpS_0, run := fun v => lveqOpS_0 N N v } bveqOpS_0 :=
  loop_fuel (d := dveqOpS_0) (os := oveqOpS_0) (cxveqOpS N) (loops_at (ids := []) (by kernel_rfl) (trivial)) (lveqOpS_0 N) (fun _ => rfl) (fun n v => lveqOpS_0_eq N n v) (fun _ => N)
theorem specveqOpS (N : Nat) : Spec Try.prog (conveqOpS N) :=
  Spec.of_eq (fn_spec (cxveqOpS N) (f := 78) (fn := Try.f78) (c := codeOf Try.f78) (by kernel_rfl) (by kernel_rfl) (by kernel_rfl) (loops_at (ids := [0]) (by kernel_rfl) ⟨lp_of (lpveqOpS_0 N), trivial⟩) (by kernel_rfl)) (fun x r h => (FveqOpS_eq N x).trans h)

/-! ### 32: laws.eqOpSS -/

noncomputable def dinveqOpSS : Desc := { n := 2, regs := [.one (.val (.sl (.sl (.pair (.int .i64) (.pair (.int .i64) (.pair (.int .i64) (.pair (.int .i64) (.pair (.int .i64) (.pair (.int .i64) (.pair (.pair (.int .i64) (.pair (.int .i64) .unit)) .unit)))))))))), .one (.val (.sl (.sl (.pair (.int .i64) (.pair (.int .i64) (.pair (.int .i64) (.pair (.int .i64) (.pair (.int .i64) (.pair (.int .i64) (.pair (.pair (.int .i64) (.pair (.int .i64) .unit)) .unit))))))))))], bx := [], pins := [] }
noncomputable def outveqOpSS : Outs := [(.ret, { n := 1, regs := [.one (.val .bool)], bx := [], pins := [] })]
noncomputable def HveqOpSS : Hints := []
noncomputable def EveqOpSS (N : Nat) : Env := { te := TE, cs := [conveqOpS N] }
noncomputable def dveqOpSS_0 : Desc := { n := 27, regs := [.one (.val (.sl (.sl (.pair (.int .i64) (.pair (.int .i64) (.pair (.int .i64) (.pair (.int .i64) (.pair (.int .i64) (.pair (.int .i64) (.pair (.pair (.int .i64) (.pair (.int .i64) .unit)) .unit)))))))))), .one (.val (.sl (.sl (.pair (.int .i64) (.pair (.int .i64) (.pair (.int .i64) (.pair (.int .i64) (.pair (.int .i64) (.pair (.int .i64) (.pair (.pair (.int .i64) (.pair (.int .i64) .unit)) .unit)))))))))), u, u, u, .one (.val (.int .i64))], bx := [], pins := [] }
noncomputable def oveqOpSS_0 : Outs := [(.exit 0, { n := 27, regs := [], bx := [], pins := [] }), (.ret, { n := 27, regs := [u, u, u, u, .one (.val .bool)], bx := [], pins := [] })]
noncomputable def lveqOpSS_0 (N : Nat) : Nat → ((List (List (Int × (Int × (Int × (Int × (Int × (Int × ((Int × (Int × Unit)) × Unit))))))))) × ((List (List (Int × (Int × (Int × (Int × (Int × (Int × ((Int × (Int × Unit)) × Unit))))))))) × (Int × Unit))) → Option (Unit ⊕ (Bool × Unit))
  | 0, _ => none
  | n + 1, v =>
    let y2 := decide (v.2.2.1 < (v.1.length : Int))
    bif y2 then
     bif decide (0 ≤ v.2.2.1) then
     bif decide (v.2.2.1.toNat < v.1.length) then
     let y3 := v.1.getD v.2.2.1.toNat ([] : (List (Int × (Int × (Int × (Int × (Int × (Int × ((Int × (Int × Unit)) × Unit)))))))))
     bif decide (0 ≤ v.2.2.1) then
     bif decide (v.2.2.1.toNat < v.2.1.length) then
     let y4 := v.2.1.getD v.2.2.1.toNat ([] : (List (Int × (Int × (Int × (Int × (Int × (Int × ((Int × (Int × Unit)) × Unit)))))))))
     (FveqOpS N (y3, y4, ())).bind fun r5 =>
     bif !r5.1 then
      some (.inr ((false, ())))
     else
     lveqOpSS_0 N n (v.1, v.2.1, w64 (v.2.2.1 + (1 : Int)), ())
     else none
     else none
     else none
     else none
    else
    some (.inl ())
noncomputable def FveqOpSS (N : Nat) (x : ((List (List (Int × (Int × (Int × (Int × (Int × (Int × ((Int × (Int × Unit)) × Unit))))))))) × ((List (List (Int × (Int × (Int × (Int × (Int × (Int × ((Int × (Int × Unit)) × Unit))))))))) × Unit))) : Option (Bool × Unit) :=
  let y1 := (x.1.length : Int) != (x.2.1.length : Int)
  bif y1 then
   some (false, ())
  else
  (lveqOpSS_0 N N (x.1, x.2.1, (0 : Int), ())).bind fun o6 =>
  Sum.elim (fun o7 =>
   some (true, ())) (fun o8 =>
   some (o8.1, ())) o6
noncomputable def conveqOpSS (N : Nat) : Con := { f := 32, din := dinveqOpSS, outs := outveqOpSS, F := FveqOpSS N }
noncomputable def XveqOpSS (N : Nat) : Ctx := { E := EveqOpSS N, H := HveqOpSS, lp := [(0, { hd := dveqOpSS_0, outs := oveqOpSS_0, run := fun v => lveqOpSS_0 N N v })], jn := [] }
noncomputable def bveqOpSS_0 : Code := loopBody (codeOf Try.f32) 0
theorem FveqOpSS_eq (N : Nat) (x : ((List (List (Int × (Int × (Int × (Int × (Int × (Int × ((Int × (Int × Unit)) × Unit))))))))) × ((List (List (Int × (Int × (Int × (Int × (Int × (Int × ((Int × (Int × Unit)) × Unit))))))))) × Unit))) : evFn (XveqOpSS N) Try.f32 dinveqOpSS outveqOpSS x = FveqOpSS N x := by kernel_rfl
theorem lveqOpSS_0_eq (N n : Nat) (v : ((List (List (Int × (Int × (Int × (Int × (Int × (Int × ((Int × (Int × Unit)) × Unit))))))))) × ((List (List (Int × (Int × (Int × (Int × (Int × (Int × ((Int × (Int × Unit)) × Unit))))))))) × (Int × Unit)))) : lveqOpSS_0 N (n + 1) v = ev (XveqOpSS N) bveqOpSS_0 (roundK dveqOpSS_0 oveqOpSS_0 (lveqOpSS_0 N n)) (dveqOpSS_0.mk' v) := by kernel_rfl
theorem cxveqOpSS (N : Nat) : CtxOk Try.prog (XveqOpSS N) := ⟨⟨TE_ok, List.forall_mem_cons.2 ⟨specveqOpS N, fun k hk => absurd hk List.not_mem_nil⟩⟩, mixed⟩
theorem lpveqOpSS_0 (N : Nat) : LoopOk Try.prog { hd := dveqOpSS_0, outs := oveqOpSS_0, run := fun v => lveqOpSS_0 N N v } bveqOpSS_0 :=
  loop_fuel (d := dveqOpSS_0) (os := oveqOpSS_0) (cxveqOpSS N) (loops_at (ids := []) (by kernel_rfl) (trivial)) (lveqOpSS_0 N) (fun _ => rfl) (fun n v => lveqOpSS_0_eq N n v) (fun _ => N)
theorem specveqOpSS (N : Nat) : Spec Try.prog (conveqOpSS N) :=
  Spec.of_eq (fn_spec (cxveqOpSS N) (f := 32) (fn := Try.f32) (c := codeOf Try.f32) (by kernel_rfl) (by kernel_rfl) (by kernel_rfl) (loops_at (ids := [0]) (by kernel_rfl) ⟨lp_of (lpveqOpSS_0 N), trivial⟩) (by kernel_rfl)) (fun x r h => (FveqOpSS_eq N x).trans h)

/-! ### 79: laws.markOpS -/

noncomputable def dinvmarkOpS : Desc := { n := 2, regs := [.one (.lit (.row 0)), .one (.val (.int .i64))], bx := [(0, .row (.pair (.int .i64) (.pair (.int .i64) (.pair (.int .i64) (.pair (.int .i64) (.pair (.int .i64) (.pair (.int .i64) (.pair (.pair (.int .i64) (.pair (.int .i64) .unit)) .unit))))))))], pins := [] }
noncomputable def outvmarkOpS : Outs := [(.ret, { n := 1, regs := [.one (.val (.int .i64))], bx := [(0, .row (.pair (.int .i64) (.pair (.int .i64) (.pair (.int .i64) (.pair (.int .i64) (.pair (.int .i64) (.pair (.int .i64) (.pair (.pair (.int .i64) (.pair (.int .i64) .unit)) .unit))))))))], pins := [.one (.lit (.row 0))] })]
noncomputable def HvmarkOpS : Hints := []
noncomputable def EvmarkOpS (_N : Nat) : Env := { te := TE, cs := [] }
noncomputable def dvmarkOpS_0 : Desc := { n := 71, regs := [.one (.lit (.row 0)), .one (.val (.int .i64)), u, u, u, .one (.val (.int .i64))], bx := [(0, .row (.pair (.int .i64) (.pair (.int .i64) (.pair (.int .i64) (.pair (.int .i64) (.pair (.int .i64) (.pair (.int .i64) (.pair (.pair (.int .i64) (.pair (.int .i64) .unit)) .unit))))))))], pins := [.one (.lit (.row 0))] }
noncomputable def ovmarkOpS_0 : Outs := [(.exit 0, { n := 71, regs := [u, .one (.val (.int .i64))], bx := [(0, .row (.pair (.int .i64) (.pair (.int .i64) (.pair (.int .i64) (.pair (.int .i64) (.pair (.int .i64) (.pair (.int .i64) (.pair (.pair (.int .i64) (.pair (.int .i64) .unit)) .unit))))))))], pins := [.one (.lit (.row 0))] })]
noncomputable def lvmarkOpS_0 (N : Nat) : Nat → (Int × (Int × ((List (Int × (Int × (Int × (Int × (Int × (Int × ((Int × (Int × Unit)) × Unit)))))))) × Unit))) → Option (Int × ((List (Int × (Int × (Int × (Int × (Int × (Int × ((Int × (Int × Unit)) × Unit)))))))) × Unit))
  | 0, _ => none
  | n + 1, v =>
    let y1 := decide (v.2.1 < (v.2.2.1.length : Int))
    bif y1 then
     bif decide (0 ≤ v.2.1) then
     bif decide (v.2.1.toNat < v.2.2.1.length) then
     let y2 := v.2.2.1.set v.2.1.toNat (v.1, (v.2.2.1.getD v.2.1.toNat ((0 : Int), (0 : Int), (0 : Int), (0 : Int), (0 : Int), (0 : Int), ((0 : Int), (0 : Int), ()), ())).2)
     bif decide (0 ≤ v.2.1) then
     bif decide (v.2.1.toNat < y2.length) then
     let y3 := y2.set v.2.1.toNat ((y2.getD v.2.1.toNat ((0 : Int), (0 : Int), (0 : Int), (0 : Int), (0 : Int), (0 : Int), ((0 : Int), (0 : Int), ()), ())).1, w64 (v.1 + (1 : Int)), ((y2.getD v.2.1.toNat ((0 : Int), (0 : Int), (0 : Int), (0 : Int), (0 : Int), (0 : Int), ((0 : Int), (0 : Int), ()), ())).2).2)
     let y4 := w64 ((w64 (v.1 + (1 : Int))) + (1 : Int))
     bif decide (0 ≤ v.2.1) then
     bif decide (v.2.1.toNat < y3.length) then
     let y5 := y3.set v.2.1.toNat ((y3.getD v.2.1.toNat ((0 : Int), (0 : Int), (0 : Int), (0 : Int), (0 : Int), (0 : Int), ((0 : Int), (0 : Int), ()), ())).1, ((y3.getD v.2.1.toNat ((0 : Int), (0 : Int), (0 : Int), (0 : Int), (0 : Int), (0 : Int), ((0 : Int), (0 : Int), ()), ())).2).1, y4, (((y3.getD v.2.1.toNat ((0 : Int), (0 : Int), (0 : Int), (0 : Int), (0 : Int), (0 : Int), ((0 : Int), (0 : Int), ()), ())).2).2).2)
     bif decide (0 ≤ v.2.1) then
     bif decide (v.2.1.toNat < y5.length) then
     let y6 := y5.set v.2.1.toNat ((y5.getD v.2.1.toNat ((0 : Int), (0 : Int), (0 : Int), (0 : Int), (0 : Int), (0 : Int), ((0 : Int), (0 : Int), ()), ())).1, ((y5.getD v.2.1.toNat ((0 : Int), (0 : Int), (0 : Int), (0 : Int), (0 : Int), (0 : Int), ((0 : Int), (0 : Int), ()), ())).2).1, (((y5.getD v.2.1.toNat ((0 : Int), (0 : Int), (0 : Int), (0 : Int), (0 : Int), (0 : Int), ((0 : Int), (0 : Int), ()), ())).2).2).1, w64 (y4 + (1 : Int)), ((((y5.getD v.2.1.toNat ((0 : Int), (0 : Int), (0 : Int), (0 : Int), (0 : Int), (0 : Int), ((0 : Int), (0 : Int), ()), ())).2).2).2).2)
     let y7 := w64 ((w64 (y4 + (1 : Int))) + (1 : Int))
     bif decide (0 ≤ v.2.1) then
     bif decide (v.2.1.toNat < y6.length) then
     let y8 := y6.set v.2.1.toNat ((y6.getD v.2.1.toNat ((0 : Int), (0 : Int), (0 : Int), (0 : Int), (0 : Int), (0 : Int), ((0 : Int), (0 : Int), ()), ())).1, ((y6.getD v.2.1.toNat ((0 : Int), (0 : Int), (0 : Int), (0 : Int), (0 : Int), (0 : Int), ((0 : Int), (0 : Int), ()), ())).2).1, (((y6.getD v.2.1.toNat ((0 : Int), (0 : Int), (0 : Int), (0 : Int), (0 : Int), (0 : Int), ((0 : Int), (0 : Int), ()), ())).2).2).1, ((((y6.getD v.2.1.toNat ((0 : Int), (0 : Int), (0 : Int), (0 : Int), (0 : Int), (0 : Int), ((0 : Int), (0 : Int), ()), ())).2).2).2).1, y7, (((((y6.getD v.2.1.toNat ((0 : Int), (0 : Int), (0 : Int), (0 : Int), (0 : Int), (0 : Int), ((0 : Int), (0 : Int), ()), ())).2).2).2).2).2)
     bif decide (0 ≤ v.2.1) then
     bif decide (v.2.1.toNat < y8.length) then
     let y9 := y8.set v.2.1.toNat ((y8.getD v.2.1.toNat ((0 : Int), (0 : Int), (0 : Int), (0 : Int), (0 : Int), (0 : Int), ((0 : Int), (0 : Int), ()), ())).1, ((y8.getD v.2.1.toNat ((0 : Int), (0 : Int), (0 : Int), (0 : Int), (0 : Int), (0 : Int), ((0 : Int), (0 : Int), ()), ())).2).1, (((y8.getD v.2.1.toNat ((0 : Int), (0 : Int), (0 : Int), (0 : Int), (0 : Int), (0 : Int), ((0 : Int), (0 : Int), ()), ())).2).2).1, ((((y8.getD v.2.1.toNat ((0 : Int), (0 : Int), (0 : Int), (0 : Int), (0 : Int), (0 : Int), ((0 : Int), (0 : Int), ()), ())).2).2).2).1, (((((y8.getD v.2.1.toNat ((0 : Int), (0 : Int), (0 : Int), (0 : Int), (0 : Int), (0 : Int), ((0 : Int), (0 : Int), ()), ())).2).2).2).2).1, w64 (y7 + (1 : Int)), ((((((y8.getD v.2.1.toNat ((0 : Int), (0 : Int), (0 : Int), (0 : Int), (0 : Int), (0 : Int), ((0 : Int), (0 : Int), ()), ())).2).2).2).2).2).2)
     let y10 := w64 ((w64 (y7 + (1 : Int))) + (1 : Int))
     bif decide (0 ≤ v.2.1) then
     bif decide (v.2.1.toNat < y9.length) then
     let y11 := y9.set v.2.1.toNat ((y9.getD v.2.1.toNat ((0 : Int), (0 : Int), (0 : Int), (0 : Int), (0 : Int), (0 : Int), ((0 : Int), (0 : Int), ()), ())).1, ((y9.getD v.2.1.toNat ((0 : Int), (0 : Int), (0 : Int), (0 : Int), (0 : Int), (0 : Int), ((0 : Int), (0 : Int), ()), ())).2).1, (((y9.getD v.2.1.toNat ((0 : Int), (0 : Int), (0 : Int), (0 : Int), (0 : Int), (0 : Int), ((0 : Int), (0 : Int), ()), ())).2).2).1, ((((y9.getD v.2.1.toNat ((0 : Int), (0 : Int), (0 : Int), (0 : Int), (0 : Int), (0 : Int), ((0 : Int), (0 : Int), ()), ())).2).2).2).1, (((((y9.getD v.2.1.toNat ((0 : Int), (0 : Int), (0 : Int), (0 : Int), (0 : Int), (0 : Int), ((0 : Int), (0 : Int), ()), ())).2).2).2).2).1, ((((((y9.getD v.2.1.toNat ((0 : Int), (0 : Int), (0 : Int), (0 : Int), (0 : Int), (0 : Int), ((0 : Int), (0 : Int), ()), ())).2).2).2).2).2).1, (y10, ((((((((y9.getD v.2.1.toNat ((0 : Int), (0 : Int), (0 : Int), (0 : Int), (0 : Int), (0 : Int), ((0 : Int), (0 : Int), ()), ())).2).2).2).2).2).2).1).2), (((((((y9.getD v.2.1.toNat ((0 : Int), (0 : Int), (0 : Int), (0 : Int), (0 : Int), (0 : Int), ((0 : Int), (0 : Int), ()), ())).2).2).2).2).2).2).2)
     bif decide (0 ≤ v.2.1) then
     bif decide (v.2.1.toNat < y11.length) then
     let y12 := y11.set v.2.1.toNat ((y11.getD v.2.1.toNat ((0 : Int), (0 : Int), (0 : Int), (0 : Int), (0 : Int), (0 : Int), ((0 : Int), (0 : Int), ()), ())).1, ((y11.getD v.2.1.toNat ((0 : Int), (0 : Int), (0 : Int), (0 : Int), (0 : Int), (0 : Int), ((0 : Int), (0 : Int), ()), ())).2).1, (((y11.getD v.2.1.toNat ((0 : Int), (0 : Int), (0 : Int), (0 : Int), (0 : Int), (0 : Int), ((0 : Int), (0 : Int), ()), ())).2).2).1, ((((y11.getD v.2.1.toNat ((0 : Int), (0 : Int), (0 : Int), (0 : Int), (0 : Int), (0 : Int), ((0 : Int), (0 : Int), ()), ())).2).2).2).1, (((((y11.getD v.2.1.toNat ((0 : Int), (0 : Int), (0 : Int), (0 : Int), (0 : Int), (0 : Int), ((0 : Int), (0 : Int), ()), ())).2).2).2).2).1, ((((((y11.getD v.2.1.toNat ((0 : Int), (0 : Int), (0 : Int), (0 : Int), (0 : Int), (0 : Int), ((0 : Int), (0 : Int), ()), ())).2).2).2).2).2).1, (((((((((y11.getD v.2.1.toNat ((0 : Int), (0 : Int), (0 : Int), (0 : Int), (0 : Int), (0 : Int), ((0 : Int), (0 : Int), ()), ())).2).2).2).2).2).2).1).1, w64 (y10 + (1 : Int)), (((((((((y11.getD v.2.1.toNat ((0 : Int), (0 : Int), (0 : Int), (0 : Int), (0 : Int), (0 : Int), ((0 : Int), (0 : Int), ()), ())).2).2).2).2).2).2).1).2).2), (((((((y11.getD v.2.1.toNat ((0 : Int), (0 : Int), (0 : Int), (0 : Int), (0 : Int), (0 : Int), ((0 : Int), (0 : Int), ()), ())).2).2).2).2).2).2).2)
     let y13 := w64 ((w64 (y10 + (1 : Int))) + (1 : Int))
     lvmarkOpS_0 N n (y13, w64 (v.2.1 + (1 : Int)), y12, ())
     else none
     else none
     else none
     else none
     else none
     else none
     else none
     else none
     else none
     else none
     else none
     else none
     else none
     else none
     else none
     else none
    else
    some (v.1, v.2.2.1, ())
noncomputable def FvmarkOpS (N : Nat) (x : (Int × ((List (Int × (Int × (Int × (Int × (Int × (Int × ((Int × (Int × Unit)) × Unit)))))))) × Unit))) : Option (Int × ((List (Int × (Int × (Int × (Int × (Int × (Int × ((Int × (Int × Unit)) × Unit)))))))) × Unit)) :=
  (lvmarkOpS_0 N N (x.1, (0 : Int), x.2.1, ())).bind fun o14 =>
  some (o14.1, o14.2.1, ())
noncomputable def convmarkOpS (N : Nat) : Con := { f := 79, din := dinvmarkOpS, outs := outvmarkOpS, F := FvmarkOpS N }
noncomputable def XvmarkOpS (N : Nat) : Ctx := { E := EvmarkOpS N, H := HvmarkOpS, lp := [(0, { hd := dvmarkOpS_0, outs := ovmarkOpS_0, run := fun v => lvmarkOpS_0 N N v })], jn := [] }
noncomputable def bvmarkOpS_0 : Code := loopBody (codeOf Try.f79) 0
theorem FvmarkOpS_eq (N : Nat) (x : (Int × ((List (Int × (Int × (Int × (Int × (Int × (Int × ((Int × (Int × Unit)) × Unit)))))))) × Unit))) : evFn (XvmarkOpS N) Try.f79 dinvmarkOpS outvmarkOpS x = FvmarkOpS N x := by kernel_rfl
theorem lvmarkOpS_0_eq (N n : Nat) (v : (Int × (Int × ((List (Int × (Int × (Int × (Int × (Int × (Int × ((Int × (Int × Unit)) × Unit)))))))) × Unit)))) : lvmarkOpS_0 N (n + 1) v = ev (XvmarkOpS N) bvmarkOpS_0 (roundK dvmarkOpS_0 ovmarkOpS_0 (lvmarkOpS_0 N n)) (dvmarkOpS_0.mk' v) := by kernel_rfl
theorem cxvmarkOpS (N : Nat) : CtxOk Try.prog (XvmarkOpS N) := ⟨⟨TE_ok, fun k hk => absurd hk List.not_mem_nil⟩, mixed⟩
theorem lpvmarkOpS_0 (N : Nat) : LoopOk Try.prog { hd := dvmarkOpS_0, outs := ovmarkOpS_0, run := fun v => lvmarkOpS_0 N N v } bvmarkOpS_0 :=
  loop_fuel (d := dvmarkOpS_0) (os := ovmarkOpS_0) (cxvmarkOpS N) (loops_at (ids := []) (by kernel_rfl) (trivial)) (lvmarkOpS_0 N) (fun _ => rfl) (fun n v => lvmarkOpS_0_eq N n v) (fun _ => N)
theorem specvmarkOpS (N : Nat) : Spec Try.prog (convmarkOpS N) :=
  Spec.of_eq (fn_spec (cxvmarkOpS N) (f := 79) (fn := Try.f79) (c := codeOf Try.f79) (by kernel_rfl) (by kernel_rfl) (by kernel_rfl) (loops_at (ids := [0]) (by kernel_rfl) ⟨lp_of (lpvmarkOpS_0 N), trivial⟩) (by kernel_rfl)) (fun x r h => (FvmarkOpS_eq N x).trans h)

/-! ### 33: laws.markOpSS -/

noncomputable def dinvmarkOpSS : Desc := { n := 2, regs := [.one (.lit (.row 0)), .one (.val (.int .i64))], bx := [(0, .row (.sl (.pair (.int .i64) (.pair (.int .i64) (.pair (.int .i64) (.pair (.int .i64) (.pair (.int .i64) (.pair (.int .i64) (.pair (.pair (.int .i64) (.pair (.int .i64) .unit)) .unit)))))))))], pins := [] }
noncomputable def outvmarkOpSS : Outs := [(.ret, { n := 1, regs := [.one (.val (.int .i64))], bx := [(0, .row (.sl (.pair (.int .i64) (.pair (.int .i64) (.pair (.int .i64) (.pair (.int .i64) (.pair (.int .i64) (.pair (.int .i64) (.pair (.pair (.int .i64) (.pair (.int .i64) .unit)) .unit)))))))))], pins := [.one (.lit (.row 0))] })]
noncomputable def HvmarkOpSS : Hints := [(4, [(5, { sg := [(0, 1051560)], pre := [.take 15 1051560], post := [.give 1051560 0] })])]
noncomputable def EvmarkOpSS (N : Nat) : Env := { te := TE, cs := [convmarkOpS N] }
noncomputable def dvmarkOpSS_0 : Desc := { n := 19, regs := [.one (.lit (.row 0)), .one (.val (.int .i64)), u, u, u, .one (.val (.int .i64))], bx := [(0, .row (.sl (.pair (.int .i64) (.pair (.int .i64) (.pair (.int .i64) (.pair (.int .i64) (.pair (.int .i64) (.pair (.int .i64) (.pair (.pair (.int .i64) (.pair (.int .i64) .unit)) .unit)))))))))], pins := [.one (.lit (.row 0))] }
noncomputable def ovmarkOpSS_0 : Outs := [(.exit 0, { n := 19, regs := [u, .one (.val (.int .i64))], bx := [(0, .row (.sl (.pair (.int .i64) (.pair (.int .i64) (.pair (.int .i64) (.pair (.int .i64) (.pair (.int .i64) (.pair (.int .i64) (.pair (.pair (.int .i64) (.pair (.int .i64) .unit)) .unit)))))))))], pins := [.one (.lit (.row 0))] })]
noncomputable def lvmarkOpSS_0 (N : Nat) : Nat → (Int × (Int × ((List (List (Int × (Int × (Int × (Int × (Int × (Int × ((Int × (Int × Unit)) × Unit))))))))) × Unit))) → Option (Int × ((List (List (Int × (Int × (Int × (Int × (Int × (Int × ((Int × (Int × Unit)) × Unit))))))))) × Unit))
  | 0, _ => none
  | n + 1, v =>
    let y1 := decide (v.2.1 < (v.2.2.1.length : Int))
    bif y1 then
     bif decide (0 ≤ v.2.1) then
     bif decide (v.2.1.toNat < v.2.2.1.length) then
     (FvmarkOpS N (v.1, v.2.2.1.getD v.2.1.toNat ([] : (List (Int × (Int × (Int × (Int × (Int × (Int × ((Int × (Int × Unit)) × Unit))))))))), ())).bind fun r2 =>
     lvmarkOpSS_0 N n (r2.1, w64 (v.2.1 + (1 : Int)), v.2.2.1.set v.2.1.toNat r2.2.1, ())
     else none
     else none
    else
    some (v.1, v.2.2.1, ())
noncomputable def FvmarkOpSS (N : Nat) (x : (Int × ((List (List (Int × (Int × (Int × (Int × (Int × (Int × ((Int × (Int × Unit)) × Unit))))))))) × Unit))) : Option (Int × ((List (List (Int × (Int × (Int × (Int × (Int × (Int × ((Int × (Int × Unit)) × Unit))))))))) × Unit)) :=
  (lvmarkOpSS_0 N N (x.1, (0 : Int), x.2.1, ())).bind fun o3 =>
  some (o3.1, o3.2.1, ())
noncomputable def convmarkOpSS (N : Nat) : Con := { f := 33, din := dinvmarkOpSS, outs := outvmarkOpSS, F := FvmarkOpSS N }
noncomputable def XvmarkOpSS (N : Nat) : Ctx := { E := EvmarkOpSS N, H := HvmarkOpSS, lp := [(0, { hd := dvmarkOpSS_0, outs := ovmarkOpSS_0, run := fun v => lvmarkOpSS_0 N N v })], jn := [] }
noncomputable def bvmarkOpSS_0 : Code := loopBody (codeOf Try.f33) 0
theorem FvmarkOpSS_eq (N : Nat) (x : (Int × ((List (List (Int × (Int × (Int × (Int × (Int × (Int × ((Int × (Int × Unit)) × Unit))))))))) × Unit))) : evFn (XvmarkOpSS N) Try.f33 dinvmarkOpSS outvmarkOpSS x = FvmarkOpSS N x := by kernel_rfl
theorem lvmarkOpSS_0_eq (N n : Nat) (v : (Int × (Int × ((List (List (Int × (Int × (Int × (Int × (Int × (Int × ((Int × (Int × Unit)) × Unit))))))))) × Unit)))) : lvmarkOpSS_0 N (n + 1) v = ev (XvmarkOpSS N) bvmarkOpSS_0 (roundK dvmarkOpSS_0 ovmarkOpSS_0 (lvmarkOpSS_0 N n)) (dvmarkOpSS_0.mk' v) := by kernel_rfl
theorem cxvmarkOpSS (N : Nat) : CtxOk Try.prog (XvmarkOpSS N) := ⟨⟨TE_ok, List.forall_mem_cons.2 ⟨specvmarkOpS N, fun k hk => absurd hk List.not_mem_nil⟩⟩, mixed⟩
theorem lpvmarkOpSS_0 (N : Nat) : LoopOk Try.prog { hd := dvmarkOpSS_0, outs := ovmarkOpSS_0, run := fun v => lvmarkOpSS_0 N N v } bvmarkOpSS_0 :=
  loop_fuel (d := dvmarkOpSS_0) (os := ovmarkOpSS_0) (cxvmarkOpSS N) (loops_at (ids := []) (by kernel_rfl) (trivial)) (lvmarkOpSS_0 N) (fun _ => rfl) (fun n v => lvmarkOpSS_0_eq N n v) (fun _ => N)
theorem specvmarkOpSS (N : Nat) : Spec Try.prog (convmarkOpSS N) :=
  Spec.of_eq (fn_spec (cxvmarkOpSS N) (f := 33) (fn := Try.f33) (c := codeOf Try.f33) (by kernel_rfl) (by kernel_rfl) (by kernel_rfl) (loops_at (ids := [0]) (by kernel_rfl) ⟨lp_of (lpvmarkOpSS_0 N), trivial⟩) (by kernel_rfl)) (fun x r h => (FvmarkOpSS_eq N x).trans h)

/-! ### 34: laws.markEventS -/

noncomputable def dinvmarkEventS : Desc := { n := 2, regs := [.one (.lit (.row 0)), .one (.val (.int .i64))], bx := [(0, .row (.pair (.int .i64) (.pair (.int .i64) (.pair (.int .i64) (.pair (.int .i64) .unit)))))], pins := [] }
noncomputable def outvmarkEventS : Outs := [(.ret, { n := 1, regs := [.one (.val (.int .i64))], bx := [(0, .row (.pair (.int .i64) (.pair (.int .i64) (.pair (.int .i64) (.pair (.int .i64) .unit)))))], pins := [.one (.lit (.row 0))] })]
noncomputable def HvmarkEventS : Hints := []
noncomputable def EvmarkEventS (_N : Nat) : Env := { te := TE, cs := [] }
noncomputable def dvmarkEventS_0 : Desc := { n := 41, regs := [.one (.lit (.row 0)), .one (.val (.int .i64)), u, u, u, .one (.val (.int .i64))], bx := [(0, .row (.pair (.int .i64) (.pair (.int .i64) (.pair (.int .i64) (.pair (.int .i64) .unit)))))], pins := [.one (.lit (.row 0))] }
noncomputable def ovmarkEventS_0 : Outs := [(.exit 0, { n := 41, regs := [u, .one (.val (.int .i64))], bx := [(0, .row (.pair (.int .i64) (.pair (.int .i64) (.pair (.int .i64) (.pair (.int .i64) .unit)))))], pins := [.one (.lit (.row 0))] })]
noncomputable def lvmarkEventS_0 (N : Nat) : Nat → (Int × (Int × ((List (Int × (Int × (Int × (Int × Unit))))) × Unit))) → Option (Int × ((List (Int × (Int × (Int × (Int × Unit))))) × Unit))
  | 0, _ => none
  | n + 1, v =>
    let y1 := decide (v.2.1 < (v.2.2.1.length : Int))
    bif y1 then
     bif decide (0 ≤ v.2.1) then
     bif decide (v.2.1.toNat < v.2.2.1.length) then
     let y2 := v.2.2.1.set v.2.1.toNat (v.1, (v.2.2.1.getD v.2.1.toNat ((0 : Int), (0 : Int), (0 : Int), (0 : Int), ())).2)
     bif decide (0 ≤ v.2.1) then
     bif decide (v.2.1.toNat < y2.length) then
     let y3 := y2.set v.2.1.toNat ((y2.getD v.2.1.toNat ((0 : Int), (0 : Int), (0 : Int), (0 : Int), ())).1, w64 (v.1 + (1 : Int)), ((y2.getD v.2.1.toNat ((0 : Int), (0 : Int), (0 : Int), (0 : Int), ())).2).2)
     let y4 := w64 ((w64 (v.1 + (1 : Int))) + (1 : Int))
     bif decide (0 ≤ v.2.1) then
     bif decide (v.2.1.toNat < y3.length) then
     let y5 := y3.set v.2.1.toNat ((y3.getD v.2.1.toNat ((0 : Int), (0 : Int), (0 : Int), (0 : Int), ())).1, ((y3.getD v.2.1.toNat ((0 : Int), (0 : Int), (0 : Int), (0 : Int), ())).2).1, y4, (((y3.getD v.2.1.toNat ((0 : Int), (0 : Int), (0 : Int), (0 : Int), ())).2).2).2)
     bif decide (0 ≤ v.2.1) then
     bif decide (v.2.1.toNat < y5.length) then
     let y6 := y5.set v.2.1.toNat ((y5.getD v.2.1.toNat ((0 : Int), (0 : Int), (0 : Int), (0 : Int), ())).1, ((y5.getD v.2.1.toNat ((0 : Int), (0 : Int), (0 : Int), (0 : Int), ())).2).1, (((y5.getD v.2.1.toNat ((0 : Int), (0 : Int), (0 : Int), (0 : Int), ())).2).2).1, w64 (y4 + (1 : Int)), ((((y5.getD v.2.1.toNat ((0 : Int), (0 : Int), (0 : Int), (0 : Int), ())).2).2).2).2)
     let y7 := w64 ((w64 (y4 + (1 : Int))) + (1 : Int))
     lvmarkEventS_0 N n (y7, w64 (v.2.1 + (1 : Int)), y6, ())
     else none
     else none
     else none
     else none
     else none
     else none
     else none
     else none
    else
    some (v.1, v.2.2.1, ())
noncomputable def FvmarkEventS (N : Nat) (x : (Int × ((List (Int × (Int × (Int × (Int × Unit))))) × Unit))) : Option (Int × ((List (Int × (Int × (Int × (Int × Unit))))) × Unit)) :=
  (lvmarkEventS_0 N N (x.1, (0 : Int), x.2.1, ())).bind fun o8 =>
  some (o8.1, o8.2.1, ())
noncomputable def convmarkEventS (N : Nat) : Con := { f := 34, din := dinvmarkEventS, outs := outvmarkEventS, F := FvmarkEventS N }
noncomputable def XvmarkEventS (N : Nat) : Ctx := { E := EvmarkEventS N, H := HvmarkEventS, lp := [(0, { hd := dvmarkEventS_0, outs := ovmarkEventS_0, run := fun v => lvmarkEventS_0 N N v })], jn := [] }
noncomputable def bvmarkEventS_0 : Code := loopBody (codeOf Try.f34) 0
theorem FvmarkEventS_eq (N : Nat) (x : (Int × ((List (Int × (Int × (Int × (Int × Unit))))) × Unit))) : evFn (XvmarkEventS N) Try.f34 dinvmarkEventS outvmarkEventS x = FvmarkEventS N x := by kernel_rfl
theorem lvmarkEventS_0_eq (N n : Nat) (v : (Int × (Int × ((List (Int × (Int × (Int × (Int × Unit))))) × Unit)))) : lvmarkEventS_0 N (n + 1) v = ev (XvmarkEventS N) bvmarkEventS_0 (roundK dvmarkEventS_0 ovmarkEventS_0 (lvmarkEventS_0 N n)) (dvmarkEventS_0.mk' v) := by kernel_rfl
theorem cxvmarkEventS (N : Nat) : CtxOk Try.prog (XvmarkEventS N) := ⟨⟨TE_ok, fun k hk => absurd hk List.not_mem_nil⟩, mixed⟩
theorem lpvmarkEventS_0 (N : Nat) : LoopOk Try.prog { hd := dvmarkEventS_0, outs := ovmarkEventS_0, run := fun v => lvmarkEventS_0 N N v } bvmarkEventS_0 :=
  loop_fuel (d := dvmarkEventS_0) (os := ovmarkEventS_0) (cxvmarkEventS N) (loops_at (ids := []) (by kernel_rfl) (trivial)) (lvmarkEventS_0 N) (fun _ => rfl) (fun n v => lvmarkEventS_0_eq N n v) (fun _ => N)
theorem specvmarkEventS (N : Nat) : Spec Try.prog (convmarkEventS N) :=
  Spec.of_eq (fn_spec (cxvmarkEventS N) (f := 34) (fn := Try.f34) (c := codeOf Try.f34) (by kernel_rfl) (by kernel_rfl) (by kernel_rfl) (loops_at (ids := [0]) (by kernel_rfl) ⟨lp_of (lpvmarkEventS_0 N), trivial⟩) (by kernel_rfl)) (fun x r h => (FvmarkEventS_eq N x).trans h)

/-! ### 82: laws.markIntS -/

noncomputable def dinvmarkIntS : Desc := { n := 2, regs := [.one (.lit (.row 0)), .one (.val (.int .i64))], bx := [(0, .row (.int .i64))], pins := [] }
noncomputable def outvmarkIntS : Outs := [(.ret, { n := 1, regs := [.one (.val (.int .i64))], bx := [(0, .row (.int .i64))], pins := [.one (.lit (.row 0))] })]
noncomputable def HvmarkIntS : Hints := []
noncomputable def EvmarkIntS (_N : Nat) : Env := { te := TE, cs := [] }
noncomputable def dvmarkIntS_0 : Desc := { n := 19, regs := [.one (.lit (.row 0)), .one (.val (.int .i64)), u, u, u, .one (.val (.int .i64))], bx := [(0, .row (.int .i64))], pins := [.one (.lit (.row 0))] }
noncomputable def ovmarkIntS_0 : Outs := [(.exit 0, { n := 19, regs := [u, .one (.val (.int .i64))], bx := [(0, .row (.int .i64))], pins := [.one (.lit (.row 0))] })]
noncomputable def lvmarkIntS_0 (N : Nat) : Nat → (Int × (Int × ((List Int) × Unit))) → Option (Int × ((List Int) × Unit))
  | 0, _ => none
  | n + 1, v =>
    let y1 := decide (v.2.1 < (v.2.2.1.length : Int))
    bif y1 then
     bif decide (0 ≤ v.2.1) then
     bif decide (v.2.1.toNat < v.2.2.1.length) then
     lvmarkIntS_0 N n (w64 (v.1 + (1 : Int)), w64 (v.2.1 + (1 : Int)), v.2.2.1.set v.2.1.toNat v.1, ())
     else none
     else none
    else
    some (v.1, v.2.2.1, ())
noncomputable def FvmarkIntS (N : Nat) (x : (Int × ((List Int) × Unit))) : Option (Int × ((List Int) × Unit)) :=
  (lvmarkIntS_0 N N (x.1, (0 : Int), x.2.1, ())).bind fun o2 =>
  some (o2.1, o2.2.1, ())
noncomputable def convmarkIntS (N : Nat) : Con := { f := 82, din := dinvmarkIntS, outs := outvmarkIntS, F := FvmarkIntS N }
noncomputable def XvmarkIntS (N : Nat) : Ctx := { E := EvmarkIntS N, H := HvmarkIntS, lp := [(0, { hd := dvmarkIntS_0, outs := ovmarkIntS_0, run := fun v => lvmarkIntS_0 N N v })], jn := [] }
noncomputable def bvmarkIntS_0 : Code := loopBody (codeOf Try.f82) 0
theorem FvmarkIntS_eq (N : Nat) (x : (Int × ((List Int) × Unit))) : evFn (XvmarkIntS N) Try.f82 dinvmarkIntS outvmarkIntS x = FvmarkIntS N x := by kernel_rfl
theorem lvmarkIntS_0_eq (N n : Nat) (v : (Int × (Int × ((List Int) × Unit)))) : lvmarkIntS_0 N (n + 1) v = ev (XvmarkIntS N) bvmarkIntS_0 (roundK dvmarkIntS_0 ovmarkIntS_0 (lvmarkIntS_0 N n)) (dvmarkIntS_0.mk' v) := by kernel_rfl
theorem cxvmarkIntS (N : Nat) : CtxOk Try.prog (XvmarkIntS N) := ⟨⟨TE_ok, fun k hk => absurd hk List.not_mem_nil⟩, mixed⟩
theorem lpvmarkIntS_0 (N : Nat) : LoopOk Try.prog { hd := dvmarkIntS_0, outs := ovmarkIntS_0, run := fun v => lvmarkIntS_0 N N v } bvmarkIntS_0 :=
  loop_fuel (d := dvmarkIntS_0) (os := ovmarkIntS_0) (cxvmarkIntS N) (loops_at (ids := []) (by kernel_rfl) (trivial)) (lvmarkIntS_0 N) (fun _ => rfl) (fun n v => lvmarkIntS_0_eq N n v) (fun _ => N)
theorem specvmarkIntS (N : Nat) : Spec Try.prog (convmarkIntS N) :=
  Spec.of_eq (fn_spec (cxvmarkIntS N) (f := 82) (fn := Try.f82) (c := codeOf Try.f82) (by kernel_rfl) (by kernel_rfl) (by kernel_rfl) (loops_at (ids := [0]) (by kernel_rfl) ⟨lp_of (lpvmarkIntS_0 N), trivial⟩) (by kernel_rfl)) (fun x r h => (FvmarkIntS_eq N x).trans h)

/-! ### 80: laws.markNodeS -/

noncomputable def dinvmarkNodeS : Desc := { n := 2, regs := [.one (.lit (.row 0)), .one (.val (.int .i64))], bx := [(0, .row (.pair (.sl (.int .i64)) (.pair (.sl (.int .i64)) .unit)))], pins := [] }
noncomputable def outvmarkNodeS : Outs := [(.ret, { n := 1, regs := [.one (.val (.int .i64))], bx := [(0, .row (.pair (.sl (.int .i64)) (.pair (.sl (.int .i64)) .unit)))], pins := [.one (.lit (.row 0))] })]
noncomputable def HvmarkNodeS : Hints := [(4, [(6, { sg := [(0, 1051624)], pre := [.take 16 1051624], post := [.give 1051624 0] })]),
  (5, [(6, { sg := [(0, 1064424)], pre := [.take 23 1064424], post := [.give 1064424 0] })])]
noncomputable def EvmarkNodeS (N : Nat) : Env := { te := TE, cs := [convmarkIntS N] }
noncomputable def dvmarkNodeS_0 : Desc := { n := 27, regs := [.one (.lit (.row 0)), .one (.val (.int .i64)), u, u, u, .one (.val (.int .i64))], bx := [(0, .row (.pair (.sl (.int .i64)) (.pair (.sl (.int .i64)) .unit)))], pins := [.one (.lit (.row 0))] }
noncomputable def ovmarkNodeS_0 : Outs := [(.exit 0, { n := 27, regs := [u, .one (.val (.int .i64))], bx := [(0, .row (.pair (.sl (.int .i64)) (.pair (.sl (.int .i64)) .unit)))], pins := [.one (.lit (.row 0))] })]
noncomputable def lvmarkNodeS_0 (N : Nat) : Nat → (Int × (Int × ((List ((List Int) × ((List Int) × Unit))) × Unit))) → Option (Int × ((List ((List Int) × ((List Int) × Unit))) × Unit))
  | 0, _ => none
  | n + 1, v =>
    let y1 := decide (v.2.1 < (v.2.2.1.length : Int))
    bif y1 then
     bif decide (0 ≤ v.2.1) then
     bif decide (v.2.1.toNat < v.2.2.1.length) then
     (FvmarkIntS N (v.1, (v.2.2.1.getD v.2.1.toNat (([] : (List Int)), ([] : (List Int)), ())).1, ())).bind fun r2 =>
     bif decide (0 ≤ v.2.1) then
     bif decide (v.2.1.toNat < (v.2.2.1.set v.2.1.toNat (r2.2.1, (v.2.2.1.getD v.2.1.toNat (([] : (List Int)), ([] : (List Int)), ())).2)).length) then
     (FvmarkIntS N (r2.1, (((v.2.2.1.set v.2.1.toNat (r2.2.1, (v.2.2.1.getD v.2.1.toNat (([] : (List Int)), ([] : (List Int)), ())).2)).getD v.2.1.toNat (([] : (List Int)), ([] : (List Int)), ())).2).1, ())).bind fun r3 =>
     lvmarkNodeS_0 N n (r3.1, w64 (v.2.1 + (1 : Int)), (v.2.2.1.set v.2.1.toNat (r2.2.1, (v.2.2.1.getD v.2.1.toNat (([] : (List Int)), ([] : (List Int)), ())).2)).set v.2.1.toNat (((v.2.2.1.set v.2.1.toNat (r2.2.1, (v.2.2.1.getD v.2.1.toNat (([] : (List Int)), ([] : (List Int)), ())).2)).getD v.2.1.toNat (([] : (List Int)), ([] : (List Int)), ())).1, r3.2.1, (((v.2.2.1.set v.2.1.toNat (r2.2.1, (v.2.2.1.getD v.2.1.toNat (([] : (List Int)), ([] : (List Int)), ())).2)).getD v.2.1.toNat (([] : (List Int)), ([] : (List Int)), ())).2).2), ())
     else none
     else none
     else none
     else none
    else
    some (v.1, v.2.2.1, ())
noncomputable def FvmarkNodeS (N : Nat) (x : (Int × ((List ((List Int) × ((List Int) × Unit))) × Unit))) : Option (Int × ((List ((List Int) × ((List Int) × Unit))) × Unit)) :=
  (lvmarkNodeS_0 N N (x.1, (0 : Int), x.2.1, ())).bind fun o4 =>
  some (o4.1, o4.2.1, ())
noncomputable def convmarkNodeS (N : Nat) : Con := { f := 80, din := dinvmarkNodeS, outs := outvmarkNodeS, F := FvmarkNodeS N }
noncomputable def XvmarkNodeS (N : Nat) : Ctx := { E := EvmarkNodeS N, H := HvmarkNodeS, lp := [(0, { hd := dvmarkNodeS_0, outs := ovmarkNodeS_0, run := fun v => lvmarkNodeS_0 N N v })], jn := [] }
noncomputable def bvmarkNodeS_0 : Code := loopBody (codeOf Try.f80) 0
theorem FvmarkNodeS_eq (N : Nat) (x : (Int × ((List ((List Int) × ((List Int) × Unit))) × Unit))) : evFn (XvmarkNodeS N) Try.f80 dinvmarkNodeS outvmarkNodeS x = FvmarkNodeS N x := by kernel_rfl
theorem lvmarkNodeS_0_eq (N n : Nat) (v : (Int × (Int × ((List ((List Int) × ((List Int) × Unit))) × Unit)))) : lvmarkNodeS_0 N (n + 1) v = ev (XvmarkNodeS N) bvmarkNodeS_0 (roundK dvmarkNodeS_0 ovmarkNodeS_0 (lvmarkNodeS_0 N n)) (dvmarkNodeS_0.mk' v) := by kernel_rfl
theorem cxvmarkNodeS (N : Nat) : CtxOk Try.prog (XvmarkNodeS N) := ⟨⟨TE_ok, List.forall_mem_cons.2 ⟨specvmarkIntS N, fun k hk => absurd hk List.not_mem_nil⟩⟩, mixed⟩
theorem lpvmarkNodeS_0 (N : Nat) : LoopOk Try.prog { hd := dvmarkNodeS_0, outs := ovmarkNodeS_0, run := fun v => lvmarkNodeS_0 N N v } bvmarkNodeS_0 :=
  loop_fuel (d := dvmarkNodeS_0) (os := ovmarkNodeS_0) (cxvmarkNodeS N) (loops_at (ids := []) (by kernel_rfl) (trivial)) (lvmarkNodeS_0 N) (fun _ => rfl) (fun n v => lvmarkNodeS_0_eq N n v) (fun _ => N)
theorem specvmarkNodeS (N : Nat) : Spec Try.prog (convmarkNodeS N) :=
  Spec.of_eq (fn_spec (cxvmarkNodeS N) (f := 80) (fn := Try.f80) (c := codeOf Try.f80) (by kernel_rfl) (by kernel_rfl) (by kernel_rfl) (loops_at (ids := [0]) (by kernel_rfl) ⟨lp_of (lpvmarkNodeS_0 N), trivial⟩) (by kernel_rfl)) (fun x r h => (FvmarkNodeS_eq N x).trans h)

/-! ### 81: laws.markIntSS -/

noncomputable def dinvmarkIntSS : Desc := { n := 2, regs := [.one (.lit (.row 0)), .one (.val (.int .i64))], bx := [(0, .row (.sl (.int .i64)))], pins := [] }
noncomputable def outvmarkIntSS : Outs := [(.ret, { n := 1, regs := [.one (.val (.int .i64))], bx := [(0, .row (.sl (.int .i64)))], pins := [.one (.lit (.row 0))] })]
noncomputable def HvmarkIntSS : Hints := [(4, [(5, { sg := [(0, 1051560)], pre := [.take 15 1051560], post := [.give 1051560 0] })])]
noncomputable def EvmarkIntSS (N : Nat) : Env := { te := TE, cs := [convmarkIntS N] }
noncomputable def dvmarkIntSS_0 : Desc := { n := 19, regs := [.one (.lit (.row 0)), .one (.val (.int .i64)), u, u, u, .one (.val (.int .i64))], bx := [(0, .row (.sl (.int .i64)))], pins := [.one (.lit (.row 0))] }
noncomputable def ovmarkIntSS_0 : Outs := [(.exit 0, { n := 19, regs := [u, .one (.val (.int .i64))], bx := [(0, .row (.sl (.int .i64)))], pins := [.one (.lit (.row 0))] })]
noncomputable def lvmarkIntSS_0 (N : Nat) : Nat → (Int × (Int × ((List (List Int)) × Unit))) → Option (Int × ((List (List Int)) × Unit))
  | 0, _ => none
  | n + 1, v =>
    let y1 := decide (v.2.1 < (v.2.2.1.length : Int))
    bif y1 then
     bif decide (0 ≤ v.2.1) then
     bif decide (v.2.1.toNat < v.2.2.1.length) then
     (FvmarkIntS N (v.1, v.2.2.1.getD v.2.1.toNat ([] : (List Int)), ())).bind fun r2 =>
     lvmarkIntSS_0 N n (r2.1, w64 (v.2.1 + (1 : Int)), v.2.2.1.set v.2.1.toNat r2.2.1, ())
     else none
     else none
    else
    some (v.1, v.2.2.1, ())
noncomputable def FvmarkIntSS (N : Nat) (x : (Int × ((List (List Int)) × Unit))) : Option (Int × ((List (List Int)) × Unit)) :=
  (lvmarkIntSS_0 N N (x.1, (0 : Int), x.2.1, ())).bind fun o3 =>
  some (o3.1, o3.2.1, ())
noncomputable def convmarkIntSS (N : Nat) : Con := { f := 81, din := dinvmarkIntSS, outs := outvmarkIntSS, F := FvmarkIntSS N }
noncomputable def XvmarkIntSS (N : Nat) : Ctx := { E := EvmarkIntSS N, H := HvmarkIntSS, lp := [(0, { hd := dvmarkIntSS_0, outs := ovmarkIntSS_0, run := fun v => lvmarkIntSS_0 N N v })], jn := [] }
noncomputable def bvmarkIntSS_0 : Code := loopBody (codeOf Try.f81) 0
theorem FvmarkIntSS_eq (N : Nat) (x : (Int × ((List (List Int)) × Unit))) : evFn (XvmarkIntSS N) Try.f81 dinvmarkIntSS outvmarkIntSS x = FvmarkIntSS N x := by kernel_rfl
theorem lvmarkIntSS_0_eq (N n : Nat) (v : (Int × (Int × ((List (List Int)) × Unit)))) : lvmarkIntSS_0 N (n + 1) v = ev (XvmarkIntSS N) bvmarkIntSS_0 (roundK dvmarkIntSS_0 ovmarkIntSS_0 (lvmarkIntSS_0 N n)) (dvmarkIntSS_0.mk' v) := by kernel_rfl
theorem cxvmarkIntSS (N : Nat) : CtxOk Try.prog (XvmarkIntSS N) := ⟨⟨TE_ok, List.forall_mem_cons.2 ⟨specvmarkIntS N, fun k hk => absurd hk List.not_mem_nil⟩⟩, mixed⟩
theorem lpvmarkIntSS_0 (N : Nat) : LoopOk Try.prog { hd := dvmarkIntSS_0, outs := ovmarkIntSS_0, run := fun v => lvmarkIntSS_0 N N v } bvmarkIntSS_0 :=
  loop_fuel (d := dvmarkIntSS_0) (os := ovmarkIntSS_0) (cxvmarkIntSS N) (loops_at (ids := []) (by kernel_rfl) (trivial)) (lvmarkIntSS_0 N) (fun _ => rfl) (fun n v => lvmarkIntSS_0_eq N n v) (fun _ => N)
theorem specvmarkIntSS (N : Nat) : Spec Try.prog (convmarkIntSS N) :=
  Spec.of_eq (fn_spec (cxvmarkIntSS N) (f := 81) (fn := Try.f81) (c := codeOf Try.f81) (by kernel_rfl) (by kernel_rfl) (by kernel_rfl) (loops_at (ids := [0]) (by kernel_rfl) ⟨lp_of (lpvmarkIntSS_0 N), trivial⟩) (by kernel_rfl)) (fun x r h => (FvmarkIntSS_eq N x).trans h)

/-! ### 35: laws.markGraph -/

noncomputable def dinvmarkGraph : Desc := { n := 2, regs := [.agg [.lit (.row 0), .lit (.row 1), .lit (.row 2)], .one (.val (.int .i64))], bx := [(0, .row (.pair (.sl (.int .i64)) (.pair (.sl (.int .i64)) .unit))), (1, .row (.sl (.int .i64))), (2, .row (.int .i64))], pins := [] }
noncomputable def outvmarkGraph : Outs := [(.ret, { n := 1, regs := [.one (.val (.int .i64))], bx := [(0, .row (.pair (.sl (.int .i64)) (.pair (.sl (.int .i64)) .unit))), (1, .row (.sl (.int .i64))), (2, .row (.int .i64))], pins := [.agg [.lit (.row 0), .lit (.row 1), .lit (.row 2)]] })]
noncomputable def HvmarkGraph : Hints := [(2, [(3, { con := 1, sg := [(0, 1)] })]),
  (3, [(3, { con := 2, sg := [(0, 2)] })])]
noncomputable def EvmarkGraph (N : Nat) : Env := { te := TE, cs := [convmarkNodeS N, convmarkIntSS N, convmarkIntS N] }
noncomputable def FvmarkGraph (N : Nat) (x : (Int × ((List ((List Int) × ((List Int) × Unit))) × ((List (List Int)) × ((List Int) × Unit))))) : Option (Int × ((List ((List Int) × ((List Int) × Unit))) × ((List (List Int)) × ((List Int) × Unit)))) :=
  (FvmarkNodeS N (x.1, x.2.1, ())).bind fun r1 =>
  (FvmarkIntSS N (r1.1, x.2.2.1, ())).bind fun r2 =>
  (FvmarkIntS N (r2.1, x.2.2.2.1, ())).bind fun r3 =>
  some (r3.1, r1.2.1, r2.2.1, r3.2.1, ())
noncomputable def convmarkGraph (N : Nat) : Con := { f := 35, din := dinvmarkGraph, outs := outvmarkGraph, F := FvmarkGraph N }
noncomputable def XvmarkGraph (N : Nat) : Ctx := { E := EvmarkGraph N, H := HvmarkGraph, lp := [], jn := [] }
theorem FvmarkGraph_eq (N : Nat) (x : (Int × ((List ((List Int) × ((List Int) × Unit))) × ((List (List Int)) × ((List Int) × Unit))))) : evFn (XvmarkGraph N) Try.f35 dinvmarkGraph outvmarkGraph x = FvmarkGraph N x := by kernel_rfl
theorem cxvmarkGraph (N : Nat) : CtxOk Try.prog (XvmarkGraph N) := ⟨⟨TE_ok, List.forall_mem_cons.2 ⟨specvmarkNodeS N, List.forall_mem_cons.2 ⟨specvmarkIntSS N, List.forall_mem_cons.2 ⟨specvmarkIntS N, fun k hk => absurd hk List.not_mem_nil⟩⟩⟩⟩, mixed⟩
theorem specvmarkGraph (N : Nat) : Spec Try.prog (convmarkGraph N) :=
  Spec.of_eq (fn_spec (cxvmarkGraph N) (f := 35) (fn := Try.f35) (c := codeOf Try.f35) (by kernel_rfl) (by kernel_rfl) (by kernel_rfl) (loops_at (ids := []) (by kernel_rfl) (trivial)) (by kernel_rfl)) (fun x r h => (FvmarkGraph_eq N x).trans h)

/-! ### 85: laws.heldIntS -/

noncomputable def dinvheldIntS : Desc := { n := 2, regs := [.one (.val (.sl (.int .i64))), .one (.val (.int .i64))], bx := [], pins := [] }
noncomputable def outvheldIntS : Outs := [(.ret, { n := 1, regs := [.one (.val (.int .i64))], bx := [], pins := [] })]
noncomputable def HvheldIntS : Hints := []
noncomputable def EvheldIntS (_N : Nat) : Env := { te := TE, cs := [] }
noncomputable def dvheldIntS_0 : Desc := { n := 21, regs := [.one (.val (.sl (.int .i64))), .one (.val (.int .i64)), u, u, u, .one (.val (.int .i64))], bx := [], pins := [] }
noncomputable def ovheldIntS_0 : Outs := [(.exit 0, { n := 21, regs := [u, .one (.val (.int .i64))], bx := [], pins := [] }), (.ret, { n := 21, regs := [u, u, u, u, .one (.val (.int .i64))], bx := [], pins := [] })]
noncomputable def lvheldIntS_0 (N : Nat) : Nat → ((List Int) × (Int × (Int × Unit))) → Option ((Int × Unit) ⊕ (Int × Unit))
  | 0, _ => none
  | n + 1, v =>
    let y1 := decide (v.2.2.1 < (v.1.length : Int))
    bif y1 then
     bif decide (0 ≤ v.2.2.1) then
     bif decide (v.2.2.1.toNat < v.1.length) then
     let y2 := (v.1.getD v.2.2.1.toNat (0 : Int)) != v.2.1
     bif y2 then
      some (.inr (((-1 : Int), ())))
     else
     lvheldIntS_0 N n (v.1, w64 (v.2.1 + (1 : Int)), w64 (v.2.2.1 + (1 : Int)), ())
     else none
     else none
    else
    some (.inl (v.2.1, ()))
noncomputable def FvheldIntS (N : Nat) (x : ((List Int) × (Int × Unit))) : Option (Int × Unit) :=
  (lvheldIntS_0 N N (x.1, x.2.1, (0 : Int), ())).bind fun o3 =>
  Sum.elim (fun o4 =>
   some (o4.1, ())) (fun o5 =>
   some (o5.1, ())) o3
noncomputable def convheldIntS (N : Nat) : Con := { f := 85, din := dinvheldIntS, outs := outvheldIntS, F := FvheldIntS N }
noncomputable def XvheldIntS (N : Nat) : Ctx := { E := EvheldIntS N, H := HvheldIntS, lp := [(0, { hd := dvheldIntS_0, outs := ovheldIntS_0, run := fun v => lvheldIntS_0 N N v })], jn := [] }
noncomputable def bvheldIntS_0 : Code := loopBody (codeOf Try.f85) 0
theorem FvheldIntS_eq (N : Nat) (x : ((List Int) × (Int × Unit))) : evFn (XvheldIntS N) Try.f85 dinvheldIntS outvheldIntS x = FvheldIntS N x := by kernel_rfl
theorem lvheldIntS_0_eq (N n : Nat) (v : ((List Int) × (Int × (Int × Unit)))) : lvheldIntS_0 N (n + 1) v = ev (XvheldIntS N) bvheldIntS_0 (roundK dvheldIntS_0 ovheldIntS_0 (lvheldIntS_0 N n)) (dvheldIntS_0.mk' v) := by kernel_rfl
theorem cxvheldIntS (N : Nat) : CtxOk Try.prog (XvheldIntS N) := ⟨⟨TE_ok, fun k hk => absurd hk List.not_mem_nil⟩, mixed⟩
theorem lpvheldIntS_0 (N : Nat) : LoopOk Try.prog { hd := dvheldIntS_0, outs := ovheldIntS_0, run := fun v => lvheldIntS_0 N N v } bvheldIntS_0 :=
  loop_fuel (d := dvheldIntS_0) (os := ovheldIntS_0) (cxvheldIntS N) (loops_at (ids := []) (by kernel_rfl) (trivial)) (lvheldIntS_0 N) (fun _ => rfl) (fun n v => lvheldIntS_0_eq N n v) (fun _ => N)
theorem specvheldIntS (N : Nat) : Spec Try.prog (convheldIntS N) :=
  Spec.of_eq (fn_spec (cxvheldIntS N) (f := 85) (fn := Try.f85) (c := codeOf Try.f85) (by kernel_rfl) (by kernel_rfl) (by kernel_rfl) (loops_at (ids := [0]) (by kernel_rfl) ⟨lp_of (lpvheldIntS_0 N), trivial⟩) (by kernel_rfl)) (fun x r h => (FvheldIntS_eq N x).trans h)

/-! ### 83: laws.heldNodeS -/

noncomputable def dinvheldNodeS : Desc := { n := 2, regs := [.one (.val (.sl (.pair (.sl (.int .i64)) (.pair (.sl (.int .i64)) .unit)))), .one (.val (.int .i64))], bx := [], pins := [] }
noncomputable def outvheldNodeS : Outs := [(.ret, { n := 1, regs := [.one (.val (.int .i64))], bx := [], pins := [] })]
noncomputable def HvheldNodeS : Hints := []
noncomputable def EvheldNodeS (N : Nat) : Env := { te := TE, cs := [convheldIntS N] }
noncomputable def dvheldNodeS_0 : Desc := { n := 31, regs := [.one (.val (.sl (.pair (.sl (.int .i64)) (.pair (.sl (.int .i64)) .unit)))), .one (.val (.int .i64)), u, u, u, .one (.val (.int .i64))], bx := [], pins := [] }
noncomputable def ovheldNodeS_0 : Outs := [(.exit 0, { n := 31, regs := [u, .one (.val (.int .i64))], bx := [], pins := [] }), (.ret, { n := 31, regs := [u, u, u, u, .one (.val (.int .i64))], bx := [], pins := [] })]
noncomputable def lvheldNodeS_0 (N : Nat) : Nat → ((List ((List Int) × ((List Int) × Unit))) × (Int × (Int × Unit))) → Option ((Int × Unit) ⊕ (Int × Unit))
  | 0, _ => none
  | n + 1, v =>
    let y1 := decide (v.2.2.1 < (v.1.length : Int))
    bif y1 then
     bif decide (0 ≤ v.2.2.1) then
     bif decide (v.2.2.1.toNat < v.1.length) then
     let y2 := v.1.getD v.2.2.1.toNat (([] : (List Int)), ([] : (List Int)), ())
     (FvheldIntS N (y2.1, v.2.1, ())).bind fun r3 =>
     bif decide (r3.1 < (0 : Int)) then
      some (.inr (((-1 : Int), ())))
     else
     bif decide (0 ≤ v.2.2.1) then
     bif decide (v.2.2.1.toNat < v.1.length) then
     let y4 := v.1.getD v.2.2.1.toNat (([] : (List Int)), ([] : (List Int)), ())
     (FvheldIntS N (y4.2.1, r3.1, ())).bind fun r5 =>
     bif decide (r5.1 < (0 : Int)) then
      some (.inr (((-1 : Int), ())))
     else
     lvheldNodeS_0 N n (v.1, r5.1, w64 (v.2.2.1 + (1 : Int)), ())
     else none
     else none
     else none
     else none
    else
    some (.inl (v.2.1, ()))
noncomputable def FvheldNodeS (N : Nat) (x : ((List ((List Int) × ((List Int) × Unit))) × (Int × Unit))) : Option (Int × Unit) :=
  (lvheldNodeS_0 N N (x.1, x.2.1, (0 : Int), ())).bind fun o6 =>
  Sum.elim (fun o7 =>
   some (o7.1, ())) (fun o8 =>
   some (o8.1, ())) o6
noncomputable def convheldNodeS (N : Nat) : Con := { f := 83, din := dinvheldNodeS, outs := outvheldNodeS, F := FvheldNodeS N }
noncomputable def XvheldNodeS (N : Nat) : Ctx := { E := EvheldNodeS N, H := HvheldNodeS, lp := [(0, { hd := dvheldNodeS_0, outs := ovheldNodeS_0, run := fun v => lvheldNodeS_0 N N v })], jn := [] }
noncomputable def bvheldNodeS_0 : Code := loopBody (codeOf Try.f83) 0
theorem FvheldNodeS_eq (N : Nat) (x : ((List ((List Int) × ((List Int) × Unit))) × (Int × Unit))) : evFn (XvheldNodeS N) Try.f83 dinvheldNodeS outvheldNodeS x = FvheldNodeS N x := by kernel_rfl
theorem lvheldNodeS_0_eq (N n : Nat) (v : ((List ((List Int) × ((List Int) × Unit))) × (Int × (Int × Unit)))) : lvheldNodeS_0 N (n + 1) v = ev (XvheldNodeS N) bvheldNodeS_0 (roundK dvheldNodeS_0 ovheldNodeS_0 (lvheldNodeS_0 N n)) (dvheldNodeS_0.mk' v) := by kernel_rfl
theorem cxvheldNodeS (N : Nat) : CtxOk Try.prog (XvheldNodeS N) := ⟨⟨TE_ok, List.forall_mem_cons.2 ⟨specvheldIntS N, fun k hk => absurd hk List.not_mem_nil⟩⟩, mixed⟩
theorem lpvheldNodeS_0 (N : Nat) : LoopOk Try.prog { hd := dvheldNodeS_0, outs := ovheldNodeS_0, run := fun v => lvheldNodeS_0 N N v } bvheldNodeS_0 :=
  loop_fuel (d := dvheldNodeS_0) (os := ovheldNodeS_0) (cxvheldNodeS N) (loops_at (ids := []) (by kernel_rfl) (trivial)) (lvheldNodeS_0 N) (fun _ => rfl) (fun n v => lvheldNodeS_0_eq N n v) (fun _ => N)
theorem specvheldNodeS (N : Nat) : Spec Try.prog (convheldNodeS N) :=
  Spec.of_eq (fn_spec (cxvheldNodeS N) (f := 83) (fn := Try.f83) (c := codeOf Try.f83) (by kernel_rfl) (by kernel_rfl) (by kernel_rfl) (loops_at (ids := [0]) (by kernel_rfl) ⟨lp_of (lpvheldNodeS_0 N), trivial⟩) (by kernel_rfl)) (fun x r h => (FvheldNodeS_eq N x).trans h)

/-! ### 84: laws.heldIntSS -/

noncomputable def dinvheldIntSS : Desc := { n := 2, regs := [.one (.val (.sl (.sl (.int .i64)))), .one (.val (.int .i64))], bx := [], pins := [] }
noncomputable def outvheldIntSS : Outs := [(.ret, { n := 1, regs := [.one (.val (.int .i64))], bx := [], pins := [] })]
noncomputable def HvheldIntSS : Hints := []
noncomputable def EvheldIntSS (N : Nat) : Env := { te := TE, cs := [convheldIntS N] }
noncomputable def dvheldIntSS_0 : Desc := { n := 21, regs := [.one (.val (.sl (.sl (.int .i64)))), .one (.val (.int .i64)), u, u, u, .one (.val (.int .i64))], bx := [], pins := [] }
noncomputable def ovheldIntSS_0 : Outs := [(.exit 0, { n := 21, regs := [u, .one (.val (.int .i64))], bx := [], pins := [] }), (.ret, { n := 21, regs := [u, u, u, u, .one (.val (.int .i64))], bx := [], pins := [] })]
noncomputable def lvheldIntSS_0 (N : Nat) : Nat → ((List (List Int)) × (Int × (Int × Unit))) → Option ((Int × Unit) ⊕ (Int × Unit))
  | 0, _ => none
  | n + 1, v =>
    let y1 := decide (v.2.2.1 < (v.1.length : Int))
    bif y1 then
     bif decide (0 ≤ v.2.2.1) then
     bif decide (v.2.2.1.toNat < v.1.length) then
     let y2 := v.1.getD v.2.2.1.toNat ([] : (List Int))
     (FvheldIntS N (y2, v.2.1, ())).bind fun r3 =>
     bif decide (r3.1 < (0 : Int)) then
      some (.inr (((-1 : Int), ())))
     else
     lvheldIntSS_0 N n (v.1, r3.1, w64 (v.2.2.1 + (1 : Int)), ())
     else none
     else none
    else
    some (.inl (v.2.1, ()))
noncomputable def FvheldIntSS (N : Nat) (x : ((List (List Int)) × (Int × Unit))) : Option (Int × Unit) :=
  (lvheldIntSS_0 N N (x.1, x.2.1, (0 : Int), ())).bind fun o4 =>
  Sum.elim (fun o5 =>
   some (o5.1, ())) (fun o6 =>
   some (o6.1, ())) o4
noncomputable def convheldIntSS (N : Nat) : Con := { f := 84, din := dinvheldIntSS, outs := outvheldIntSS, F := FvheldIntSS N }
noncomputable def XvheldIntSS (N : Nat) : Ctx := { E := EvheldIntSS N, H := HvheldIntSS, lp := [(0, { hd := dvheldIntSS_0, outs := ovheldIntSS_0, run := fun v => lvheldIntSS_0 N N v })], jn := [] }
noncomputable def bvheldIntSS_0 : Code := loopBody (codeOf Try.f84) 0
theorem FvheldIntSS_eq (N : Nat) (x : ((List (List Int)) × (Int × Unit))) : evFn (XvheldIntSS N) Try.f84 dinvheldIntSS outvheldIntSS x = FvheldIntSS N x := by kernel_rfl
theorem lvheldIntSS_0_eq (N n : Nat) (v : ((List (List Int)) × (Int × (Int × Unit)))) : lvheldIntSS_0 N (n + 1) v = ev (XvheldIntSS N) bvheldIntSS_0 (roundK dvheldIntSS_0 ovheldIntSS_0 (lvheldIntSS_0 N n)) (dvheldIntSS_0.mk' v) := by kernel_rfl
theorem cxvheldIntSS (N : Nat) : CtxOk Try.prog (XvheldIntSS N) := ⟨⟨TE_ok, List.forall_mem_cons.2 ⟨specvheldIntS N, fun k hk => absurd hk List.not_mem_nil⟩⟩, mixed⟩
theorem lpvheldIntSS_0 (N : Nat) : LoopOk Try.prog { hd := dvheldIntSS_0, outs := ovheldIntSS_0, run := fun v => lvheldIntSS_0 N N v } bvheldIntSS_0 :=
  loop_fuel (d := dvheldIntSS_0) (os := ovheldIntSS_0) (cxvheldIntSS N) (loops_at (ids := []) (by kernel_rfl) (trivial)) (lvheldIntSS_0 N) (fun _ => rfl) (fun n v => lvheldIntSS_0_eq N n v) (fun _ => N)
theorem specvheldIntSS (N : Nat) : Spec Try.prog (convheldIntSS N) :=
  Spec.of_eq (fn_spec (cxvheldIntSS N) (f := 84) (fn := Try.f84) (c := codeOf Try.f84) (by kernel_rfl) (by kernel_rfl) (by kernel_rfl) (loops_at (ids := [0]) (by kernel_rfl) ⟨lp_of (lpvheldIntSS_0 N), trivial⟩) (by kernel_rfl)) (fun x r h => (FvheldIntSS_eq N x).trans h)

/-! ### 36: laws.heldGraph -/

noncomputable def dinvheldGraph : Desc := { n := 2, regs := [.one (.val (.pair (.sl (.pair (.sl (.int .i64)) (.pair (.sl (.int .i64)) .unit))) (.pair (.sl (.sl (.int .i64))) (.pair (.sl (.int .i64)) .unit)))), .one (.val (.int .i64))], bx := [], pins := [] }
noncomputable def outvheldGraph : Outs := [(.ret, { n := 1, regs := [.one (.val (.int .i64))], bx := [], pins := [] })]
noncomputable def HvheldGraph : Hints := [(0, [(0, { fz := true })]),
  (4, [(3, { con := 1 })]),
  (7, [(3, { con := 2 })])]
noncomputable def EvheldGraph (N : Nat) : Env := { te := TE, cs := [convheldNodeS N, convheldIntSS N, convheldIntS N] }
noncomputable def FvheldGraph (N : Nat) (x : (((List ((List Int) × ((List Int) × Unit))) × ((List (List Int)) × ((List Int) × Unit))) × (Int × Unit))) : Option (Int × Unit) :=
  (FvheldNodeS N (x.1.1, x.2.1, ())).bind fun r1 =>
  bif decide (r1.1 < (0 : Int)) then
   some ((-1 : Int), ())
  else
  (FvheldIntSS N (x.1.2.1, r1.1, ())).bind fun r2 =>
  bif decide (r2.1 < (0 : Int)) then
   some ((-1 : Int), ())
  else
  (FvheldIntS N (x.1.2.2.1, r2.1, ())).bind fun r3 =>
  bif decide (r3.1 < (0 : Int)) then
   some ((-1 : Int), ())
  else
  some (r3.1, ())
noncomputable def convheldGraph (N : Nat) : Con := { f := 36, din := dinvheldGraph, outs := outvheldGraph, F := FvheldGraph N }
noncomputable def XvheldGraph (N : Nat) : Ctx := { E := EvheldGraph N, H := HvheldGraph, lp := [], jn := [] }
theorem FvheldGraph_eq (N : Nat) (x : (((List ((List Int) × ((List Int) × Unit))) × ((List (List Int)) × ((List Int) × Unit))) × (Int × Unit))) : evFn (XvheldGraph N) Try.f36 dinvheldGraph outvheldGraph x = FvheldGraph N x := by kernel_rfl
theorem cxvheldGraph (N : Nat) : CtxOk Try.prog (XvheldGraph N) := ⟨⟨TE_ok, List.forall_mem_cons.2 ⟨specvheldNodeS N, List.forall_mem_cons.2 ⟨specvheldIntSS N, List.forall_mem_cons.2 ⟨specvheldIntS N, fun k hk => absurd hk List.not_mem_nil⟩⟩⟩⟩, mixed⟩
theorem specvheldGraph (N : Nat) : Spec Try.prog (convheldGraph N) :=
  Spec.of_eq (fn_spec (cxvheldGraph N) (f := 36) (fn := Try.f36) (c := codeOf Try.f36) (by kernel_rfl) (by kernel_rfl) (by kernel_rfl) (loops_at (ids := []) (by kernel_rfl) (trivial)) (by kernel_rfl)) (fun x r h => (FvheldGraph_eq N x).trans h)

/-! ### 37: laws.heldEventS -/

noncomputable def dinvheldEventS : Desc := { n := 2, regs := [.one (.val (.sl (.pair (.int .i64) (.pair (.int .i64) (.pair (.int .i64) (.pair (.int .i64) .unit)))))), .one (.val (.int .i64))], bx := [], pins := [] }
noncomputable def outvheldEventS : Outs := [(.ret, { n := 1, regs := [.one (.val (.int .i64))], bx := [], pins := [] })]
noncomputable def HvheldEventS : Hints := []
noncomputable def EvheldEventS (_N : Nat) : Env := { te := TE, cs := [] }
noncomputable def dvheldEventS_0 : Desc := { n := 49, regs := [.one (.val (.sl (.pair (.int .i64) (.pair (.int .i64) (.pair (.int .i64) (.pair (.int .i64) .unit)))))), .one (.val (.int .i64)), u, u, u, .one (.val (.int .i64))], bx := [], pins := [] }
noncomputable def ovheldEventS_0 : Outs := [(.exit 0, { n := 49, regs := [u, .one (.val (.int .i64))], bx := [], pins := [] }), (.ret, { n := 49, regs := [u, u, u, u, .one (.val (.int .i64))], bx := [], pins := [] })]
noncomputable def lvheldEventS_0 (N : Nat) : Nat → ((List (Int × (Int × (Int × (Int × Unit))))) × (Int × (Int × Unit))) → Option ((Int × Unit) ⊕ (Int × Unit))
  | 0, _ => none
  | n + 1, v =>
    let y1 := decide (v.2.2.1 < (v.1.length : Int))
    bif y1 then
     bif decide (0 ≤ v.2.2.1) then
     bif decide (v.2.2.1.toNat < v.1.length) then
     let y2 := v.1.getD v.2.2.1.toNat ((0 : Int), (0 : Int), (0 : Int), (0 : Int), ())
     bif y2.1 != v.2.1 then
      some (.inr (((-1 : Int), ())))
     else
     bif decide (0 ≤ v.2.2.1) then
     bif decide (v.2.2.1.toNat < v.1.length) then
     let y3 := v.1.getD v.2.2.1.toNat ((0 : Int), (0 : Int), (0 : Int), (0 : Int), ())
     bif y3.2.1 != (w64 (v.2.1 + (1 : Int))) then
      some (.inr (((-1 : Int), ())))
     else
     let y4 := w64 ((w64 (v.2.1 + (1 : Int))) + (1 : Int))
     bif decide (0 ≤ v.2.2.1) then
     bif decide (v.2.2.1.toNat < v.1.length) then
     let y5 := v.1.getD v.2.2.1.toNat ((0 : Int), (0 : Int), (0 : Int), (0 : Int), ())
     bif y5.2.2.1 != y4 then
      some (.inr (((-1 : Int), ())))
     else
     bif decide (0 ≤ v.2.2.1) then
     bif decide (v.2.2.1.toNat < v.1.length) then
     let y6 := v.1.getD v.2.2.1.toNat ((0 : Int), (0 : Int), (0 : Int), (0 : Int), ())
     bif y6.2.2.2.1 != (w64 (y4 + (1 : Int))) then
      some (.inr (((-1 : Int), ())))
     else
     let y7 := w64 ((w64 (y4 + (1 : Int))) + (1 : Int))
     lvheldEventS_0 N n (v.1, y7, w64 (v.2.2.1 + (1 : Int)), ())
     else none
     else none
     else none
     else none
     else none
     else none
     else none
     else none
    else
    some (.inl (v.2.1, ()))
noncomputable def FvheldEventS (N : Nat) (x : ((List (Int × (Int × (Int × (Int × Unit))))) × (Int × Unit))) : Option (Int × Unit) :=
  (lvheldEventS_0 N N (x.1, x.2.1, (0 : Int), ())).bind fun o8 =>
  Sum.elim (fun o9 =>
   some (o9.1, ())) (fun o10 =>
   some (o10.1, ())) o8
noncomputable def convheldEventS (N : Nat) : Con := { f := 37, din := dinvheldEventS, outs := outvheldEventS, F := FvheldEventS N }
noncomputable def XvheldEventS (N : Nat) : Ctx := { E := EvheldEventS N, H := HvheldEventS, lp := [(0, { hd := dvheldEventS_0, outs := ovheldEventS_0, run := fun v => lvheldEventS_0 N N v })], jn := [] }
noncomputable def bvheldEventS_0 : Code := loopBody (codeOf Try.f37) 0
theorem FvheldEventS_eq (N : Nat) (x : ((List (Int × (Int × (Int × (Int × Unit))))) × (Int × Unit))) : evFn (XvheldEventS N) Try.f37 dinvheldEventS outvheldEventS x = FvheldEventS N x := by kernel_rfl
theorem lvheldEventS_0_eq (N n : Nat) (v : ((List (Int × (Int × (Int × (Int × Unit))))) × (Int × (Int × Unit)))) : lvheldEventS_0 N (n + 1) v = ev (XvheldEventS N) bvheldEventS_0 (roundK dvheldEventS_0 ovheldEventS_0 (lvheldEventS_0 N n)) (dvheldEventS_0.mk' v) := by kernel_rfl
theorem cxvheldEventS (N : Nat) : CtxOk Try.prog (XvheldEventS N) := ⟨⟨TE_ok, fun k hk => absurd hk List.not_mem_nil⟩, mixed⟩
theorem lpvheldEventS_0 (N : Nat) : LoopOk Try.prog { hd := dvheldEventS_0, outs := ovheldEventS_0, run := fun v => lvheldEventS_0 N N v } bvheldEventS_0 :=
  loop_fuel (d := dvheldEventS_0) (os := ovheldEventS_0) (cxvheldEventS N) (loops_at (ids := []) (by kernel_rfl) (trivial)) (lvheldEventS_0 N) (fun _ => rfl) (fun n v => lvheldEventS_0_eq N n v) (fun _ => N)
theorem specvheldEventS (N : Nat) : Spec Try.prog (convheldEventS N) :=
  Spec.of_eq (fn_spec (cxvheldEventS N) (f := 37) (fn := Try.f37) (c := codeOf Try.f37) (by kernel_rfl) (by kernel_rfl) (by kernel_rfl) (loops_at (ids := [0]) (by kernel_rfl) ⟨lp_of (lpvheldEventS_0 N), trivial⟩) (by kernel_rfl)) (fun x r h => (FvheldEventS_eq N x).trans h)

/-! ### 11: laws.FnExactStoryPlain -/

noncomputable def dinvFnExactStoryPlain : Desc := { n := 3, regs := [.one (.val (.pair (.int .i64) (.pair (.int .i64) (.pair (.int .i64) .unit)))), .one (.val (.sl (.sl (.pair (.int .i64) (.pair (.int .i64) (.pair (.int .i64) (.pair (.int .i64) (.pair (.int .i64) (.pair (.int .i64) (.pair (.pair (.int .i64) (.pair (.int .i64) .unit)) .unit)))))))))), .one (.val (.sl (.pair (.int .i64) (.pair (.int .i64) (.pair (.int .i64) (.pair (.int .i64) .unit))))))], bx := [], pins := [] }
noncomputable def outvFnExactStoryPlain : Outs := [(.ret, { n := 1, regs := [.one (.val .bool)], bx := [], pins := [] })]
noncomputable def HvFnExactStoryPlain : Hints := [(0, [(0, { fz := true })]),
  (5, [(2, { con := 1 })]),
  (8, [(1, { con := 2 }), (3, { con := 3 }), (5, { con := 4 }), (6, { con := 5 })]),
  (9, [(1, { con := 3 })]),
  (10, [(1, { con := 4 })]),
  (11, [(1, { con := 2 }), (4, { con := 6 })]),
  (12, [(2, { con := 7 }), (7, { con := 8 })]),
  (14, [(2, { con := 3 }), (3, { con := 9 })]),
  (16, [(2, { con := 4 }), (3, { con := 8 })]),
  (19, [(2, { con := 10, sg := [(0, 1115265)] })]),
  (20, [(2, { con := 11, sg := [(0, 1128065)] })]),
  (21, [(5, { con := 7 }), (11, { con := 8 })]),
  (24, [(2, { con := 12, sg := [(0, 1141057), (1, 1141058), (2, 1141059)] })]),
  (25, [(2, { con := 11, sg := [(0, 1141060)] })]),
  (27, [(2, { con := 13 })]),
  (30, [(2, { con := 14 })]),
  (35, [(1, { con := 2 }), (3, { con := 3 }), (5, { con := 4 }), (6, { con := 6 })]),
  (36, [(2, { con := 7 }), (7, { con := 8 })]),
  (39, [(2, { con := 13 })]),
  (42, [(2, { con := 14 })])]
noncomputable def EvFnExactStoryPlain (N : Nat) : Env := { te := TE, cs := [convszOpSS N, convszEventS N, convtoConfig N, convtoOpSS N, convtoEventS N, consStoryPlain N, coniStoryPlain N, conveqGraph N, conveqEventS N, conveqOpSS N, convmarkOpSS N, convmarkEventS N, convmarkGraph N, convheldGraph N, convheldEventS N] }
noncomputable def jvFnExactStoryPlain_14 : Outs := [(.normal, { n := 164, regs := [u, .one (.val (.sl (.sl (.pair (.int .i64) (.pair (.int .i64) (.pair (.int .i64) (.pair (.int .i64) (.pair (.int .i64) (.pair (.int .i64) (.pair (.pair (.int .i64) (.pair (.int .i64) .unit)) .unit)))))))))), .one (.val (.sl (.pair (.int .i64) (.pair (.int .i64) (.pair (.int .i64) (.pair (.int .i64) .unit)))))), .one (.fpt (.pair (.int .i64) (.pair (.int .i64) (.pair (.int .i64) .unit)))), u, u, u, u, .one (.lit (.ptr 1103104 0)), .one (.lit (.row 1102788)), .one (.val .bool), .one (.lit (.row 1115265)), .one (.lit (.row 1128065)), .one (.lit (.ptr 1141376 0)), .one (.lit (.row 1141060)), .one (.val .bool)], bx := [(1103104, .var [.lit (.row 1102785), .lit (.row 1102786), .lit (.row 1102787)]), (1102785, .row (.pair (.sl (.int .i64)) (.pair (.sl (.int .i64)) .unit))), (1102786, .row (.sl (.int .i64))), (1102787, .row (.int .i64)), (1102788, .row (.pair (.int .i64) (.pair (.int .i64) (.pair (.int .i64) (.pair (.int .i64) .unit))))), (1115265, .row (.sl (.pair (.int .i64) (.pair (.int .i64) (.pair (.int .i64) (.pair (.int .i64) (.pair (.int .i64) (.pair (.int .i64) (.pair (.pair (.int .i64) (.pair (.int .i64) .unit)) .unit))))))))), (1128065, .row (.pair (.int .i64) (.pair (.int .i64) (.pair (.int .i64) (.pair (.int .i64) .unit))))), (1141376, .var [.lit (.row 1141057), .lit (.row 1141058), .lit (.row 1141059)]), (1141057, .row (.pair (.sl (.int .i64)) (.pair (.sl (.int .i64)) .unit))), (1141058, .row (.sl (.int .i64))), (1141059, .row (.int .i64)), (1141060, .row (.pair (.int .i64) (.pair (.int .i64) (.pair (.int .i64) (.pair (.int .i64) .unit)))))], pins := [] }), (.ret, { n := 164, regs := [u, u, u, u, u, u, .one (.val .bool)], bx := [], pins := [] })]
noncomputable def jvFnExactStoryPlain_23 : Outs := [(.normal, { n := 164, regs := [u, .one (.val (.sl (.sl (.pair (.int .i64) (.pair (.int .i64) (.pair (.int .i64) (.pair (.int .i64) (.pair (.int .i64) (.pair (.int .i64) (.pair (.pair (.int .i64) (.pair (.int .i64) .unit)) .unit)))))))))), .one (.val (.sl (.pair (.int .i64) (.pair (.int .i64) (.pair (.int .i64) (.pair (.int .i64) .unit)))))), .one (.fpt (.pair (.int .i64) (.pair (.int .i64) (.pair (.int .i64) .unit)))), u, u, u, u, .one (.lit (.ptr 1103104 0)), .one (.lit (.row 1102788)), .one (.val .bool), u, u, .one (.lit (.ptr 1141376 0)), .one (.lit (.row 1141060))], bx := [(1103104, .var [.lit (.row 1102785), .lit (.row 1102786), .lit (.row 1102787)]), (1102785, .row (.pair (.sl (.int .i64)) (.pair (.sl (.int .i64)) .unit))), (1102786, .row (.sl (.int .i64))), (1102787, .row (.int .i64)), (1102788, .row (.pair (.int .i64) (.pair (.int .i64) (.pair (.int .i64) (.pair (.int .i64) .unit))))), (1141376, .var [.lit (.row 1141057), .lit (.row 1141058), .lit (.row 1141059)]), (1141057, .row (.pair (.sl (.int .i64)) (.pair (.sl (.int .i64)) .unit))), (1141058, .row (.sl (.int .i64))), (1141059, .row (.int .i64)), (1141060, .row (.pair (.int .i64) (.pair (.int .i64) (.pair (.int .i64) (.pair (.int .i64) .unit)))))], pins := [] }), (.ret, { n := 164, regs := [u, u, u, u, u, u, .one (.val .bool)], bx := [], pins := [] })]
noncomputable def jvFnExactStoryPlain_38 : Outs := [(.normal, { n := 164, regs := [u, u, u, u, u, u, u, u, u, u, u, u, u, .one (.lit (.ptr 1141376 0)), .one (.lit (.row 1141060)), u, u, .one (.val (.int .i64))], bx := [(1141376, .var [.lit (.row 1141057), .lit (.row 1141058), .lit (.row 1141059)]), (1141057, .row (.pair (.sl (.int .i64)) (.pair (.sl (.int .i64)) .unit))), (1141058, .row (.sl (.int .i64))), (1141059, .row (.int .i64)), (1141060, .row (.pair (.int .i64) (.pair (.int .i64) (.pair (.int .i64) (.pair (.int .i64) .unit)))))], pins := [] }), (.ret, { n := 164, regs := [u, u, u, u, u, u, .one (.val .bool)], bx := [], pins := [] })]
noncomputable def FvFnExactStoryPlain (N : Nat) (x : ((Int × (Int × (Int × Unit))) × ((List (List (Int × (Int × (Int × (Int × (Int × (Int × ((Int × (Int × Unit)) × Unit))))))))) × ((List (Int × (Int × (Int × (Int × Unit))))) × Unit)))) : Option (Bool × Unit) :=
  (FvszOpSS N (x.2.1, (1048576 : Int), ())).bind fun r1 =>
  bif decide (r1.1 < (0 : Int)) then
   some (true, ())
  else
  (FvszEventS N (x.2.2.1, r1.1, ())).bind fun r2 =>
  bif decide (r2.1 < (0 : Int)) then
   some (true, ())
  else
  (FvtoConfig N (x.1, ())).bind fun r3 =>
  (FvtoOpSS N (x.2.1, ())).bind fun r4 =>
  (FvtoEventS N (x.2.2.1, ())).bind fun r5 =>
  (FsStoryPlain N ((r3.1, r3.2.1, r3.2.2.1, ()), r4.1, r5.1, ())).bind fun r6 =>
  (FvtoOpSS N (x.2.1, ())).bind fun r7 =>
  (FvtoEventS N (x.2.2.1, ())).bind fun r8 =>
  (FvtoConfig N (x.1, ())).bind fun r9 =>
  (FiStoryPlain N ((r9.1, r9.2.1, r9.2.2.1, ()), r7.1, r8.1, ())).bind fun r10 =>
  Option.bind (
   (FveqGraph N ((r10.2.1, r10.2.2.1, r10.2.2.2.1, ()), (r6.2.1, r6.2.2.1, r6.2.2.2.1, ()), ())).bind fun r11 =>
   bif !r11.1 then
    some (.inr ((false, ())))
   else
   (FveqEventS N (r10.2.2.2.2.1, r6.2.2.2.2.1, ())).bind fun r12 =>
   bif !r12.1 then
    some (.inr ((false, ())))
   else
   bif !(r10.1 == r6.1) then
    some (.inr ((false, ())))
   else
   some (.inl (x.2.1, x.2.2.1, x.1, r6.1, r10.1, r6.2.1, r6.2.2.1, r6.2.2.2.1, r6.2.2.2.2.1, r7.1, r8.1, r10.2.1, r10.2.2.1, r10.2.2.2.1, r10.2.2.2.2.1, ()))) fun o13 =>
  Sum.elim (fun o14 =>
   (FvtoOpSS N (o14.1, ())).bind fun r15 =>
   (FveqOpSS N (o14.2.2.2.2.2.2.2.2.2.1, r15.1, ())).bind fun r16 =>
   bif !r16.1 then
    some (false, ())
   else
   (FvtoEventS N (o14.2.1, ())).bind fun r17 =>
   (FveqEventS N (o14.2.2.2.2.2.2.2.2.2.2.1, r17.1, ())).bind fun r18 =>
   bif !r18.1 then
    some (false, ())
   else
   (FvmarkOpSS N ((1 : Int), o14.2.2.2.2.2.2.2.2.2.1, ())).bind fun r19 =>
   (FvmarkEventS N (r19.1, o14.2.2.2.2.2.2.2.2.2.2.1, ())).bind fun r20 =>
   Option.bind (
    bif decide (r20.1 < (0 : Int)) then
     some (.inr ((false, ())))
    else
    (FveqGraph N ((o14.2.2.2.2.2.2.2.2.2.2.2.1, o14.2.2.2.2.2.2.2.2.2.2.2.2.1, o14.2.2.2.2.2.2.2.2.2.2.2.2.2.1, ()), (o14.2.2.2.2.2.1, o14.2.2.2.2.2.2.1, o14.2.2.2.2.2.2.2.1, ()), ())).bind fun r21 =>
    bif !r21.1 then
     some (.inr ((false, ())))
    else
    (FveqEventS N (o14.2.2.2.2.2.2.2.2.2.2.2.2.2.2.1, o14.2.2.2.2.2.2.2.2.1, ())).bind fun r22 =>
    bif !r22.1 then
     some (.inr ((false, ())))
    else
    bif !(o14.2.2.2.2.1 == o14.2.2.2.1) then
     some (.inr ((false, ())))
    else
    some (.inl (o14.1, o14.2.1, o14.2.2.1, o14.2.2.2.1, o14.2.2.2.2.2.1, o14.2.2.2.2.2.2.1, o14.2.2.2.2.2.2.2.1, o14.2.2.2.2.2.2.2.2.1, o14.2.2.2.2.2.2.2.2.2.2.2.1, o14.2.2.2.2.2.2.2.2.2.2.2.2.1, o14.2.2.2.2.2.2.2.2.2.2.2.2.2.1, o14.2.2.2.2.2.2.2.2.2.2.2.2.2.2.1, ()))) fun o23 =>
   Sum.elim (fun o24 =>
    (FvmarkGraph N ((1 : Int), o24.2.2.2.2.2.2.2.2.1, o24.2.2.2.2.2.2.2.2.2.1, o24.2.2.2.2.2.2.2.2.2.2.1, ())).bind fun r25 =>
    (FvmarkEventS N (r25.1, o24.2.2.2.2.2.2.2.2.2.2.2.1, ())).bind fun r26 =>
    (FvheldGraph N ((r25.2.1, r25.2.2.1, r25.2.2.2.1, ()), (1 : Int), ())).bind fun r27 =>
    bif decide (r27.1 < (0 : Int)) then
     some (false, ())
    else
    (FvheldEventS N (r26.2.1, r27.1, ())).bind fun r28 =>
    bif decide (r28.1 < (0 : Int)) then
     some (false, ())
    else
    bif r28.1 != r26.1 then
     some (false, ())
    else
    (FvtoConfig N (o24.2.2.1, ())).bind fun r29 =>
    (FvtoOpSS N (o24.1, ())).bind fun r30 =>
    (FvtoEventS N (o24.2.1, ())).bind fun r31 =>
    (FiStoryPlain N ((r29.1, r29.2.1, r29.2.2.1, ()), r30.1, r31.1, ())).bind fun r32 =>
    Option.bind (
     (FveqGraph N ((r32.2.1, r32.2.2.1, r32.2.2.2.1, ()), (o24.2.2.2.2.1, o24.2.2.2.2.2.1, o24.2.2.2.2.2.2.1, ()), ())).bind fun r33 =>
     bif !r33.1 then
      some (.inr ((false, ())))
     else
     (FveqEventS N (r32.2.2.2.2.1, o24.2.2.2.2.2.2.2.1, ())).bind fun r34 =>
     bif !r34.1 then
      some (.inr ((false, ())))
     else
     bif !(r32.1 == o24.2.2.2.1) then
      some (.inr ((false, ())))
     else
     some (.inl (r26.1, r25.2.1, r25.2.2.1, r25.2.2.2.1, r26.2.1, ()))) fun o35 =>
    Sum.elim (fun o36 =>
     (FvheldGraph N ((o36.2.1, o36.2.2.1, o36.2.2.2.1, ()), (1 : Int), ())).bind fun r37 =>
     bif decide (r37.1 < (0 : Int)) then
      some (false, ())
     else
     (FvheldEventS N (o36.2.2.2.2.1, r37.1, ())).bind fun r38 =>
     bif decide (r38.1 < (0 : Int)) then
      some (false, ())
     else
     bif r38.1 != o36.1 then
      some (false, ())
     else
     some (true, ())) (fun o39 =>
     some (o39.1, ())) o35) (fun o40 =>
    some (o40.1, ())) o23) (fun o41 =>
   some (o41.1, ())) o13
noncomputable def convFnExactStoryPlain (N : Nat) : Con := { f := 11, din := dinvFnExactStoryPlain, outs := outvFnExactStoryPlain, F := FvFnExactStoryPlain N }
noncomputable def XvFnExactStoryPlain (N : Nat) : Ctx := { E := EvFnExactStoryPlain N, H := HvFnExactStoryPlain, lp := [], jn := [(14, jvFnExactStoryPlain_14), (23, jvFnExactStoryPlain_23), (38, jvFnExactStoryPlain_38)] }
theorem FvFnExactStoryPlain_eq (N : Nat) (x : ((Int × (Int × (Int × Unit))) × ((List (List (Int × (Int × (Int × (Int × (Int × (Int × ((Int × (Int × Unit)) × Unit))))))))) × ((List (Int × (Int × (Int × (Int × Unit))))) × Unit)))) : evFn (XvFnExactStoryPlain N) Try.f11 dinvFnExactStoryPlain outvFnExactStoryPlain x = FvFnExactStoryPlain N x := by kernel_rfl
theorem cxvFnExactStoryPlain (N : Nat) : CtxOk Try.prog (XvFnExactStoryPlain N) := ⟨⟨TE_ok, List.forall_mem_cons.2 ⟨specvszOpSS N, List.forall_mem_cons.2 ⟨specvszEventS N, List.forall_mem_cons.2 ⟨specvtoConfig N, List.forall_mem_cons.2 ⟨specvtoOpSS N, List.forall_mem_cons.2 ⟨specvtoEventS N, List.forall_mem_cons.2 ⟨specsStoryPlain N, List.forall_mem_cons.2 ⟨speciStoryPlain N, List.forall_mem_cons.2 ⟨specveqGraph N, List.forall_mem_cons.2 ⟨specveqEventS N, List.forall_mem_cons.2 ⟨specveqOpSS N, List.forall_mem_cons.2 ⟨specvmarkOpSS N, List.forall_mem_cons.2 ⟨specvmarkEventS N, List.forall_mem_cons.2 ⟨specvmarkGraph N, List.forall_mem_cons.2 ⟨specvheldGraph N, List.forall_mem_cons.2 ⟨specvheldEventS N, fun k hk => absurd hk List.not_mem_nil⟩⟩⟩⟩⟩⟩⟩⟩⟩⟩⟩⟩⟩⟩⟩⟩, mixed⟩
theorem specvFnExactStoryPlain (N : Nat) : Spec Try.prog (convFnExactStoryPlain N) :=
  Spec.of_eq (fn_spec (cxvFnExactStoryPlain N) (f := 11) (fn := Try.f11) (c := codeOf Try.f11) (by kernel_rfl) (by kernel_rfl) (by kernel_rfl) (loops_at (ids := []) (by kernel_rfl) (trivial)) (by kernel_rfl)) (fun x r h => (FvFnExactStoryPlain_eq N x).trans h)

end Go.Fl

/- Proved: for every input the law FnGraphTrim returns true and leaves its arguments as they were. Part 2: the functions that the law reaches, as plain functions, and plain laws about them; no conditions. -/
import Derived.Test.YtgedeaebclkooaaGraphTrimP1
set_option linter.all false
-- FUNCS sl1Open_a sl1Rd_pick sGraphNew sl20Shape sl20Op sl5Refs sGraphOk sShapeOk sOpOk sl5Ints sl5Copy sl5Fields sl5Begin sl5Field sl5Pins sl5One sGraphDo sl20Graph sDrawGraphDo iGraph_leads_1 kIndexFunc_Sint_int_iGraph_leads_1 kContainsFunc_Sint_int_iGraph_leads_1 iGraph_leads iGraphOk iGraph_met_1 iGraph_met kClone_Sint_int inamed iGraphTrim sl5Order sl5Place sl5Named sGraphTrim vflInts vflNode vflGraph kEqual_Sint_int iGraph_same_1 kEqualFunc_SNode_SNode_Node_Node_iGraph_same_1 kEqualFunc_SSint_SSint_Sint_Sint_kEqual_Sint_int iGraph_same iGraphSame iShapeOk iOpOk iGraph_copy iOp_handles iOp_early iOp_field math_bits_Mul64 math_bits_Mul kRepeat_Sint_int inone itruth ilastOf kDelete_Sint_int iGraphDo vFnGraphTrim
set_option maxRecDepth 100000
set_option linter.all false
namespace Go.Fl
open Go Go.Proofs
/-! ### 22: spec.GraphTrim -/

noncomputable def dinsGraphTrim : Desc := { n := 1, regs := [.one (.val (.pair (.sl (.pair (.sl (.int .i64)) (.pair (.sl (.int .i64)) .unit))) (.pair (.sl (.sl (.int .i64))) (.pair (.sl (.int .i64)) .unit))))], bx := [], pins := [] }
noncomputable def outsGraphTrim : Outs := [(.ret, { n := 1, regs := [.agg [.lit (.row 1025601), .lit (.row 1025602), .lit (.row 1025603)]], bx := [(1025601, .row (.pair (.sl (.int .i64)) (.pair (.sl (.int .i64)) .unit))), (1025602, .row (.sl (.int .i64))), (1025603, .row (.int .i64))], pins := [] })]
noncomputable def HsGraphTrim : Hints := [(0, [(0, { fz := true })]),
  (2, [(0, { nl := [(0, (.pair (.sl (.int .i64)) (.pair (.sl (.int .i64)) .unit))), (1, (.sl (.int .i64))), (2, (.int .i64))] })]),
  (3, [(1, { con := 1 })]),
  (4, [(0, { nl := [(0, (.pair (.sl (.int .i64)) (.pair (.sl (.int .i64)) .unit))), (1, (.sl (.int .i64)))] })]),
  (9, [(5, { con := 2 }), (8, { con := 3 }), (10, { dp := true }), (11, { dp := true })]),
  (13, [(8, { con := 2 }), (9, { dp := true }), (10, { dp := true })]),
  (14, [(3, { con := 2 })])]
noncomputable def EsGraphTrim (N : Nat) : Env := { te := TE, cs := [consGraphOk N, consl5Order N, consl5Named N, consl5Ints N] }
noncomputable def dsGraphTrim_0 : Desc := { n := 67, regs := [u, .one (.fpt (.pair (.sl (.pair (.sl (.int .i64)) (.pair (.sl (.int .i64)) .unit))) (.pair (.sl (.sl (.int .i64))) (.pair (.sl (.int .i64)) .unit)))), .one (.lit (.ptr 1000064 0)), .one (.lit (.row 1038465)), .one (.lit (.ptr 1051264 0)), .one (.val (.int .i64))], bx := [(1000064, .var [.lit .nil, .lit .nil, .lit .nil]), (1038465, .row (.int .i64)), (1051264, .var [.lit (.row 1051201), .lit (.row 1051202), .lit .nil]), (1051201, .row (.pair (.sl (.int .i64)) (.pair (.sl (.int .i64)) .unit))), (1051202, .row (.sl (.int .i64)))], pins := [] }
noncomputable def osGraphTrim_0 : Outs := [(.exit 0, { n := 67, regs := [u, .one (.fpt (.pair (.sl (.pair (.sl (.int .i64)) (.pair (.sl (.int .i64)) .unit))) (.pair (.sl (.sl (.int .i64))) (.pair (.sl (.int .i64)) .unit)))), .one (.lit (.ptr 1000064 0)), .one (.lit (.row 1038465)), .one (.lit (.ptr 1051264 0))], bx := [(1000064, .var [.lit .nil, .lit .nil, .lit .nil]), (1038465, .row (.int .i64)), (1051264, .var [.lit (.row 1051201), .lit (.row 1051202), .lit .nil]), (1051201, .row (.pair (.sl (.int .i64)) (.pair (.sl (.int .i64)) .unit))), (1051202, .row (.sl (.int .i64)))], pins := [] })]
noncomputable def dsGraphTrim_2 : Desc := { n := 67, regs := [u, .one (.fpt (.pair (.sl (.pair (.sl (.int .i64)) (.pair (.sl (.int .i64)) .unit))) (.pair (.sl (.sl (.int .i64))) (.pair (.sl (.int .i64)) .unit)))), .one (.lit (.ptr 1000064 0)), .one (.lit (.row 1038465)), .one (.lit (.ptr 1051264 0)), u, u, .one (.val (.int .i64))], bx := [(1000064, .var [.lit .nil, .lit .nil, .lit .nil]), (1038465, .row (.int .i64)), (1051264, .var [.lit (.row 1051201), .lit (.row 1051202), .lit .nil]), (1051201, .row (.pair (.sl (.int .i64)) (.pair (.sl (.int .i64)) .unit))), (1051202, .row (.sl (.int .i64)))], pins := [] }
noncomputable def osGraphTrim_2 : Outs := [(.exit 2, { n := 67, regs := [u, .one (.fpt (.pair (.sl (.pair (.sl (.int .i64)) (.pair (.sl (.int .i64)) .unit))) (.pair (.sl (.sl (.int .i64))) (.pair (.sl (.int .i64)) .unit)))), .one (.lit (.ptr 1000064 0)), .one (.lit (.row 1038465)), .one (.lit (.ptr 1051264 0))], bx := [(1000064, .var [.lit .nil, .lit .nil, .lit .nil]), (1038465, .row (.int .i64)), (1051264, .var [.lit (.row 1051201), .lit (.row 1051202), .lit .nil]), (1051201, .row (.pair (.sl (.int .i64)) (.pair (.sl (.int .i64)) .unit))), (1051202, .row (.sl (.int .i64)))], pins := [] })]
noncomputable def lsGraphTrim_0 (N : Nat) : Nat → (((List ((List Int) × ((List Int) × Unit))) × ((List (List Int)) × ((List Int) × Unit))) × (Int × ((List Int) × ((List ((List Int) × ((List Int) × Unit))) × ((List (List Int)) × Unit))))) → Option (((List ((List Int) × ((List Int) × Unit))) × ((List (List Int)) × ((List Int) × Unit))) × ((List Int) × ((List ((List Int) × ((List Int) × Unit))) × ((List (List Int)) × Unit))))
  | 0, _ => none
  | n + 1, v =>
    let y5 := decide (v.2.1 < (v.2.2.1.length : Int))
    bif y5 then
     bif decide (0 ≤ v.2.1) then
     bif decide (v.2.1.toNat < v.2.2.1.length) then
     bif decide (0 ≤ (v.2.2.1.getD v.2.1.toNat (0 : Int))) then
     bif decide ((v.2.2.1.getD v.2.1.toNat (0 : Int)).toNat < v.1.1.length) then
     let y6 := v.1.1.getD ((v.2.2.1.getD v.2.1.toNat (0 : Int)).toNat) (([] : (List Int)), ([] : (List Int)), ())
     (Fsl5Named N (y6.1, v.2.2.1, ())).bind fun r7 =>
     (Fsl5Ints N (y6.2.1, ())).bind fun r8 =>
     bif decide (v.2.2.2.1.length + [(r7.1, r8.1, ())].length ≤ lim) then
     lsGraphTrim_0 N n (v.1, w64 (v.2.1 + (1 : Int)), v.2.2.1, v.2.2.2.1 ++ [(r7.1, r8.1, ())], v.2.2.2.2.1, ())
     else none
     else none
     else none
     else none
     else none
    else
    some (v.1, v.2.2.1, v.2.2.2.1, v.2.2.2.2.1, ())
noncomputable def lsGraphTrim_2 (N : Nat) : Nat → (((List ((List Int) × ((List Int) × Unit))) × ((List (List Int)) × ((List Int) × Unit))) × (Int × ((List Int) × ((List ((List Int) × ((List Int) × Unit))) × ((List (List Int)) × Unit))))) → Option (((List ((List Int) × ((List Int) × Unit))) × ((List (List Int)) × ((List Int) × Unit))) × ((List Int) × ((List ((List Int) × ((List Int) × Unit))) × ((List (List Int)) × Unit))))
  | 0, _ => none
  | n + 1, v =>
    let y10 := decide (v.2.1 < (v.1.2.1.length : Int))
    bif y10 then
     bif decide (0 ≤ v.2.1) then
     bif decide (v.2.1.toNat < v.1.2.1.length) then
     let y11 := v.1.2.1.getD v.2.1.toNat ([] : (List Int))
     (Fsl5Named N (y11, v.2.2.1, ())).bind fun r12 =>
     bif decide (v.2.2.2.2.1.length + [r12.1].length ≤ lim) then
     lsGraphTrim_2 N n (v.1, w64 (v.2.1 + (1 : Int)), v.2.2.1, v.2.2.2.1, v.2.2.2.2.1 ++ [r12.1], ())
     else none
     else none
     else none
    else
    some (v.1, v.2.2.1, v.2.2.2.1, v.2.2.2.2.1, ())
noncomputable def FsGraphTrim (N : Nat) (x : (((List ((List Int) × ((List Int) × Unit))) × ((List (List Int)) × ((List Int) × Unit))) × Unit)) : Option ((List ((List Int) × ((List Int) × Unit))) × ((List (List Int)) × ((List Int) × Unit))) :=
  (FsGraphOk N (x.1, ())).bind fun r1 =>
  bif !r1.1 then
   let y2 := ([] : (List ((List Int) × ((List Int) × Unit))))
   some (y2, ([] : (List (List Int))), ([] : (List Int)), ())
  else
  (Fsl5Order N (x.1, ())).bind fun r3 =>
  let y4 := ([] : (List ((List Int) × ((List Int) × Unit))))
  (lsGraphTrim_0 N N (x.1, (0 : Int), r3.1, y4, ([] : (List (List Int))), ())).bind fun o9 =>
  (lsGraphTrim_2 N N (o9.1, (0 : Int), o9.2.1, o9.2.2.1, o9.2.2.2.1, ())).bind fun o13 =>
  (Fsl5Named N (o13.1.2.2.1, o13.2.1, ())).bind fun r14 =>
  some (o13.2.2.1, o13.2.2.2.1, r14.1, ())
noncomputable def consGraphTrim (N : Nat) : Con := { f := 22, din := dinsGraphTrim, outs := outsGraphTrim, F := FsGraphTrim N }
noncomputable def XsGraphTrim (N : Nat) : Ctx := { E := EsGraphTrim N, H := HsGraphTrim, lp := [(0, { hd := dsGraphTrim_0, outs := osGraphTrim_0, run := fun v => lsGraphTrim_0 N N v }), (2, { hd := dsGraphTrim_2, outs := osGraphTrim_2, run := fun v => lsGraphTrim_2 N N v })], jn := [] }
noncomputable def bsGraphTrim_2 : Code := loopBody (codeOf Try.f22) 1
noncomputable def bsGraphTrim_0 : Code := loopBody (codeOf Try.f22) 0
theorem FsGraphTrim_eq (N : Nat) (x : (((List ((List Int) × ((List Int) × Unit))) × ((List (List Int)) × ((List Int) × Unit))) × Unit)) : evFn (XsGraphTrim N) Try.f22 dinsGraphTrim outsGraphTrim x = FsGraphTrim N x := by kernel_rfl
theorem lsGraphTrim_0_eq (N n : Nat) (v : (((List ((List Int) × ((List Int) × Unit))) × ((List (List Int)) × ((List Int) × Unit))) × (Int × ((List Int) × ((List ((List Int) × ((List Int) × Unit))) × ((List (List Int)) × Unit)))))) : lsGraphTrim_0 N (n + 1) v = ev (XsGraphTrim N) bsGraphTrim_0 (roundK dsGraphTrim_0 osGraphTrim_0 (lsGraphTrim_0 N n)) (dsGraphTrim_0.mk' v) := by kernel_rfl
theorem lsGraphTrim_2_eq (N n : Nat) (v : (((List ((List Int) × ((List Int) × Unit))) × ((List (List Int)) × ((List Int) × Unit))) × (Int × ((List Int) × ((List ((List Int) × ((List Int) × Unit))) × ((List (List Int)) × Unit)))))) : lsGraphTrim_2 N (n + 1) v = ev (XsGraphTrim N) bsGraphTrim_2 (roundK dsGraphTrim_2 osGraphTrim_2 (lsGraphTrim_2 N n)) (dsGraphTrim_2.mk' v) := by kernel_rfl
theorem cxsGraphTrim (N : Nat) : CtxOk Try.prog (XsGraphTrim N) := ⟨⟨TE_ok, List.forall_mem_cons.2 ⟨specsGraphOk N, List.forall_mem_cons.2 ⟨specsl5Order N, List.forall_mem_cons.2 ⟨specsl5Named N, List.forall_mem_cons.2 ⟨specsl5Ints N, fun k hk => absurd hk List.not_mem_nil⟩⟩⟩⟩⟩, mixed⟩
theorem lpsGraphTrim_0 (N : Nat) : LoopOk Try.prog { hd := dsGraphTrim_0, outs := osGraphTrim_0, run := fun v => lsGraphTrim_0 N N v } bsGraphTrim_0 :=
  loop_fuel (d := dsGraphTrim_0) (os := osGraphTrim_0) (cxsGraphTrim N) (loops_at (ids := []) (by kernel_rfl) (trivial)) (lsGraphTrim_0 N) (fun _ => rfl) (fun n v => lsGraphTrim_0_eq N n v) (fun _ => N)
theorem lpsGraphTrim_2 (N : Nat) : LoopOk Try.prog { hd := dsGraphTrim_2, outs := osGraphTrim_2, run := fun v => lsGraphTrim_2 N N v } bsGraphTrim_2 :=
  loop_fuel (d := dsGraphTrim_2) (os := osGraphTrim_2) (cxsGraphTrim N) (loops_at (ids := []) (by kernel_rfl) (trivial)) (lsGraphTrim_2 N) (fun _ => rfl) (fun n v => lsGraphTrim_2_eq N n v) (fun _ => N)
theorem specsGraphTrim (N : Nat) : Spec Try.prog (consGraphTrim N) :=
  Spec.of_eq (fn_spec (cxsGraphTrim N) (f := 22) (fn := Try.f22) (c := codeOf Try.f22) (by kernel_rfl) (by kernel_rfl) (by kernel_rfl) (loops_at (ids := [0, 2]) (by kernel_rfl) ⟨lp_of (lpsGraphTrim_0 N), ⟨lp_of (lpsGraphTrim_2 N), trivial⟩⟩) (by kernel_rfl)) (fun x r h => (FsGraphTrim_eq N x).trans h)

/-! ### 16: laws.flInts -/

noncomputable def dinvflInts : Desc := { n := 2, regs := [.one (.val (.sl (.int .i64))), .one (.val (.sl (.int .i64)))], bx := [], pins := [] }
noncomputable def outvflInts : Outs := [(.ret, { n := 1, regs := [.one (.val .bool)], bx := [], pins := [] })]
noncomputable def HvflInts : Hints := []
noncomputable def EvflInts (_N : Nat) : Env := { te := TE, cs := [] }
noncomputable def dvflInts_0 : Desc := { n := 26, regs := [.one (.val (.sl (.int .i64))), .one (.val (.sl (.int .i64))), u, u, u, .one (.val (.int .i64))], bx := [], pins := [] }
noncomputable def ovflInts_0 : Outs := [(.exit 0, { n := 26, regs := [], bx := [], pins := [] }), (.ret, { n := 26, regs := [u, u, u, u, .one (.val .bool)], bx := [], pins := [] })]
noncomputable def lvflInts_0 (N : Nat) : Nat → ((List Int) × ((List Int) × (Int × Unit))) → Option (Unit ⊕ (Bool × Unit))
  | 0, _ => none
  | n + 1, v =>
    let y2 := decide (v.2.2.1 < (v.1.length : Int))
    bif y2 then
     bif decide (0 ≤ v.2.2.1) then
     bif decide (v.2.2.1.toNat < v.1.length) then
     bif decide (0 ≤ v.2.2.1) then
     bif decide (v.2.2.1.toNat < v.2.1.length) then
     let y3 := (v.1.getD v.2.2.1.toNat (0 : Int)) != (v.2.1.getD v.2.2.1.toNat (0 : Int))
     bif y3 then
      some (.inr ((false, ())))
     else
     lvflInts_0 N n (v.1, v.2.1, w64 (v.2.2.1 + (1 : Int)), ())
     else none
     else none
     else none
     else none
    else
    some (.inl ())
noncomputable def FvflInts (N : Nat) (x : ((List Int) × ((List Int) × Unit))) : Option (Bool × Unit) :=
  let y1 := (x.1.length : Int) != (x.2.1.length : Int)
  bif y1 then
   some (false, ())
  else
  (lvflInts_0 N N (x.1, x.2.1, (0 : Int), ())).bind fun o4 =>
  Sum.elim (fun o5 =>
   some (true, ())) (fun o6 =>
   some (o6.1, ())) o4
noncomputable def convflInts (N : Nat) : Con := { f := 16, din := dinvflInts, outs := outvflInts, F := FvflInts N }
noncomputable def XvflInts (N : Nat) : Ctx := { E := EvflInts N, H := HvflInts, lp := [(0, { hd := dvflInts_0, outs := ovflInts_0, run := fun v => lvflInts_0 N N v })], jn := [] }
noncomputable def bvflInts_0 : Code := loopBody (codeOf Try.f16) 0
theorem FvflInts_eq (N : Nat) (x : ((List Int) × ((List Int) × Unit))) : evFn (XvflInts N) Try.f16 dinvflInts outvflInts x = FvflInts N x := by kernel_rfl
theorem lvflInts_0_eq (N n : Nat) (v : ((List Int) × ((List Int) × (Int × Unit)))) : lvflInts_0 N (n + 1) v = ev (XvflInts N) bvflInts_0 (roundK dvflInts_0 ovflInts_0 (lvflInts_0 N n)) (dvflInts_0.mk' v) := by kernel_rfl
theorem cxvflInts (N : Nat) : CtxOk Try.prog (XvflInts N) := ⟨⟨TE_ok, fun k hk => absurd hk List.not_mem_nil⟩, mixed⟩
theorem lpvflInts_0 (N : Nat) : LoopOk Try.prog { hd := dvflInts_0, outs := ovflInts_0, run := fun v => lvflInts_0 N N v } bvflInts_0 :=
  loop_fuel (d := dvflInts_0) (os := ovflInts_0) (cxvflInts N) (loops_at (ids := []) (by kernel_rfl) (trivial)) (lvflInts_0 N) (fun _ => rfl) (fun n v => lvflInts_0_eq N n v) (fun _ => N)
theorem specvflInts (N : Nat) : Spec Try.prog (convflInts N) :=
  Spec.of_eq (fn_spec (cxvflInts N) (f := 16) (fn := Try.f16) (c := codeOf Try.f16) (by kernel_rfl) (by kernel_rfl) (by kernel_rfl) (loops_at (ids := [0]) (by kernel_rfl) ⟨lp_of (lpvflInts_0 N), trivial⟩) (by kernel_rfl)) (fun x r h => (FvflInts_eq N x).trans h)

/-! ### 58: laws.flNode -/

noncomputable def dinvflNode : Desc := { n := 2, regs := [.one (.val (.pair (.sl (.int .i64)) (.pair (.sl (.int .i64)) .unit))), .one (.val (.pair (.sl (.int .i64)) (.pair (.sl (.int .i64)) .unit)))], bx := [], pins := [] }
noncomputable def outvflNode : Outs := [(.ret, { n := 1, regs := [.one (.val .bool)], bx := [], pins := [] })]
noncomputable def HvflNode : Hints := [(0, [(0, { fz := true }), (1, { fz := true })])]
noncomputable def EvflNode (N : Nat) : Env := { te := TE, cs := [convflInts N] }
noncomputable def FvflNode (N : Nat) (x : (((List Int) × ((List Int) × Unit)) × (((List Int) × ((List Int) × Unit)) × Unit))) : Option (Bool × Unit) :=
  (FvflInts N (x.1.1, x.2.1.1, ())).bind fun r1 =>
  bif r1.1 then
   (FvflInts N (x.1.2.1, x.2.1.2.1, ())).bind fun r2 =>
   some (r2.1, ())
  else
  some (false, ())
noncomputable def convflNode (N : Nat) : Con := { f := 58, din := dinvflNode, outs := outvflNode, F := FvflNode N }
noncomputable def XvflNode (N : Nat) : Ctx := { E := EvflNode N, H := HvflNode, lp := [], jn := [] }
theorem FvflNode_eq (N : Nat) (x : (((List Int) × ((List Int) × Unit)) × (((List Int) × ((List Int) × Unit)) × Unit))) : evFn (XvflNode N) Try.f58 dinvflNode outvflNode x = FvflNode N x := by kernel_rfl
theorem cxvflNode (N : Nat) : CtxOk Try.prog (XvflNode N) := ⟨⟨TE_ok, List.forall_mem_cons.2 ⟨specvflInts N, fun k hk => absurd hk List.not_mem_nil⟩⟩, mixed⟩
theorem specvflNode (N : Nat) : Spec Try.prog (convflNode N) :=
  Spec.of_eq (fn_spec (cxvflNode N) (f := 58) (fn := Try.f58) (c := codeOf Try.f58) (by kernel_rfl) (by kernel_rfl) (by kernel_rfl) (loops_at (ids := []) (by kernel_rfl) (trivial)) (by kernel_rfl)) (fun x r h => (FvflNode_eq N x).trans h)

/-! ### 15: laws.flGraph -/

noncomputable def dinvflGraph : Desc := { n := 2, regs := [.one (.val (.pair (.sl (.pair (.sl (.int .i64)) (.pair (.sl (.int .i64)) .unit))) (.pair (.sl (.sl (.int .i64))) (.pair (.sl (.int .i64)) .unit)))), .one (.val (.pair (.sl (.pair (.sl (.int .i64)) (.pair (.sl (.int .i64)) .unit))) (.pair (.sl (.sl (.int .i64))) (.pair (.sl (.int .i64)) .unit))))], bx := [], pins := [] }
noncomputable def outvflGraph : Outs := [(.ret, { n := 1, regs := [.one (.val .bool)], bx := [], pins := [] })]
noncomputable def HvflGraph : Hints := [(0, [(0, { fz := true }), (1, { fz := true })]),
  (6, [(10, { con := 1 })])]
noncomputable def EvflGraph (N : Nat) : Env := { te := TE, cs := [convflInts N, convflNode N] }
noncomputable def dvflGraph_0 : Desc := { n := 69, regs := [u, u, .one (.fpt (.pair (.sl (.pair (.sl (.int .i64)) (.pair (.sl (.int .i64)) .unit))) (.pair (.sl (.sl (.int .i64))) (.pair (.sl (.int .i64)) .unit)))), .one (.fpt (.pair (.sl (.pair (.sl (.int .i64)) (.pair (.sl (.int .i64)) .unit))) (.pair (.sl (.sl (.int .i64))) (.pair (.sl (.int .i64)) .unit)))), u, .one (.val (.int .i64))], bx := [], pins := [] }
noncomputable def ovflGraph_0 : Outs := [(.exit 0, { n := 69, regs := [u, u, .one (.fpt (.pair (.sl (.pair (.sl (.int .i64)) (.pair (.sl (.int .i64)) .unit))) (.pair (.sl (.sl (.int .i64))) (.pair (.sl (.int .i64)) .unit)))), .one (.fpt (.pair (.sl (.pair (.sl (.int .i64)) (.pair (.sl (.int .i64)) .unit))) (.pair (.sl (.sl (.int .i64))) (.pair (.sl (.int .i64)) .unit))))], bx := [], pins := [] }), (.ret, { n := 69, regs := [u, u, u, u, .one (.val .bool)], bx := [], pins := [] })]
noncomputable def dvflGraph_2 : Desc := { n := 69, regs := [u, u, .one (.fpt (.pair (.sl (.pair (.sl (.int .i64)) (.pair (.sl (.int .i64)) .unit))) (.pair (.sl (.sl (.int .i64))) (.pair (.sl (.int .i64)) .unit)))), .one (.fpt (.pair (.sl (.pair (.sl (.int .i64)) (.pair (.sl (.int .i64)) .unit))) (.pair (.sl (.sl (.int .i64))) (.pair (.sl (.int .i64)) .unit)))), u, u, .one (.val (.int .i64))], bx := [], pins := [] }
noncomputable def ovflGraph_2 : Outs := [(.exit 2, { n := 69, regs := [], bx := [], pins := [] }), (.ret, { n := 69, regs := [u, u, u, u, .one (.val .bool)], bx := [], pins := [] })]
noncomputable def jvflGraph_3 : Outs := [(.normal, { n := 69, regs := [u, u, .one (.fpt (.pair (.sl (.pair (.sl (.int .i64)) (.pair (.sl (.int .i64)) .unit))) (.pair (.sl (.sl (.int .i64))) (.pair (.sl (.int .i64)) .unit)))), .one (.fpt (.pair (.sl (.pair (.sl (.int .i64)) (.pair (.sl (.int .i64)) .unit))) (.pair (.sl (.sl (.int .i64))) (.pair (.sl (.int .i64)) .unit))))], bx := [], pins := [] }), (.ret, { n := 69, regs := [u, u, u, u, .one (.val .bool)], bx := [], pins := [] })]
noncomputable def lvflGraph_0 (N : Nat) : Nat → (((List ((List Int) × ((List Int) × Unit))) × ((List (List Int)) × ((List Int) × Unit))) × (((List ((List Int) × ((List Int) × Unit))) × ((List (List Int)) × ((List Int) × Unit))) × (Int × Unit))) → Option ((((List ((List Int) × ((List Int) × Unit))) × ((List (List Int)) × ((List Int) × Unit))) × (((List ((List Int) × ((List Int) × Unit))) × ((List (List Int)) × ((List Int) × Unit))) × Unit)) ⊕ (Bool × Unit))
  | 0, _ => none
  | n + 1, v =>
    let y6 := decide (v.2.2.1 < (v.1.1.length : Int))
    bif y6 then
     bif decide (0 ≤ v.2.2.1) then
     bif decide (v.2.2.1.toNat < v.1.1.length) then
     let y7 := v.1.1.getD v.2.2.1.toNat (([] : (List Int)), ([] : (List Int)), ())
     bif decide (0 ≤ v.2.2.1) then
     bif decide (v.2.2.1.toNat < v.2.1.1.length) then
     let y8 := v.2.1.1.getD v.2.2.1.toNat (([] : (List Int)), ([] : (List Int)), ())
     (FvflNode N (y7, y8, ())).bind fun r9 =>
     bif !r9.1 then
      some (.inr ((false, ())))
     else
     lvflGraph_0 N n (v.1, v.2.1, w64 (v.2.2.1 + (1 : Int)), ())
     else none
     else none
     else none
     else none
    else
    some (.inl (v.1, v.2.1, ()))
noncomputable def lvflGraph_2 (N : Nat) : Nat → (((List ((List Int) × ((List Int) × Unit))) × ((List (List Int)) × ((List Int) × Unit))) × (((List ((List Int) × ((List Int) × Unit))) × ((List (List Int)) × ((List Int) × Unit))) × (Int × Unit))) → Option (Unit ⊕ (Bool × Unit))
  | 0, _ => none
  | n + 1, v =>
    let y12 := decide (v.2.2.1 < (v.1.2.1.length : Int))
    bif y12 then
     bif decide (0 ≤ v.2.2.1) then
     bif decide (v.2.2.1.toNat < v.1.2.1.length) then
     let y13 := v.1.2.1.getD v.2.2.1.toNat ([] : (List Int))
     bif decide (0 ≤ v.2.2.1) then
     bif decide (v.2.2.1.toNat < v.2.1.2.1.length) then
     let y14 := v.2.1.2.1.getD v.2.2.1.toNat ([] : (List Int))
     (FvflInts N (y13, y14, ())).bind fun r15 =>
     bif !r15.1 then
      some (.inr ((false, ())))
     else
     lvflGraph_2 N n (v.1, v.2.1, w64 (v.2.2.1 + (1 : Int)), ())
     else none
     else none
     else none
     else none
    else
    some (.inl ())
noncomputable def FvflGraph (N : Nat) (x : (((List ((List Int) × ((List Int) × Unit))) × ((List (List Int)) × ((List Int) × Unit))) × (((List ((List Int) × ((List Int) × Unit))) × ((List (List Int)) × ((List Int) × Unit))) × Unit))) : Option (Bool × Unit) :=
  Option.bind (
   let y1 := (x.1.1.length : Int) != (x.2.1.1.length : Int)
   bif y1 then
    some (.inr ((false, ())))
   else
   let y2 := (x.1.2.1.length : Int) != (x.2.1.2.1.length : Int)
   bif y2 then
    some (.inr ((false, ())))
   else
   (FvflInts N (x.1.2.2.1, x.2.1.2.2.1, ())).bind fun r3 =>
   bif !r3.1 then
    some (.inr ((false, ())))
   else
   some (.inl (x.1, x.2.1, ()))) fun o4 =>
  Sum.elim (fun o5 =>
   (lvflGraph_0 N N (o5.1, o5.2.1, (0 : Int), ())).bind fun o10 =>
   Sum.elim (fun o11 =>
    (lvflGraph_2 N N (o11.1, o11.2.1, (0 : Int), ())).bind fun o16 =>
    Sum.elim (fun o17 =>
     some (true, ())) (fun o18 =>
     some (o18.1, ())) o16) (fun o19 =>
    some (o19.1, ())) o10) (fun o20 =>
   some (o20.1, ())) o4
noncomputable def convflGraph (N : Nat) : Con := { f := 15, din := dinvflGraph, outs := outvflGraph, F := FvflGraph N }
noncomputable def XvflGraph (N : Nat) : Ctx := { E := EvflGraph N, H := HvflGraph, lp := [(0, { hd := dvflGraph_0, outs := ovflGraph_0, run := fun v => lvflGraph_0 N N v }), (2, { hd := dvflGraph_2, outs := ovflGraph_2, run := fun v => lvflGraph_2 N N v })], jn := [(3, jvflGraph_3)] }
noncomputable def bvflGraph_2 : Code := loopBody (codeOf Try.f15) 1
noncomputable def bvflGraph_0 : Code := loopBody (codeOf Try.f15) 0
theorem FvflGraph_eq (N : Nat) (x : (((List ((List Int) × ((List Int) × Unit))) × ((List (List Int)) × ((List Int) × Unit))) × (((List ((List Int) × ((List Int) × Unit))) × ((List (List Int)) × ((List Int) × Unit))) × Unit))) : evFn (XvflGraph N) Try.f15 dinvflGraph outvflGraph x = FvflGraph N x := by kernel_rfl
theorem lvflGraph_0_eq (N n : Nat) (v : (((List ((List Int) × ((List Int) × Unit))) × ((List (List Int)) × ((List Int) × Unit))) × (((List ((List Int) × ((List Int) × Unit))) × ((List (List Int)) × ((List Int) × Unit))) × (Int × Unit)))) : lvflGraph_0 N (n + 1) v = ev (XvflGraph N) bvflGraph_0 (roundK dvflGraph_0 ovflGraph_0 (lvflGraph_0 N n)) (dvflGraph_0.mk' v) := by kernel_rfl
theorem lvflGraph_2_eq (N n : Nat) (v : (((List ((List Int) × ((List Int) × Unit))) × ((List (List Int)) × ((List Int) × Unit))) × (((List ((List Int) × ((List Int) × Unit))) × ((List (List Int)) × ((List Int) × Unit))) × (Int × Unit)))) : lvflGraph_2 N (n + 1) v = ev (XvflGraph N) bvflGraph_2 (roundK dvflGraph_2 ovflGraph_2 (lvflGraph_2 N n)) (dvflGraph_2.mk' v) := by kernel_rfl
theorem cxvflGraph (N : Nat) : CtxOk Try.prog (XvflGraph N) := ⟨⟨TE_ok, List.forall_mem_cons.2 ⟨specvflInts N, List.forall_mem_cons.2 ⟨specvflNode N, fun k hk => absurd hk List.not_mem_nil⟩⟩⟩, mixed⟩
theorem lpvflGraph_0 (N : Nat) : LoopOk Try.prog { hd := dvflGraph_0, outs := ovflGraph_0, run := fun v => lvflGraph_0 N N v } bvflGraph_0 :=
  loop_fuel (d := dvflGraph_0) (os := ovflGraph_0) (cxvflGraph N) (loops_at (ids := []) (by kernel_rfl) (trivial)) (lvflGraph_0 N) (fun _ => rfl) (fun n v => lvflGraph_0_eq N n v) (fun _ => N)
theorem lpvflGraph_2 (N : Nat) : LoopOk Try.prog { hd := dvflGraph_2, outs := ovflGraph_2, run := fun v => lvflGraph_2 N N v } bvflGraph_2 :=
  loop_fuel (d := dvflGraph_2) (os := ovflGraph_2) (cxvflGraph N) (loops_at (ids := []) (by kernel_rfl) (trivial)) (lvflGraph_2 N) (fun _ => rfl) (fun n v => lvflGraph_2_eq N n v) (fun _ => N)
theorem specvflGraph (N : Nat) : Spec Try.prog (convflGraph N) :=
  Spec.of_eq (fn_spec (cxvflGraph N) (f := 15) (fn := Try.f15) (c := codeOf Try.f15) (by kernel_rfl) (by kernel_rfl) (by kernel_rfl) (loops_at (ids := [0, 2]) (by kernel_rfl) ⟨lp_of (lpvflGraph_0 N), ⟨lp_of (lpvflGraph_2 N), trivial⟩⟩) (by kernel_rfl)) (fun x r h => (FvflGraph_eq N x).trans h)

/-! ### 94: slices.Equal[[]int,int] -/

noncomputable def dinkEqual_Sint_int : Desc := { n := 2, regs := [.one (.val (.sl (.int .i64))), .one (.val (.sl (.int .i64)))], bx := [], pins := [] }
noncomputable def outkEqual_Sint_int : Outs := [(.ret, { n := 1, regs := [.one (.val .bool)], bx := [], pins := [] })]
noncomputable def HkEqual_Sint_int : Hints := []
noncomputable def EkEqual_Sint_int (_N : Nat) : Env := { te := TE, cs := [] }
noncomputable def dkEqual_Sint_int_0 : Desc := { n := 26, regs := [.one (.val (.sl (.int .i64))), .one (.val (.sl (.int .i64))), u, u, u, u, u, u, u, u, u, u, .one (.val (.int .i64)), .one (.val (.int .i64))], bx := [], pins := [] }
noncomputable def okEqual_Sint_int_0 : Outs := [(.exit 0, { n := 26, regs := [], bx := [], pins := [] }), (.ret, { n := 26, regs := [u, u, u, u, .one (.val .bool)], bx := [], pins := [] })]
noncomputable def lkEqual_Sint_int_0 (N : Nat) : Nat → ((List Int) × ((List Int) × (Int × (Int × Unit)))) → Option (Unit ⊕ (Bool × Unit))
  | 0, _ => none
  | n + 1, v =>
    bif decide (v.2.2.2.1 < v.2.2.1) then
     bif decide (0 ≤ v.2.2.2.1) then
     bif decide (v.2.2.2.1.toNat < v.1.length) then
     bif decide (0 ≤ v.2.2.2.1) then
     bif decide (v.2.2.2.1.toNat < v.2.1.length) then
     let y2 := (v.1.getD v.2.2.2.1.toNat (0 : Int)) != (v.2.1.getD v.2.2.2.1.toNat (0 : Int))
     bif y2 then
      some (.inr ((false, ())))
     else
     lkEqual_Sint_int_0 N n (v.1, v.2.1, v.2.2.1, w64 (v.2.2.2.1 + (1 : Int)), ())
     else none
     else none
     else none
     else none
    else
    some (.inl ())
noncomputable def FkEqual_Sint_int (N : Nat) (x : ((List Int) × ((List Int) × Unit))) : Option (Bool × Unit) :=
  let y1 := (x.1.length : Int) != (x.2.1.length : Int)
  bif y1 then
   some (false, ())
  else
  (lkEqual_Sint_int_0 N N (x.1, x.2.1, (x.1.length : Int), (0 : Int), ())).bind fun o3 =>
  Sum.elim (fun o4 =>
   some (true, ())) (fun o5 =>
   some (o5.1, ())) o3
noncomputable def conkEqual_Sint_int (N : Nat) : Con := { f := 94, din := dinkEqual_Sint_int, outs := outkEqual_Sint_int, F := FkEqual_Sint_int N }
noncomputable def XkEqual_Sint_int (N : Nat) : Ctx := { E := EkEqual_Sint_int N, H := HkEqual_Sint_int, lp := [(0, { hd := dkEqual_Sint_int_0, outs := okEqual_Sint_int_0, run := fun v => lkEqual_Sint_int_0 N N v })], jn := [] }
noncomputable def bkEqual_Sint_int_0 : Code := loopBody (codeOf Try.f94) 0
theorem FkEqual_Sint_int_eq (N : Nat) (x : ((List Int) × ((List Int) × Unit))) : evFn (XkEqual_Sint_int N) Try.f94 dinkEqual_Sint_int outkEqual_Sint_int x = FkEqual_Sint_int N x := by kernel_rfl
theorem lkEqual_Sint_int_0_eq (N n : Nat) (v : ((List Int) × ((List Int) × (Int × (Int × Unit))))) : lkEqual_Sint_int_0 N (n + 1) v = ev (XkEqual_Sint_int N) bkEqual_Sint_int_0 (roundK dkEqual_Sint_int_0 okEqual_Sint_int_0 (lkEqual_Sint_int_0 N n)) (dkEqual_Sint_int_0.mk' v) := by kernel_rfl
theorem cxkEqual_Sint_int (N : Nat) : CtxOk Try.prog (XkEqual_Sint_int N) := ⟨⟨TE_ok, fun k hk => absurd hk List.not_mem_nil⟩, mixed⟩
theorem lpkEqual_Sint_int_0 (N : Nat) : LoopOk Try.prog { hd := dkEqual_Sint_int_0, outs := okEqual_Sint_int_0, run := fun v => lkEqual_Sint_int_0 N N v } bkEqual_Sint_int_0 :=
  loop_fuel (d := dkEqual_Sint_int_0) (os := okEqual_Sint_int_0) (cxkEqual_Sint_int N) (loops_at (ids := []) (by kernel_rfl) (trivial)) (lkEqual_Sint_int_0 N) (fun _ => rfl) (fun n v => lkEqual_Sint_int_0_eq N n v) (fun _ => N)
theorem speckEqual_Sint_int (N : Nat) : Spec Try.prog (conkEqual_Sint_int N) :=
  Spec.of_eq (fn_spec (cxkEqual_Sint_int N) (f := 94) (fn := Try.f94) (c := codeOf Try.f94) (by kernel_rfl) (by kernel_rfl) (by kernel_rfl) (loops_at (ids := [0]) (by kernel_rfl) ⟨lp_of (lpkEqual_Sint_int_0 N), trivial⟩) (by kernel_rfl)) (fun x r h => (FkEqual_Sint_int_eq N x).trans h)

/-! ### 93: impl.Graph).same$1 -/

noncomputable def diniGraph_same_1 : Desc := { n := 2, regs := [.one (.val (.pair (.sl (.int .i64)) (.pair (.sl (.int .i64)) .unit))), .one (.val (.pair (.sl (.int .i64)) (.pair (.sl (.int .i64)) .unit)))], bx := [], pins := [] }
noncomputable def outiGraph_same_1 : Outs := [(.ret, { n := 1, regs := [.one (.val .bool)], bx := [], pins := [] })]
noncomputable def HiGraph_same_1 : Hints := [(0, [(0, { fz := true }), (1, { fz := true })])]
noncomputable def EiGraph_same_1 (N : Nat) : Env := { te := TE, cs := [conkEqual_Sint_int N] }
noncomputable def FiGraph_same_1 (N : Nat) (x : (((List Int) × ((List Int) × Unit)) × (((List Int) × ((List Int) × Unit)) × Unit))) : Option (Bool × Unit) :=
  (FkEqual_Sint_int N (x.1.1, x.2.1.1, ())).bind fun r1 =>
  bif r1.1 then
   (FkEqual_Sint_int N (x.1.2.1, x.2.1.2.1, ())).bind fun r2 =>
   some (r2.1, ())
  else
  some (false, ())
noncomputable def coniGraph_same_1 (N : Nat) : Con := { f := 93, din := diniGraph_same_1, outs := outiGraph_same_1, F := FiGraph_same_1 N }
noncomputable def XiGraph_same_1 (N : Nat) : Ctx := { E := EiGraph_same_1 N, H := HiGraph_same_1, lp := [], jn := [] }
theorem FiGraph_same_1_eq (N : Nat) (x : (((List Int) × ((List Int) × Unit)) × (((List Int) × ((List Int) × Unit)) × Unit))) : evFn (XiGraph_same_1 N) Try.f93 diniGraph_same_1 outiGraph_same_1 x = FiGraph_same_1 N x := by kernel_rfl
theorem cxiGraph_same_1 (N : Nat) : CtxOk Try.prog (XiGraph_same_1 N) := ⟨⟨TE_ok, List.forall_mem_cons.2 ⟨speckEqual_Sint_int N, fun k hk => absurd hk List.not_mem_nil⟩⟩, mixed⟩
theorem speciGraph_same_1 (N : Nat) : Spec Try.prog (coniGraph_same_1 N) :=
  Spec.of_eq (fn_spec (cxiGraph_same_1 N) (f := 93) (fn := Try.f93) (c := codeOf Try.f93) (by kernel_rfl) (by kernel_rfl) (by kernel_rfl) (loops_at (ids := []) (by kernel_rfl) (trivial)) (by kernel_rfl)) (fun x r h => (FiGraph_same_1_eq N x).trans h)

/-! ### 92: impl.Node] -/

noncomputable def dinkEqualFunc_SNode_SNode_Node_Node_iGraph_same_1 : Desc := { n := 3, regs := [.one (.val (.sl (.pair (.sl (.int .i64)) (.pair (.sl (.int .i64)) .unit)))), .one (.val (.sl (.pair (.sl (.int .i64)) (.pair (.sl (.int .i64)) .unit)))), .one (.clo 93 [])], bx := [], pins := [] }
noncomputable def outkEqualFunc_SNode_SNode_Node_Node_iGraph_same_1 : Outs := [(.ret, { n := 1, regs := [.one (.val .bool)], bx := [], pins := [] })]
noncomputable def HkEqualFunc_SNode_SNode_Node_Node_iGraph_same_1 : Hints := []
noncomputable def EkEqualFunc_SNode_SNode_Node_Node_iGraph_same_1 (N : Nat) : Env := { te := TE, cs := [coniGraph_same_1 N] }
noncomputable def dkEqualFunc_SNode_SNode_Node_Node_iGraph_same_1_0 : Desc := { n := 32, regs := [u, .one (.val (.sl (.pair (.sl (.int .i64)) (.pair (.sl (.int .i64)) .unit)))), .one (.clo 93 []), u, u, u, u, u, u, u, u, u, u, u, u, .one (.val (.sl (.pair (.sl (.int .i64)) (.pair (.sl (.int .i64)) .unit)))), .one (.val (.int .i64)), .one (.val (.int .i64))], bx := [], pins := [] }
noncomputable def okEqualFunc_SNode_SNode_Node_Node_iGraph_same_1_0 : Outs := [(.exit 0, { n := 32, regs := [], bx := [], pins := [] }), (.ret, { n := 32, regs := [u, u, u, u, u, u, .one (.val .bool)], bx := [], pins := [] })]
noncomputable def lkEqualFunc_SNode_SNode_Node_Node_iGraph_same_1_0 (N : Nat) : Nat → ((List ((List Int) × ((List Int) × Unit))) × ((List ((List Int) × ((List Int) × Unit))) × (Int × (Int × Unit)))) → Option (Unit ⊕ (Bool × Unit))
  | 0, _ => none
  | n + 1, v =>
    bif decide (v.2.2.2.1 < v.2.2.1) then
     bif decide (0 ≤ v.2.2.2.1) then
     bif decide (v.2.2.2.1.toNat < v.2.1.length) then
     let y2 := v.2.1.getD v.2.2.2.1.toNat (([] : (List Int)), ([] : (List Int)), ())
     bif decide (0 ≤ v.2.2.2.1) then
     bif decide (v.2.2.2.1.toNat < v.1.length) then
     let y3 := v.1.getD v.2.2.2.1.toNat (([] : (List Int)), ([] : (List Int)), ())
     (FiGraph_same_1 N ((y2.1, y2.2.1, ()), (y3.1, y3.2.1, ()), ())).bind fun r4 =>
     bif !r4.1 then
      some (.inr ((false, ())))
     else
     lkEqualFunc_SNode_SNode_Node_Node_iGraph_same_1_0 N n (v.1, v.2.1, v.2.2.1, w64 (v.2.2.2.1 + (1 : Int)), ())
     else none
     else none
     else none
     else none
    else
    some (.inl ())
noncomputable def FkEqualFunc_SNode_SNode_Node_Node_iGraph_same_1 (N : Nat) (x : ((List ((List Int) × ((List Int) × Unit))) × ((List ((List Int) × ((List Int) × Unit))) × Unit))) : Option (Bool × Unit) :=
  let y1 := (x.1.length : Int) != (x.2.1.length : Int)
  bif y1 then
   some (false, ())
  else
  (lkEqualFunc_SNode_SNode_Node_Node_iGraph_same_1_0 N N (x.2.1, x.1, (x.1.length : Int), (0 : Int), ())).bind fun o5 =>
  Sum.elim (fun o6 =>
   some (true, ())) (fun o7 =>
   some (o7.1, ())) o5
noncomputable def conkEqualFunc_SNode_SNode_Node_Node_iGraph_same_1 (N : Nat) : Con := { f := 92, din := dinkEqualFunc_SNode_SNode_Node_Node_iGraph_same_1, outs := outkEqualFunc_SNode_SNode_Node_Node_iGraph_same_1, F := FkEqualFunc_SNode_SNode_Node_Node_iGraph_same_1 N }
noncomputable def XkEqualFunc_SNode_SNode_Node_Node_iGraph_same_1 (N : Nat) : Ctx := { E := EkEqualFunc_SNode_SNode_Node_Node_iGraph_same_1 N, H := HkEqualFunc_SNode_SNode_Node_Node_iGraph_same_1, lp := [(0, { hd := dkEqualFunc_SNode_SNode_Node_Node_iGraph_same_1_0, outs := okEqualFunc_SNode_SNode_Node_Node_iGraph_same_1_0, run := fun v => lkEqualFunc_SNode_SNode_Node_Node_iGraph_same_1_0 N N v })], jn := [] }
noncomputable def bkEqualFunc_SNode_SNode_Node_Node_iGraph_same_1_0 : Code := loopBody (codeOf Try.f92) 0
theorem FkEqualFunc_SNode_SNode_Node_Node_iGraph_same_1_eq (N : Nat) (x : ((List ((List Int) × ((List Int) × Unit))) × ((List ((List Int) × ((List Int) × Unit))) × Unit))) : evFn (XkEqualFunc_SNode_SNode_Node_Node_iGraph_same_1 N) Try.f92 dinkEqualFunc_SNode_SNode_Node_Node_iGraph_same_1 outkEqualFunc_SNode_SNode_Node_Node_iGraph_same_1 x = FkEqualFunc_SNode_SNode_Node_Node_iGraph_same_1 N x := by kernel_rfl
theorem lkEqualFunc_SNode_SNode_Node_Node_iGraph_same_1_0_eq (N n : Nat) (v : ((List ((List Int) × ((List Int) × Unit))) × ((List ((List Int) × ((List Int) × Unit))) × (Int × (Int × Unit))))) : lkEqualFunc_SNode_SNode_Node_Node_iGraph_same_1_0 N (n + 1) v = ev (XkEqualFunc_SNode_SNode_Node_Node_iGraph_same_1 N) bkEqualFunc_SNode_SNode_Node_Node_iGraph_same_1_0 (roundK dkEqualFunc_SNode_SNode_Node_Node_iGraph_same_1_0 okEqualFunc_SNode_SNode_Node_Node_iGraph_same_1_0 (lkEqualFunc_SNode_SNode_Node_Node_iGraph_same_1_0 N n)) (dkEqualFunc_SNode_SNode_Node_Node_iGraph_same_1_0.mk' v) := by kernel_rfl
theorem cxkEqualFunc_SNode_SNode_Node_Node_iGraph_same_1 (N : Nat) : CtxOk Try.prog (XkEqualFunc_SNode_SNode_Node_Node_iGraph_same_1 N) := ⟨⟨TE_ok, List.forall_mem_cons.2 ⟨speciGraph_same_1 N, fun k hk => absurd hk List.not_mem_nil⟩⟩, mixed⟩
theorem lpkEqualFunc_SNode_SNode_Node_Node_iGraph_same_1_0 (N : Nat) : LoopOk Try.prog { hd := dkEqualFunc_SNode_SNode_Node_Node_iGraph_same_1_0, outs := okEqualFunc_SNode_SNode_Node_Node_iGraph_same_1_0, run := fun v => lkEqualFunc_SNode_SNode_Node_Node_iGraph_same_1_0 N N v } bkEqualFunc_SNode_SNode_Node_Node_iGraph_same_1_0 :=
  loop_fuel (d := dkEqualFunc_SNode_SNode_Node_Node_iGraph_same_1_0) (os := okEqualFunc_SNode_SNode_Node_Node_iGraph_same_1_0) (cxkEqualFunc_SNode_SNode_Node_Node_iGraph_same_1 N) (loops_at (ids := []) (by kernel_rfl) (trivial)) (lkEqualFunc_SNode_SNode_Node_Node_iGraph_same_1_0 N) (fun _ => rfl) (fun n v => lkEqualFunc_SNode_SNode_Node_Node_iGraph_same_1_0_eq N n v) (fun _ => N)
theorem speckEqualFunc_SNode_SNode_Node_Node_iGraph_same_1 (N : Nat) : Spec Try.prog (conkEqualFunc_SNode_SNode_Node_Node_iGraph_same_1 N) :=
  Spec.of_eq (fn_spec (cxkEqualFunc_SNode_SNode_Node_Node_iGraph_same_1 N) (f := 92) (fn := Try.f92) (c := codeOf Try.f92) (by kernel_rfl) (by kernel_rfl) (by kernel_rfl) (loops_at (ids := [0]) (by kernel_rfl) ⟨lp_of (lpkEqualFunc_SNode_SNode_Node_Node_iGraph_same_1_0 N), trivial⟩) (by kernel_rfl)) (fun x r h => (FkEqualFunc_SNode_SNode_Node_Node_iGraph_same_1_eq N x).trans h)

/-! ### 95: slices.EqualFunc[[][]int,[][]int,[]int,[]int] -/

noncomputable def dinkEqualFunc_SSint_SSint_Sint_Sint_kEqual_Sint_int : Desc := { n := 3, regs := [.one (.val (.sl (.sl (.int .i64)))), .one (.val (.sl (.sl (.int .i64)))), .one (.clo 94 [])], bx := [], pins := [] }
noncomputable def outkEqualFunc_SSint_SSint_Sint_Sint_kEqual_Sint_int : Outs := [(.ret, { n := 1, regs := [.one (.val .bool)], bx := [], pins := [] })]
noncomputable def HkEqualFunc_SSint_SSint_Sint_Sint_kEqual_Sint_int : Hints := []
noncomputable def EkEqualFunc_SSint_SSint_Sint_Sint_kEqual_Sint_int (N : Nat) : Env := { te := TE, cs := [conkEqual_Sint_int N] }
noncomputable def dkEqualFunc_SSint_SSint_Sint_Sint_kEqual_Sint_int_0 : Desc := { n := 32, regs := [u, .one (.val (.sl (.sl (.int .i64)))), .one (.clo 94 []), u, u, u, u, u, u, u, u, u, u, u, u, .one (.val (.sl (.sl (.int .i64)))), .one (.val (.int .i64)), .one (.val (.int .i64))], bx := [], pins := [] }
noncomputable def okEqualFunc_SSint_SSint_Sint_Sint_kEqual_Sint_int_0 : Outs := [(.exit 0, { n := 32, regs := [], bx := [], pins := [] }), (.ret, { n := 32, regs := [u, u, u, u, u, u, .one (.val .bool)], bx := [], pins := [] })]
noncomputable def lkEqualFunc_SSint_SSint_Sint_Sint_kEqual_Sint_int_0 (N : Nat) : Nat → ((List (List Int)) × ((List (List Int)) × (Int × (Int × Unit)))) → Option (Unit ⊕ (Bool × Unit))
  | 0, _ => none
  | n + 1, v =>
    bif decide (v.2.2.2.1 < v.2.2.1) then
     bif decide (0 ≤ v.2.2.2.1) then
     bif decide (v.2.2.2.1.toNat < v.2.1.length) then
     let y2 := v.2.1.getD v.2.2.2.1.toNat ([] : (List Int))
     bif decide (0 ≤ v.2.2.2.1) then
     bif decide (v.2.2.2.1.toNat < v.1.length) then
     let y3 := v.1.getD v.2.2.2.1.toNat ([] : (List Int))
     (FkEqual_Sint_int N (y2, y3, ())).bind fun r4 =>
     bif !r4.1 then
      some (.inr ((false, ())))
     else
     lkEqualFunc_SSint_SSint_Sint_Sint_kEqual_Sint_int_0 N n (v.1, v.2.1, v.2.2.1, w64 (v.2.2.2.1 + (1 : Int)), ())
     else none
     else none
     else none
     else none
    else
    some (.inl ())
noncomputable def FkEqualFunc_SSint_SSint_Sint_Sint_kEqual_Sint_int (N : Nat) (x : ((List (List Int)) × ((List (List Int)) × Unit))) : Option (Bool × Unit) :=
  let y1 := (x.1.length : Int) != (x.2.1.length : Int)
  bif y1 then
   some (false, ())
  else
  (lkEqualFunc_SSint_SSint_Sint_Sint_kEqual_Sint_int_0 N N (x.2.1, x.1, (x.1.length : Int), (0 : Int), ())).bind fun o5 =>
  Sum.elim (fun o6 =>
   some (true, ())) (fun o7 =>
   some (o7.1, ())) o5
noncomputable def conkEqualFunc_SSint_SSint_Sint_Sint_kEqual_Sint_int (N : Nat) : Con := { f := 95, din := dinkEqualFunc_SSint_SSint_Sint_Sint_kEqual_Sint_int, outs := outkEqualFunc_SSint_SSint_Sint_Sint_kEqual_Sint_int, F := FkEqualFunc_SSint_SSint_Sint_Sint_kEqual_Sint_int N }
noncomputable def XkEqualFunc_SSint_SSint_Sint_Sint_kEqual_Sint_int (N : Nat) : Ctx := { E := EkEqualFunc_SSint_SSint_Sint_Sint_kEqual_Sint_int N, H := HkEqualFunc_SSint_SSint_Sint_Sint_kEqual_Sint_int, lp := [(0, { hd := dkEqualFunc_SSint_SSint_Sint_Sint_kEqual_Sint_int_0, outs := okEqualFunc_SSint_SSint_Sint_Sint_kEqual_Sint_int_0, run := fun v => lkEqualFunc_SSint_SSint_Sint_Sint_kEqual_Sint_int_0 N N v })], jn := [] }
noncomputable def bkEqualFunc_SSint_SSint_Sint_Sint_kEqual_Sint_int_0 : Code := loopBody (codeOf Try.f95) 0
theorem FkEqualFunc_SSint_SSint_Sint_Sint_kEqual_Sint_int_eq (N : Nat) (x : ((List (List Int)) × ((List (List Int)) × Unit))) : evFn (XkEqualFunc_SSint_SSint_Sint_Sint_kEqual_Sint_int N) Try.f95 dinkEqualFunc_SSint_SSint_Sint_Sint_kEqual_Sint_int outkEqualFunc_SSint_SSint_Sint_Sint_kEqual_Sint_int x = FkEqualFunc_SSint_SSint_Sint_Sint_kEqual_Sint_int N x := by kernel_rfl
theorem lkEqualFunc_SSint_SSint_Sint_Sint_kEqual_Sint_int_0_eq (N n : Nat) (v : ((List (List Int)) × ((List (List Int)) × (Int × (Int × Unit))))) : lkEqualFunc_SSint_SSint_Sint_Sint_kEqual_Sint_int_0 N (n + 1) v = ev (XkEqualFunc_SSint_SSint_Sint_Sint_kEqual_Sint_int N) bkEqualFunc_SSint_SSint_Sint_Sint_kEqual_Sint_int_0 (roundK dkEqualFunc_SSint_SSint_Sint_Sint_kEqual_Sint_int_0 okEqualFunc_SSint_SSint_Sint_Sint_kEqual_Sint_int_0 (lkEqualFunc_SSint_SSint_Sint_Sint_kEqual_Sint_int_0 N n)) (dkEqualFunc_SSint_SSint_Sint_Sint_kEqual_Sint_int_0.mk' v) := by kernel_rfl
theorem cxkEqualFunc_SSint_SSint_Sint_Sint_kEqual_Sint_int (N : Nat) : CtxOk Try.prog (XkEqualFunc_SSint_SSint_Sint_Sint_kEqual_Sint_int N) := ⟨⟨TE_ok, List.forall_mem_cons.2 ⟨speckEqual_Sint_int N, fun k hk => absurd hk List.not_mem_nil⟩⟩, mixed⟩
theorem lpkEqualFunc_SSint_SSint_Sint_Sint_kEqual_Sint_int_0 (N : Nat) : LoopOk Try.prog { hd := dkEqualFunc_SSint_SSint_Sint_Sint_kEqual_Sint_int_0, outs := okEqualFunc_SSint_SSint_Sint_Sint_kEqual_Sint_int_0, run := fun v => lkEqualFunc_SSint_SSint_Sint_Sint_kEqual_Sint_int_0 N N v } bkEqualFunc_SSint_SSint_Sint_Sint_kEqual_Sint_int_0 :=
  loop_fuel (d := dkEqualFunc_SSint_SSint_Sint_Sint_kEqual_Sint_int_0) (os := okEqualFunc_SSint_SSint_Sint_Sint_kEqual_Sint_int_0) (cxkEqualFunc_SSint_SSint_Sint_Sint_kEqual_Sint_int N) (loops_at (ids := []) (by kernel_rfl) (trivial)) (lkEqualFunc_SSint_SSint_Sint_Sint_kEqual_Sint_int_0 N) (fun _ => rfl) (fun n v => lkEqualFunc_SSint_SSint_Sint_Sint_kEqual_Sint_int_0_eq N n v) (fun _ => N)
theorem speckEqualFunc_SSint_SSint_Sint_Sint_kEqual_Sint_int (N : Nat) : Spec Try.prog (conkEqualFunc_SSint_SSint_Sint_Sint_kEqual_Sint_int N) :=
  Spec.of_eq (fn_spec (cxkEqualFunc_SSint_SSint_Sint_Sint_kEqual_Sint_int N) (f := 95) (fn := Try.f95) (c := codeOf Try.f95) (by kernel_rfl) (by kernel_rfl) (by kernel_rfl) (loops_at (ids := [0]) (by kernel_rfl) ⟨lp_of (lpkEqualFunc_SSint_SSint_Sint_Sint_kEqual_Sint_int_0 N), trivial⟩) (by kernel_rfl)) (fun x r h => (FkEqualFunc_SSint_SSint_Sint_Sint_kEqual_Sint_int_eq N x).trans h)

/-! ### 60: impl.Graph).same -/

noncomputable def diniGraph_same : Desc := { n := 2, regs := [.one (.val (.pair (.sl (.pair (.sl (.int .i64)) (.pair (.sl (.int .i64)) .unit))) (.pair (.sl (.sl (.int .i64))) (.pair (.sl (.int .i64)) .unit)))), .one (.val (.pair (.sl (.pair (.sl (.int .i64)) (.pair (.sl (.int .i64)) .unit))) (.pair (.sl (.sl (.int .i64))) (.pair (.sl (.int .i64)) .unit))))], bx := [], pins := [] }
noncomputable def outiGraph_same : Outs := [(.ret, { n := 1, regs := [.one (.val .bool)], bx := [], pins := [] })]
noncomputable def HiGraph_same : Hints := [(0, [(0, { fz := true }), (1, { fz := true })]),
  (1, [(10, { con := 1 }), (17, { con := 2 })])]
noncomputable def EiGraph_same (N : Nat) : Env := { te := TE, cs := [conkEqualFunc_SNode_SNode_Node_Node_iGraph_same_1 N, conkEqualFunc_SSint_SSint_Sint_Sint_kEqual_Sint_int N, conkEqual_Sint_int N] }
noncomputable def FiGraph_same (N : Nat) (x : (((List ((List Int) × ((List Int) × Unit))) × ((List (List Int)) × ((List Int) × Unit))) × (((List ((List Int) × ((List Int) × Unit))) × ((List (List Int)) × ((List Int) × Unit))) × Unit))) : Option (Bool × Unit) :=
  (FkEqualFunc_SNode_SNode_Node_Node_iGraph_same_1 N (x.1.1, x.2.1.1, ())).bind fun r1 =>
  bif r1.1 then
   (FkEqualFunc_SSint_SSint_Sint_Sint_kEqual_Sint_int N (x.1.2.1, x.2.1.2.1, ())).bind fun r2 =>
   bif r2.1 then
    (FkEqual_Sint_int N (x.1.2.2.1, x.2.1.2.2.1, ())).bind fun r3 =>
    some (r3.1, ())
   else
   some (false, ())
  else
  some (false, ())
noncomputable def coniGraph_same (N : Nat) : Con := { f := 60, din := diniGraph_same, outs := outiGraph_same, F := FiGraph_same N }
noncomputable def XiGraph_same (N : Nat) : Ctx := { E := EiGraph_same N, H := HiGraph_same, lp := [], jn := [] }
theorem FiGraph_same_eq (N : Nat) (x : (((List ((List Int) × ((List Int) × Unit))) × ((List (List Int)) × ((List Int) × Unit))) × (((List ((List Int) × ((List Int) × Unit))) × ((List (List Int)) × ((List Int) × Unit))) × Unit))) : evFn (XiGraph_same N) Try.f60 diniGraph_same outiGraph_same x = FiGraph_same N x := by kernel_rfl
theorem cxiGraph_same (N : Nat) : CtxOk Try.prog (XiGraph_same N) := ⟨⟨TE_ok, List.forall_mem_cons.2 ⟨speckEqualFunc_SNode_SNode_Node_Node_iGraph_same_1 N, List.forall_mem_cons.2 ⟨speckEqualFunc_SSint_SSint_Sint_Sint_kEqual_Sint_int N, List.forall_mem_cons.2 ⟨speckEqual_Sint_int N, fun k hk => absurd hk List.not_mem_nil⟩⟩⟩⟩, mixed⟩
theorem speciGraph_same (N : Nat) : Spec Try.prog (coniGraph_same N) :=
  Spec.of_eq (fn_spec (cxiGraph_same N) (f := 60) (fn := Try.f60) (c := codeOf Try.f60) (by kernel_rfl) (by kernel_rfl) (by kernel_rfl) (loops_at (ids := []) (by kernel_rfl) (trivial)) (by kernel_rfl)) (fun x r h => (FiGraph_same_eq N x).trans h)

/-! ### 20: impl.GraphSame -/

noncomputable def diniGraphSame : Desc := { n := 2, regs := [.one (.val (.pair (.sl (.pair (.sl (.int .i64)) (.pair (.sl (.int .i64)) .unit))) (.pair (.sl (.sl (.int .i64))) (.pair (.sl (.int .i64)) .unit)))), .one (.val (.pair (.sl (.pair (.sl (.int .i64)) (.pair (.sl (.int .i64)) .unit))) (.pair (.sl (.sl (.int .i64))) (.pair (.sl (.int .i64)) .unit))))], bx := [], pins := [] }
noncomputable def outiGraphSame : Outs := [(.ret, { n := 1, regs := [.one (.val .bool)], bx := [], pins := [] })]
noncomputable def HiGraphSame : Hints := [(0, [(0, { fz := true }), (1, { fz := true })]),
  (1, [(8, { con := 1 }), (10, { con := 1 }), (11, { con := 2 })])]
noncomputable def EiGraphSame (N : Nat) : Env := { te := TE, cs := [coniGraphOk N, coniGraphTrim N, coniGraph_same N] }
noncomputable def FiGraphSame (N : Nat) (x : (((List ((List Int) × ((List Int) × Unit))) × ((List (List Int)) × ((List Int) × Unit))) × (((List ((List Int) × ((List Int) × Unit))) × ((List (List Int)) × ((List Int) × Unit))) × Unit))) : Option (Bool × Unit) :=
  (FiGraphOk N (x.1, ())).bind fun r1 =>
  bif r1.1 then
   (FiGraphOk N (x.2.1, ())).bind fun r2 =>
   bif r2.1 then
    (FiGraphTrim N (x.1, ())).bind fun r3 =>
    (FiGraphTrim N (x.2.1, ())).bind fun r4 =>
    (FiGraph_same N ((r3.1, r3.2.1, r3.2.2.1, ()), (r4.1, r4.2.1, r4.2.2.1, ()), ())).bind fun r5 =>
    some (r5.1, ())
   else
   some (false, ())
  else
  some (false, ())
noncomputable def coniGraphSame (N : Nat) : Con := { f := 20, din := diniGraphSame, outs := outiGraphSame, F := FiGraphSame N }
noncomputable def XiGraphSame (N : Nat) : Ctx := { E := EiGraphSame N, H := HiGraphSame, lp := [], jn := [] }
theorem FiGraphSame_eq (N : Nat) (x : (((List ((List Int) × ((List Int) × Unit))) × ((List (List Int)) × ((List Int) × Unit))) × (((List ((List Int) × ((List Int) × Unit))) × ((List (List Int)) × ((List Int) × Unit))) × Unit))) : evFn (XiGraphSame N) Try.f20 diniGraphSame outiGraphSame x = FiGraphSame N x := by kernel_rfl
theorem cxiGraphSame (N : Nat) : CtxOk Try.prog (XiGraphSame N) := ⟨⟨TE_ok, List.forall_mem_cons.2 ⟨speciGraphOk N, List.forall_mem_cons.2 ⟨speciGraphTrim N, List.forall_mem_cons.2 ⟨speciGraph_same N, fun k hk => absurd hk List.not_mem_nil⟩⟩⟩⟩, mixed⟩
theorem speciGraphSame (N : Nat) : Spec Try.prog (coniGraphSame N) :=
  Spec.of_eq (fn_spec (cxiGraphSame N) (f := 20) (fn := Try.f20) (c := codeOf Try.f20) (by kernel_rfl) (by kernel_rfl) (by kernel_rfl) (loops_at (ids := []) (by kernel_rfl) (trivial)) (by kernel_rfl)) (fun x r h => (FiGraphSame_eq N x).trans h)

/-! ### 88: impl.ShapeOk -/

noncomputable def diniShapeOk : Desc := { n := 1, regs := [.one (.val (.pair (.int .i64) (.pair (.int .i64) .unit)))], bx := [], pins := [] }
noncomputable def outiShapeOk : Outs := [(.ret, { n := 1, regs := [.one (.val .bool)], bx := [], pins := [] })]
noncomputable def HiShapeOk : Hints := [(0, [(0, { fz := true })])]
noncomputable def EiShapeOk (_N : Nat) : Env := { te := TE, cs := [] }
noncomputable def FiShapeOk (N : Nat) (x : ((Int × (Int × Unit)) × Unit)) : Option (Bool × Unit) :=
  bif decide (x.1.1 ≥ (0 : Int)) then
   bif decide (x.1.1 ≤ (4 : Int)) then
    bif decide (x.1.2.1 ≥ (0 : Int)) then
     some (decide (x.1.2.1 ≤ (4 : Int)), ())
    else
    some (false, ())
   else
   some (false, ())
  else
  some (false, ())
noncomputable def coniShapeOk (N : Nat) : Con := { f := 88, din := diniShapeOk, outs := outiShapeOk, F := FiShapeOk N }
noncomputable def XiShapeOk (N : Nat) : Ctx := { E := EiShapeOk N, H := HiShapeOk, lp := [], jn := [] }
theorem FiShapeOk_eq (N : Nat) (x : ((Int × (Int × Unit)) × Unit)) : evFn (XiShapeOk N) Try.f88 diniShapeOk outiShapeOk x = FiShapeOk N x := by kernel_rfl
theorem cxiShapeOk (N : Nat) : CtxOk Try.prog (XiShapeOk N) := ⟨⟨TE_ok, fun k hk => absurd hk List.not_mem_nil⟩, mixed⟩
theorem speciShapeOk (N : Nat) : Spec Try.prog (coniShapeOk N) :=
  Spec.of_eq (fn_spec (cxiShapeOk N) (f := 88) (fn := Try.f88) (c := codeOf Try.f88) (by kernel_rfl) (by kernel_rfl) (by kernel_rfl) (loops_at (ids := []) (by kernel_rfl) (trivial)) (by kernel_rfl)) (fun x r h => (FiShapeOk_eq N x).trans h)

/-! ### 43: impl.OpOk -/

noncomputable def diniOpOk : Desc := { n := 1, regs := [.one (.val (.pair (.int .i64) (.pair (.int .i64) (.pair (.int .i64) (.pair (.int .i64) (.pair (.int .i64) (.pair (.int .i64) (.pair (.pair (.int .i64) (.pair (.int .i64) .unit)) .unit))))))))], bx := [], pins := [] }
noncomputable def outiOpOk : Outs := [(.ret, { n := 1, regs := [.one (.val .bool)], bx := [], pins := [] })]
noncomputable def HiOpOk : Hints := [(0, [(0, { fz := true })])]
noncomputable def EiOpOk (N : Nat) : Env := { te := TE, cs := [coniShapeOk N] }
noncomputable def FiOpOk (N : Nat) (x : ((Int × (Int × (Int × (Int × (Int × (Int × ((Int × (Int × Unit)) × Unit))))))) × Unit)) : Option (Bool × Unit) :=
  bif decide (x.1.1 ≥ (1 : Int)) then
   bif decide (x.1.1 ≤ (11 : Int)) then
    bif x.1.1 != (1 : Int) then
     some (true, ())
    else
    (FiShapeOk N (x.1.2.2.2.2.2.2.1, ())).bind fun r1 =>
    some (r1.1, ())
   else
   some (false, ())
  else
  some (false, ())
noncomputable def coniOpOk (N : Nat) : Con := { f := 43, din := diniOpOk, outs := outiOpOk, F := FiOpOk N }
noncomputable def XiOpOk (N : Nat) : Ctx := { E := EiOpOk N, H := HiOpOk, lp := [], jn := [] }
theorem FiOpOk_eq (N : Nat) (x : ((Int × (Int × (Int × (Int × (Int × (Int × ((Int × (Int × Unit)) × Unit))))))) × Unit)) : evFn (XiOpOk N) Try.f43 diniOpOk outiOpOk x = FiOpOk N x := by kernel_rfl
theorem cxiOpOk (N : Nat) : CtxOk Try.prog (XiOpOk N) := ⟨⟨TE_ok, List.forall_mem_cons.2 ⟨speciShapeOk N, fun k hk => absurd hk List.not_mem_nil⟩⟩, mixed⟩
theorem speciOpOk (N : Nat) : Spec Try.prog (coniOpOk N) :=
  Spec.of_eq (fn_spec (cxiOpOk N) (f := 43) (fn := Try.f43) (c := codeOf Try.f43) (by kernel_rfl) (by kernel_rfl) (by kernel_rfl) (loops_at (ids := []) (by kernel_rfl) (trivial)) (by kernel_rfl)) (fun x r h => (FiOpOk_eq N x).trans h)

/-! ### 44: impl.Graph).copy -/

noncomputable def diniGraph_copy : Desc := { n := 1, regs := [.one (.val (.pair (.sl (.pair (.sl (.int .i64)) (.pair (.sl (.int .i64)) .unit))) (.pair (.sl (.sl (.int .i64))) (.pair (.sl (.int .i64)) .unit))))], bx := [], pins := [] }
noncomputable def outiGraph_copy : Outs := [(.ret, { n := 1, regs := [.agg [.lit (.row 1012993), .lit (.row 1012994), .lit (.row 1012929)]], bx := [(1012993, .row (.pair (.sl (.int .i64)) (.pair (.sl (.int .i64)) .unit))), (1012994, .row (.sl (.int .i64))), (1012929, .row (.int .i64))], pins := [] })]
noncomputable def HiGraph_copy : Hints := [(0, [(0, { fz := true })]),
  (1, [(3, { nl := [(0, (.pair (.sl (.int .i64)) (.pair (.sl (.int .i64)) .unit))), (1, (.sl (.int .i64)))] })]),
  (5, [(9, { dp := true }), (10, { dp := true })]),
  (10, [(4, { dp := true }), (5, { dp := true })])]
noncomputable def EiGraph_copy (N : Nat) : Env := { te := TE, cs := [conkClone_Sint_int N] }
noncomputable def diGraph_copy_0 : Desc := { n := 48, regs := [u, .one (.fpt (.pair (.sl (.pair (.sl (.int .i64)) (.pair (.sl (.int .i64)) .unit))) (.pair (.sl (.sl (.int .i64))) (.pair (.sl (.int .i64)) .unit)))), .one (.lit (.ptr 1000064 0)), .one (.lit (.ptr 1013056 0)), u, u, u, u, u, u, u, u, u, .one (.val (.sl (.pair (.sl (.int .i64)) (.pair (.sl (.int .i64)) .unit)))), .one (.val (.int .i64)), .one (.val (.int .i64))], bx := [(1000064, .var [.lit .nil, .lit .nil, .lit .nil]), (1013056, .var [.lit (.row 1012993), .lit (.row 1012994), .lit (.row 1012929)]), (1012993, .row (.pair (.sl (.int .i64)) (.pair (.sl (.int .i64)) .unit))), (1012994, .row (.sl (.int .i64))), (1012929, .row (.int .i64))], pins := [] }
noncomputable def oiGraph_copy_0 : Outs := [(.exit 0, { n := 48, regs := [u, .one (.fpt (.pair (.sl (.pair (.sl (.int .i64)) (.pair (.sl (.int .i64)) .unit))) (.pair (.sl (.sl (.int .i64))) (.pair (.sl (.int .i64)) .unit)))), .one (.lit (.ptr 1000064 0)), .one (.lit (.ptr 1013056 0))], bx := [(1000064, .var [.lit .nil, .lit .nil, .lit .nil]), (1013056, .var [.lit (.row 1012993), .lit (.row 1012994), .lit (.row 1012929)]), (1012993, .row (.pair (.sl (.int .i64)) (.pair (.sl (.int .i64)) .unit))), (1012994, .row (.sl (.int .i64))), (1012929, .row (.int .i64))], pins := [] })]
noncomputable def diGraph_copy_2 : Desc := { n := 48, regs := [u, u, .one (.lit (.ptr 1000064 0)), .one (.lit (.ptr 1013056 0)), u, u, u, u, u, u, u, u, u, u, u, u, u, u, u, u, u, u, u, u, u, u, u, u, u, u, u, u, u, .one (.val (.sl (.sl (.int .i64)))), .one (.val (.int .i64)), .one (.val (.int .i64))], bx := [(1000064, .var [.lit .nil, .lit .nil, .lit .nil]), (1013056, .var [.lit (.row 1012993), .lit (.row 1012994), .lit (.row 1012929)]), (1012993, .row (.pair (.sl (.int .i64)) (.pair (.sl (.int .i64)) .unit))), (1012994, .row (.sl (.int .i64))), (1012929, .row (.int .i64))], pins := [] }
noncomputable def oiGraph_copy_2 : Outs := [(.exit 2, { n := 48, regs := [u, u, .one (.lit (.ptr 1000064 0)), .one (.lit (.ptr 1013056 0))], bx := [(1000064, .var [.lit .nil, .lit .nil, .lit .nil]), (1013056, .var [.lit (.row 1012993), .lit (.row 1012994), .lit (.row 1012929)]), (1012993, .row (.pair (.sl (.int .i64)) (.pair (.sl (.int .i64)) .unit))), (1012994, .row (.sl (.int .i64))), (1012929, .row (.int .i64))], pins := [] })]
noncomputable def liGraph_copy_0 (N : Nat) : Nat → (((List ((List Int) × ((List Int) × Unit))) × ((List (List Int)) × ((List Int) × Unit))) × ((List ((List Int) × ((List Int) × Unit))) × (Int × (Int × ((List ((List Int) × ((List Int) × Unit))) × ((List (List Int)) × ((List Int) × Unit))))))) → Option (((List ((List Int) × ((List Int) × Unit))) × ((List (List Int)) × ((List Int) × Unit))) × ((List ((List Int) × ((List Int) × Unit))) × ((List (List Int)) × ((List Int) × Unit))))
  | 0, _ => none
  | n + 1, v =>
    bif decide (v.2.2.2.1 < v.2.2.1) then
     bif decide (0 ≤ v.2.2.2.1) then
     bif decide (v.2.2.2.1.toNat < v.2.1.length) then
     let y3 := v.2.1.getD v.2.2.2.1.toNat (([] : (List Int)), ([] : (List Int)), ())
     (FkClone_Sint_int N (y3.1, ())).bind fun r4 =>
     (FkClone_Sint_int N (y3.2.1, ())).bind fun r5 =>
     bif decide (v.2.2.2.2.1.length + [(r4.1, r5.1, ())].length ≤ lim) then
     liGraph_copy_0 N n (v.1, v.2.1, v.2.2.1, w64 (v.2.2.2.1 + (1 : Int)), v.2.2.2.2.1 ++ [(r4.1, r5.1, ())], v.2.2.2.2.2.1, v.2.2.2.2.2.2.1, ())
     else none
     else none
     else none
    else
    some (v.1, v.2.2.2.2.1, v.2.2.2.2.2.1, v.2.2.2.2.2.2.1, ())
noncomputable def liGraph_copy_2 (N : Nat) : Nat → ((List (List Int)) × (Int × (Int × ((List ((List Int) × ((List Int) × Unit))) × ((List (List Int)) × ((List Int) × Unit)))))) → Option ((List ((List Int) × ((List Int) × Unit))) × ((List (List Int)) × ((List Int) × Unit)))
  | 0, _ => none
  | n + 1, v =>
    bif decide (v.2.2.1 < v.2.1) then
     bif decide (0 ≤ v.2.2.1) then
     bif decide (v.2.2.1.toNat < v.1.length) then
     let y7 := v.1.getD v.2.2.1.toNat ([] : (List Int))
     (FkClone_Sint_int N (y7, ())).bind fun r8 =>
     bif decide (v.2.2.2.2.1.length + [r8.1].length ≤ lim) then
     liGraph_copy_2 N n (v.1, v.2.1, w64 (v.2.2.1 + (1 : Int)), v.2.2.2.1, v.2.2.2.2.1 ++ [r8.1], v.2.2.2.2.2.1, ())
     else none
     else none
     else none
    else
    some (v.2.2.2.1, v.2.2.2.2.1, v.2.2.2.2.2.1, ())
noncomputable def FiGraph_copy (N : Nat) (x : (((List ((List Int) × ((List Int) × Unit))) × ((List (List Int)) × ((List Int) × Unit))) × Unit)) : Option ((List ((List Int) × ((List Int) × Unit))) × ((List (List Int)) × ((List Int) × Unit))) :=
  (FkClone_Sint_int N (x.1.2.2.1, ())).bind fun r1 =>
  let y2 := ([] : (List ((List Int) × ((List Int) × Unit))))
  (liGraph_copy_0 N N (x.1, x.1.1, (x.1.1.length : Int), (0 : Int), y2, ([] : (List (List Int))), r1.1, ())).bind fun o6 =>
  (liGraph_copy_2 N N (o6.1.2.1, (o6.1.2.1.length : Int), (0 : Int), o6.2.1, o6.2.2.1, o6.2.2.2.1, ())).bind fun o9 =>
  some (o9.1, o9.2.1, o9.2.2.1, ())
noncomputable def coniGraph_copy (N : Nat) : Con := { f := 44, din := diniGraph_copy, outs := outiGraph_copy, F := FiGraph_copy N }
noncomputable def XiGraph_copy (N : Nat) : Ctx := { E := EiGraph_copy N, H := HiGraph_copy, lp := [(0, { hd := diGraph_copy_0, outs := oiGraph_copy_0, run := fun v => liGraph_copy_0 N N v }), (2, { hd := diGraph_copy_2, outs := oiGraph_copy_2, run := fun v => liGraph_copy_2 N N v })], jn := [] }
noncomputable def biGraph_copy_2 : Code := loopBody (codeOf Try.f44) 1
noncomputable def biGraph_copy_0 : Code := loopBody (codeOf Try.f44) 0
theorem FiGraph_copy_eq (N : Nat) (x : (((List ((List Int) × ((List Int) × Unit))) × ((List (List Int)) × ((List Int) × Unit))) × Unit)) : evFn (XiGraph_copy N) Try.f44 diniGraph_copy outiGraph_copy x = FiGraph_copy N x := by kernel_rfl
theorem liGraph_copy_0_eq (N n : Nat) (v : (((List ((List Int) × ((List Int) × Unit))) × ((List (List Int)) × ((List Int) × Unit))) × ((List ((List Int) × ((List Int) × Unit))) × (Int × (Int × ((List ((List Int) × ((List Int) × Unit))) × ((List (List Int)) × ((List Int) × Unit)))))))) : liGraph_copy_0 N (n + 1) v = ev (XiGraph_copy N) biGraph_copy_0 (roundK diGraph_copy_0 oiGraph_copy_0 (liGraph_copy_0 N n)) (diGraph_copy_0.mk' v) := by kernel_rfl
theorem liGraph_copy_2_eq (N n : Nat) (v : ((List (List Int)) × (Int × (Int × ((List ((List Int) × ((List Int) × Unit))) × ((List (List Int)) × ((List Int) × Unit))))))) : liGraph_copy_2 N (n + 1) v = ev (XiGraph_copy N) biGraph_copy_2 (roundK diGraph_copy_2 oiGraph_copy_2 (liGraph_copy_2 N n)) (diGraph_copy_2.mk' v) := by kernel_rfl
theorem cxiGraph_copy (N : Nat) : CtxOk Try.prog (XiGraph_copy N) := ⟨⟨TE_ok, List.forall_mem_cons.2 ⟨speckClone_Sint_int N, fun k hk => absurd hk List.not_mem_nil⟩⟩, mixed⟩
theorem lpiGraph_copy_0 (N : Nat) : LoopOk Try.prog { hd := diGraph_copy_0, outs := oiGraph_copy_0, run := fun v => liGraph_copy_0 N N v } biGraph_copy_0 :=
  loop_fuel (d := diGraph_copy_0) (os := oiGraph_copy_0) (cxiGraph_copy N) (loops_at (ids := []) (by kernel_rfl) (trivial)) (liGraph_copy_0 N) (fun _ => rfl) (fun n v => liGraph_copy_0_eq N n v) (fun _ => N)
theorem lpiGraph_copy_2 (N : Nat) : LoopOk Try.prog { hd := diGraph_copy_2, outs := oiGraph_copy_2, run := fun v => liGraph_copy_2 N N v } biGraph_copy_2 :=
  loop_fuel (d := diGraph_copy_2) (os := oiGraph_copy_2) (cxiGraph_copy N) (loops_at (ids := []) (by kernel_rfl) (trivial)) (liGraph_copy_2 N) (fun _ => rfl) (fun n v => liGraph_copy_2_eq N n v) (fun _ => N)
theorem speciGraph_copy (N : Nat) : Spec Try.prog (coniGraph_copy N) :=
  Spec.of_eq (fn_spec (cxiGraph_copy N) (f := 44) (fn := Try.f44) (c := codeOf Try.f44) (by kernel_rfl) (by kernel_rfl) (by kernel_rfl) (loops_at (ids := [0, 2]) (by kernel_rfl) ⟨lp_of (lpiGraph_copy_0 N), ⟨lp_of (lpiGraph_copy_2 N), trivial⟩⟩) (by kernel_rfl)) (fun x r h => (FiGraph_copy_eq N x).trans h)

/-! ### 89: impl.Op).handles -/

noncomputable def diniOp_handles : Desc := { n := 1, regs := [.one (.val (.pair (.int .i64) (.pair (.int .i64) (.pair (.int .i64) (.pair (.int .i64) (.pair (.int .i64) (.pair (.int .i64) (.pair (.pair (.int .i64) (.pair (.int .i64) .unit)) .unit))))))))], bx := [], pins := [] }
noncomputable def outiOp_handles : Outs := [(.ret, { n := 1, regs := [.one (.lit (.row 1051200))], bx := [(1051200, .row (.int .i64))], pins := [] })]
noncomputable def HiOp_handles : Hints := [(0, [(0, { fz := true })]),
  (4, [(0, { nl := [(0, (.int .i64))] })])]
noncomputable def EiOp_handles (_N : Nat) : Env := { te := TE, cs := [] }
noncomputable def FiOp_handles (N : Nat) (x : ((Int × (Int × (Int × (Int × (Int × (Int × ((Int × (Int × Unit)) × Unit))))))) × Unit)) : Option ((List Int) × Unit) :=
  bif x.1.1 == (1 : Int) then
   some (([] : (List Int)), ())
  else
  bif x.1.1 == (8 : Int) then
   some (([] : (List Int)), ())
  else
  bif x.1.1 == (3 : Int) then
   some ([x.1.2.1, x.1.2.2.1], ())
  else
  bif x.1.1 == (6 : Int) then
   some ([x.1.2.1, x.1.2.2.1], ())
  else
  bif x.1.1 == (7 : Int) then
   some ([x.1.2.1, x.1.2.2.1, x.1.2.2.2.1], ())
  else
  some ([x.1.2.1], ())
noncomputable def coniOp_handles (N : Nat) : Con := { f := 89, din := diniOp_handles, outs := outiOp_handles, F := FiOp_handles N }
noncomputable def XiOp_handles (N : Nat) : Ctx := { E := EiOp_handles N, H := HiOp_handles, lp := [], jn := [] }
theorem FiOp_handles_eq (N : Nat) (x : ((Int × (Int × (Int × (Int × (Int × (Int × ((Int × (Int × Unit)) × Unit))))))) × Unit)) : evFn (XiOp_handles N) Try.f89 diniOp_handles outiOp_handles x = FiOp_handles N x := by kernel_rfl
theorem cxiOp_handles (N : Nat) : CtxOk Try.prog (XiOp_handles N) := ⟨⟨TE_ok, fun k hk => absurd hk List.not_mem_nil⟩, mixed⟩
theorem speciOp_handles (N : Nat) : Spec Try.prog (coniOp_handles N) :=
  Spec.of_eq (fn_spec (cxiOp_handles N) (f := 89) (fn := Try.f89) (c := codeOf Try.f89) (by kernel_rfl) (by kernel_rfl) (by kernel_rfl) (loops_at (ids := []) (by kernel_rfl) (trivial)) (by kernel_rfl)) (fun x r h => (FiOp_handles_eq N x).trans h)

/-! ### 45: impl.Op).early -/

noncomputable def diniOp_early : Desc := { n := 3, regs := [.one (.val (.pair (.int .i64) (.pair (.int .i64) (.pair (.int .i64) (.pair (.int .i64) (.pair (.int .i64) (.pair (.int .i64) (.pair (.pair (.int .i64) (.pair (.int .i64) .unit)) .unit)))))))), .one (.val (.sl (.int .i64))), .one (.val (.int .i64))], bx := [], pins := [] }
noncomputable def outiOp_early : Outs := [(.ret, { n := 1, regs := [.one (.val (.int .i64))], bx := [], pins := [] })]
noncomputable def HiOp_early : Hints := [(0, [(0, { fz := true })])]
noncomputable def EiOp_early (N : Nat) : Env := { te := TE, cs := [coniOp_handles N] }
noncomputable def diOp_early_0 : Desc := { n := 61, regs := [u, .one (.val (.sl (.int .i64))), .one (.val (.int .i64)), .one (.fpt (.pair (.int .i64) (.pair (.int .i64) (.pair (.int .i64) (.pair (.int .i64) (.pair (.int .i64) (.pair (.int .i64) (.pair (.pair (.int .i64) (.pair (.int .i64) .unit)) .unit)))))))), u, u, u, u, u, u, .one (.lit (.row 1012865)), .one (.val (.int .i64)), .one (.val (.int .i64))], bx := [(1012865, .row (.int .i64))], pins := [] }
noncomputable def oiOp_early_0 : Outs := [(.exit 0, { n := 61, regs := [u, .one (.val (.sl (.int .i64))), .one (.val (.int .i64)), .one (.fpt (.pair (.int .i64) (.pair (.int .i64) (.pair (.int .i64) (.pair (.int .i64) (.pair (.int .i64) (.pair (.int .i64) (.pair (.pair (.int .i64) (.pair (.int .i64) .unit)) .unit))))))))], bx := [], pins := [] }), (.ret, { n := 61, regs := [u, u, u, u, u, u, .one (.val (.int .i64))], bx := [], pins := [] })]
noncomputable def jiOp_early_16 : Outs := [(.normal, { n := 61, regs := [u, .one (.val (.sl (.int .i64))), u, .one (.fpt (.pair (.int .i64) (.pair (.int .i64) (.pair (.int .i64) (.pair (.int .i64) (.pair (.int .i64) (.pair (.int .i64) (.pair (.pair (.int .i64) (.pair (.int .i64) .unit)) .unit))))))))], bx := [], pins := [] }), (.ret, { n := 61, regs := [u, u, u, u, u, u, .one (.val (.int .i64))], bx := [], pins := [] })]
noncomputable def liOp_early_0 (N : Nat) : Nat → ((List Int) × (Int × ((Int × (Int × (Int × (Int × (Int × (Int × ((Int × (Int × Unit)) × Unit))))))) × (Int × (Int × ((List Int) × Unit)))))) → Option (((List Int) × (Int × ((Int × (Int × (Int × (Int × (Int × (Int × ((Int × (Int × Unit)) × Unit))))))) × Unit))) ⊕ (Int × Unit))
  | 0, _ => none
  | n + 1, v =>
    bif decide (v.2.2.2.2.1 < v.2.2.2.1) then
     bif decide (0 ≤ v.2.2.2.2.1) then
     bif decide (v.2.2.2.2.1.toNat < v.2.2.2.2.2.1.length) then
     let y2 := v.2.2.2.2.2.1.getD v.2.2.2.2.1.toNat (0 : Int)
     bif decide (y2 < (0 : Int)) then
      some (.inr (((2 : Int), ())))
     else
     bif decide (y2 ≥ (v.1.length : Int)) then
      some (.inr (((2 : Int), ())))
     else
     liOp_early_0 N n (v.1, v.2.1, v.2.2.1, v.2.2.2.1, w64 (v.2.2.2.2.1 + (1 : Int)), v.2.2.2.2.2.1, ())
     else none
     else none
    else
    some (.inl (v.1, v.2.1, v.2.2.1, ()))
noncomputable def FiOp_early (N : Nat) (x : ((Int × (Int × (Int × (Int × (Int × (Int × ((Int × (Int × Unit)) × Unit))))))) × ((List Int) × (Int × Unit)))) : Option (Int × Unit) :=
  (FiOp_handles N (x.1, ())).bind fun r1 =>
  (liOp_early_0 N N (x.2.1, x.2.2.1, x.1, (r1.1.length : Int), (0 : Int), r1.1, ())).bind fun o3 =>
  Sum.elim (fun o4 =>
   Option.bind (
    bif o4.2.2.1.1 == (8 : Int) then
     bif (o4.1.length : Int) == (0 : Int) then
      some (.inr (((2 : Int), ())))
     else
     some (.inl (o4.1, o4.2.2.1, ()))
    else
    bif o4.2.2.1.1 == (1 : Int) then
     some (.inl (o4.1, o4.2.2.1, ()))
    else
    bif o4.2.2.1.1 == (6 : Int) then
     some (.inl (o4.1, o4.2.2.1, ()))
    else
    bif o4.2.2.1.1 == (9 : Int) then
     some (.inl (o4.1, o4.2.2.1, ()))
    else
    bif decide (0 ≤ o4.2.2.1.2.1) then
    bif decide (o4.2.2.1.2.1.toNat < o4.1.length) then
    let y5 := o4.1.getD o4.2.2.1.2.1.toNat (0 : Int)
    bif y5 == o4.2.1 then
     some (.inr (((3 : Int), ())))
    else
    some (.inl (o4.1, o4.2.2.1, ()))
    else none
    else none) fun o6 =>
   Sum.elim (fun o7 =>
    bif o7.2.1.1 == (1 : Int) then
     let y8 := decide ((o7.1.length : Int) ≥ (8 : Int))
     bif y8 then
      some ((5 : Int), ())
     else
     some ((0 : Int), ())
    else
    bif o7.2.1.1 == (2 : Int) then
     let y9 := decide ((o7.1.length : Int) ≥ (8 : Int))
     bif y9 then
      some ((5 : Int), ())
     else
     some ((0 : Int), ())
    else
    bif o7.2.1.1 == (9 : Int) then
     let y10 := decide ((o7.1.length : Int) ≥ (8 : Int))
     bif y10 then
      some ((5 : Int), ())
     else
     some ((0 : Int), ())
    else
    some ((0 : Int), ())) (fun o11 =>
    some (o11.1, ())) o6) (fun o12 =>
   some (o12.1, ())) o3
noncomputable def coniOp_early (N : Nat) : Con := { f := 45, din := diniOp_early, outs := outiOp_early, F := FiOp_early N }
noncomputable def XiOp_early (N : Nat) : Ctx := { E := EiOp_early N, H := HiOp_early, lp := [(0, { hd := diOp_early_0, outs := oiOp_early_0, run := fun v => liOp_early_0 N N v })], jn := [(16, jiOp_early_16)] }
noncomputable def biOp_early_0 : Code := loopBody (codeOf Try.f45) 0
theorem FiOp_early_eq (N : Nat) (x : ((Int × (Int × (Int × (Int × (Int × (Int × ((Int × (Int × Unit)) × Unit))))))) × ((List Int) × (Int × Unit)))) : evFn (XiOp_early N) Try.f45 diniOp_early outiOp_early x = FiOp_early N x := by kernel_rfl
theorem liOp_early_0_eq (N n : Nat) (v : ((List Int) × (Int × ((Int × (Int × (Int × (Int × (Int × (Int × ((Int × (Int × Unit)) × Unit))))))) × (Int × (Int × ((List Int) × Unit))))))) : liOp_early_0 N (n + 1) v = ev (XiOp_early N) biOp_early_0 (roundK diOp_early_0 oiOp_early_0 (liOp_early_0 N n)) (diOp_early_0.mk' v) := by kernel_rfl
theorem cxiOp_early (N : Nat) : CtxOk Try.prog (XiOp_early N) := ⟨⟨TE_ok, List.forall_mem_cons.2 ⟨speciOp_handles N, fun k hk => absurd hk List.not_mem_nil⟩⟩, mixed⟩
theorem lpiOp_early_0 (N : Nat) : LoopOk Try.prog { hd := diOp_early_0, outs := oiOp_early_0, run := fun v => liOp_early_0 N N v } biOp_early_0 :=
  loop_fuel (d := diOp_early_0) (os := oiOp_early_0) (cxiOp_early N) (loops_at (ids := []) (by kernel_rfl) (trivial)) (liOp_early_0 N) (fun _ => rfl) (fun n v => liOp_early_0_eq N n v) (fun _ => N)
theorem speciOp_early (N : Nat) : Spec Try.prog (coniOp_early N) :=
  Spec.of_eq (fn_spec (cxiOp_early N) (f := 45) (fn := Try.f45) (c := codeOf Try.f45) (by kernel_rfl) (by kernel_rfl) (by kernel_rfl) (loops_at (ids := [0]) (by kernel_rfl) ⟨lp_of (lpiOp_early_0 N), trivial⟩) (by kernel_rfl)) (fun x r h => (FiOp_early_eq N x).trans h)

/-! ### 46: impl.Op).field -/

noncomputable def diniOp_field : Desc := { n := 3, regs := [.one (.val (.pair (.int .i64) (.pair (.int .i64) (.pair (.int .i64) (.pair (.int .i64) (.pair (.int .i64) (.pair (.int .i64) (.pair (.pair (.int .i64) (.pair (.int .i64) .unit)) .unit)))))))), .one (.val (.int .i64)), .one (.val (.int .i64))], bx := [], pins := [] }
noncomputable def outiOp_field : Outs := [(.ret, { n := 1, regs := [.one (.val .bool)], bx := [], pins := [] })]
noncomputable def HiOp_field : Hints := [(0, [(0, { fz := true })])]
noncomputable def EiOp_field (_N : Nat) : Env := { te := TE, cs := [] }
noncomputable def FiOp_field (N : Nat) (x : ((Int × (Int × (Int × (Int × (Int × (Int × ((Int × (Int × Unit)) × Unit))))))) × (Int × (Int × Unit)))) : Option (Bool × Unit) :=
  bif x.1.1 == (2 : Int) then
   bif decide (x.1.2.2.2.2.1 ≥ (0 : Int)) then
    some (decide (x.1.2.2.2.2.1 < x.2.1), ())
   else
   some (false, ())
  else
  bif x.1.1 == (3 : Int) then
   bif decide (x.1.2.2.2.2.1 ≥ (0 : Int)) then
    some (decide (x.1.2.2.2.2.1 < x.2.1), ())
   else
   some (false, ())
  else
  bif x.1.1 == (7 : Int) then
   bif decide (x.1.2.2.2.2.1 ≥ (0 : Int)) then
    some (decide (x.1.2.2.2.2.1 < x.2.1), ())
   else
   some (false, ())
  else
  bif x.1.1 == (4 : Int) then
   bif decide (x.1.2.2.2.2.1 ≥ (0 : Int)) then
    some (decide (x.1.2.2.2.2.1 < x.2.2.1), ())
   else
   some (false, ())
  else
  bif x.1.1 == (5 : Int) then
   bif decide (x.1.2.2.2.2.1 ≥ (0 : Int)) then
    some (decide (x.1.2.2.2.2.1 < x.2.2.1), ())
   else
   some (false, ())
  else
  some (true, ())
noncomputable def coniOp_field (N : Nat) : Con := { f := 46, din := diniOp_field, outs := outiOp_field, F := FiOp_field N }
noncomputable def XiOp_field (N : Nat) : Ctx := { E := EiOp_field N, H := HiOp_field, lp := [], jn := [] }
theorem FiOp_field_eq (N : Nat) (x : ((Int × (Int × (Int × (Int × (Int × (Int × ((Int × (Int × Unit)) × Unit))))))) × (Int × (Int × Unit)))) : evFn (XiOp_field N) Try.f46 diniOp_field outiOp_field x = FiOp_field N x := by kernel_rfl
theorem cxiOp_field (N : Nat) : CtxOk Try.prog (XiOp_field N) := ⟨⟨TE_ok, fun k hk => absurd hk List.not_mem_nil⟩, mixed⟩
theorem speciOp_field (N : Nat) : Spec Try.prog (coniOp_field N) :=
  Spec.of_eq (fn_spec (cxiOp_field N) (f := 46) (fn := Try.f46) (c := codeOf Try.f46) (by kernel_rfl) (by kernel_rfl) (by kernel_rfl) (loops_at (ids := []) (by kernel_rfl) (trivial)) (by kernel_rfl)) (fun x r h => (FiOp_field_eq N x).trans h)

/-! ### 113: bits.Mul64 -/

noncomputable def dinmath_bits_Mul64 : Desc := { n := 2, regs := [.one (.val (.int .u64)), .one (.val (.int .u64))], bx := [], pins := [] }
noncomputable def outmath_bits_Mul64 : Outs := [(.ret, { n := 2, regs := [.one (.val (.int .u64)), .one (.val (.int .u64))], bx := [], pins := [] })]
noncomputable def Hmath_bits_Mul64 : Hints := []
noncomputable def Emath_bits_Mul64 (_N : Nat) : Env := { te := TE, cs := [] }
noncomputable def Fmath_bits_Mul64 (N : Nat) (x : (Int × (Int × Unit))) : Option (Int × (Int × Unit)) :=
  let y1 := IntKind.wrap .u64 (((bitsOf .u64 x.1 &&& bitsOf .u64 (4294967295 : Int)).toNat : Int))
  bif decide (0 ≤ (32 : Int)) then
  let y2 := Int.fdiv x.1 (2 ^ min (32 : Int).toNat 64)
  let y3 := IntKind.wrap .u64 (((bitsOf .u64 x.2.1 &&& bitsOf .u64 (4294967295 : Int)).toNat : Int))
  bif decide (0 ≤ (32 : Int)) then
  let y4 := Int.fdiv x.2.1 (2 ^ min (32 : Int).toNat 64)
  bif decide (0 ≤ (32 : Int)) then
  let y5 := Int.fdiv (IntKind.wrap .u64 (y1 * y3)) (2 ^ min (32 : Int).toNat 64)
  let y6 := IntKind.wrap .u64 ((IntKind.wrap .u64 (y2 * y3)) + y5)
  let y7 := IntKind.wrap .u64 (((bitsOf .u64 y6 &&& bitsOf .u64 (4294967295 : Int)).toNat : Int))
  bif decide (0 ≤ (32 : Int)) then
  let y8 := Int.fdiv y6 (2 ^ min (32 : Int).toNat 64)
  let y9 := IntKind.wrap .u64 (y7 + (IntKind.wrap .u64 (y1 * y4)))
  let y10 := IntKind.wrap .u64 ((IntKind.wrap .u64 (y2 * y4)) + y8)
  bif decide (0 ≤ (32 : Int)) then
  let y11 := Int.fdiv y9 (2 ^ min (32 : Int).toNat 64)
  some (IntKind.wrap .u64 (y10 + y11), IntKind.wrap .u64 (x.1 * x.2.1), ())
  else none
  else none
  else none
  else none
  else none
noncomputable def conmath_bits_Mul64 (N : Nat) : Con := { f := 113, din := dinmath_bits_Mul64, outs := outmath_bits_Mul64, F := Fmath_bits_Mul64 N }
noncomputable def Xmath_bits_Mul64 (N : Nat) : Ctx := { E := Emath_bits_Mul64 N, H := Hmath_bits_Mul64, lp := [], jn := [] }
theorem Fmath_bits_Mul64_eq (N : Nat) (x : (Int × (Int × Unit))) : evFn (Xmath_bits_Mul64 N) Try.f113 dinmath_bits_Mul64 outmath_bits_Mul64 x = Fmath_bits_Mul64 N x := by kernel_rfl
theorem cxmath_bits_Mul64 (N : Nat) : CtxOk Try.prog (Xmath_bits_Mul64 N) := ⟨⟨TE_ok, fun k hk => absurd hk List.not_mem_nil⟩, mixed⟩
theorem specmath_bits_Mul64 (N : Nat) : Spec Try.prog (conmath_bits_Mul64 N) :=
  Spec.of_eq (fn_spec (cxmath_bits_Mul64 N) (f := 113) (fn := Try.f113) (c := codeOf Try.f113) (by kernel_rfl) (by kernel_rfl) (by kernel_rfl) (loops_at (ids := []) (by kernel_rfl) (trivial)) (by kernel_rfl)) (fun x r h => (Fmath_bits_Mul64_eq N x).trans h)

/-! ### 107: bits.Mul -/

noncomputable def dinmath_bits_Mul : Desc := { n := 2, regs := [.one (.val (.int .u64)), .one (.val (.int .u64))], bx := [], pins := [] }
noncomputable def outmath_bits_Mul : Outs := [(.ret, { n := 2, regs := [.one (.val (.int .u64)), .one (.val (.int .u64))], bx := [], pins := [] })]
noncomputable def Hmath_bits_Mul : Hints := []
noncomputable def Emath_bits_Mul (N : Nat) : Env := { te := TE, cs := [conmath_bits_Mul64 N] }
noncomputable def Fmath_bits_Mul (N : Nat) (x : (Int × (Int × Unit))) : Option (Int × (Int × Unit)) :=
  (Fmath_bits_Mul64 N (x.1, x.2.1, ())).bind fun r1 =>
  some (r1.1, r1.2.1, ())
noncomputable def conmath_bits_Mul (N : Nat) : Con := { f := 107, din := dinmath_bits_Mul, outs := outmath_bits_Mul, F := Fmath_bits_Mul N }
noncomputable def Xmath_bits_Mul (N : Nat) : Ctx := { E := Emath_bits_Mul N, H := Hmath_bits_Mul, lp := [], jn := [] }
theorem Fmath_bits_Mul_eq (N : Nat) (x : (Int × (Int × Unit))) : evFn (Xmath_bits_Mul N) Try.f107 dinmath_bits_Mul outmath_bits_Mul x = Fmath_bits_Mul N x := by kernel_rfl
theorem cxmath_bits_Mul (N : Nat) : CtxOk Try.prog (Xmath_bits_Mul N) := ⟨⟨TE_ok, List.forall_mem_cons.2 ⟨specmath_bits_Mul64 N, fun k hk => absurd hk List.not_mem_nil⟩⟩, mixed⟩
theorem specmath_bits_Mul (N : Nat) : Spec Try.prog (conmath_bits_Mul N) :=
  Spec.of_eq (fn_spec (cxmath_bits_Mul N) (f := 107) (fn := Try.f107) (c := codeOf Try.f107) (by kernel_rfl) (by kernel_rfl) (by kernel_rfl) (loops_at (ids := []) (by kernel_rfl) (trivial)) (by kernel_rfl)) (fun x r h => (Fmath_bits_Mul_eq N x).trans h)

/-! ### 90: slices.Repeat[[]int,int] -/

noncomputable def dinkRepeat_Sint_int : Desc := { n := 2, regs := [.one (.val (.sl (.int .i64))), .one (.val (.int .i64))], bx := [], pins := [] }
noncomputable def outkRepeat_Sint_int : Outs := [(.ret, { n := 1, regs := [.one (.lit (.row 1076928))], bx := [(1076928, .row (.int .i64))], pins := [] })]
noncomputable def HkRepeat_Sint_int : Hints := []
noncomputable def EkRepeat_Sint_int (N : Nat) : Env := { te := TE, cs := [conmath_bits_Mul N] }
noncomputable def dkRepeat_Sint_int_0 : Desc := { n := 48, regs := [u, u, u, u, u, u, u, .one (.lit (.row 1076928)), .one (.val (.int .i64))], bx := [(1076928, .row (.int .i64))], pins := [] }
noncomputable def okRepeat_Sint_int_0 : Outs := [(.exit 0, { n := 48, regs := [u, u, u, u, u, u, u, .one (.lit (.row 1076928))], bx := [(1076928, .row (.int .i64))], pins := [] })]
noncomputable def jkRepeat_Sint_int_3 : Outs := [(.normal, { n := 48, regs := [.one (.val (.sl (.int .i64))), .one (.val (.int .i64))], bx := [], pins := [] })]
noncomputable def jkRepeat_Sint_int_6 : Outs := [(.normal, { n := 48, regs := [.one (.val (.sl (.int .i64))), u, u, u, u, u, .one (.val (.int .u64))], bx := [], pins := [] })]
noncomputable def lkRepeat_Sint_int_0 (N : Nat) : Nat → (Int × ((List Int) × Unit)) → Option ((List Int) × Unit)
  | 0, _ => none
  | n + 1, v =>
    bif decide (v.1 < (v.2.1.length : Int)) then
     bif decide (0 ≤ (v.2.1.length : Int)) then
     bif decide ((v.2.1.length : Int) ≤ (v.2.1.length : Int)) then
     bif decide (0 ≤ v.1) then
     bif decide (v.1 ≤ (v.2.1.length : Int)) then
     bif decide (0 ≤ v.1) then
     bif decide (v.1 ≤ (v.2.1.length : Int)) then
     bif decide (0 ≤ (0 : Int)) then
     bif decide ((0 : Int) ≤ v.1) then
     let y8 := lay v.2.1 v.1.toNat (((v.2.1.drop ((0 : Int).toNat)).take (v.1.toNat - (0 : Int).toNat)).take ((v.2.1.length : Int).toNat - v.1.toNat))
     let y9 := ((min ((v.2.1.drop ((0 : Int).toNat)).take (v.1.toNat - (0 : Int).toNat)).length ((v.2.1.length : Int).toNat - v.1.toNat) : Nat) : Int)
     lkRepeat_Sint_int_0 N n (w64 (v.1 + y9), y8, ())
     else none
     else none
     else none
     else none
     else none
     else none
     else none
     else none
    else
    some (v.2.1, ())
noncomputable def FkRepeat_Sint_int (N : Nat) (x : ((List Int) × (Int × Unit))) : Option ((List Int) × Unit) :=
  Option.bind (
   bif decide (x.2.1 < (0 : Int)) then
    none
   else
   some (x.1, x.2.1, ())) fun o1 =>
  let y2 := IntKind.wrap .u64 ((o1.1.length : Int))
  (Fmath_bits_Mul N (y2, IntKind.wrap .u64 (o1.2.1), ())).bind fun r3 =>
  Option.bind (
   bif decide (r3.1 > (0 : Int)) then
    none
   else
   let y4 := decide (r3.2.1 > (9223372036854775807 : Int))
   bif y4 then
    none
   else
   some (o1.1, r3.2.1, ())) fun o5 =>
  bif decide (0 ≤ (w64 (o5.2.1))) then
  bif decide ((w64 (o5.2.1)).toNat ≤ lim) then
  let y6 := List.replicate (w64 (o5.2.1)).toNat (0 : Int)
  let y7 := ((min o5.1.length y6.length : Nat) : Int)
  (lkRepeat_Sint_int_0 N N (y7, lay y6 0 (o5.1.take y6.length), ())).bind fun o10 =>
  some (o10.1, ())
  else none
  else none
noncomputable def conkRepeat_Sint_int (N : Nat) : Con := { f := 90, din := dinkRepeat_Sint_int, outs := outkRepeat_Sint_int, F := FkRepeat_Sint_int N }
noncomputable def XkRepeat_Sint_int (N : Nat) : Ctx := { E := EkRepeat_Sint_int N, H := HkRepeat_Sint_int, lp := [(0, { hd := dkRepeat_Sint_int_0, outs := okRepeat_Sint_int_0, run := fun v => lkRepeat_Sint_int_0 N N v })], jn := [(3, jkRepeat_Sint_int_3), (6, jkRepeat_Sint_int_6)] }
noncomputable def bkRepeat_Sint_int_0 : Code := loopBody (codeOf Try.f90) 0
theorem FkRepeat_Sint_int_eq (N : Nat) (x : ((List Int) × (Int × Unit))) : evFn (XkRepeat_Sint_int N) Try.f90 dinkRepeat_Sint_int outkRepeat_Sint_int x = FkRepeat_Sint_int N x := by kernel_rfl
theorem lkRepeat_Sint_int_0_eq (N n : Nat) (v : (Int × ((List Int) × Unit))) : lkRepeat_Sint_int_0 N (n + 1) v = ev (XkRepeat_Sint_int N) bkRepeat_Sint_int_0 (roundK dkRepeat_Sint_int_0 okRepeat_Sint_int_0 (lkRepeat_Sint_int_0 N n)) (dkRepeat_Sint_int_0.mk' v) := by kernel_rfl
theorem cxkRepeat_Sint_int (N : Nat) : CtxOk Try.prog (XkRepeat_Sint_int N) := ⟨⟨TE_ok, List.forall_mem_cons.2 ⟨specmath_bits_Mul N, fun k hk => absurd hk List.not_mem_nil⟩⟩, mixed⟩
theorem lpkRepeat_Sint_int_0 (N : Nat) : LoopOk Try.prog { hd := dkRepeat_Sint_int_0, outs := okRepeat_Sint_int_0, run := fun v => lkRepeat_Sint_int_0 N N v } bkRepeat_Sint_int_0 :=
  loop_fuel (d := dkRepeat_Sint_int_0) (os := okRepeat_Sint_int_0) (cxkRepeat_Sint_int N) (loops_at (ids := []) (by kernel_rfl) (trivial)) (lkRepeat_Sint_int_0 N) (fun _ => rfl) (fun n v => lkRepeat_Sint_int_0_eq N n v) (fun _ => N)
theorem speckRepeat_Sint_int (N : Nat) : Spec Try.prog (conkRepeat_Sint_int N) :=
  Spec.of_eq (fn_spec (cxkRepeat_Sint_int N) (f := 90) (fn := Try.f90) (c := codeOf Try.f90) (by kernel_rfl) (by kernel_rfl) (by kernel_rfl) (loops_at (ids := [0]) (by kernel_rfl) ⟨lp_of (lpkRepeat_Sint_int_0 N), trivial⟩) (by kernel_rfl)) (fun x r h => (FkRepeat_Sint_int_eq N x).trans h)

/-! ### 47: impl.none -/

noncomputable def dininone : Desc := { n := 1, regs := [.one (.val (.int .i64))], bx := [], pins := [] }
noncomputable def outinone : Outs := [(.ret, { n := 1, regs := [.one (.lit (.row 1012929))], bx := [(1012929, .row (.int .i64))], pins := [] })]
noncomputable def Hinone : Hints := []
noncomputable def Einone (N : Nat) : Env := { te := TE, cs := [conkRepeat_Sint_int N] }
noncomputable def Finone (N : Nat) (x : (Int × Unit)) : Option ((List Int) × Unit) :=
  (FkRepeat_Sint_int N ([(-1 : Int)], x.1, ())).bind fun r1 =>
  some (r1.1, ())
noncomputable def coninone (N : Nat) : Con := { f := 47, din := dininone, outs := outinone, F := Finone N }
noncomputable def Xinone (N : Nat) : Ctx := { E := Einone N, H := Hinone, lp := [], jn := [] }
theorem Finone_eq (N : Nat) (x : (Int × Unit)) : evFn (Xinone N) Try.f47 dininone outinone x = Finone N x := by kernel_rfl
theorem cxinone (N : Nat) : CtxOk Try.prog (Xinone N) := ⟨⟨TE_ok, List.forall_mem_cons.2 ⟨speckRepeat_Sint_int N, fun k hk => absurd hk List.not_mem_nil⟩⟩, mixed⟩
theorem specinone (N : Nat) : Spec Try.prog (coninone N) :=
  Spec.of_eq (fn_spec (cxinone N) (f := 47) (fn := Try.f47) (c := codeOf Try.f47) (by kernel_rfl) (by kernel_rfl) (by kernel_rfl) (loops_at (ids := []) (by kernel_rfl) (trivial)) (by kernel_rfl)) (fun x r h => (Finone_eq N x).trans h)

/-! ### 48: impl.truth -/

noncomputable def dinitruth : Desc := { n := 1, regs := [.one (.val .bool)], bx := [], pins := [] }
noncomputable def outitruth : Outs := [(.ret, { n := 1, regs := [.one (.val (.int .i64))], bx := [], pins := [] })]
noncomputable def Hitruth : Hints := []
noncomputable def Eitruth (_N : Nat) : Env := { te := TE, cs := [] }
noncomputable def Fitruth (N : Nat) (x : (Bool × Unit)) : Option (Int × Unit) :=
  bif x.1 then
   some ((1 : Int), ())
  else
  some ((0 : Int), ())
noncomputable def conitruth (N : Nat) : Con := { f := 48, din := dinitruth, outs := outitruth, F := Fitruth N }
noncomputable def Xitruth (N : Nat) : Ctx := { E := Eitruth N, H := Hitruth, lp := [], jn := [] }
theorem Fitruth_eq (N : Nat) (x : (Bool × Unit)) : evFn (Xitruth N) Try.f48 dinitruth outitruth x = Fitruth N x := by kernel_rfl
theorem cxitruth (N : Nat) : CtxOk Try.prog (Xitruth N) := ⟨⟨TE_ok, fun k hk => absurd hk List.not_mem_nil⟩, mixed⟩
theorem specitruth (N : Nat) : Spec Try.prog (conitruth N) :=
  Spec.of_eq (fn_spec (cxitruth N) (f := 48) (fn := Try.f48) (c := codeOf Try.f48) (by kernel_rfl) (by kernel_rfl) (by kernel_rfl) (loops_at (ids := []) (by kernel_rfl) (trivial)) (by kernel_rfl)) (fun x r h => (Fitruth_eq N x).trans h)

/-! ### 49: impl.lastOf -/

noncomputable def dinilastOf : Desc := { n := 2, regs := [.one (.val (.sl (.int .i64))), .one (.val (.int .i64))], bx := [], pins := [] }
noncomputable def outilastOf : Outs := [(.ret, { n := 1, regs := [.one (.val (.int .i64))], bx := [], pins := [] })]
noncomputable def HilastOf : Hints := []
noncomputable def EilastOf (_N : Nat) : Env := { te := TE, cs := [] }
noncomputable def dilastOf_0 : Desc := { n := 20, regs := [.one (.val (.sl (.int .i64))), .one (.val (.int .i64)), u, u, u, .one (.val (.int .i64))], bx := [], pins := [] }
noncomputable def oilastOf_0 : Outs := [(.exit 0, { n := 20, regs := [], bx := [], pins := [] }), (.ret, { n := 20, regs := [u, u, u, u, .one (.val (.int .i64))], bx := [], pins := [] })]
noncomputable def lilastOf_0 (N : Nat) : Nat → ((List Int) × (Int × (Int × Unit))) → Option (Unit ⊕ (Int × Unit))
  | 0, _ => none
  | n + 1, v =>
    bif decide (v.2.2.1 ≥ (0 : Int)) then
     bif decide (0 ≤ v.2.2.1) then
     bif decide (v.2.2.1.toNat < v.1.length) then
     let y1 := (v.1.getD v.2.2.1.toNat (0 : Int)) == v.2.1
     bif y1 then
      some (.inr ((v.2.2.1, ())))
     else
     lilastOf_0 N n (v.1, v.2.1, w64 (v.2.2.1 - (1 : Int)), ())
     else none
     else none
    else
    some (.inl ())
noncomputable def FilastOf (N : Nat) (x : ((List Int) × (Int × Unit))) : Option (Int × Unit) :=
  (lilastOf_0 N N (x.1, x.2.1, w64 ((x.1.length : Int) - (1 : Int)), ())).bind fun o2 =>
  Sum.elim (fun o3 =>
   some ((-1 : Int), ())) (fun o4 =>
   some (o4.1, ())) o2
noncomputable def conilastOf (N : Nat) : Con := { f := 49, din := dinilastOf, outs := outilastOf, F := FilastOf N }
noncomputable def XilastOf (N : Nat) : Ctx := { E := EilastOf N, H := HilastOf, lp := [(0, { hd := dilastOf_0, outs := oilastOf_0, run := fun v => lilastOf_0 N N v })], jn := [] }
noncomputable def bilastOf_0 : Code := loopBody (codeOf Try.f49) 0
theorem FilastOf_eq (N : Nat) (x : ((List Int) × (Int × Unit))) : evFn (XilastOf N) Try.f49 dinilastOf outilastOf x = FilastOf N x := by kernel_rfl
theorem lilastOf_0_eq (N n : Nat) (v : ((List Int) × (Int × (Int × Unit)))) : lilastOf_0 N (n + 1) v = ev (XilastOf N) bilastOf_0 (roundK dilastOf_0 oilastOf_0 (lilastOf_0 N n)) (dilastOf_0.mk' v) := by kernel_rfl
theorem cxilastOf (N : Nat) : CtxOk Try.prog (XilastOf N) := ⟨⟨TE_ok, fun k hk => absurd hk List.not_mem_nil⟩, mixed⟩
theorem lpilastOf_0 (N : Nat) : LoopOk Try.prog { hd := dilastOf_0, outs := oilastOf_0, run := fun v => lilastOf_0 N N v } bilastOf_0 :=
  loop_fuel (d := dilastOf_0) (os := oilastOf_0) (cxilastOf N) (loops_at (ids := []) (by kernel_rfl) (trivial)) (lilastOf_0 N) (fun _ => rfl) (fun n v => lilastOf_0_eq N n v) (fun _ => N)
theorem specilastOf (N : Nat) : Spec Try.prog (conilastOf N) :=
  Spec.of_eq (fn_spec (cxilastOf N) (f := 49) (fn := Try.f49) (c := codeOf Try.f49) (by kernel_rfl) (by kernel_rfl) (by kernel_rfl) (loops_at (ids := [0]) (by kernel_rfl) ⟨lp_of (lpilastOf_0 N), trivial⟩) (by kernel_rfl)) (fun x r h => (FilastOf_eq N x).trans h)

/-! ### 50: slices.Delete[[]int,int] -/

noncomputable def dinkDelete_Sint_int : Desc := { n := 3, regs := [.one (.lit (.row 0)), .one (.val (.int .i64)), .one (.val (.int .i64))], bx := [(0, .row (.int .i64))], pins := [] }
noncomputable def outkDelete_Sint_int : Outs := [(.ret, { n := 1, regs := [.one (.lit (.row 0))], bx := [(0, .row (.int .i64))], pins := [] })]
noncomputable def HkDelete_Sint_int : Hints := [(7, [(1, { dp := true })])]
noncomputable def EkDelete_Sint_int (_N : Nat) : Env := { te := TE, cs := [] }
noncomputable def FkDelete_Sint_int (N : Nat) (x : (Int × (Int × ((List Int) × Unit)))) : Option ((List Int) × Unit) :=
  bif decide (0 ≤ x.1) then
  bif decide (x.1 ≤ x.2.1) then
  bif decide (x.2.1 ≤ (x.2.2.1.length : Int)) then
  bif decide ((x.2.2.1.length : Int) ≤ (x.2.2.1.length : Int)) then
  bif x.1 == x.2.1 then
   some (x.2.2.1, ())
  else
  bif decide (0 ≤ x.1) then
  bif decide (x.1 ≤ (x.2.2.1.length : Int)) then
  bif decide (0 ≤ (0 : Int)) then
  bif decide ((0 : Int) ≤ x.1) then
  bif decide (0 ≤ (x.2.2.1.length : Int)) then
  bif decide ((x.2.2.1.length : Int) ≤ (x.2.2.1.length : Int)) then
  bif decide (0 ≤ x.2.1) then
  bif decide (x.2.1 ≤ (x.2.2.1.length : Int)) then
  bif decide ((x.1.toNat - (0 : Int).toNat) + ((x.2.2.1.drop x.2.1.toNat).take ((x.2.2.1.length : Int).toNat - x.2.1.toNat)).length ≤ x.2.2.1.length) then
  let y1 := lay x.2.2.1 (x.1.toNat - (0 : Int).toNat) ((x.2.2.1.drop x.2.1.toNat).take ((x.2.2.1.length : Int).toNat - x.2.1.toNat))
  let y2 := ((((x.1.toNat - (0 : Int).toNat) + ((x.2.2.1.drop x.2.1.toNat).take ((x.2.2.1.length : Int).toNat - x.2.1.toNat)).length) : Nat) : Int)
  bif decide (0 ≤ (x.2.2.1.length : Int)) then
  bif decide ((x.2.2.1.length : Int) ≤ ((y1.length : Nat) : Int)) then
  bif decide (0 ≤ y2) then
  bif decide (y2 ≤ (x.2.2.1.length : Int)) then
  let y3 := lay y1 y2.toNat (List.replicate ((x.2.2.1.length : Int).toNat - y2.toNat) (0 : Int))
  let y4 := y3.take ((x.1.toNat - (0 : Int).toNat) + ((x.2.2.1.drop x.2.1.toNat).take ((x.2.2.1.length : Int).toNat - x.2.1.toNat)).length)
  some (y4, ())
  else none
  else none
  else none
  else none
  else none
  else none
  else none
  else none
  else none
  else none
  else none
  else none
  else none
  else none
  else none
  else none
  else none
noncomputable def conkDelete_Sint_int (N : Nat) : Con := { f := 50, din := dinkDelete_Sint_int, outs := outkDelete_Sint_int, F := FkDelete_Sint_int N }
noncomputable def XkDelete_Sint_int (N : Nat) : Ctx := { E := EkDelete_Sint_int N, H := HkDelete_Sint_int, lp := [], jn := [] }
theorem FkDelete_Sint_int_eq (N : Nat) (x : (Int × (Int × ((List Int) × Unit)))) : evFn (XkDelete_Sint_int N) Try.f50 dinkDelete_Sint_int outkDelete_Sint_int x = FkDelete_Sint_int N x := by kernel_rfl
theorem cxkDelete_Sint_int (N : Nat) : CtxOk Try.prog (XkDelete_Sint_int N) := ⟨⟨TE_ok, fun k hk => absurd hk List.not_mem_nil⟩, mixed⟩
theorem speckDelete_Sint_int (N : Nat) : Spec Try.prog (conkDelete_Sint_int N) :=
  Spec.of_eq (fn_spec (cxkDelete_Sint_int N) (f := 50) (fn := Try.f50) (c := codeOf Try.f50) (by kernel_rfl) (by kernel_rfl) (by kernel_rfl) (loops_at (ids := []) (by kernel_rfl) (trivial)) (by kernel_rfl)) (fun x r h => (FkDelete_Sint_int_eq N x).trans h)

/-! ### 13: impl.GraphDo -/

noncomputable def diniGraphDo : Desc := { n := 3, regs := [.one (.val (.pair (.sl (.pair (.sl (.int .i64)) (.pair (.sl (.int .i64)) .unit))) (.pair (.sl (.sl (.int .i64))) (.pair (.sl (.int .i64)) .unit)))), .one (.val (.int .i64)), .one (.val (.pair (.int .i64) (.pair (.int .i64) (.pair (.int .i64) (.pair (.int .i64) (.pair (.int .i64) (.pair (.int .i64) (.pair (.pair (.int .i64) (.pair (.int .i64) .unit)) .unit))))))))], bx := [], pins := [] }
noncomputable def outiGraphDo : Outs := [(.ret, { n := 3, regs := [.agg [.lit (.row 1038465), .lit (.row 1038466), .lit (.row 1038467)], .one (.val (.int .i64)), .one (.val (.int .i64))], bx := [(1038465, .row (.pair (.sl (.int .i64)) (.pair (.sl (.int .i64)) .unit))), (1038466, .row (.sl (.int .i64))), (1038467, .row (.int .i64))], pins := [] })]
noncomputable def HiGraphDo : Hints := [(0, [(0, { fz := true }), (1, { fz := true })]),
  (1, [(16, { con := 1 })]),
  (2, [(0, { nl := [(0, (.pair (.sl (.int .i64)) (.pair (.sl (.int .i64)) .unit))), (1, (.sl (.int .i64))), (2, (.int .i64))] })]),
  (3, [(1, { con := 2 })]),
  (5, [(4, { con := 3 })]),
  (14, [(11, { con := 4 })]),
  (21, [(5, { con := 5 }), (11, { dp := true }), (12, { dp := true })]),
  (31, [(10, { con := 6 })]),
  (45, [(3, { con := 7 })]),
  (48, [(5, { con := 8, sg := [(0, 1038467)] })])]
noncomputable def EiGraphDo (N : Nat) : Env := { te := TE, cs := [coniGraphOk N, coniOpOk N, coniGraph_copy N, coniOp_early N, coniOp_field N, coninone N, conitruth N, conilastOf N, conkDelete_Sint_int N] }
noncomputable def jiGraphDo_3 : Outs := [(.normal, { n := 272, regs := [u, .one (.val (.int .i64)), u, .one (.fpt (.pair (.sl (.pair (.sl (.int .i64)) (.pair (.sl (.int .i64)) .unit))) (.pair (.sl (.sl (.int .i64))) (.pair (.sl (.int .i64)) .unit)))), u, .one (.fpt (.pair (.int .i64) (.pair (.int .i64) (.pair (.int .i64) (.pair (.int .i64) (.pair (.int .i64) (.pair (.int .i64) (.pair (.pair (.int .i64) (.pair (.int .i64) .unit)) .unit)))))))), .one (.lit (.ptr 1000128 0))], bx := [(1000128, .var [.lit .nil, .lit .nil, .lit .nil])], pins := [] }), (.ret, { n := 272, regs := [u, u, u, u, u, u, .one (.lit (.ptr 1000128 0)), .one (.val (.int .i64)), .one (.val (.int .i64))], bx := [(1000128, .var [.lit (.row 1025601), .lit (.row 1025602), .lit (.row 1025603)]), (1025601, .row (.pair (.sl (.int .i64)) (.pair (.sl (.int .i64)) .unit))), (1025602, .row (.sl (.int .i64))), (1025603, .row (.int .i64))], pins := [] })]
noncomputable def jiGraphDo_12 : Outs := [(.normal, { n := 272, regs := [u, u, u, u, u, .one (.fpt (.pair (.int .i64) (.pair (.int .i64) (.pair (.int .i64) (.pair (.int .i64) (.pair (.int .i64) (.pair (.int .i64) (.pair (.pair (.int .i64) (.pair (.int .i64) .unit)) .unit)))))))), .one (.lit (.ptr 1000128 0)), u, u, .one (.lit (.ptr 1038528 0)), .one (.ept 1038466 0), u, .one (.lit .pnil), .one (.val (.int .i64))], bx := [(1000128, .var [.lit .nil, .lit .nil, .lit .nil]), (1038528, .var [.lit (.row 1038465), .lit (.row 1038466), .lit (.row 1038467)]), (1038465, .row (.pair (.sl (.int .i64)) (.pair (.sl (.int .i64)) .unit))), (1038466, .row (.sl (.int .i64))), (1038467, .row (.int .i64))], pins := [] })]
noncomputable def FiGraphDo (N : Nat) (x : (((List ((List Int) × ((List Int) × Unit))) × ((List (List Int)) × ((List Int) × Unit))) × (Int × ((Int × (Int × (Int × (Int × (Int × (Int × ((Int × (Int × Unit)) × Unit))))))) × Unit)))) : Option (Int × (Int × ((List ((List Int) × ((List Int) × Unit))) × ((List (List Int)) × ((List Int) × Unit))))) :=
  Option.bind (
   (FiGraphOk N (x.1, ())).bind fun r1 =>
   bif !r1.1 then
    let y2 := ([] : (List ((List Int) × ((List Int) × Unit))))
    some (.inr (((0 : Int), (1 : Int), y2, ([] : (List (List Int))), ([] : (List Int)), ())))
   else
   bif decide (x.2.1 < (0 : Int)) then
    let y3 := ([] : (List ((List Int) × ((List Int) × Unit))))
    some (.inr (((0 : Int), (1 : Int), y3, ([] : (List (List Int))), ([] : (List Int)), ())))
   else
   let y4 := decide (x.2.1 ≥ (x.1.2.1.length : Int))
   bif y4 then
    let y5 := ([] : (List ((List Int) × ((List Int) × Unit))))
    some (.inr (((0 : Int), (1 : Int), y5, ([] : (List (List Int))), ([] : (List Int)), ())))
   else
   (FiOpOk N (x.2.2.1, ())).bind fun r6 =>
   bif !r6.1 then
    let y7 := ([] : (List ((List Int) × ((List Int) × Unit))))
    some (.inr (((0 : Int), (1 : Int), y7, ([] : (List (List Int))), ([] : (List Int)), ())))
   else
   some (.inl (x.2.1, x.1, x.2.2.1, ()))) fun o8 =>
  Sum.elim (fun o9 =>
   (FiGraph_copy N (o9.2.1, ())).bind fun r10 =>
   bif decide (0 ≤ o9.1) then
   bif decide (o9.1.toNat < r10.2.1.length) then
   (FiOp_early N (o9.2.2.1, r10.2.1.getD o9.1.toNat ([] : (List Int)), (-1 : Int), ())).bind fun r11 =>
   bif r11.1 != (0 : Int) then
    some ((0 : Int), r11.1, r10.1, r10.2.1, r10.2.2.1, ())
   else
   Option.bind (
    bif o9.2.2.1.1 != (1 : Int) then
     bif o9.2.2.1.1 != (8 : Int) then
      bif decide (0 ≤ o9.2.2.1.2.1) then
      bif decide (o9.2.2.1.2.1.toNat < (r10.2.1.getD o9.1.toNat ([] : (List Int))).length) then
      let y12 := (r10.2.1.getD o9.1.toNat ([] : (List Int))).getD o9.2.2.1.2.1.toNat (0 : Int)
      some (o9.2.2.1, Int.ofNat o9.1.toNat, y12, r10.1, r10.2.1, r10.2.2.1, ())
      else none
      else none
     else
     some (o9.2.2.1, Int.ofNat o9.1.toNat, (-1 : Int), r10.1, r10.2.1, r10.2.2.1, ())
    else
    some (o9.2.2.1, Int.ofNat o9.1.toNat, (-1 : Int), r10.1, r10.2.1, r10.2.2.1, ())) fun o13 =>
   bif decide (o13.2.2.1 ≥ (0 : Int)) then
    bif decide (0 ≤ o13.2.2.1) then
    bif decide (o13.2.2.1.toNat < o13.2.2.2.1.length) then
    let y14 := (((o13.2.2.2.1.getD o13.2.2.1.toNat (([] : (List Int)), ([] : (List Int)), ())).1).length : Int)
    let y15 := ((((o13.2.2.2.1.getD o13.2.2.1.toNat (([] : (List Int)), ([] : (List Int)), ())).2).1).length : Int)
    (FiOp_field N (o13.1, y14, y15, ())).bind fun r16 =>
    bif !r16.1 then
     some ((0 : Int), (4 : Int), o13.2.2.2.1, o13.2.2.2.2.1, o13.2.2.2.2.2.1, ())
    else
    bif o13.1.1 == (1 : Int) then
     let y17 := (o13.2.2.2.1.length : Int) == (200 : Int)
     bif y17 then
      some ((0 : Int), (6 : Int), o13.2.2.2.1, o13.2.2.2.2.1, o13.2.2.2.2.2.1, ())
     else
     bif decide ((o13.2.2.2.2.1.getD o13.2.1.toNat ([] : (List Int))).length + [(o13.2.2.2.1.length : Int)].length ≤ lim) then
     let y18 := (o13.2.2.2.2.1.getD o13.2.1.toNat ([] : (List Int))) ++ [(o13.2.2.2.1.length : Int)]
     bif decide (o13.2.1.toNat = o13.2.1.toNat) then
     (Finone N (o13.1.2.2.2.2.2.2.1.1, ())).bind fun r19 =>
     bif decide (0 ≤ o13.1.2.2.2.2.2.2.1.2.1) then
     bif decide (o13.1.2.2.2.2.2.2.1.2.1.toNat ≤ lim) then
     let y20 := List.replicate o13.1.2.2.2.2.2.2.1.2.1.toNat (0 : Int)
     bif decide (o13.2.2.2.1.length + [(r19.1, y20, ())].length ≤ lim) then
     some ((0 : Int), (0 : Int), o13.2.2.2.1 ++ [(r19.1, y20, ())], o13.2.2.2.2.1.set o13.2.1.toNat y18, o13.2.2.2.2.2.1, ())
     else none
     else none
     else none
     else none
     else none
    else
    bif o13.1.1 == (2 : Int) then
     bif decide (0 ≤ o13.1.2.2.2.2.1) then
     bif decide (o13.1.2.2.2.2.1.toNat < ((o13.2.2.2.1.getD o13.2.2.1.toNat (([] : (List Int)), ([] : (List Int)), ())).1).length) then
     let y21 := ((o13.2.2.2.1.getD o13.2.2.1.toNat (([] : (List Int)), ([] : (List Int)), ())).1).getD o13.1.2.2.2.2.1.toNat (0 : Int)
     bif decide ((o13.2.2.2.2.1.getD o13.2.1.toNat ([] : (List Int))).length + [y21].length ≤ lim) then
     let y22 := (o13.2.2.2.2.1.getD o13.2.1.toNat ([] : (List Int))) ++ [y21]
     bif decide (o13.2.1.toNat = o13.2.1.toNat) then
     some ((0 : Int), (0 : Int), o13.2.2.2.1, o13.2.2.2.2.1.set o13.2.1.toNat y22, o13.2.2.2.2.2.1, ())
     else none
     else none
     else none
     else none
    else
    bif o13.1.1 == (3 : Int) then
     bif decide (0 ≤ o13.1.2.2.1) then
     bif decide (o13.1.2.2.1.toNat < (o13.2.2.2.2.1.getD o13.2.1.toNat ([] : (List Int))).length) then
     let y23 := (o13.2.2.2.2.1.getD o13.2.1.toNat ([] : (List Int))).getD o13.1.2.2.1.toNat (0 : Int)
     bif decide (0 ≤ o13.1.2.2.2.2.1) then
     bif decide (o13.1.2.2.2.2.1.toNat < ((o13.2.2.2.1.getD o13.2.2.1.toNat (([] : (List Int)), ([] : (List Int)), ())).1).length) then
     let y24 := o13.2.2.2.1.set o13.2.2.1.toNat (((o13.2.2.2.1.getD o13.2.2.1.toNat (([] : (List Int)), ([] : (List Int)), ())).1).set o13.1.2.2.2.2.1.toNat y23, (o13.2.2.2.1.getD o13.2.2.1.toNat (([] : (List Int)), ([] : (List Int)), ())).2)
     some ((0 : Int), (0 : Int), y24, o13.2.2.2.2.1, o13.2.2.2.2.2.1, ())
     else none
     else none
     else none
     else none
    else
    bif o13.1.1 == (4 : Int) then
     bif decide (0 ≤ o13.1.2.2.2.2.1) then
     bif decide (o13.1.2.2.2.2.1.toNat < (((o13.2.2.2.1.getD o13.2.2.1.toNat (([] : (List Int)), ([] : (List Int)), ())).2).1).length) then
     let y25 := o13.2.2.2.1.set o13.2.2.1.toNat ((o13.2.2.2.1.getD o13.2.2.1.toNat (([] : (List Int)), ([] : (List Int)), ())).1, (((o13.2.2.2.1.getD o13.2.2.1.toNat (([] : (List Int)), ([] : (List Int)), ())).2).1).set o13.1.2.2.2.2.1.toNat o13.1.2.2.2.2.2.1, ((o13.2.2.2.1.getD o13.2.2.1.toNat (([] : (List Int)), ([] : (List Int)), ())).2).2)
     some ((0 : Int), (0 : Int), y25, o13.2.2.2.2.1, o13.2.2.2.2.2.1, ())
     else none
     else none
    else
    bif o13.1.1 == (5 : Int) then
     bif decide (0 ≤ o13.1.2.2.2.2.1) then
     bif decide (o13.1.2.2.2.2.1.toNat < (((o13.2.2.2.1.getD o13.2.2.1.toNat (([] : (List Int)), ([] : (List Int)), ())).2).1).length) then
     let y26 := (((o13.2.2.2.1.getD o13.2.2.1.toNat (([] : (List Int)), ([] : (List Int)), ())).2).1).getD o13.1.2.2.2.2.1.toNat (0 : Int)
     some (y26, (0 : Int), o13.2.2.2.1, o13.2.2.2.2.1, o13.2.2.2.2.2.1, ())
     else none
     else none
    else
    bif o13.1.1 == (6 : Int) then
     bif decide (0 ≤ o13.1.2.2.1) then
     bif decide (o13.1.2.2.1.toNat < (o13.2.2.2.2.1.getD o13.2.1.toNat ([] : (List Int))).length) then
     let y27 := (o13.2.2.2.2.1.getD o13.2.1.toNat ([] : (List Int))).getD o13.1.2.2.1.toNat (0 : Int)
     (Fitruth N (o13.2.2.1 == y27, ())).bind fun r28 =>
     some (r28.1, (0 : Int), o13.2.2.2.1, o13.2.2.2.2.1, o13.2.2.2.2.2.1, ())
     else none
     else none
    else
    bif o13.1.1 == (7 : Int) then
     bif decide (0 ≤ o13.1.2.2.2.2.1) then
     bif decide (o13.1.2.2.2.2.1.toNat < ((o13.2.2.2.1.getD o13.2.2.1.toNat (([] : (List Int)), ([] : (List Int)), ())).1).length) then
     let y29 := ((o13.2.2.2.1.getD o13.2.2.1.toNat (([] : (List Int)), ([] : (List Int)), ())).1).getD o13.1.2.2.2.2.1.toNat (0 : Int)
     bif decide (0 ≤ o13.1.2.2.1) then
     bif decide (o13.1.2.2.1.toNat < (o13.2.2.2.2.1.getD o13.2.1.toNat ([] : (List Int))).length) then
     let y30 := (o13.2.2.2.2.1.getD o13.2.1.toNat ([] : (List Int))).getD o13.1.2.2.1.toNat (0 : Int)
     bif y29 != y30 then
      some ((0 : Int), (0 : Int), o13.2.2.2.1, o13.2.2.2.2.1, o13.2.2.2.2.2.1, ())
     else
     bif decide (0 ≤ o13.1.2.2.2.1) then
     bif decide (o13.1.2.2.2.1.toNat < (o13.2.2.2.2.1.getD o13.2.1.toNat ([] : (List Int))).length) then
     let y31 := (o13.2.2.2.2.1.getD o13.2.1.toNat ([] : (List Int))).getD o13.1.2.2.2.1.toNat (0 : Int)
     bif decide (0 ≤ o13.1.2.2.2.2.1) then
     bif decide (o13.1.2.2.2.2.1.toNat < ((o13.2.2.2.1.getD o13.2.2.1.toNat (([] : (List Int)), ([] : (List Int)), ())).1).length) then
     let y32 := o13.2.2.2.1.set o13.2.2.1.toNat (((o13.2.2.2.1.getD o13.2.2.1.toNat (([] : (List Int)), ([] : (List Int)), ())).1).set o13.1.2.2.2.2.1.toNat y31, (o13.2.2.2.1.getD o13.2.2.1.toNat (([] : (List Int)), ([] : (List Int)), ())).2)
     some ((1 : Int), (0 : Int), y32, o13.2.2.2.2.1, o13.2.2.2.2.2.1, ())
     else none
     else none
     else none
     else none
     else none
     else none
     else none
     else none
    else
    bif o13.1.1 == (8 : Int) then
     let y33 := ((o13.2.2.2.2.1.getD o13.2.1.toNat ([] : (List Int))).length : Int)
     bif decide (0 ≤ (w64 (y33 - (1 : Int)))) then
     bif decide ((w64 (y33 - (1 : Int))) ≤ ((o13.2.2.2.2.1.getD o13.2.1.toNat ([] : (List Int))).length : Int)) then
     bif decide (0 ≤ (0 : Int)) then
     bif decide ((0 : Int) ≤ (w64 (y33 - (1 : Int)))) then
     bif decide (o13.2.1.toNat = o13.2.1.toNat) then
     let y34 := o13.2.2.2.2.1.set o13.2.1.toNat ((o13.2.2.2.2.1.getD o13.2.1.toNat ([] : (List Int))).take ((w64 (y33 - (1 : Int))).toNat))
     some ((0 : Int), (0 : Int), o13.2.2.2.1, y34, o13.2.2.2.2.2.1, ())
     else none
     else none
     else none
     else none
     else none
    else
    bif o13.1.1 == (9 : Int) then
     bif decide ((o13.2.2.2.2.1.getD o13.2.1.toNat ([] : (List Int))).length + [o13.2.2.1].length ≤ lim) then
     let y35 := (o13.2.2.2.2.1.getD o13.2.1.toNat ([] : (List Int))) ++ [o13.2.2.1]
     bif decide (o13.2.1.toNat = o13.2.1.toNat) then
     some ((0 : Int), (0 : Int), o13.2.2.2.1, o13.2.2.2.2.1.set o13.2.1.toNat y35, o13.2.2.2.2.2.1, ())
     else none
     else none
    else
    bif o13.1.1 == (10 : Int) then
     let y36 := (o13.2.2.2.2.2.1.length : Int) == (8 : Int)
     bif y36 then
      some ((0 : Int), (7 : Int), o13.2.2.2.1, o13.2.2.2.2.1, o13.2.2.2.2.2.1, ())
     else
     bif decide (o13.2.2.2.2.2.1.length + [o13.2.2.1].length ≤ lim) then
     some ((0 : Int), (0 : Int), o13.2.2.2.1, o13.2.2.2.2.1, o13.2.2.2.2.2.1 ++ [o13.2.2.1], ())
     else none
    else
    bif o13.1.1 == (11 : Int) then
     (FilastOf N (o13.2.2.2.2.2.1, o13.2.2.1, ())).bind fun r37 =>
     bif decide (r37.1 < (0 : Int)) then
      some ((0 : Int), (7 : Int), o13.2.2.2.1, o13.2.2.2.2.1, o13.2.2.2.2.2.1, ())
     else
     (FkDelete_Sint_int N (r37.1, w64 (r37.1 + (1 : Int)), o13.2.2.2.2.2.1, ())).bind fun r38 =>
     some ((0 : Int), (0 : Int), o13.2.2.2.1, o13.2.2.2.2.1, r38.1, ())
    else
    some ((0 : Int), (0 : Int), o13.2.2.2.1, o13.2.2.2.2.1, o13.2.2.2.2.2.1, ())
    else none
    else none
   else
   bif o13.1.1 == (1 : Int) then
    let y39 := (o13.2.2.2.1.length : Int) == (200 : Int)
    bif y39 then
     some ((0 : Int), (6 : Int), o13.2.2.2.1, o13.2.2.2.2.1, o13.2.2.2.2.2.1, ())
    else
    bif decide ((o13.2.2.2.2.1.getD o13.2.1.toNat ([] : (List Int))).length + [(o13.2.2.2.1.length : Int)].length ≤ lim) then
    let y40 := (o13.2.2.2.2.1.getD o13.2.1.toNat ([] : (List Int))) ++ [(o13.2.2.2.1.length : Int)]
    bif decide (o13.2.1.toNat = o13.2.1.toNat) then
    (Finone N (o13.1.2.2.2.2.2.2.1.1, ())).bind fun r41 =>
    bif decide (0 ≤ o13.1.2.2.2.2.2.2.1.2.1) then
    bif decide (o13.1.2.2.2.2.2.2.1.2.1.toNat ≤ lim) then
    let y42 := List.replicate o13.1.2.2.2.2.2.2.1.2.1.toNat (0 : Int)
    bif decide (o13.2.2.2.1.length + [(r41.1, y42, ())].length ≤ lim) then
    some ((0 : Int), (0 : Int), o13.2.2.2.1 ++ [(r41.1, y42, ())], o13.2.2.2.2.1.set o13.2.1.toNat y40, o13.2.2.2.2.2.1, ())
    else none
    else none
    else none
    else none
    else none
   else
   bif o13.1.1 == (2 : Int) then
    none
   else
   bif o13.1.1 == (3 : Int) then
    none
   else
   bif o13.1.1 == (4 : Int) then
    none
   else
   bif o13.1.1 == (5 : Int) then
    none
   else
   bif o13.1.1 == (6 : Int) then
    bif decide (0 ≤ o13.1.2.2.1) then
    bif decide (o13.1.2.2.1.toNat < (o13.2.2.2.2.1.getD o13.2.1.toNat ([] : (List Int))).length) then
    let y43 := (o13.2.2.2.2.1.getD o13.2.1.toNat ([] : (List Int))).getD o13.1.2.2.1.toNat (0 : Int)
    (Fitruth N (o13.2.2.1 == y43, ())).bind fun r44 =>
    some (r44.1, (0 : Int), o13.2.2.2.1, o13.2.2.2.2.1, o13.2.2.2.2.2.1, ())
    else none
    else none
   else
   bif o13.1.1 == (7 : Int) then
    none
   else
   bif o13.1.1 == (8 : Int) then
    let y45 := ((o13.2.2.2.2.1.getD o13.2.1.toNat ([] : (List Int))).length : Int)
    bif decide (0 ≤ (w64 (y45 - (1 : Int)))) then
    bif decide ((w64 (y45 - (1 : Int))) ≤ ((o13.2.2.2.2.1.getD o13.2.1.toNat ([] : (List Int))).length : Int)) then
    bif decide (0 ≤ (0 : Int)) then
    bif decide ((0 : Int) ≤ (w64 (y45 - (1 : Int)))) then
    bif decide (o13.2.1.toNat = o13.2.1.toNat) then
    let y46 := o13.2.2.2.2.1.set o13.2.1.toNat ((o13.2.2.2.2.1.getD o13.2.1.toNat ([] : (List Int))).take ((w64 (y45 - (1 : Int))).toNat))
    some ((0 : Int), (0 : Int), o13.2.2.2.1, y46, o13.2.2.2.2.2.1, ())
    else none
    else none
    else none
    else none
    else none
   else
   bif o13.1.1 == (9 : Int) then
    bif decide ((o13.2.2.2.2.1.getD o13.2.1.toNat ([] : (List Int))).length + [o13.2.2.1].length ≤ lim) then
    let y47 := (o13.2.2.2.2.1.getD o13.2.1.toNat ([] : (List Int))) ++ [o13.2.2.1]
    bif decide (o13.2.1.toNat = o13.2.1.toNat) then
    some ((0 : Int), (0 : Int), o13.2.2.2.1, o13.2.2.2.2.1.set o13.2.1.toNat y47, o13.2.2.2.2.2.1, ())
    else none
    else none
   else
   bif o13.1.1 == (10 : Int) then
    let y48 := (o13.2.2.2.2.2.1.length : Int) == (8 : Int)
    bif y48 then
     some ((0 : Int), (7 : Int), o13.2.2.2.1, o13.2.2.2.2.1, o13.2.2.2.2.2.1, ())
    else
    bif decide (o13.2.2.2.2.2.1.length + [o13.2.2.1].length ≤ lim) then
    some ((0 : Int), (0 : Int), o13.2.2.2.1, o13.2.2.2.2.1, o13.2.2.2.2.2.1 ++ [o13.2.2.1], ())
    else none
   else
   bif o13.1.1 == (11 : Int) then
    (FilastOf N (o13.2.2.2.2.2.1, o13.2.2.1, ())).bind fun r49 =>
    bif decide (r49.1 < (0 : Int)) then
     some ((0 : Int), (7 : Int), o13.2.2.2.1, o13.2.2.2.2.1, o13.2.2.2.2.2.1, ())
    else
    (FkDelete_Sint_int N (r49.1, w64 (r49.1 + (1 : Int)), o13.2.2.2.2.2.1, ())).bind fun r50 =>
    some ((0 : Int), (0 : Int), o13.2.2.2.1, o13.2.2.2.2.1, r50.1, ())
   else
   some ((0 : Int), (0 : Int), o13.2.2.2.1, o13.2.2.2.2.1, o13.2.2.2.2.2.1, ())
   else none
   else none) (fun o51 =>
   some (o51.1, o51.2.1, o51.2.2.1, o51.2.2.2.1, o51.2.2.2.2.1, ())) o8
noncomputable def coniGraphDo (N : Nat) : Con := { f := 13, din := diniGraphDo, outs := outiGraphDo, F := FiGraphDo N }
noncomputable def XiGraphDo (N : Nat) : Ctx := { E := EiGraphDo N, H := HiGraphDo, lp := [], jn := [(3, jiGraphDo_3), (12, jiGraphDo_12)] }
theorem FiGraphDo_eq (N : Nat) (x : (((List ((List Int) × ((List Int) × Unit))) × ((List (List Int)) × ((List Int) × Unit))) × (Int × ((Int × (Int × (Int × (Int × (Int × (Int × ((Int × (Int × Unit)) × Unit))))))) × Unit)))) : evFn (XiGraphDo N) Try.f13 diniGraphDo outiGraphDo x = FiGraphDo N x := by kernel_rfl
theorem cxiGraphDo (N : Nat) : CtxOk Try.prog (XiGraphDo N) := ⟨⟨TE_ok, List.forall_mem_cons.2 ⟨speciGraphOk N, List.forall_mem_cons.2 ⟨speciOpOk N, List.forall_mem_cons.2 ⟨speciGraph_copy N, List.forall_mem_cons.2 ⟨speciOp_early N, List.forall_mem_cons.2 ⟨speciOp_field N, List.forall_mem_cons.2 ⟨specinone N, List.forall_mem_cons.2 ⟨specitruth N, List.forall_mem_cons.2 ⟨specilastOf N, List.forall_mem_cons.2 ⟨speckDelete_Sint_int N, fun k hk => absurd hk List.not_mem_nil⟩⟩⟩⟩⟩⟩⟩⟩⟩⟩, mixed⟩
theorem speciGraphDo (N : Nat) : Spec Try.prog (coniGraphDo N) :=
  Spec.of_eq (fn_spec (cxiGraphDo N) (f := 13) (fn := Try.f13) (c := codeOf Try.f13) (by kernel_rfl) (by kernel_rfl) (by kernel_rfl) (loops_at (ids := []) (by kernel_rfl) (trivial)) (by kernel_rfl)) (fun x r h => (FiGraphDo_eq N x).trans h)

/-! ### 10: laws.FnGraphTrim -/

noncomputable def dinvFnGraphTrim : Desc := { n := 1, regs := [.one (.val (.sl (.int .u8)))], bx := [], pins := [] }
noncomputable def outvFnGraphTrim : Outs := [(.ret, { n := 1, regs := [.one (.val .bool)], bx := [], pins := [] })]
noncomputable def HvFnGraphTrim : Hints := [(4, [(1, { con := 1 })]),
  (5, [(2, { con := 2 }), (3, { con := 3 })]),
  (7, [(1, { con := 4 })]),
  (9, [(1, { con := 1 }), (3, { con := 3 }), (8, { con := 5 })]),
  (11, [(3, { con := 6 })]),
  (12, [(3, { con := 6 })]),
  (15, [(14, { con := 5 })])]
noncomputable def EvFnGraphTrim (N : Nat) : Env := { te := TE, cs := [consDrawGraphDo N, coniGraphTrim N, consGraphTrim N, convflGraph N, consGraphOk N, coniGraphSame N, coniGraphDo N] }
noncomputable def jvFnGraphTrim_11 : Outs := [(.normal, { n := 90, regs := [u, u, u, .one (.lit (.ptr 1038784 0)), .one (.val (.int .i64)), .one (.lit (.ptr 1038848 0)), .one (.lit (.ptr 1051328 0))], bx := [(1038784, .var [.lit (.row 1038465), .lit (.row 1038466), .lit (.row 1038467)]), (1038465, .row (.pair (.sl (.int .i64)) (.pair (.sl (.int .i64)) .unit))), (1038466, .row (.sl (.int .i64))), (1038467, .row (.int .i64)), (1038848, .var [.val (.int .i64), .val (.int .i64), .val (.int .i64), .val (.int .i64), .val (.int .i64), .val (.int .i64), .val (.int .i64), .val (.int .i64)]), (1051328, .var [.lit (.row 1051265), .lit (.row 1051266), .lit (.row 1051267)]), (1051265, .row (.pair (.sl (.int .i64)) (.pair (.sl (.int .i64)) .unit))), (1051266, .row (.sl (.int .i64))), (1051267, .row (.int .i64))], pins := [] }), (.ret, { n := 90, regs := [u, u, .one (.val .bool)], bx := [], pins := [] })]
noncomputable def jvFnGraphTrim_15 : Outs := [(.normal, { n := 90, regs := [u, u, u, u, u, u, u, .one (.lit (.ptr 1141312 0)), .one (.val (.int .i64)), .one (.val (.int .i64)), .one (.lit (.ptr 1154112 0)), .one (.val (.int .i64)), .one (.val (.int .i64))], bx := [(1141312, .var [.lit (.row 1140993), .lit (.row 1140994), .lit (.row 1140995)]), (1140993, .row (.pair (.sl (.int .i64)) (.pair (.sl (.int .i64)) .unit))), (1140994, .row (.sl (.int .i64))), (1140995, .row (.int .i64)), (1154112, .var [.lit (.row 1153793), .lit (.row 1153794), .lit (.row 1153795)]), (1153793, .row (.pair (.sl (.int .i64)) (.pair (.sl (.int .i64)) .unit))), (1153794, .row (.sl (.int .i64))), (1153795, .row (.int .i64))], pins := [] }), (.ret, { n := 90, regs := [u, u, .one (.val .bool)], bx := [], pins := [] })]
noncomputable def FvFnGraphTrim (N : Nat) (x : ((List Int) × Unit)) : Option (Bool × Unit) :=
  let y1 := decide ((x.1.length : Int) > (1048576 : Int))
  bif y1 then
   some (true, ())
  else
  (FsDrawGraphDo N (x.1, ())).bind fun r2 =>
  (FiGraphTrim N ((r2.2.2.2.2.2.2.2.2.2.1, r2.2.2.2.2.2.2.2.2.2.2.1, r2.2.2.2.2.2.2.2.2.2.2.2.1, ()), ())).bind fun r3 =>
  (FsGraphTrim N ((r2.2.2.2.2.2.2.2.2.2.1, r2.2.2.2.2.2.2.2.2.2.2.1, r2.2.2.2.2.2.2.2.2.2.2.2.1, ()), ())).bind fun r4 =>
  (FvflGraph N ((r3.1, r3.2.1, r3.2.2.1, ()), (r4.1, r4.2.1, r4.2.2.1, ()), ())).bind fun r5 =>
  bif !r5.1 then
   some (false, ())
  else
  (FsGraphOk N ((r2.2.2.2.2.2.2.2.2.2.1, r2.2.2.2.2.2.2.2.2.2.2.1, r2.2.2.2.2.2.2.2.2.2.2.2.1, ()), ())).bind fun r6 =>
  bif !r6.1 then
   some ((r3.1.length : Int) == (0 : Int), ())
  else
  Option.bind (
   (FiGraphTrim N ((r3.1, r3.2.1, r3.2.2.1, ()), ())).bind fun r7 =>
   (FvflGraph N ((r7.1, r7.2.1, r7.2.2.1, ()), (r3.1, r3.2.1, r3.2.2.1, ()), ())).bind fun r8 =>
   bif !r8.1 then
    some (.inr ((false, ())))
   else
   (FiGraphSame N ((r2.2.2.2.2.2.2.2.2.2.1, r2.2.2.2.2.2.2.2.2.2.2.1, r2.2.2.2.2.2.2.2.2.2.2.2.1, ()), (r3.1, r3.2.1, r3.2.2.1, ()), ())).bind fun r9 =>
   bif !r9.1 then
    some (.inr ((false, ())))
   else
   some (.inl (r2.1, r2.2.2.2.2.2.2.2.2.2.1, r2.2.2.2.2.2.2.2.2.2.2.1, r2.2.2.2.2.2.2.2.2.2.2.2.1, r2.2.1, r2.2.2.1, r2.2.2.2.1, r2.2.2.2.2.1, r2.2.2.2.2.2.1, r2.2.2.2.2.2.2.1, r2.2.2.2.2.2.2.2.1, r2.2.2.2.2.2.2.2.2.1, r3.1, r3.2.1, r3.2.2.1, ()))) fun o10 =>
  Sum.elim (fun o11 =>
   (FiGraphDo N ((o11.2.1, o11.2.2.1, o11.2.2.2.1, ()), o11.1, (o11.2.2.2.2.1, o11.2.2.2.2.2.1, o11.2.2.2.2.2.2.1, o11.2.2.2.2.2.2.2.1, o11.2.2.2.2.2.2.2.2.1, o11.2.2.2.2.2.2.2.2.2.1, (o11.2.2.2.2.2.2.2.2.2.2.1, o11.2.2.2.2.2.2.2.2.2.2.2.1, ()), ()), ())).bind fun r12 =>
   (FiGraphDo N ((o11.2.2.2.2.2.2.2.2.2.2.2.2.1, o11.2.2.2.2.2.2.2.2.2.2.2.2.2.1, o11.2.2.2.2.2.2.2.2.2.2.2.2.2.2.1, ()), o11.1, (o11.2.2.2.2.1, o11.2.2.2.2.2.1, o11.2.2.2.2.2.2.1, o11.2.2.2.2.2.2.2.1, o11.2.2.2.2.2.2.2.2.1, o11.2.2.2.2.2.2.2.2.2.1, (o11.2.2.2.2.2.2.2.2.2.2.1, o11.2.2.2.2.2.2.2.2.2.2.2.1, ()), ()), ())).bind fun r13 =>
   Option.bind (
    bif r12.2.1 == (6 : Int) then
     let y14 := (o11.2.1.length : Int) == (200 : Int)
     some (.inr ((y14, ())))
    else
    bif r13.2.1 == (6 : Int) then
     let y15 := (o11.2.1.length : Int) == (200 : Int)
     some (.inr ((y15, ())))
    else
    some (.inl (r12.1, r12.2.1, r13.1, r13.2.1, r12.2.2.1, r12.2.2.2.1, r12.2.2.2.2.1, r13.2.2.1, r13.2.2.2.1, r13.2.2.2.2.1, ()))) fun o16 =>
   Sum.elim (fun o17 =>
    bif o17.1 == o17.2.2.1 then
     bif o17.2.1 == o17.2.2.2.1 then
      bif o17.2.1 == (1 : Int) then
       some (true, ())
      else
      (FiGraphSame N ((o17.2.2.2.2.1, o17.2.2.2.2.2.1, o17.2.2.2.2.2.2.1, ()), (o17.2.2.2.2.2.2.2.1, o17.2.2.2.2.2.2.2.2.1, o17.2.2.2.2.2.2.2.2.2.1, ()), ())).bind fun r18 =>
      some (r18.1, ())
     else
     some (false, ())
    else
    some (false, ())) (fun o19 =>
    some (o19.1, ())) o16) (fun o20 =>
   some (o20.1, ())) o10
noncomputable def convFnGraphTrim (N : Nat) : Con := { f := 10, din := dinvFnGraphTrim, outs := outvFnGraphTrim, F := FvFnGraphTrim N }
noncomputable def XvFnGraphTrim (N : Nat) : Ctx := { E := EvFnGraphTrim N, H := HvFnGraphTrim, lp := [], jn := [(11, jvFnGraphTrim_11), (15, jvFnGraphTrim_15)] }
theorem FvFnGraphTrim_eq (N : Nat) (x : ((List Int) × Unit)) : evFn (XvFnGraphTrim N) Try.f10 dinvFnGraphTrim outvFnGraphTrim x = FvFnGraphTrim N x := by kernel_rfl
theorem cxvFnGraphTrim (N : Nat) : CtxOk Try.prog (XvFnGraphTrim N) := ⟨⟨TE_ok, List.forall_mem_cons.2 ⟨specsDrawGraphDo N, List.forall_mem_cons.2 ⟨speciGraphTrim N, List.forall_mem_cons.2 ⟨specsGraphTrim N, List.forall_mem_cons.2 ⟨specvflGraph N, List.forall_mem_cons.2 ⟨specsGraphOk N, List.forall_mem_cons.2 ⟨speciGraphSame N, List.forall_mem_cons.2 ⟨speciGraphDo N, fun k hk => absurd hk List.not_mem_nil⟩⟩⟩⟩⟩⟩⟩⟩, mixed⟩
theorem specvFnGraphTrim (N : Nat) : Spec Try.prog (convFnGraphTrim N) :=
  Spec.of_eq (fn_spec (cxvFnGraphTrim N) (f := 10) (fn := Try.f10) (c := codeOf Try.f10) (by kernel_rfl) (by kernel_rfl) (by kernel_rfl) (loops_at (ids := []) (by kernel_rfl) (trivial)) (by kernel_rfl)) (fun x r h => (FvFnGraphTrim_eq N x).trans h)

end Go.Fl

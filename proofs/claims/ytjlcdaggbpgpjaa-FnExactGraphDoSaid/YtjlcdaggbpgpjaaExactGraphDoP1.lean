/- Proved: for every input the law FnExactGraphDo returns true and leaves its arguments as they were. Part 1: the functions that the law reaches, as plain functions, and plain laws about them; no conditions. -/
import Derived.Test.YtjlcdaggbpgpjaaK3
import Derived.Test.YtjlcdaggbpgpjaaProg
set_option linter.all false
-- FUNCS vszIntS vszNode vszNodeS vszIntSS vszGraph vtoIntS vtoNode vtoNodeS vtoIntSS vtoGraph vtoShape vtoOp sl5Refs sGraphOk sShapeOk sOpOk sl5Ints sl5Copy sl5Fields sl5Begin sl5Field sl5Pins sl5One sGraphDo iGraph_leads_1 kIndexFunc_Sint_int_iGraph_leads_1 kContainsFunc_Sint_int_iGraph_leads_1 iGraph_leads iGraphOk iShapeOk iOpOk kClone_Sint_int iGraph_copy iOp_handles iOp_early iOp_field math_bits_Mul64 math_bits_Mul kRepeat_Sint_int inone itruth ilastOf kDelete_Sint_int iGraphDo veqIntS veqNode veqNodeS veqIntSS veqGraph vmarkIntS vmarkNodeS vmarkIntSS vmarkGraph vheldIntS vheldNodeS vheldIntSS vheldGraph vFnExactGraphDo
set_option maxRecDepth 100000
set_option linter.all false
namespace Go.Fl
open Go Go.Proofs
noncomputable def TE : List (Nat × Ty) := [(3, (.int .i64)),
  (4, .bool),
  (22, (.sl (.pair (.sl (.int .i64)) (.pair (.sl (.int .i64)) .unit)))),
  (23, (.sl (.sl (.int .i64)))),
  (24, (.sl (.int .i64))),
  (26, (.pair (.sl (.pair (.sl (.int .i64)) (.pair (.sl (.int .i64)) .unit))) (.pair (.sl (.sl (.int .i64))) (.pair (.sl (.int .i64)) .unit)))),
  (29, (.sl (.pair (.sl (.int .i64)) (.pair (.sl (.int .i64)) .unit)))),
  (31, (.pair (.sl (.pair (.sl (.int .i64)) (.pair (.sl (.int .i64)) .unit))) (.pair (.sl (.sl (.int .i64))) (.pair (.sl (.int .i64)) .unit)))),
  (47, (.pair (.sl (.int .i64)) (.pair (.sl (.int .i64)) .unit))),
  (68, (.pair (.int .i64) (.pair (.int .i64) .unit))),
  (70, (.pair (.int .i64) (.pair (.int .i64) (.pair (.int .i64) (.pair (.int .i64) (.pair (.int .i64) (.pair (.int .i64) (.pair (.pair (.int .i64) (.pair (.int .i64) .unit)) .unit)))))))),
  (72, (.pair (.int .i64) (.pair (.int .i64) .unit))),
  (74, (.pair (.int .i64) (.pair (.int .i64) (.pair (.int .i64) (.pair (.int .i64) (.pair (.int .i64) (.pair (.int .i64) (.pair (.pair (.int .i64) (.pair (.int .i64) .unit)) .unit)))))))),
  (144, (.pair (.sl (.int .i64)) (.pair (.sl (.int .i64)) .unit))),
  (165, (.int .u64)),
  (173, (.int .u64))]
theorem TE_ok : TyOk Try.prog TE := tysB_spec (by kernel_rfl)
theorem mixed : Try.prog.follows .mixedOrders = true := by kernel_rfl

/-! ### 61: laws.szIntS -/

noncomputable def dinvszIntS : Desc := { n := 2, regs := [.one (.val (.sl (.int .i64))), .one (.val (.int .i64))], bx := [], pins := [] }
noncomputable def outvszIntS : Outs := [(.ret, { n := 1, regs := [.one (.val (.int .i64))], bx := [], pins := [] })]
noncomputable def HvszIntS : Hints := []
noncomputable def EvszIntS (_N : Nat) : Env := { te := TE, cs := [] }
noncomputable def FvszIntS (N : Nat) (x : ((List Int) × (Int × Unit))) : Option (Int × Unit) :=
  let y1 := decide ((w64 (x.2.1 - (x.1.length : Int))) < (0 : Int))
  bif y1 then
   some ((-1 : Int), ())
  else
  some (w64 (x.2.1 - (x.1.length : Int)), ())
noncomputable def convszIntS (N : Nat) : Con := { f := 61, din := dinvszIntS, outs := outvszIntS, F := FvszIntS N }
noncomputable def XvszIntS (N : Nat) : Ctx := { E := EvszIntS N, H := HvszIntS, lp := [], jn := [] }
theorem FvszIntS_eq (N : Nat) (x : ((List Int) × (Int × Unit))) : evFn (XvszIntS N) Try.f61 dinvszIntS outvszIntS x = FvszIntS N x := by kernel_rfl
theorem cxvszIntS (N : Nat) : CtxOk Try.prog (XvszIntS N) := ⟨⟨TE_ok, fun k hk => absurd hk List.not_mem_nil⟩, mixed⟩
theorem specvszIntS (N : Nat) : Spec Try.prog (convszIntS N) :=
  Spec.of_eq (fn_spec (cxvszIntS N) (f := 61) (fn := Try.f61) (c := codeOf Try.f61) (by kernel_rfl) (by kernel_rfl) (by kernel_rfl) (loops_at (ids := []) (by kernel_rfl) (trivial)) (by kernel_rfl)) (fun x r h => (FvszIntS_eq N x).trans h)

/-! ### 124: laws.szNode -/

noncomputable def dinvszNode : Desc := { n := 2, regs := [.one (.val (.pair (.sl (.int .i64)) (.pair (.sl (.int .i64)) .unit))), .one (.val (.int .i64))], bx := [], pins := [] }
noncomputable def outvszNode : Outs := [(.ret, { n := 1, regs := [.one (.val (.int .i64))], bx := [], pins := [] })]
noncomputable def HvszNode : Hints := [(0, [(0, { fz := true })])]
noncomputable def EvszNode (N : Nat) : Env := { te := TE, cs := [convszIntS N] }
noncomputable def FvszNode (N : Nat) (x : (((List Int) × ((List Int) × Unit)) × (Int × Unit))) : Option (Int × Unit) :=
  (FvszIntS N (x.1.1, x.2.1, ())).bind fun r1 =>
  bif decide (r1.1 < (0 : Int)) then
   some ((-1 : Int), ())
  else
  (FvszIntS N (x.1.2.1, r1.1, ())).bind fun r2 =>
  bif decide (r2.1 < (0 : Int)) then
   some ((-1 : Int), ())
  else
  some (r2.1, ())
noncomputable def convszNode (N : Nat) : Con := { f := 124, din := dinvszNode, outs := outvszNode, F := FvszNode N }
noncomputable def XvszNode (N : Nat) : Ctx := { E := EvszNode N, H := HvszNode, lp := [], jn := [] }
theorem FvszNode_eq (N : Nat) (x : (((List Int) × ((List Int) × Unit)) × (Int × Unit))) : evFn (XvszNode N) Try.f124 dinvszNode outvszNode x = FvszNode N x := by kernel_rfl
theorem cxvszNode (N : Nat) : CtxOk Try.prog (XvszNode N) := ⟨⟨TE_ok, List.forall_mem_cons.2 ⟨specvszIntS N, fun k hk => absurd hk List.not_mem_nil⟩⟩, mixed⟩
theorem specvszNode (N : Nat) : Spec Try.prog (convszNode N) :=
  Spec.of_eq (fn_spec (cxvszNode N) (f := 124) (fn := Try.f124) (c := codeOf Try.f124) (by kernel_rfl) (by kernel_rfl) (by kernel_rfl) (loops_at (ids := []) (by kernel_rfl) (trivial)) (by kernel_rfl)) (fun x r h => (FvszNode_eq N x).trans h)

/-! ### 59: laws.szNodeS -/

noncomputable def dinvszNodeS : Desc := { n := 2, regs := [.one (.val (.sl (.pair (.sl (.int .i64)) (.pair (.sl (.int .i64)) .unit)))), .one (.val (.int .i64))], bx := [], pins := [] }
noncomputable def outvszNodeS : Outs := [(.ret, { n := 1, regs := [.one (.val (.int .i64))], bx := [], pins := [] })]
noncomputable def HvszNodeS : Hints := []
noncomputable def EvszNodeS (N : Nat) : Env := { te := TE, cs := [convszNode N] }
noncomputable def dvszNodeS_0 : Desc := { n := 27, regs := [.one (.val (.sl (.pair (.sl (.int .i64)) (.pair (.sl (.int .i64)) .unit)))), .one (.val (.int .i64)), u, u, u, .one (.val (.int .i64))], bx := [], pins := [] }
noncomputable def ovszNodeS_0 : Outs := [(.exit 0, { n := 27, regs := [u, .one (.val (.int .i64))], bx := [], pins := [] }), (.ret, { n := 27, regs := [u, u, u, u, .one (.val (.int .i64))], bx := [], pins := [] })]
noncomputable def lvszNodeS_0 (N : Nat) : Nat → ((List ((List Int) × ((List Int) × Unit))) × (Int × (Int × Unit))) → Option ((Int × Unit) ⊕ (Int × Unit))
  | 0, _ => none
  | n + 1, v =>
    let y2 := decide (v.2.2.1 < (v.1.length : Int))
    bif y2 then
     bif decide (0 ≤ v.2.2.1) then
     bif decide (v.2.2.1.toNat < v.1.length) then
     let y3 := v.1.getD v.2.2.1.toNat (([] : (List Int)), ([] : (List Int)), ())
     (FvszNode N (y3, v.2.1, ())).bind fun r4 =>
     bif decide (r4.1 < (0 : Int)) then
      some (.inr (((-1 : Int), ())))
     else
     lvszNodeS_0 N n (v.1, r4.1, w64 (v.2.2.1 + (1 : Int)), ())
     else none
     else none
    else
    some (.inl (v.2.1, ()))
noncomputable def FvszNodeS (N : Nat) (x : ((List ((List Int) × ((List Int) × Unit))) × (Int × Unit))) : Option (Int × Unit) :=
  let y1 := decide ((w64 (x.2.1 - (x.1.length : Int))) < (0 : Int))
  bif y1 then
   some ((-1 : Int), ())
  else
  (lvszNodeS_0 N N (x.1, w64 (x.2.1 - (x.1.length : Int)), (0 : Int), ())).bind fun o5 =>
  Sum.elim (fun o6 =>
   some (o6.1, ())) (fun o7 =>
   some (o7.1, ())) o5
noncomputable def convszNodeS (N : Nat) : Con := { f := 59, din := dinvszNodeS, outs := outvszNodeS, F := FvszNodeS N }
noncomputable def XvszNodeS (N : Nat) : Ctx := { E := EvszNodeS N, H := HvszNodeS, lp := [(0, { hd := dvszNodeS_0, outs := ovszNodeS_0, run := fun v => lvszNodeS_0 N N v })], jn := [] }
noncomputable def bvszNodeS_0 : Code := loopBody (codeOf Try.f59) 0
theorem FvszNodeS_eq (N : Nat) (x : ((List ((List Int) × ((List Int) × Unit))) × (Int × Unit))) : evFn (XvszNodeS N) Try.f59 dinvszNodeS outvszNodeS x = FvszNodeS N x := by kernel_rfl
theorem lvszNodeS_0_eq (N n : Nat) (v : ((List ((List Int) × ((List Int) × Unit))) × (Int × (Int × Unit)))) : lvszNodeS_0 N (n + 1) v = ev (XvszNodeS N) bvszNodeS_0 (roundK dvszNodeS_0 ovszNodeS_0 (lvszNodeS_0 N n)) (dvszNodeS_0.mk' v) := by kernel_rfl
theorem cxvszNodeS (N : Nat) : CtxOk Try.prog (XvszNodeS N) := ⟨⟨TE_ok, List.forall_mem_cons.2 ⟨specvszNode N, fun k hk => absurd hk List.not_mem_nil⟩⟩, mixed⟩
theorem lpvszNodeS_0 (N : Nat) : LoopOk Try.prog { hd := dvszNodeS_0, outs := ovszNodeS_0, run := fun v => lvszNodeS_0 N N v } bvszNodeS_0 :=
  loop_fuel (d := dvszNodeS_0) (os := ovszNodeS_0) (cxvszNodeS N) (loops_at (ids := []) (by kernel_rfl) (trivial)) (lvszNodeS_0 N) (fun _ => rfl) (fun n v => lvszNodeS_0_eq N n v) (fun _ => N)
theorem specvszNodeS (N : Nat) : Spec Try.prog (convszNodeS N) :=
  Spec.of_eq (fn_spec (cxvszNodeS N) (f := 59) (fn := Try.f59) (c := codeOf Try.f59) (by kernel_rfl) (by kernel_rfl) (by kernel_rfl) (loops_at (ids := [0]) (by kernel_rfl) ⟨lp_of (lpvszNodeS_0 N), trivial⟩) (by kernel_rfl)) (fun x r h => (FvszNodeS_eq N x).trans h)

/-! ### 60: laws.szIntSS -/

noncomputable def dinvszIntSS : Desc := { n := 2, regs := [.one (.val (.sl (.sl (.int .i64)))), .one (.val (.int .i64))], bx := [], pins := [] }
noncomputable def outvszIntSS : Outs := [(.ret, { n := 1, regs := [.one (.val (.int .i64))], bx := [], pins := [] })]
noncomputable def HvszIntSS : Hints := []
noncomputable def EvszIntSS (N : Nat) : Env := { te := TE, cs := [convszIntS N] }
noncomputable def dvszIntSS_0 : Desc := { n := 27, regs := [.one (.val (.sl (.sl (.int .i64)))), .one (.val (.int .i64)), u, u, u, .one (.val (.int .i64))], bx := [], pins := [] }
noncomputable def ovszIntSS_0 : Outs := [(.exit 0, { n := 27, regs := [u, .one (.val (.int .i64))], bx := [], pins := [] }), (.ret, { n := 27, regs := [u, u, u, u, .one (.val (.int .i64))], bx := [], pins := [] })]
noncomputable def lvszIntSS_0 (N : Nat) : Nat → ((List (List Int)) × (Int × (Int × Unit))) → Option ((Int × Unit) ⊕ (Int × Unit))
  | 0, _ => none
  | n + 1, v =>
    let y2 := decide (v.2.2.1 < (v.1.length : Int))
    bif y2 then
     bif decide (0 ≤ v.2.2.1) then
     bif decide (v.2.2.1.toNat < v.1.length) then
     let y3 := v.1.getD v.2.2.1.toNat ([] : (List Int))
     (FvszIntS N (y3, v.2.1, ())).bind fun r4 =>
     bif decide (r4.1 < (0 : Int)) then
      some (.inr (((-1 : Int), ())))
     else
     lvszIntSS_0 N n (v.1, r4.1, w64 (v.2.2.1 + (1 : Int)), ())
     else none
     else none
    else
    some (.inl (v.2.1, ()))
noncomputable def FvszIntSS (N : Nat) (x : ((List (List Int)) × (Int × Unit))) : Option (Int × Unit) :=
  let y1 := decide ((w64 (x.2.1 - (x.1.length : Int))) < (0 : Int))
  bif y1 then
   some ((-1 : Int), ())
  else
  (lvszIntSS_0 N N (x.1, w64 (x.2.1 - (x.1.length : Int)), (0 : Int), ())).bind fun o5 =>
  Sum.elim (fun o6 =>
   some (o6.1, ())) (fun o7 =>
   some (o7.1, ())) o5
noncomputable def convszIntSS (N : Nat) : Con := { f := 60, din := dinvszIntSS, outs := outvszIntSS, F := FvszIntSS N }
noncomputable def XvszIntSS (N : Nat) : Ctx := { E := EvszIntSS N, H := HvszIntSS, lp := [(0, { hd := dvszIntSS_0, outs := ovszIntSS_0, run := fun v => lvszIntSS_0 N N v })], jn := [] }
noncomputable def bvszIntSS_0 : Code := loopBody (codeOf Try.f60) 0
theorem FvszIntSS_eq (N : Nat) (x : ((List (List Int)) × (Int × Unit))) : evFn (XvszIntSS N) Try.f60 dinvszIntSS outvszIntSS x = FvszIntSS N x := by kernel_rfl
theorem lvszIntSS_0_eq (N n : Nat) (v : ((List (List Int)) × (Int × (Int × Unit)))) : lvszIntSS_0 N (n + 1) v = ev (XvszIntSS N) bvszIntSS_0 (roundK dvszIntSS_0 ovszIntSS_0 (lvszIntSS_0 N n)) (dvszIntSS_0.mk' v) := by kernel_rfl
theorem cxvszIntSS (N : Nat) : CtxOk Try.prog (XvszIntSS N) := ⟨⟨TE_ok, List.forall_mem_cons.2 ⟨specvszIntS N, fun k hk => absurd hk List.not_mem_nil⟩⟩, mixed⟩
theorem lpvszIntSS_0 (N : Nat) : LoopOk Try.prog { hd := dvszIntSS_0, outs := ovszIntSS_0, run := fun v => lvszIntSS_0 N N v } bvszIntSS_0 :=
  loop_fuel (d := dvszIntSS_0) (os := ovszIntSS_0) (cxvszIntSS N) (loops_at (ids := []) (by kernel_rfl) (trivial)) (lvszIntSS_0 N) (fun _ => rfl) (fun n v => lvszIntSS_0_eq N n v) (fun _ => N)
theorem specvszIntSS (N : Nat) : Spec Try.prog (convszIntSS N) :=
  Spec.of_eq (fn_spec (cxvszIntSS N) (f := 60) (fn := Try.f60) (c := codeOf Try.f60) (by kernel_rfl) (by kernel_rfl) (by kernel_rfl) (loops_at (ids := [0]) (by kernel_rfl) ⟨lp_of (lpvszIntSS_0 N), trivial⟩) (by kernel_rfl)) (fun x r h => (FvszIntSS_eq N x).trans h)

/-! ### 15: laws.szGraph -/

noncomputable def dinvszGraph : Desc := { n := 2, regs := [.one (.val (.pair (.sl (.pair (.sl (.int .i64)) (.pair (.sl (.int .i64)) .unit))) (.pair (.sl (.sl (.int .i64))) (.pair (.sl (.int .i64)) .unit)))), .one (.val (.int .i64))], bx := [], pins := [] }
noncomputable def outvszGraph : Outs := [(.ret, { n := 1, regs := [.one (.val (.int .i64))], bx := [], pins := [] })]
noncomputable def HvszGraph : Hints := [(0, [(0, { fz := true })]),
  (4, [(3, { con := 1 })]),
  (7, [(3, { con := 2 })])]
noncomputable def EvszGraph (N : Nat) : Env := { te := TE, cs := [convszNodeS N, convszIntSS N, convszIntS N] }
noncomputable def FvszGraph (N : Nat) (x : (((List ((List Int) × ((List Int) × Unit))) × ((List (List Int)) × ((List Int) × Unit))) × (Int × Unit))) : Option (Int × Unit) :=
  (FvszNodeS N (x.1.1, x.2.1, ())).bind fun r1 =>
  bif decide (r1.1 < (0 : Int)) then
   some ((-1 : Int), ())
  else
  (FvszIntSS N (x.1.2.1, r1.1, ())).bind fun r2 =>
  bif decide (r2.1 < (0 : Int)) then
   some ((-1 : Int), ())
  else
  (FvszIntS N (x.1.2.2.1, r2.1, ())).bind fun r3 =>
  bif decide (r3.1 < (0 : Int)) then
   some ((-1 : Int), ())
  else
  some (r3.1, ())
noncomputable def convszGraph (N : Nat) : Con := { f := 15, din := dinvszGraph, outs := outvszGraph, F := FvszGraph N }
noncomputable def XvszGraph (N : Nat) : Ctx := { E := EvszGraph N, H := HvszGraph, lp := [], jn := [] }
theorem FvszGraph_eq (N : Nat) (x : (((List ((List Int) × ((List Int) × Unit))) × ((List (List Int)) × ((List Int) × Unit))) × (Int × Unit))) : evFn (XvszGraph N) Try.f15 dinvszGraph outvszGraph x = FvszGraph N x := by kernel_rfl
theorem cxvszGraph (N : Nat) : CtxOk Try.prog (XvszGraph N) := ⟨⟨TE_ok, List.forall_mem_cons.2 ⟨specvszNodeS N, List.forall_mem_cons.2 ⟨specvszIntSS N, List.forall_mem_cons.2 ⟨specvszIntS N, fun k hk => absurd hk List.not_mem_nil⟩⟩⟩⟩, mixed⟩
theorem specvszGraph (N : Nat) : Spec Try.prog (convszGraph N) :=
  Spec.of_eq (fn_spec (cxvszGraph N) (f := 15) (fn := Try.f15) (c := codeOf Try.f15) (by kernel_rfl) (by kernel_rfl) (by kernel_rfl) (loops_at (ids := []) (by kernel_rfl) (trivial)) (by kernel_rfl)) (fun x r h => (FvszGraph_eq N x).trans h)

/-! ### 65: laws.toIntS -/

noncomputable def dinvtoIntS : Desc := { n := 1, regs := [.one (.val (.sl (.int .i64)))], bx := [], pins := [] }
noncomputable def outvtoIntS : Outs := [(.ret, { n := 1, regs := [.one (.lit (.row 1012928))], bx := [(1012928, .row (.int .i64))], pins := [] })]
noncomputable def HvtoIntS : Hints := []
noncomputable def EvtoIntS (_N : Nat) : Env := { te := TE, cs := [] }
noncomputable def dvtoIntS_0 : Desc := { n := 22, regs := [.one (.val (.sl (.int .i64))), u, u, .one (.lit (.row 1012928)), .one (.val (.int .i64))], bx := [(1012928, .row (.int .i64))], pins := [] }
noncomputable def ovtoIntS_0 : Outs := [(.exit 0, { n := 22, regs := [u, u, u, .one (.lit (.row 1012928))], bx := [(1012928, .row (.int .i64))], pins := [] })]
noncomputable def lvtoIntS_0 (N : Nat) : Nat → ((List Int) × (Int × ((List Int) × Unit))) → Option ((List Int) × Unit)
  | 0, _ => none
  | n + 1, v =>
    bif decide (v.2.1 < (v.1.length : Int)) then
     bif decide (0 ≤ v.2.1) then
     bif decide (v.2.1.toNat < v.1.length) then
     bif decide (0 ≤ v.2.1) then
     bif decide (v.2.1.toNat < v.2.2.1.length) then
     let y2 := v.2.2.1.set v.2.1.toNat (v.1.getD v.2.1.toNat (0 : Int))
     lvtoIntS_0 N n (v.1, w64 (v.2.1 + (1 : Int)), y2, ())
     else none
     else none
     else none
     else none
    else
    some (v.2.2.1, ())
noncomputable def FvtoIntS (N : Nat) (x : ((List Int) × Unit)) : Option ((List Int) × Unit) :=
  bif decide (0 ≤ (x.1.length : Int)) then
  bif decide ((x.1.length : Int).toNat ≤ lim) then
  let y1 := List.replicate (x.1.length : Int).toNat (0 : Int)
  (lvtoIntS_0 N N (x.1, (0 : Int), y1, ())).bind fun o3 =>
  some (o3.1, ())
  else none
  else none
noncomputable def convtoIntS (N : Nat) : Con := { f := 65, din := dinvtoIntS, outs := outvtoIntS, F := FvtoIntS N }
noncomputable def XvtoIntS (N : Nat) : Ctx := { E := EvtoIntS N, H := HvtoIntS, lp := [(0, { hd := dvtoIntS_0, outs := ovtoIntS_0, run := fun v => lvtoIntS_0 N N v })], jn := [] }
noncomputable def bvtoIntS_0 : Code := loopBody (codeOf Try.f65) 0
theorem FvtoIntS_eq (N : Nat) (x : ((List Int) × Unit)) : evFn (XvtoIntS N) Try.f65 dinvtoIntS outvtoIntS x = FvtoIntS N x := by kernel_rfl
theorem lvtoIntS_0_eq (N n : Nat) (v : ((List Int) × (Int × ((List Int) × Unit)))) : lvtoIntS_0 N (n + 1) v = ev (XvtoIntS N) bvtoIntS_0 (roundK dvtoIntS_0 ovtoIntS_0 (lvtoIntS_0 N n)) (dvtoIntS_0.mk' v) := by kernel_rfl
theorem cxvtoIntS (N : Nat) : CtxOk Try.prog (XvtoIntS N) := ⟨⟨TE_ok, fun k hk => absurd hk List.not_mem_nil⟩, mixed⟩
theorem lpvtoIntS_0 (N : Nat) : LoopOk Try.prog { hd := dvtoIntS_0, outs := ovtoIntS_0, run := fun v => lvtoIntS_0 N N v } bvtoIntS_0 :=
  loop_fuel (d := dvtoIntS_0) (os := ovtoIntS_0) (cxvtoIntS N) (loops_at (ids := []) (by kernel_rfl) (trivial)) (lvtoIntS_0 N) (fun _ => rfl) (fun n v => lvtoIntS_0_eq N n v) (fun _ => N)
theorem specvtoIntS (N : Nat) : Spec Try.prog (convtoIntS N) :=
  Spec.of_eq (fn_spec (cxvtoIntS N) (f := 65) (fn := Try.f65) (c := codeOf Try.f65) (by kernel_rfl) (by kernel_rfl) (by kernel_rfl) (loops_at (ids := [0]) (by kernel_rfl) ⟨lp_of (lpvtoIntS_0 N), trivial⟩) (by kernel_rfl)) (fun x r h => (FvtoIntS_eq N x).trans h)

/-! ### 125: laws.toNode -/

noncomputable def dinvtoNode : Desc := { n := 1, regs := [.one (.val (.pair (.sl (.int .i64)) (.pair (.sl (.int .i64)) .unit)))], bx := [], pins := [] }
noncomputable def outvtoNode : Outs := [(.ret, { n := 1, regs := [.agg [.lit (.row 1025729), .lit (.row 1038529)]], bx := [(1025729, .row (.int .i64)), (1038529, .row (.int .i64))], pins := [] })]
noncomputable def HvtoNode : Hints := [(0, [(0, { fz := true })])]
noncomputable def EvtoNode (N : Nat) : Env := { te := TE, cs := [convtoIntS N] }
noncomputable def FvtoNode (N : Nat) (x : (((List Int) × ((List Int) × Unit)) × Unit)) : Option ((List Int) × ((List Int) × Unit)) :=
  (FvtoIntS N (x.1.1, ())).bind fun r1 =>
  (FvtoIntS N (x.1.2.1, ())).bind fun r2 =>
  some (r1.1, r2.1, ())
noncomputable def convtoNode (N : Nat) : Con := { f := 125, din := dinvtoNode, outs := outvtoNode, F := FvtoNode N }
noncomputable def XvtoNode (N : Nat) : Ctx := { E := EvtoNode N, H := HvtoNode, lp := [], jn := [] }
theorem FvtoNode_eq (N : Nat) (x : (((List Int) × ((List Int) × Unit)) × Unit)) : evFn (XvtoNode N) Try.f125 dinvtoNode outvtoNode x = FvtoNode N x := by kernel_rfl
theorem cxvtoNode (N : Nat) : CtxOk Try.prog (XvtoNode N) := ⟨⟨TE_ok, List.forall_mem_cons.2 ⟨specvtoIntS N, fun k hk => absurd hk List.not_mem_nil⟩⟩, mixed⟩
theorem specvtoNode (N : Nat) : Spec Try.prog (convtoNode N) :=
  Spec.of_eq (fn_spec (cxvtoNode N) (f := 125) (fn := Try.f125) (c := codeOf Try.f125) (by kernel_rfl) (by kernel_rfl) (by kernel_rfl) (loops_at (ids := []) (by kernel_rfl) (trivial)) (by kernel_rfl)) (fun x r h => (FvtoNode_eq N x).trans h)

/-! ### 63: laws.toNodeS -/

noncomputable def dinvtoNodeS : Desc := { n := 1, regs := [.one (.val (.sl (.pair (.sl (.int .i64)) (.pair (.sl (.int .i64)) .unit))))], bx := [], pins := [] }
noncomputable def outvtoNodeS : Outs := [(.ret, { n := 1, regs := [.one (.lit (.row 1012928))], bx := [(1012928, .row (.pair (.sl (.int .i64)) (.pair (.sl (.int .i64)) .unit)))], pins := [] })]
noncomputable def HvtoNodeS : Hints := [(1, [(2, { dp := true })])]
noncomputable def EvtoNodeS (N : Nat) : Env := { te := TE, cs := [convtoNode N] }
noncomputable def dvtoNodeS_0 : Desc := { n := 23, regs := [.one (.val (.sl (.pair (.sl (.int .i64)) (.pair (.sl (.int .i64)) .unit)))), u, u, .one (.lit (.row 1012928)), .one (.val (.int .i64))], bx := [(1012928, .row (.pair (.sl (.int .i64)) (.pair (.sl (.int .i64)) .unit)))], pins := [] }
noncomputable def ovtoNodeS_0 : Outs := [(.exit 0, { n := 23, regs := [u, u, u, .one (.lit (.row 1012928))], bx := [(1012928, .row (.pair (.sl (.int .i64)) (.pair (.sl (.int .i64)) .unit)))], pins := [] })]
noncomputable def lvtoNodeS_0 (N : Nat) : Nat → ((List ((List Int) × ((List Int) × Unit))) × (Int × ((List ((List Int) × ((List Int) × Unit))) × Unit))) → Option ((List ((List Int) × ((List Int) × Unit))) × Unit)
  | 0, _ => none
  | n + 1, v =>
    bif decide (v.2.1 < (v.1.length : Int)) then
     bif decide (0 ≤ v.2.1) then
     bif decide (v.2.1.toNat < v.1.length) then
     let y2 := v.1.getD v.2.1.toNat (([] : (List Int)), ([] : (List Int)), ())
     (FvtoNode N (y2, ())).bind fun r3 =>
     bif decide (0 ≤ v.2.1) then
     bif decide (v.2.1.toNat < v.2.2.1.length) then
     let y4 := v.2.2.1.set v.2.1.toNat (r3.1, r3.2.1, ())
     lvtoNodeS_0 N n (v.1, w64 (v.2.1 + (1 : Int)), y4, ())
     else none
     else none
     else none
     else none
    else
    some (v.2.2.1, ())
noncomputable def FvtoNodeS (N : Nat) (x : ((List ((List Int) × ((List Int) × Unit))) × Unit)) : Option ((List ((List Int) × ((List Int) × Unit))) × Unit) :=
  bif decide (0 ≤ (x.1.length : Int)) then
  bif decide ((x.1.length : Int).toNat ≤ lim) then
  let y1 := List.replicate (x.1.length : Int).toNat (([] : (List Int)), ([] : (List Int)), ())
  (lvtoNodeS_0 N N (x.1, (0 : Int), y1, ())).bind fun o5 =>
  some (o5.1, ())
  else none
  else none
noncomputable def convtoNodeS (N : Nat) : Con := { f := 63, din := dinvtoNodeS, outs := outvtoNodeS, F := FvtoNodeS N }
noncomputable def XvtoNodeS (N : Nat) : Ctx := { E := EvtoNodeS N, H := HvtoNodeS, lp := [(0, { hd := dvtoNodeS_0, outs := ovtoNodeS_0, run := fun v => lvtoNodeS_0 N N v })], jn := [] }
noncomputable def bvtoNodeS_0 : Code := loopBody (codeOf Try.f63) 0
theorem FvtoNodeS_eq (N : Nat) (x : ((List ((List Int) × ((List Int) × Unit))) × Unit)) : evFn (XvtoNodeS N) Try.f63 dinvtoNodeS outvtoNodeS x = FvtoNodeS N x := by kernel_rfl
theorem lvtoNodeS_0_eq (N n : Nat) (v : ((List ((List Int) × ((List Int) × Unit))) × (Int × ((List ((List Int) × ((List Int) × Unit))) × Unit)))) : lvtoNodeS_0 N (n + 1) v = ev (XvtoNodeS N) bvtoNodeS_0 (roundK dvtoNodeS_0 ovtoNodeS_0 (lvtoNodeS_0 N n)) (dvtoNodeS_0.mk' v) := by kernel_rfl
theorem cxvtoNodeS (N : Nat) : CtxOk Try.prog (XvtoNodeS N) := ⟨⟨TE_ok, List.forall_mem_cons.2 ⟨specvtoNode N, fun k hk => absurd hk List.not_mem_nil⟩⟩, mixed⟩
theorem lpvtoNodeS_0 (N : Nat) : LoopOk Try.prog { hd := dvtoNodeS_0, outs := ovtoNodeS_0, run := fun v => lvtoNodeS_0 N N v } bvtoNodeS_0 :=
  loop_fuel (d := dvtoNodeS_0) (os := ovtoNodeS_0) (cxvtoNodeS N) (loops_at (ids := []) (by kernel_rfl) (trivial)) (lvtoNodeS_0 N) (fun _ => rfl) (fun n v => lvtoNodeS_0_eq N n v) (fun _ => N)
theorem specvtoNodeS (N : Nat) : Spec Try.prog (convtoNodeS N) :=
  Spec.of_eq (fn_spec (cxvtoNodeS N) (f := 63) (fn := Try.f63) (c := codeOf Try.f63) (by kernel_rfl) (by kernel_rfl) (by kernel_rfl) (loops_at (ids := [0]) (by kernel_rfl) ⟨lp_of (lpvtoNodeS_0 N), trivial⟩) (by kernel_rfl)) (fun x r h => (FvtoNodeS_eq N x).trans h)

/-! ### 64: laws.toIntSS -/

noncomputable def dinvtoIntSS : Desc := { n := 1, regs := [.one (.val (.sl (.sl (.int .i64))))], bx := [], pins := [] }
noncomputable def outvtoIntSS : Outs := [(.ret, { n := 1, regs := [.one (.lit (.row 1012928))], bx := [(1012928, .row (.sl (.int .i64)))], pins := [] })]
noncomputable def HvtoIntSS : Hints := [(1, [(2, { dp := true })])]
noncomputable def EvtoIntSS (N : Nat) : Env := { te := TE, cs := [convtoIntS N] }
noncomputable def dvtoIntSS_0 : Desc := { n := 23, regs := [.one (.val (.sl (.sl (.int .i64)))), u, u, .one (.lit (.row 1012928)), .one (.val (.int .i64))], bx := [(1012928, .row (.sl (.int .i64)))], pins := [] }
noncomputable def ovtoIntSS_0 : Outs := [(.exit 0, { n := 23, regs := [u, u, u, .one (.lit (.row 1012928))], bx := [(1012928, .row (.sl (.int .i64)))], pins := [] })]
noncomputable def lvtoIntSS_0 (N : Nat) : Nat → ((List (List Int)) × (Int × ((List (List Int)) × Unit))) → Option ((List (List Int)) × Unit)
  | 0, _ => none
  | n + 1, v =>
    bif decide (v.2.1 < (v.1.length : Int)) then
     bif decide (0 ≤ v.2.1) then
     bif decide (v.2.1.toNat < v.1.length) then
     let y2 := v.1.getD v.2.1.toNat ([] : (List Int))
     (FvtoIntS N (y2, ())).bind fun r3 =>
     bif decide (0 ≤ v.2.1) then
     bif decide (v.2.1.toNat < v.2.2.1.length) then
     lvtoIntSS_0 N n (v.1, w64 (v.2.1 + (1 : Int)), v.2.2.1.set v.2.1.toNat r3.1, ())
     else none
     else none
     else none
     else none
    else
    some (v.2.2.1, ())
noncomputable def FvtoIntSS (N : Nat) (x : ((List (List Int)) × Unit)) : Option ((List (List Int)) × Unit) :=
  bif decide (0 ≤ (x.1.length : Int)) then
  bif decide ((x.1.length : Int).toNat ≤ lim) then
  let y1 := List.replicate (x.1.length : Int).toNat ([] : (List Int))
  (lvtoIntSS_0 N N (x.1, (0 : Int), y1, ())).bind fun o4 =>
  some (o4.1, ())
  else none
  else none
noncomputable def convtoIntSS (N : Nat) : Con := { f := 64, din := dinvtoIntSS, outs := outvtoIntSS, F := FvtoIntSS N }
noncomputable def XvtoIntSS (N : Nat) : Ctx := { E := EvtoIntSS N, H := HvtoIntSS, lp := [(0, { hd := dvtoIntSS_0, outs := ovtoIntSS_0, run := fun v => lvtoIntSS_0 N N v })], jn := [] }
noncomputable def bvtoIntSS_0 : Code := loopBody (codeOf Try.f64) 0
theorem FvtoIntSS_eq (N : Nat) (x : ((List (List Int)) × Unit)) : evFn (XvtoIntSS N) Try.f64 dinvtoIntSS outvtoIntSS x = FvtoIntSS N x := by kernel_rfl
theorem lvtoIntSS_0_eq (N n : Nat) (v : ((List (List Int)) × (Int × ((List (List Int)) × Unit)))) : lvtoIntSS_0 N (n + 1) v = ev (XvtoIntSS N) bvtoIntSS_0 (roundK dvtoIntSS_0 ovtoIntSS_0 (lvtoIntSS_0 N n)) (dvtoIntSS_0.mk' v) := by kernel_rfl
theorem cxvtoIntSS (N : Nat) : CtxOk Try.prog (XvtoIntSS N) := ⟨⟨TE_ok, List.forall_mem_cons.2 ⟨specvtoIntS N, fun k hk => absurd hk List.not_mem_nil⟩⟩, mixed⟩
theorem lpvtoIntSS_0 (N : Nat) : LoopOk Try.prog { hd := dvtoIntSS_0, outs := ovtoIntSS_0, run := fun v => lvtoIntSS_0 N N v } bvtoIntSS_0 :=
  loop_fuel (d := dvtoIntSS_0) (os := ovtoIntSS_0) (cxvtoIntSS N) (loops_at (ids := []) (by kernel_rfl) (trivial)) (lvtoIntSS_0 N) (fun _ => rfl) (fun n v => lvtoIntSS_0_eq N n v) (fun _ => N)
theorem specvtoIntSS (N : Nat) : Spec Try.prog (convtoIntSS N) :=
  Spec.of_eq (fn_spec (cxvtoIntSS N) (f := 64) (fn := Try.f64) (c := codeOf Try.f64) (by kernel_rfl) (by kernel_rfl) (by kernel_rfl) (loops_at (ids := [0]) (by kernel_rfl) ⟨lp_of (lpvtoIntSS_0 N), trivial⟩) (by kernel_rfl)) (fun x r h => (FvtoIntSS_eq N x).trans h)

/-! ### 17: laws.toGraph -/

noncomputable def dinvtoGraph : Desc := { n := 1, regs := [.one (.val (.pair (.sl (.pair (.sl (.int .i64)) (.pair (.sl (.int .i64)) .unit))) (.pair (.sl (.sl (.int .i64))) (.pair (.sl (.int .i64)) .unit))))], bx := [], pins := [] }
noncomputable def outvtoGraph : Outs := [(.ret, { n := 1, regs := [.agg [.lit (.row 1025729), .lit (.row 1038529), .lit (.row 1051329)]], bx := [(1025729, .row (.pair (.sl (.int .i64)) (.pair (.sl (.int .i64)) .unit))), (1038529, .row (.sl (.int .i64))), (1051329, .row (.int .i64))], pins := [] })]
noncomputable def HvtoGraph : Hints := [(0, [(0, { fz := true })]),
  (3, [(2, { con := 1 })]),
  (4, [(2, { con := 2 })])]
noncomputable def EvtoGraph (N : Nat) : Env := { te := TE, cs := [convtoNodeS N, convtoIntSS N, convtoIntS N] }
noncomputable def FvtoGraph (N : Nat) (x : (((List ((List Int) × ((List Int) × Unit))) × ((List (List Int)) × ((List Int) × Unit))) × Unit)) : Option ((List ((List Int) × ((List Int) × Unit))) × ((List (List Int)) × ((List Int) × Unit))) :=
  (FvtoNodeS N (x.1.1, ())).bind fun r1 =>
  (FvtoIntSS N (x.1.2.1, ())).bind fun r2 =>
  (FvtoIntS N (x.1.2.2.1, ())).bind fun r3 =>
  some (r1.1, r2.1, r3.1, ())
noncomputable def convtoGraph (N : Nat) : Con := { f := 17, din := dinvtoGraph, outs := outvtoGraph, F := FvtoGraph N }
noncomputable def XvtoGraph (N : Nat) : Ctx := { E := EvtoGraph N, H := HvtoGraph, lp := [], jn := [] }
theorem FvtoGraph_eq (N : Nat) (x : (((List ((List Int) × ((List Int) × Unit))) × ((List (List Int)) × ((List Int) × Unit))) × Unit)) : evFn (XvtoGraph N) Try.f17 dinvtoGraph outvtoGraph x = FvtoGraph N x := by kernel_rfl
theorem cxvtoGraph (N : Nat) : CtxOk Try.prog (XvtoGraph N) := ⟨⟨TE_ok, List.forall_mem_cons.2 ⟨specvtoNodeS N, List.forall_mem_cons.2 ⟨specvtoIntSS N, List.forall_mem_cons.2 ⟨specvtoIntS N, fun k hk => absurd hk List.not_mem_nil⟩⟩⟩⟩, mixed⟩
theorem specvtoGraph (N : Nat) : Spec Try.prog (convtoGraph N) :=
  Spec.of_eq (fn_spec (cxvtoGraph N) (f := 17) (fn := Try.f17) (c := codeOf Try.f17) (by kernel_rfl) (by kernel_rfl) (by kernel_rfl) (loops_at (ids := []) (by kernel_rfl) (trivial)) (by kernel_rfl)) (fun x r h => (FvtoGraph_eq N x).trans h)

/-! ### 105: laws.toShape -/

noncomputable def dinvtoShape : Desc := { n := 1, regs := [.one (.val (.pair (.int .i64) (.pair (.int .i64) .unit)))], bx := [], pins := [] }
noncomputable def outvtoShape : Outs := [(.ret, { n := 1, regs := [.agg [.val (.int .i64), .val (.int .i64)]], bx := [], pins := [] })]
noncomputable def HvtoShape : Hints := [(0, [(0, { fz := true })])]
noncomputable def EvtoShape (_N : Nat) : Env := { te := TE, cs := [] }
noncomputable def FvtoShape (N : Nat) (x : ((Int × (Int × Unit)) × Unit)) : Option (Int × (Int × Unit)) :=
  some (x.1.1, x.1.2.1, ())
noncomputable def convtoShape (N : Nat) : Con := { f := 105, din := dinvtoShape, outs := outvtoShape, F := FvtoShape N }
noncomputable def XvtoShape (N : Nat) : Ctx := { E := EvtoShape N, H := HvtoShape, lp := [], jn := [] }
theorem FvtoShape_eq (N : Nat) (x : ((Int × (Int × Unit)) × Unit)) : evFn (XvtoShape N) Try.f105 dinvtoShape outvtoShape x = FvtoShape N x := by kernel_rfl
theorem cxvtoShape (N : Nat) : CtxOk Try.prog (XvtoShape N) := ⟨⟨TE_ok, fun k hk => absurd hk List.not_mem_nil⟩, mixed⟩
theorem specvtoShape (N : Nat) : Spec Try.prog (convtoShape N) :=
  Spec.of_eq (fn_spec (cxvtoShape N) (f := 105) (fn := Try.f105) (c := codeOf Try.f105) (by kernel_rfl) (by kernel_rfl) (by kernel_rfl) (loops_at (ids := []) (by kernel_rfl) (trivial)) (by kernel_rfl)) (fun x r h => (FvtoShape_eq N x).trans h)

/-! ### 50: laws.toOp -/

noncomputable def dinvtoOp : Desc := { n := 1, regs := [.one (.val (.pair (.int .i64) (.pair (.int .i64) (.pair (.int .i64) (.pair (.int .i64) (.pair (.int .i64) (.pair (.int .i64) (.pair (.pair (.int .i64) (.pair (.int .i64) .unit)) .unit))))))))], bx := [], pins := [] }
noncomputable def outvtoOp : Outs := [(.ret, { n := 1, regs := [.agg [.val (.int .i64), .val (.int .i64), .val (.int .i64), .val (.int .i64), .val (.int .i64), .val (.int .i64), .val (.int .i64), .val (.int .i64)]], bx := [], pins := [] })]
noncomputable def HvtoOp : Hints := [(0, [(0, { fz := true })])]
noncomputable def EvtoOp (N : Nat) : Env := { te := TE, cs := [convtoShape N] }
noncomputable def FvtoOp (N : Nat) (x : ((Int × (Int × (Int × (Int × (Int × (Int × ((Int × (Int × Unit)) × Unit))))))) × Unit)) : Option (Int × (Int × (Int × (Int × (Int × (Int × (Int × (Int × Unit)))))))) :=
  (FvtoShape N (x.1.2.2.2.2.2.2.1, ())).bind fun r1 =>
  some (x.1.1, x.1.2.1, x.1.2.2.1, x.1.2.2.2.1, x.1.2.2.2.2.1, x.1.2.2.2.2.2.1, r1.1, r1.2.1, ())
noncomputable def convtoOp (N : Nat) : Con := { f := 50, din := dinvtoOp, outs := outvtoOp, F := FvtoOp N }
noncomputable def XvtoOp (N : Nat) : Ctx := { E := EvtoOp N, H := HvtoOp, lp := [], jn := [] }
theorem FvtoOp_eq (N : Nat) (x : ((Int × (Int × (Int × (Int × (Int × (Int × ((Int × (Int × Unit)) × Unit))))))) × Unit)) : evFn (XvtoOp N) Try.f50 dinvtoOp outvtoOp x = FvtoOp N x := by kernel_rfl
theorem cxvtoOp (N : Nat) : CtxOk Try.prog (XvtoOp N) := ⟨⟨TE_ok, List.forall_mem_cons.2 ⟨specvtoShape N, fun k hk => absurd hk List.not_mem_nil⟩⟩, mixed⟩
theorem specvtoOp (N : Nat) : Spec Try.prog (convtoOp N) :=
  Spec.of_eq (fn_spec (cxvtoOp N) (f := 50) (fn := Try.f50) (c := codeOf Try.f50) (by kernel_rfl) (by kernel_rfl) (by kernel_rfl) (loops_at (ids := []) (by kernel_rfl) (trivial)) (by kernel_rfl)) (fun x r h => (FvtoOp_eq N x).trans h)

/-! ### 91: spec.l5Refs -/

noncomputable def dinsl5Refs : Desc := { n := 2, regs := [.one (.val (.sl (.int .i64))), .one (.val (.int .i64))], bx := [], pins := [] }
noncomputable def outsl5Refs : Outs := [(.ret, { n := 1, regs := [.one (.val .bool)], bx := [], pins := [] })]
noncomputable def Hsl5Refs : Hints := []
noncomputable def Esl5Refs (_N : Nat) : Env := { te := TE, cs := [] }
noncomputable def dsl5Refs_0 : Desc := { n := 25, regs := [.one (.val (.sl (.int .i64))), .one (.val (.int .i64)), u, u, u, .one (.val (.int .i64))], bx := [], pins := [] }
noncomputable def osl5Refs_0 : Outs := [(.exit 0, { n := 25, regs := [], bx := [], pins := [] }), (.ret, { n := 25, regs := [u, u, u, u, .one (.val .bool)], bx := [], pins := [] })]
noncomputable def lsl5Refs_0 (N : Nat) : Nat → ((List Int) × (Int × (Int × Unit))) → Option (Unit ⊕ (Bool × Unit))
  | 0, _ => none
  | n + 1, v =>
    let y1 := decide (v.2.2.1 < (v.1.length : Int))
    bif y1 then
     bif decide (0 ≤ v.2.2.1) then
     bif decide (v.2.2.1.toNat < v.1.length) then
     let y2 := decide ((v.1.getD v.2.2.1.toNat (0 : Int)) < (-1 : Int))
     bif y2 then
      some (.inr ((false, ())))
     else
     bif decide (0 ≤ v.2.2.1) then
     bif decide (v.2.2.1.toNat < v.1.length) then
     let y3 := decide ((v.1.getD v.2.2.1.toNat (0 : Int)) ≥ v.2.1)
     bif y3 then
      some (.inr ((false, ())))
     else
     lsl5Refs_0 N n (v.1, v.2.1, w64 (v.2.2.1 + (1 : Int)), ())
     else none
     else none
     else none
     else none
    else
    some (.inl ())
noncomputable def Fsl5Refs (N : Nat) (x : ((List Int) × (Int × Unit))) : Option (Bool × Unit) :=
  (lsl5Refs_0 N N (x.1, x.2.1, (0 : Int), ())).bind fun o4 =>
  Sum.elim (fun o5 =>
   some (true, ())) (fun o6 =>
   some (o6.1, ())) o4
noncomputable def consl5Refs (N : Nat) : Con := { f := 91, din := dinsl5Refs, outs := outsl5Refs, F := Fsl5Refs N }
noncomputable def Xsl5Refs (N : Nat) : Ctx := { E := Esl5Refs N, H := Hsl5Refs, lp := [(0, { hd := dsl5Refs_0, outs := osl5Refs_0, run := fun v => lsl5Refs_0 N N v })], jn := [] }
noncomputable def bsl5Refs_0 : Code := loopBody (codeOf Try.f91) 0
theorem Fsl5Refs_eq (N : Nat) (x : ((List Int) × (Int × Unit))) : evFn (Xsl5Refs N) Try.f91 dinsl5Refs outsl5Refs x = Fsl5Refs N x := by kernel_rfl
theorem lsl5Refs_0_eq (N n : Nat) (v : ((List Int) × (Int × (Int × Unit)))) : lsl5Refs_0 N (n + 1) v = ev (Xsl5Refs N) bsl5Refs_0 (roundK dsl5Refs_0 osl5Refs_0 (lsl5Refs_0 N n)) (dsl5Refs_0.mk' v) := by kernel_rfl
theorem cxsl5Refs (N : Nat) : CtxOk Try.prog (Xsl5Refs N) := ⟨⟨TE_ok, fun k hk => absurd hk List.not_mem_nil⟩, mixed⟩
theorem lpsl5Refs_0 (N : Nat) : LoopOk Try.prog { hd := dsl5Refs_0, outs := osl5Refs_0, run := fun v => lsl5Refs_0 N N v } bsl5Refs_0 :=
  loop_fuel (d := dsl5Refs_0) (os := osl5Refs_0) (cxsl5Refs N) (loops_at (ids := []) (by kernel_rfl) (trivial)) (lsl5Refs_0 N) (fun _ => rfl) (fun n v => lsl5Refs_0_eq N n v) (fun _ => N)
theorem specsl5Refs (N : Nat) : Spec Try.prog (consl5Refs N) :=
  Spec.of_eq (fn_spec (cxsl5Refs N) (f := 91) (fn := Try.f91) (c := codeOf Try.f91) (by kernel_rfl) (by kernel_rfl) (by kernel_rfl) (loops_at (ids := [0]) (by kernel_rfl) ⟨lp_of (lpsl5Refs_0 N), trivial⟩) (by kernel_rfl)) (fun x r h => (Fsl5Refs_eq N x).trans h)

/-! ### 42: spec.GraphOk -/

noncomputable def dinsGraphOk : Desc := { n := 1, regs := [.one (.val (.pair (.sl (.pair (.sl (.int .i64)) (.pair (.sl (.int .i64)) .unit))) (.pair (.sl (.sl (.int .i64))) (.pair (.sl (.int .i64)) .unit))))], bx := [], pins := [] }
noncomputable def outsGraphOk : Outs := [(.ret, { n := 1, regs := [.one (.val .bool)], bx := [], pins := [] })]
noncomputable def HsGraphOk : Hints := [(0, [(0, { fz := true })])]
noncomputable def EsGraphOk (N : Nat) : Env := { te := TE, cs := [consl5Refs N] }
noncomputable def dsGraphOk_0 : Desc := { n := 105, regs := [u, .one (.fpt (.pair (.sl (.pair (.sl (.int .i64)) (.pair (.sl (.int .i64)) .unit))) (.pair (.sl (.sl (.int .i64))) (.pair (.sl (.int .i64)) .unit)))), u, .one (.val (.int .i64))], bx := [], pins := [] }
noncomputable def osGraphOk_0 : Outs := [(.exit 0, { n := 105, regs := [u, .one (.fpt (.pair (.sl (.pair (.sl (.int .i64)) (.pair (.sl (.int .i64)) .unit))) (.pair (.sl (.sl (.int .i64))) (.pair (.sl (.int .i64)) .unit))))], bx := [], pins := [] }), (.ret, { n := 105, regs := [u, u, .one (.val .bool)], bx := [], pins := [] })]
noncomputable def dsGraphOk_2 : Desc := { n := 105, regs := [u, .one (.fpt (.pair (.sl (.pair (.sl (.int .i64)) (.pair (.sl (.int .i64)) .unit))) (.pair (.sl (.sl (.int .i64))) (.pair (.sl (.int .i64)) .unit)))), u, u, u, .one (.val (.int .i64))], bx := [], pins := [] }
noncomputable def osGraphOk_2 : Outs := [(.exit 2, { n := 105, regs := [u, .one (.fpt (.pair (.sl (.pair (.sl (.int .i64)) (.pair (.sl (.int .i64)) .unit))) (.pair (.sl (.sl (.int .i64))) (.pair (.sl (.int .i64)) .unit))))], bx := [], pins := [] }), (.ret, { n := 105, regs := [u, u, .one (.val .bool)], bx := [], pins := [] })]
noncomputable def dsGraphOk_4 : Desc := { n := 105, regs := [u, .one (.fpt (.pair (.sl (.pair (.sl (.int .i64)) (.pair (.sl (.int .i64)) .unit))) (.pair (.sl (.sl (.int .i64))) (.pair (.sl (.int .i64)) .unit)))), u, u, u, u, .one (.val (.int .i64))], bx := [], pins := [] }
noncomputable def osGraphOk_4 : Outs := [(.exit 4, { n := 105, regs := [u, .one (.fpt (.pair (.sl (.pair (.sl (.int .i64)) (.pair (.sl (.int .i64)) .unit))) (.pair (.sl (.sl (.int .i64))) (.pair (.sl (.int .i64)) .unit))))], bx := [], pins := [] }), (.ret, { n := 105, regs := [u, u, .one (.val .bool)], bx := [], pins := [] })]
noncomputable def jsGraphOk_3 : Outs := [(.normal, { n := 105, regs := [u, .one (.fpt (.pair (.sl (.pair (.sl (.int .i64)) (.pair (.sl (.int .i64)) .unit))) (.pair (.sl (.sl (.int .i64))) (.pair (.sl (.int .i64)) .unit))))], bx := [], pins := [] }), (.ret, { n := 105, regs := [u, u, .one (.val .bool)], bx := [], pins := [] })]
noncomputable def lsGraphOk_0 (N : Nat) : Nat → (((List ((List Int) × ((List Int) × Unit))) × ((List (List Int)) × ((List Int) × Unit))) × (Int × Unit)) → Option ((((List ((List Int) × ((List Int) × Unit))) × ((List (List Int)) × ((List Int) × Unit))) × Unit) ⊕ (Bool × Unit))
  | 0, _ => none
  | n + 1, v =>
    let y6 := decide (v.2.1 < (v.1.1.length : Int))
    bif y6 then
     bif decide (0 ≤ v.2.1) then
     bif decide (v.2.1.toNat < v.1.1.length) then
     let y7 := v.1.1.getD v.2.1.toNat (([] : (List Int)), ([] : (List Int)), ())
     let y8 := decide ((y7.1.length : Int) > (4 : Int))
     bif y8 then
      some (.inr ((false, ())))
     else
     let y9 := decide ((y7.2.1.length : Int) > (4 : Int))
     bif y9 then
      some (.inr ((false, ())))
     else
     (Fsl5Refs N (y7.1, (v.1.1.length : Int), ())).bind fun r10 =>
     bif !r10.1 then
      some (.inr ((false, ())))
     else
     lsGraphOk_0 N n (v.1, w64 (v.2.1 + (1 : Int)), ())
     else none
     else none
    else
    some (.inl (v.1, ()))
noncomputable def lsGraphOk_2 (N : Nat) : Nat → (((List ((List Int) × ((List Int) × Unit))) × ((List (List Int)) × ((List Int) × Unit))) × (Int × Unit)) → Option ((((List ((List Int) × ((List Int) × Unit))) × ((List (List Int)) × ((List Int) × Unit))) × Unit) ⊕ (Bool × Unit))
  | 0, _ => none
  | n + 1, v =>
    let y13 := decide (v.2.1 < (v.1.2.1.length : Int))
    bif y13 then
     bif decide (0 ≤ v.2.1) then
     bif decide (v.2.1.toNat < v.1.2.1.length) then
     let y14 := v.1.2.1.getD v.2.1.toNat ([] : (List Int))
     let y15 := decide ((y14.length : Int) > (8 : Int))
     bif y15 then
      some (.inr ((false, ())))
     else
     bif decide (0 ≤ v.2.1) then
     bif decide (v.2.1.toNat < v.1.2.1.length) then
     let y16 := v.1.2.1.getD v.2.1.toNat ([] : (List Int))
     (Fsl5Refs N (y16, (v.1.1.length : Int), ())).bind fun r17 =>
     bif !r17.1 then
      some (.inr ((false, ())))
     else
     lsGraphOk_2 N n (v.1, w64 (v.2.1 + (1 : Int)), ())
     else none
     else none
     else none
     else none
    else
    some (.inl (v.1, ()))
noncomputable def lsGraphOk_4 (N : Nat) : Nat → (((List ((List Int) × ((List Int) × Unit))) × ((List (List Int)) × ((List Int) × Unit))) × (Int × Unit)) → Option ((((List ((List Int) × ((List Int) × Unit))) × ((List (List Int)) × ((List Int) × Unit))) × Unit) ⊕ (Bool × Unit))
  | 0, _ => none
  | n + 1, v =>
    let y20 := decide (v.2.1 < (v.1.2.2.1.length : Int))
    bif y20 then
     bif decide (0 ≤ v.2.1) then
     bif decide (v.2.1.toNat < v.1.2.2.1.length) then
     let y21 := decide ((v.1.2.2.1.getD v.2.1.toNat (0 : Int)) < (0 : Int))
     bif y21 then
      some (.inr ((false, ())))
     else
     lsGraphOk_4 N n (v.1, w64 (v.2.1 + (1 : Int)), ())
     else none
     else none
    else
    some (.inl (v.1, ()))
noncomputable def FsGraphOk (N : Nat) (x : (((List ((List Int) × ((List Int) × Unit))) × ((List (List Int)) × ((List Int) × Unit))) × Unit)) : Option (Bool × Unit) :=
  Option.bind (
   let y1 := decide ((x.1.1.length : Int) > (200 : Int))
   bif y1 then
    some (.inr ((false, ())))
   else
   let y2 := decide ((x.1.2.1.length : Int) < (1 : Int))
   bif y2 then
    some (.inr ((false, ())))
   else
   let y3 := decide ((x.1.2.1.length : Int) > (3 : Int))
   bif y3 then
    some (.inr ((false, ())))
   else
   some (.inl (x.1, ()))) fun o4 =>
  Sum.elim (fun o5 =>
   (lsGraphOk_0 N N (o5.1, (0 : Int), ())).bind fun o11 =>
   Sum.elim (fun o12 =>
    (lsGraphOk_2 N N (o12.1, (0 : Int), ())).bind fun o18 =>
    Sum.elim (fun o19 =>
     (lsGraphOk_4 N N (o19.1, (0 : Int), ())).bind fun o22 =>
     Sum.elim (fun o23 =>
      let y24 := decide ((o23.1.2.2.1.length : Int) ≤ (8 : Int))
      bif y24 then
       (Fsl5Refs N (o23.1.2.2.1, (o23.1.1.length : Int), ())).bind fun r25 =>
       some (r25.1, ())
      else
      some (false, ())) (fun o26 =>
      some (o26.1, ())) o22) (fun o27 =>
     some (o27.1, ())) o18) (fun o28 =>
    some (o28.1, ())) o11) (fun o29 =>
   some (o29.1, ())) o4
noncomputable def consGraphOk (N : Nat) : Con := { f := 42, din := dinsGraphOk, outs := outsGraphOk, F := FsGraphOk N }
noncomputable def XsGraphOk (N : Nat) : Ctx := { E := EsGraphOk N, H := HsGraphOk, lp := [(0, { hd := dsGraphOk_0, outs := osGraphOk_0, run := fun v => lsGraphOk_0 N N v }), (2, { hd := dsGraphOk_2, outs := osGraphOk_2, run := fun v => lsGraphOk_2 N N v }), (4, { hd := dsGraphOk_4, outs := osGraphOk_4, run := fun v => lsGraphOk_4 N N v })], jn := [(3, jsGraphOk_3)] }
noncomputable def bsGraphOk_4 : Code := loopBody (codeOf Try.f42) 2
noncomputable def bsGraphOk_2 : Code := loopBody (codeOf Try.f42) 1
noncomputable def bsGraphOk_0 : Code := loopBody (codeOf Try.f42) 0
theorem FsGraphOk_eq (N : Nat) (x : (((List ((List Int) × ((List Int) × Unit))) × ((List (List Int)) × ((List Int) × Unit))) × Unit)) : evFn (XsGraphOk N) Try.f42 dinsGraphOk outsGraphOk x = FsGraphOk N x := by kernel_rfl
theorem lsGraphOk_0_eq (N n : Nat) (v : (((List ((List Int) × ((List Int) × Unit))) × ((List (List Int)) × ((List Int) × Unit))) × (Int × Unit))) : lsGraphOk_0 N (n + 1) v = ev (XsGraphOk N) bsGraphOk_0 (roundK dsGraphOk_0 osGraphOk_0 (lsGraphOk_0 N n)) (dsGraphOk_0.mk' v) := by kernel_rfl
theorem lsGraphOk_2_eq (N n : Nat) (v : (((List ((List Int) × ((List Int) × Unit))) × ((List (List Int)) × ((List Int) × Unit))) × (Int × Unit))) : lsGraphOk_2 N (n + 1) v = ev (XsGraphOk N) bsGraphOk_2 (roundK dsGraphOk_2 osGraphOk_2 (lsGraphOk_2 N n)) (dsGraphOk_2.mk' v) := by kernel_rfl
theorem lsGraphOk_4_eq (N n : Nat) (v : (((List ((List Int) × ((List Int) × Unit))) × ((List (List Int)) × ((List Int) × Unit))) × (Int × Unit))) : lsGraphOk_4 N (n + 1) v = ev (XsGraphOk N) bsGraphOk_4 (roundK dsGraphOk_4 osGraphOk_4 (lsGraphOk_4 N n)) (dsGraphOk_4.mk' v) := by kernel_rfl
theorem cxsGraphOk (N : Nat) : CtxOk Try.prog (XsGraphOk N) := ⟨⟨TE_ok, List.forall_mem_cons.2 ⟨specsl5Refs N, fun k hk => absurd hk List.not_mem_nil⟩⟩, mixed⟩
theorem lpsGraphOk_0 (N : Nat) : LoopOk Try.prog { hd := dsGraphOk_0, outs := osGraphOk_0, run := fun v => lsGraphOk_0 N N v } bsGraphOk_0 :=
  loop_fuel (d := dsGraphOk_0) (os := osGraphOk_0) (cxsGraphOk N) (loops_at (ids := []) (by kernel_rfl) (trivial)) (lsGraphOk_0 N) (fun _ => rfl) (fun n v => lsGraphOk_0_eq N n v) (fun _ => N)
theorem lpsGraphOk_2 (N : Nat) : LoopOk Try.prog { hd := dsGraphOk_2, outs := osGraphOk_2, run := fun v => lsGraphOk_2 N N v } bsGraphOk_2 :=
  loop_fuel (d := dsGraphOk_2) (os := osGraphOk_2) (cxsGraphOk N) (loops_at (ids := []) (by kernel_rfl) (trivial)) (lsGraphOk_2 N) (fun _ => rfl) (fun n v => lsGraphOk_2_eq N n v) (fun _ => N)
theorem lpsGraphOk_4 (N : Nat) : LoopOk Try.prog { hd := dsGraphOk_4, outs := osGraphOk_4, run := fun v => lsGraphOk_4 N N v } bsGraphOk_4 :=
  loop_fuel (d := dsGraphOk_4) (os := osGraphOk_4) (cxsGraphOk N) (loops_at (ids := []) (by kernel_rfl) (trivial)) (lsGraphOk_4 N) (fun _ => rfl) (fun n v => lsGraphOk_4_eq N n v) (fun _ => N)
theorem specsGraphOk (N : Nat) : Spec Try.prog (consGraphOk N) :=
  Spec.of_eq (fn_spec (cxsGraphOk N) (f := 42) (fn := Try.f42) (c := codeOf Try.f42) (by kernel_rfl) (by kernel_rfl) (by kernel_rfl) (loops_at (ids := [0, 2, 4]) (by kernel_rfl) ⟨lp_of (lpsGraphOk_0 N), ⟨lp_of (lpsGraphOk_2 N), ⟨lp_of (lpsGraphOk_4 N), trivial⟩⟩⟩) (by kernel_rfl)) (fun x r h => (FsGraphOk_eq N x).trans h)

/-! ### 142: spec.ShapeOk -/

noncomputable def dinsShapeOk : Desc := { n := 1, regs := [.one (.val (.pair (.int .i64) (.pair (.int .i64) .unit)))], bx := [], pins := [] }
noncomputable def outsShapeOk : Outs := [(.ret, { n := 1, regs := [.one (.val .bool)], bx := [], pins := [] })]
noncomputable def HsShapeOk : Hints := [(0, [(0, { fz := true })])]
noncomputable def EsShapeOk (_N : Nat) : Env := { te := TE, cs := [] }
noncomputable def FsShapeOk (N : Nat) (x : ((Int × (Int × Unit)) × Unit)) : Option (Bool × Unit) :=
  bif decide (x.1.1 ≥ (0 : Int)) then
   bif decide (x.1.1 ≤ (4 : Int)) then
    bif decide (x.1.2.1 ≥ (0 : Int)) then
     some (decide (x.1.2.1 ≤ (4 : Int)), ())
    else
    some (false, ())
   else
   some (false, ())
  else
  some (false, ())
noncomputable def consShapeOk (N : Nat) : Con := { f := 142, din := dinsShapeOk, outs := outsShapeOk, F := FsShapeOk N }
noncomputable def XsShapeOk (N : Nat) : Ctx := { E := EsShapeOk N, H := HsShapeOk, lp := [], jn := [] }
theorem FsShapeOk_eq (N : Nat) (x : ((Int × (Int × Unit)) × Unit)) : evFn (XsShapeOk N) Try.f142 dinsShapeOk outsShapeOk x = FsShapeOk N x := by kernel_rfl
theorem cxsShapeOk (N : Nat) : CtxOk Try.prog (XsShapeOk N) := ⟨⟨TE_ok, fun k hk => absurd hk List.not_mem_nil⟩, mixed⟩
theorem specsShapeOk (N : Nat) : Spec Try.prog (consShapeOk N) :=
  Spec.of_eq (fn_spec (cxsShapeOk N) (f := 142) (fn := Try.f142) (c := codeOf Try.f142) (by kernel_rfl) (by kernel_rfl) (by kernel_rfl) (loops_at (ids := []) (by kernel_rfl) (trivial)) (by kernel_rfl)) (fun x r h => (FsShapeOk_eq N x).trans h)

/-! ### 99: spec.OpOk -/

noncomputable def dinsOpOk : Desc := { n := 1, regs := [.one (.val (.pair (.int .i64) (.pair (.int .i64) (.pair (.int .i64) (.pair (.int .i64) (.pair (.int .i64) (.pair (.int .i64) (.pair (.pair (.int .i64) (.pair (.int .i64) .unit)) .unit))))))))], bx := [], pins := [] }
noncomputable def outsOpOk : Outs := [(.ret, { n := 1, regs := [.one (.val .bool)], bx := [], pins := [] })]
noncomputable def HsOpOk : Hints := [(0, [(0, { fz := true })])]
noncomputable def EsOpOk (N : Nat) : Env := { te := TE, cs := [consShapeOk N] }
noncomputable def FsOpOk (N : Nat) (x : ((Int × (Int × (Int × (Int × (Int × (Int × ((Int × (Int × Unit)) × Unit))))))) × Unit)) : Option (Bool × Unit) :=
  bif decide (x.1.1 ≥ (1 : Int)) then
   bif decide (x.1.1 ≤ (11 : Int)) then
    bif x.1.1 != (1 : Int) then
     some (true, ())
    else
    (FsShapeOk N (x.1.2.2.2.2.2.2.1, ())).bind fun r1 =>
    some (r1.1, ())
   else
   some (false, ())
  else
  some (false, ())
noncomputable def consOpOk (N : Nat) : Con := { f := 99, din := dinsOpOk, outs := outsOpOk, F := FsOpOk N }
noncomputable def XsOpOk (N : Nat) : Ctx := { E := EsOpOk N, H := HsOpOk, lp := [], jn := [] }
theorem FsOpOk_eq (N : Nat) (x : ((Int × (Int × (Int × (Int × (Int × (Int × ((Int × (Int × Unit)) × Unit))))))) × Unit)) : evFn (XsOpOk N) Try.f99 dinsOpOk outsOpOk x = FsOpOk N x := by kernel_rfl
theorem cxsOpOk (N : Nat) : CtxOk Try.prog (XsOpOk N) := ⟨⟨TE_ok, List.forall_mem_cons.2 ⟨specsShapeOk N, fun k hk => absurd hk List.not_mem_nil⟩⟩, mixed⟩
theorem specsOpOk (N : Nat) : Spec Try.prog (consOpOk N) :=
  Spec.of_eq (fn_spec (cxsOpOk N) (f := 99) (fn := Try.f99) (c := codeOf Try.f99) (by kernel_rfl) (by kernel_rfl) (by kernel_rfl) (loops_at (ids := []) (by kernel_rfl) (trivial)) (by kernel_rfl)) (fun x r h => (FsOpOk_eq N x).trans h)

/-! ### 79: spec.l5Ints -/

noncomputable def dinsl5Ints : Desc := { n := 1, regs := [.one (.val (.sl (.int .i64)))], bx := [], pins := [] }
noncomputable def outsl5Ints : Outs := [(.ret, { n := 1, regs := [.one (.lit (.row 1012800))], bx := [(1012800, .row (.int .i64))], pins := [] })]
noncomputable def Hsl5Ints : Hints := []
noncomputable def Esl5Ints (_N : Nat) : Env := { te := TE, cs := [] }
noncomputable def Fsl5Ints (N : Nat) (x : ((List Int) × Unit)) : Option ((List Int) × Unit) :=
  bif decide (([] : (List Int)).length + x.1.length ≤ lim) then
  some (([] : (List Int)) ++ x.1, ())
  else none
noncomputable def consl5Ints (N : Nat) : Con := { f := 79, din := dinsl5Ints, outs := outsl5Ints, F := Fsl5Ints N }
noncomputable def Xsl5Ints (N : Nat) : Ctx := { E := Esl5Ints N, H := Hsl5Ints, lp := [], jn := [] }
theorem Fsl5Ints_eq (N : Nat) (x : ((List Int) × Unit)) : evFn (Xsl5Ints N) Try.f79 dinsl5Ints outsl5Ints x = Fsl5Ints N x := by kernel_rfl
theorem cxsl5Ints (N : Nat) : CtxOk Try.prog (Xsl5Ints N) := ⟨⟨TE_ok, fun k hk => absurd hk List.not_mem_nil⟩, mixed⟩
theorem specsl5Ints (N : Nat) : Spec Try.prog (consl5Ints N) :=
  Spec.of_eq (fn_spec (cxsl5Ints N) (f := 79) (fn := Try.f79) (c := codeOf Try.f79) (by kernel_rfl) (by kernel_rfl) (by kernel_rfl) (loops_at (ids := []) (by kernel_rfl) (trivial)) (by kernel_rfl)) (fun x r h => (Fsl5Ints_eq N x).trans h)

/-! ### 62: spec.l5Copy -/

noncomputable def dinsl5Copy : Desc := { n := 1, regs := [.one (.val (.pair (.sl (.pair (.sl (.int .i64)) (.pair (.sl (.int .i64)) .unit))) (.pair (.sl (.sl (.int .i64))) (.pair (.sl (.int .i64)) .unit))))], bx := [], pins := [] }
noncomputable def outsl5Copy : Outs := [(.ret, { n := 1, regs := [.agg [.lit (.row 1012993), .lit (.row 1012994), .lit (.row 1012929)]], bx := [(1012993, .row (.pair (.sl (.int .i64)) (.pair (.sl (.int .i64)) .unit))), (1012994, .row (.sl (.int .i64))), (1012929, .row (.int .i64))], pins := [] })]
noncomputable def Hsl5Copy : Hints := [(0, [(0, { fz := true })]),
  (1, [(3, { nl := [(0, (.pair (.sl (.int .i64)) (.pair (.sl (.int .i64)) .unit))), (1, (.sl (.int .i64)))] })]),
  (5, [(17, { dp := true }), (18, { dp := true })]),
  (9, [(8, { dp := true }), (9, { dp := true })])]
noncomputable def Esl5Copy (N : Nat) : Env := { te := TE, cs := [consl5Ints N] }
noncomputable def dsl5Copy_0 : Desc := { n := 56, regs := [u, .one (.fpt (.pair (.sl (.pair (.sl (.int .i64)) (.pair (.sl (.int .i64)) .unit))) (.pair (.sl (.sl (.int .i64))) (.pair (.sl (.int .i64)) .unit)))), .one (.lit (.ptr 1000064 0)), .one (.lit (.ptr 1013056 0)), .one (.val (.int .i64))], bx := [(1000064, .var [.lit .nil, .lit .nil, .lit .nil]), (1013056, .var [.lit (.row 1012993), .lit (.row 1012994), .lit (.row 1012929)]), (1012993, .row (.pair (.sl (.int .i64)) (.pair (.sl (.int .i64)) .unit))), (1012994, .row (.sl (.int .i64))), (1012929, .row (.int .i64))], pins := [] }
noncomputable def osl5Copy_0 : Outs := [(.exit 0, { n := 56, regs := [u, .one (.fpt (.pair (.sl (.pair (.sl (.int .i64)) (.pair (.sl (.int .i64)) .unit))) (.pair (.sl (.sl (.int .i64))) (.pair (.sl (.int .i64)) .unit)))), .one (.lit (.ptr 1000064 0)), .one (.lit (.ptr 1013056 0))], bx := [(1000064, .var [.lit .nil, .lit .nil, .lit .nil]), (1013056, .var [.lit (.row 1012993), .lit (.row 1012994), .lit (.row 1012929)]), (1012993, .row (.pair (.sl (.int .i64)) (.pair (.sl (.int .i64)) .unit))), (1012994, .row (.sl (.int .i64))), (1012929, .row (.int .i64))], pins := [] })]
noncomputable def dsl5Copy_2 : Desc := { n := 56, regs := [u, .one (.fpt (.pair (.sl (.pair (.sl (.int .i64)) (.pair (.sl (.int .i64)) .unit))) (.pair (.sl (.sl (.int .i64))) (.pair (.sl (.int .i64)) .unit)))), .one (.lit (.ptr 1000064 0)), .one (.lit (.ptr 1013056 0)), u, .one (.val (.int .i64))], bx := [(1000064, .var [.lit .nil, .lit .nil, .lit .nil]), (1013056, .var [.lit (.row 1012993), .lit (.row 1012994), .lit (.row 1012929)]), (1012993, .row (.pair (.sl (.int .i64)) (.pair (.sl (.int .i64)) .unit))), (1012994, .row (.sl (.int .i64))), (1012929, .row (.int .i64))], pins := [] }
noncomputable def osl5Copy_2 : Outs := [(.exit 2, { n := 56, regs := [u, u, .one (.lit (.ptr 1000064 0)), .one (.lit (.ptr 1013056 0))], bx := [(1000064, .var [.lit .nil, .lit .nil, .lit .nil]), (1013056, .var [.lit (.row 1012993), .lit (.row 1012994), .lit (.row 1012929)]), (1012993, .row (.pair (.sl (.int .i64)) (.pair (.sl (.int .i64)) .unit))), (1012994, .row (.sl (.int .i64))), (1012929, .row (.int .i64))], pins := [] })]
noncomputable def lsl5Copy_0 (N : Nat) : Nat → (((List ((List Int) × ((List Int) × Unit))) × ((List (List Int)) × ((List Int) × Unit))) × (Int × ((List ((List Int) × ((List Int) × Unit))) × ((List (List Int)) × ((List Int) × Unit))))) → Option (((List ((List Int) × ((List Int) × Unit))) × ((List (List Int)) × ((List Int) × Unit))) × ((List ((List Int) × ((List Int) × Unit))) × ((List (List Int)) × ((List Int) × Unit))))
  | 0, _ => none
  | n + 1, v =>
    let y3 := decide (v.2.1 < (v.1.1.length : Int))
    bif y3 then
     bif decide (0 ≤ v.2.1) then
     bif decide (v.2.1.toNat < v.1.1.length) then
     let y4 := v.1.1.getD v.2.1.toNat (([] : (List Int)), ([] : (List Int)), ())
     (Fsl5Ints N (y4.1, ())).bind fun r5 =>
     bif decide (0 ≤ v.2.1) then
     bif decide (v.2.1.toNat < v.1.1.length) then
     let y6 := v.1.1.getD v.2.1.toNat (([] : (List Int)), ([] : (List Int)), ())
     (Fsl5Ints N (y6.2.1, ())).bind fun r7 =>
     bif decide (v.2.2.1.length + [(r5.1, r7.1, ())].length ≤ lim) then
     lsl5Copy_0 N n (v.1, w64 (v.2.1 + (1 : Int)), v.2.2.1 ++ [(r5.1, r7.1, ())], v.2.2.2.1, v.2.2.2.2.1, ())
     else none
     else none
     else none
     else none
     else none
    else
    some (v.1, v.2.2.1, v.2.2.2.1, v.2.2.2.2.1, ())
noncomputable def lsl5Copy_2 (N : Nat) : Nat → (((List ((List Int) × ((List Int) × Unit))) × ((List (List Int)) × ((List Int) × Unit))) × (Int × ((List ((List Int) × ((List Int) × Unit))) × ((List (List Int)) × ((List Int) × Unit))))) → Option ((List ((List Int) × ((List Int) × Unit))) × ((List (List Int)) × ((List Int) × Unit)))
  | 0, _ => none
  | n + 1, v =>
    let y9 := decide (v.2.1 < (v.1.2.1.length : Int))
    bif y9 then
     bif decide (0 ≤ v.2.1) then
     bif decide (v.2.1.toNat < v.1.2.1.length) then
     let y10 := v.1.2.1.getD v.2.1.toNat ([] : (List Int))
     (Fsl5Ints N (y10, ())).bind fun r11 =>
     bif decide (v.2.2.2.1.length + [r11.1].length ≤ lim) then
     lsl5Copy_2 N n (v.1, w64 (v.2.1 + (1 : Int)), v.2.2.1, v.2.2.2.1 ++ [r11.1], v.2.2.2.2.1, ())
     else none
     else none
     else none
    else
    some (v.2.2.1, v.2.2.2.1, v.2.2.2.2.1, ())
noncomputable def Fsl5Copy (N : Nat) (x : (((List ((List Int) × ((List Int) × Unit))) × ((List (List Int)) × ((List Int) × Unit))) × Unit)) : Option ((List ((List Int) × ((List Int) × Unit))) × ((List (List Int)) × ((List Int) × Unit))) :=
  (Fsl5Ints N (x.1.2.2.1, ())).bind fun r1 =>
  let y2 := ([] : (List ((List Int) × ((List Int) × Unit))))
  (lsl5Copy_0 N N (x.1, (0 : Int), y2, ([] : (List (List Int))), r1.1, ())).bind fun o8 =>
  (lsl5Copy_2 N N (o8.1, (0 : Int), o8.2.1, o8.2.2.1, o8.2.2.2.1, ())).bind fun o12 =>
  some (o12.1, o12.2.1, o12.2.2.1, ())
noncomputable def consl5Copy (N : Nat) : Con := { f := 62, din := dinsl5Copy, outs := outsl5Copy, F := Fsl5Copy N }
noncomputable def Xsl5Copy (N : Nat) : Ctx := { E := Esl5Copy N, H := Hsl5Copy, lp := [(0, { hd := dsl5Copy_0, outs := osl5Copy_0, run := fun v => lsl5Copy_0 N N v }), (2, { hd := dsl5Copy_2, outs := osl5Copy_2, run := fun v => lsl5Copy_2 N N v })], jn := [] }
noncomputable def bsl5Copy_2 : Code := loopBody (codeOf Try.f62) 1
noncomputable def bsl5Copy_0 : Code := loopBody (codeOf Try.f62) 0
theorem Fsl5Copy_eq (N : Nat) (x : (((List ((List Int) × ((List Int) × Unit))) × ((List (List Int)) × ((List Int) × Unit))) × Unit)) : evFn (Xsl5Copy N) Try.f62 dinsl5Copy outsl5Copy x = Fsl5Copy N x := by kernel_rfl
theorem lsl5Copy_0_eq (N n : Nat) (v : (((List ((List Int) × ((List Int) × Unit))) × ((List (List Int)) × ((List Int) × Unit))) × (Int × ((List ((List Int) × ((List Int) × Unit))) × ((List (List Int)) × ((List Int) × Unit)))))) : lsl5Copy_0 N (n + 1) v = ev (Xsl5Copy N) bsl5Copy_0 (roundK dsl5Copy_0 osl5Copy_0 (lsl5Copy_0 N n)) (dsl5Copy_0.mk' v) := by kernel_rfl
theorem lsl5Copy_2_eq (N n : Nat) (v : (((List ((List Int) × ((List Int) × Unit))) × ((List (List Int)) × ((List Int) × Unit))) × (Int × ((List ((List Int) × ((List Int) × Unit))) × ((List (List Int)) × ((List Int) × Unit)))))) : lsl5Copy_2 N (n + 1) v = ev (Xsl5Copy N) bsl5Copy_2 (roundK dsl5Copy_2 osl5Copy_2 (lsl5Copy_2 N n)) (dsl5Copy_2.mk' v) := by kernel_rfl
theorem cxsl5Copy (N : Nat) : CtxOk Try.prog (Xsl5Copy N) := ⟨⟨TE_ok, List.forall_mem_cons.2 ⟨specsl5Ints N, fun k hk => absurd hk List.not_mem_nil⟩⟩, mixed⟩
theorem lpsl5Copy_0 (N : Nat) : LoopOk Try.prog { hd := dsl5Copy_0, outs := osl5Copy_0, run := fun v => lsl5Copy_0 N N v } bsl5Copy_0 :=
  loop_fuel (d := dsl5Copy_0) (os := osl5Copy_0) (cxsl5Copy N) (loops_at (ids := []) (by kernel_rfl) (trivial)) (lsl5Copy_0 N) (fun _ => rfl) (fun n v => lsl5Copy_0_eq N n v) (fun _ => N)
theorem lpsl5Copy_2 (N : Nat) : LoopOk Try.prog { hd := dsl5Copy_2, outs := osl5Copy_2, run := fun v => lsl5Copy_2 N N v } bsl5Copy_2 :=
  loop_fuel (d := dsl5Copy_2) (os := osl5Copy_2) (cxsl5Copy N) (loops_at (ids := []) (by kernel_rfl) (trivial)) (lsl5Copy_2 N) (fun _ => rfl) (fun n v => lsl5Copy_2_eq N n v) (fun _ => N)
theorem specsl5Copy (N : Nat) : Spec Try.prog (consl5Copy N) :=
  Spec.of_eq (fn_spec (cxsl5Copy N) (f := 62) (fn := Try.f62) (c := codeOf Try.f62) (by kernel_rfl) (by kernel_rfl) (by kernel_rfl) (loops_at (ids := [0, 2]) (by kernel_rfl) ⟨lp_of (lpsl5Copy_0 N), ⟨lp_of (lpsl5Copy_2 N), trivial⟩⟩) (by kernel_rfl)) (fun x r h => (Fsl5Copy_eq N x).trans h)

/-! ### 101: spec.l5Fields -/

noncomputable def dinsl5Fields : Desc := { n := 1, regs := [.one (.val (.int .i64))], bx := [], pins := [] }
noncomputable def outsl5Fields : Outs := [(.ret, { n := 1, regs := [.one (.val .bool)], bx := [], pins := [] })]
noncomputable def Hsl5Fields : Hints := []
noncomputable def Esl5Fields (_N : Nat) : Env := { te := TE, cs := [] }
noncomputable def Fsl5Fields (N : Nat) (x : (Int × Unit)) : Option (Bool × Unit) :=
  bif x.1 == (2 : Int) then
   some (true, ())
  else
  bif x.1 == (3 : Int) then
   some (true, ())
  else
  bif x.1 == (4 : Int) then
   some (true, ())
  else
  bif x.1 == (5 : Int) then
   some (true, ())
  else
  some (x.1 == (7 : Int), ())
noncomputable def consl5Fields (N : Nat) : Con := { f := 101, din := dinsl5Fields, outs := outsl5Fields, F := Fsl5Fields N }
noncomputable def Xsl5Fields (N : Nat) : Ctx := { E := Esl5Fields N, H := Hsl5Fields, lp := [], jn := [] }
theorem Fsl5Fields_eq (N : Nat) (x : (Int × Unit)) : evFn (Xsl5Fields N) Try.f101 dinsl5Fields outsl5Fields x = Fsl5Fields N x := by kernel_rfl
theorem cxsl5Fields (N : Nat) : CtxOk Try.prog (Xsl5Fields N) := ⟨⟨TE_ok, fun k hk => absurd hk List.not_mem_nil⟩, mixed⟩
theorem specsl5Fields (N : Nat) : Spec Try.prog (consl5Fields N) :=
  Spec.of_eq (fn_spec (cxsl5Fields N) (f := 101) (fn := Try.f101) (c := codeOf Try.f101) (by kernel_rfl) (by kernel_rfl) (by kernel_rfl) (loops_at (ids := []) (by kernel_rfl) (trivial)) (by kernel_rfl)) (fun x r h => (Fsl5Fields_eq N x).trans h)

/-! ### 100: spec.l5Begin -/

noncomputable def dinsl5Begin : Desc := { n := 3, regs := [.one (.val (.pair (.int .i64) (.pair (.int .i64) (.pair (.int .i64) (.pair (.int .i64) (.pair (.int .i64) (.pair (.int .i64) (.pair (.pair (.int .i64) (.pair (.int .i64) .unit)) .unit)))))))), .one (.val (.sl (.int .i64))), .one (.val (.int .i64))], bx := [], pins := [] }
noncomputable def outsl5Begin : Outs := [(.ret, { n := 1, regs := [.one (.val (.int .i64))], bx := [], pins := [] })]
noncomputable def Hsl5Begin : Hints := [(0, [(0, { fz := true })])]
noncomputable def Esl5Begin (N : Nat) : Env := { te := TE, cs := [consl5Fields N] }
noncomputable def jsl5Begin_3 : Outs := [(.normal, { n := 107, regs := [u, .one (.val (.sl (.int .i64))), .one (.val (.int .i64)), .one (.fpt (.pair (.int .i64) (.pair (.int .i64) (.pair (.int .i64) (.pair (.int .i64) (.pair (.int .i64) (.pair (.int .i64) (.pair (.pair (.int .i64) (.pair (.int .i64) .unit)) .unit)))))))), u, u, u, .one (.val (.int .i64)), .one (.val .bool)], bx := [], pins := [] })]
noncomputable def jsl5Begin_4 : Outs := [(.normal, { n := 107, regs := [u, .one (.val (.sl (.int .i64))), .one (.val (.int .i64)), .one (.fpt (.pair (.int .i64) (.pair (.int .i64) (.pair (.int .i64) (.pair (.int .i64) (.pair (.int .i64) (.pair (.int .i64) (.pair (.pair (.int .i64) (.pair (.int .i64) .unit)) .unit)))))))), u, u, u, .one (.val (.int .i64)), .one (.val .bool), .one (.val .bool)], bx := [], pins := [] })]
noncomputable def jsl5Begin_5 : Outs := [(.normal, { n := 107, regs := [u, .one (.val (.sl (.int .i64))), .one (.val (.int .i64)), .one (.fpt (.pair (.int .i64) (.pair (.int .i64) (.pair (.int .i64) (.pair (.int .i64) (.pair (.int .i64) (.pair (.int .i64) (.pair (.pair (.int .i64) (.pair (.int .i64) .unit)) .unit)))))))), u, u, u, .one (.val (.int .i64)), .one (.val .bool), .one (.val .bool), .one (.val .bool)], bx := [], pins := [] })]
noncomputable def jsl5Begin_25 : Outs := [(.normal, { n := 107, regs := [u, .one (.val (.sl (.int .i64))), .one (.val (.int .i64)), .one (.fpt (.pair (.int .i64) (.pair (.int .i64) (.pair (.int .i64) (.pair (.int .i64) (.pair (.int .i64) (.pair (.int .i64) (.pair (.pair (.int .i64) (.pair (.int .i64) .unit)) .unit)))))))), u, u, u, .one (.val (.int .i64)), .one (.val .bool), .one (.val .bool), .one (.val .bool)], bx := [], pins := [] })]
noncomputable def jsl5Begin_27 : Outs := [(.normal, { n := 107, regs := [u, .one (.val (.sl (.int .i64))), .one (.val (.int .i64)), .one (.fpt (.pair (.int .i64) (.pair (.int .i64) (.pair (.int .i64) (.pair (.int .i64) (.pair (.int .i64) (.pair (.int .i64) (.pair (.pair (.int .i64) (.pair (.int .i64) .unit)) .unit)))))))), u, u, u, .one (.val (.int .i64))], bx := [], pins := [] }), (.ret, { n := 107, regs := [u, u, u, u, u, u, .one (.val (.int .i64))], bx := [], pins := [] })]
noncomputable def jsl5Begin_29 : Outs := [(.normal, { n := 107, regs := [u, u, u, .one (.fpt (.pair (.int .i64) (.pair (.int .i64) (.pair (.int .i64) (.pair (.int .i64) (.pair (.int .i64) (.pair (.int .i64) (.pair (.pair (.int .i64) (.pair (.int .i64) .unit)) .unit)))))))), u, u, u, .one (.val (.int .i64))], bx := [], pins := [] }), (.ret, { n := 107, regs := [u, u, u, u, u, u, .one (.val (.int .i64))], bx := [], pins := [] })]
noncomputable def Fsl5Begin (N : Nat) (x : ((Int × (Int × (Int × (Int × (Int × (Int × ((Int × (Int × Unit)) × Unit))))))) × ((List Int) × (Int × Unit)))) : Option (Int × Unit) :=
  Option.bind (
   bif decide (x.1.2.1 ≥ (0 : Int)) then
    let y1 := decide (x.1.2.1 < (x.2.1.length : Int))
    some (x.2.1, x.2.2.1, x.1, (x.2.1.length : Int), y1, ())
   else
   some (x.2.1, x.2.2.1, x.1, (x.2.1.length : Int), false, ())) fun o2 =>
  Option.bind (
   bif decide (o2.2.2.1.2.2.1 ≥ (0 : Int)) then
    some (o2.1, o2.2.1, o2.2.2.1, o2.2.2.2.1, o2.2.2.2.2.1, decide (o2.2.2.1.2.2.1 < o2.2.2.2.1), ())
   else
   some (o2.1, o2.2.1, o2.2.2.1, o2.2.2.2.1, o2.2.2.2.2.1, false, ())) fun o3 =>
  Option.bind (
   let y4 := decide (o3.2.2.1.2.2.2.1 ≥ (0 : Int))
   bif y4 then
    let y5 := decide (o3.2.2.1.2.2.2.1 < o3.2.2.2.1)
    some (o3.1, o3.2.1, o3.2.2.1, o3.2.2.2.1, o3.2.2.2.2.1, o3.2.2.2.2.2.1, y5, ())
   else
   some (o3.1, o3.2.1, o3.2.2.1, o3.2.2.2.1, o3.2.2.2.2.1, o3.2.2.2.2.2.1, false, ())) fun o6 =>
  Option.bind (
   bif o6.2.2.1.1 == (1 : Int) then
    some (o6.1, o6.2.1, o6.2.2.1, o6.2.2.2.1, true, true, true, ())
   else
   bif o6.2.2.1.1 == (8 : Int) then
    some (o6.1, o6.2.1, o6.2.2.1, o6.2.2.2.1, decide (o6.2.2.2.1 > (0 : Int)), true, true, ())
   else
   bif o6.2.2.1.1 == (2 : Int) then
    some (o6.1, o6.2.1, o6.2.2.1, o6.2.2.2.1, o6.2.2.2.2.1, true, true, ())
   else
   bif o6.2.2.1.1 == (4 : Int) then
    some (o6.1, o6.2.1, o6.2.2.1, o6.2.2.2.1, o6.2.2.2.2.1, true, true, ())
   else
   bif o6.2.2.1.1 == (5 : Int) then
    some (o6.1, o6.2.1, o6.2.2.1, o6.2.2.2.1, o6.2.2.2.2.1, true, true, ())
   else
   bif o6.2.2.1.1 == (9 : Int) then
    some (o6.1, o6.2.1, o6.2.2.1, o6.2.2.2.1, o6.2.2.2.2.1, true, true, ())
   else
   bif o6.2.2.1.1 == (10 : Int) then
    some (o6.1, o6.2.1, o6.2.2.1, o6.2.2.2.1, o6.2.2.2.2.1, true, true, ())
   else
   bif o6.2.2.1.1 == (11 : Int) then
    some (o6.1, o6.2.1, o6.2.2.1, o6.2.2.2.1, o6.2.2.2.2.1, true, true, ())
   else
   bif o6.2.2.1.1 == (3 : Int) then
    some (o6.1, o6.2.1, o6.2.2.1, o6.2.2.2.1, o6.2.2.2.2.1, o6.2.2.2.2.2.1, true, ())
   else
   bif o6.2.2.1.1 == (6 : Int) then
    some (o6.1, o6.2.1, o6.2.2.1, o6.2.2.2.1, o6.2.2.2.2.1, o6.2.2.2.2.2.1, true, ())
   else
   some (o6.1, o6.2.1, o6.2.2.1, o6.2.2.2.1, o6.2.2.2.2.1, o6.2.2.2.2.2.1, o6.2.2.2.2.2.2.1, ())) fun o7 =>
  Option.bind (
   bif !o7.2.2.2.2.1 then
    some (.inr (((2 : Int), ())))
   else
   bif !o7.2.2.2.2.2.1 then
    some (.inr (((2 : Int), ())))
   else
   bif !o7.2.2.2.2.2.2.1 then
    some (.inr (((2 : Int), ())))
   else
   some (.inl (o7.1, o7.2.1, o7.2.2.1, o7.2.2.2.1, ()))) fun o8 =>
  Sum.elim (fun o9 =>
   Option.bind (
    (Fsl5Fields N (o9.2.2.1.1, ())).bind fun r10 =>
    bif r10.1 then
     bif decide (0 ≤ o9.2.2.1.2.1) then
     bif decide (o9.2.2.1.2.1.toNat < o9.1.length) then
     let y11 := o9.1.getD o9.2.2.1.2.1.toNat (0 : Int)
     bif y11 == o9.2.1 then
      some (.inr (((3 : Int), ())))
     else
     some (.inl (o9.2.2.1, o9.2.2.2.1, ()))
     else none
     else none
    else
    bif o9.2.2.1.1 == (10 : Int) then
     bif decide (0 ≤ o9.2.2.1.2.1) then
     bif decide (o9.2.2.1.2.1.toNat < o9.1.length) then
     let y12 := o9.1.getD o9.2.2.1.2.1.toNat (0 : Int)
     bif y12 == o9.2.1 then
      some (.inr (((3 : Int), ())))
     else
     some (.inl (o9.2.2.1, o9.2.2.2.1, ()))
     else none
     else none
    else
    bif o9.2.2.1.1 == (11 : Int) then
     bif decide (0 ≤ o9.2.2.1.2.1) then
     bif decide (o9.2.2.1.2.1.toNat < o9.1.length) then
     let y13 := o9.1.getD o9.2.2.1.2.1.toNat (0 : Int)
     bif y13 == o9.2.1 then
      some (.inr (((3 : Int), ())))
     else
     some (.inl (o9.2.2.1, o9.2.2.2.1, ()))
     else none
     else none
    else
    some (.inl (o9.2.2.1, o9.2.2.2.1, ()))) fun o14 =>
   Sum.elim (fun o15 =>
    bif o15.1.1 == (1 : Int) then
     bif o15.2.1 == (8 : Int) then
      some ((5 : Int), ())
     else
     some ((0 : Int), ())
    else
    bif o15.1.1 == (2 : Int) then
     bif o15.2.1 == (8 : Int) then
      some ((5 : Int), ())
     else
     some ((0 : Int), ())
    else
    bif o15.1.1 == (9 : Int) then
     bif o15.2.1 == (8 : Int) then
      some ((5 : Int), ())
     else
     some ((0 : Int), ())
    else
    some ((0 : Int), ())) (fun o16 =>
    some (o16.1, ())) o14) (fun o17 =>
   some (o17.1, ())) o8
noncomputable def consl5Begin (N : Nat) : Con := { f := 100, din := dinsl5Begin, outs := outsl5Begin, F := Fsl5Begin N }
noncomputable def Xsl5Begin (N : Nat) : Ctx := { E := Esl5Begin N, H := Hsl5Begin, lp := [], jn := [(3, jsl5Begin_3), (4, jsl5Begin_4), (5, jsl5Begin_5), (25, jsl5Begin_25), (27, jsl5Begin_27), (29, jsl5Begin_29)] }
theorem Fsl5Begin_eq (N : Nat) (x : ((Int × (Int × (Int × (Int × (Int × (Int × ((Int × (Int × Unit)) × Unit))))))) × ((List Int) × (Int × Unit)))) : evFn (Xsl5Begin N) Try.f100 dinsl5Begin outsl5Begin x = Fsl5Begin N x := by kernel_rfl
theorem cxsl5Begin (N : Nat) : CtxOk Try.prog (Xsl5Begin N) := ⟨⟨TE_ok, List.forall_mem_cons.2 ⟨specsl5Fields N, fun k hk => absurd hk List.not_mem_nil⟩⟩, mixed⟩
theorem specsl5Begin (N : Nat) : Spec Try.prog (consl5Begin N) :=
  Spec.of_eq (fn_spec (cxsl5Begin N) (f := 100) (fn := Try.f100) (c := codeOf Try.f100) (by kernel_rfl) (by kernel_rfl) (by kernel_rfl) (loops_at (ids := []) (by kernel_rfl) (trivial)) (by kernel_rfl)) (fun x r h => (Fsl5Begin_eq N x).trans h)

/-! ### 102: spec.l5Field -/

noncomputable def dinsl5Field : Desc := { n := 3, regs := [.one (.val (.pair (.int .i64) (.pair (.int .i64) (.pair (.int .i64) (.pair (.int .i64) (.pair (.int .i64) (.pair (.int .i64) (.pair (.pair (.int .i64) (.pair (.int .i64) .unit)) .unit)))))))), .one (.val (.int .i64)), .one (.val (.int .i64))], bx := [], pins := [] }
noncomputable def outsl5Field : Outs := [(.ret, { n := 1, regs := [.one (.val .bool)], bx := [], pins := [] })]
noncomputable def Hsl5Field : Hints := [(0, [(0, { fz := true })])]
noncomputable def Esl5Field (_N : Nat) : Env := { te := TE, cs := [] }
noncomputable def jsl5Field_3 : Outs := [(.normal, { n := 33, regs := [u, .one (.val (.int .i64)), u, .one (.fpt (.pair (.int .i64) (.pair (.int .i64) (.pair (.int .i64) (.pair (.int .i64) (.pair (.int .i64) (.pair (.int .i64) (.pair (.pair (.int .i64) (.pair (.int .i64) .unit)) .unit))))))))], bx := [], pins := [] }), (.ret, { n := 33, regs := [u, u, u, u, u, u, .one (.val .bool)], bx := [], pins := [] })]
noncomputable def Fsl5Field (N : Nat) (x : ((Int × (Int × (Int × (Int × (Int × (Int × ((Int × (Int × Unit)) × Unit))))))) × (Int × (Int × Unit)))) : Option (Bool × Unit) :=
  Option.bind (
   bif x.1.1 == (4 : Int) then
    bif decide (x.1.2.2.2.2.1 ≥ (0 : Int)) then
     some (.inr ((decide (x.1.2.2.2.2.1 < x.2.2.1), ())))
    else
    some (.inr ((false, ())))
   else
   bif x.1.1 == (5 : Int) then
    bif decide (x.1.2.2.2.2.1 ≥ (0 : Int)) then
     some (.inr ((decide (x.1.2.2.2.2.1 < x.2.2.1), ())))
    else
    some (.inr ((false, ())))
   else
   some (.inl (x.2.1, x.1, ()))) fun o1 =>
  Sum.elim (fun o2 =>
   let y3 := decide (o2.2.1.2.2.2.2.1 ≥ (0 : Int))
   bif y3 then
    some (decide (o2.2.1.2.2.2.2.1 < o2.1), ())
   else
   some (false, ())) (fun o4 =>
   some (o4.1, ())) o1
noncomputable def consl5Field (N : Nat) : Con := { f := 102, din := dinsl5Field, outs := outsl5Field, F := Fsl5Field N }
noncomputable def Xsl5Field (N : Nat) : Ctx := { E := Esl5Field N, H := Hsl5Field, lp := [], jn := [(3, jsl5Field_3)] }
theorem Fsl5Field_eq (N : Nat) (x : ((Int × (Int × (Int × (Int × (Int × (Int × ((Int × (Int × Unit)) × Unit))))))) × (Int × (Int × Unit)))) : evFn (Xsl5Field N) Try.f102 dinsl5Field outsl5Field x = Fsl5Field N x := by kernel_rfl
theorem cxsl5Field (N : Nat) : CtxOk Try.prog (Xsl5Field N) := ⟨⟨TE_ok, fun k hk => absurd hk List.not_mem_nil⟩, mixed⟩
theorem specsl5Field (N : Nat) : Spec Try.prog (consl5Field N) :=
  Spec.of_eq (fn_spec (cxsl5Field N) (f := 102) (fn := Try.f102) (c := codeOf Try.f102) (by kernel_rfl) (by kernel_rfl) (by kernel_rfl) (loops_at (ids := []) (by kernel_rfl) (trivial)) (by kernel_rfl)) (fun x r h => (Fsl5Field_eq N x).trans h)

/-! ### 103: spec.l5Pins -/

noncomputable def dinsl5Pins : Desc := { n := 3, regs := [.one (.val (.sl (.int .i64))), .one (.val (.int .i64)), .one (.val (.int .i64))], bx := [], pins := [] }
noncomputable def outsl5Pins : Outs := [(.ret, { n := 2, regs := [.one (.lit (.row 1038400)), .one (.val .bool)], bx := [(1038400, .row (.int .i64))], pins := [] })]
noncomputable def Hsl5Pins : Hints := [(3, [(0, { nl := [(0, (.int .i64))] })]),
  (12, [(0, { nl := [(0, (.int .i64))] })])]
noncomputable def Esl5Pins (N : Nat) : Env := { te := TE, cs := [consl5Ints N] }
noncomputable def dsl5Pins_0 : Desc := { n := 44, regs := [.one (.val (.sl (.int .i64))), u, .one (.val (.int .i64)), u, u, u, u, u, .one (.val (.int .i64)), .one (.val (.int .i64))], bx := [], pins := [] }
noncomputable def osl5Pins_0 : Outs := [(.exit 0, { n := 44, regs := [.one (.val (.sl (.int .i64))), u, u, u, u, u, u, u, .one (.val (.int .i64))], bx := [], pins := [] })]
noncomputable def lsl5Pins_0 (N : Nat) : Nat → ((List Int) × (Int × (Int × (Int × Unit)))) → Option ((List Int) × (Int × Unit))
  | 0, _ => none
  | n + 1, v =>
    let y2 := decide (v.2.2.2.1 < (v.1.length : Int))
    bif y2 then
     bif decide (0 ≤ v.2.2.2.1) then
     bif decide (v.2.2.2.1.toNat < v.1.length) then
     let y3 := (v.1.getD v.2.2.2.1.toNat (0 : Int)) == v.2.1
     bif y3 then
      lsl5Pins_0 N n (v.1, v.2.1, v.2.2.2.1, w64 (v.2.2.2.1 + (1 : Int)), ())
     else
     lsl5Pins_0 N n (v.1, v.2.1, v.2.2.1, w64 (v.2.2.2.1 + (1 : Int)), ())
     else none
     else none
    else
    some (v.1, v.2.2.1, ())
noncomputable def Fsl5Pins (N : Nat) (x : ((List Int) × (Int × (Int × Unit)))) : Option (Bool × ((List Int) × Unit)) :=
  bif x.2.1 == (10 : Int) then
   bif (x.1.length : Int) == (8 : Int) then
    some (false, ([] : (List Int)), ())
   else
   (Fsl5Ints N (x.1, ())).bind fun r1 =>
   bif decide (r1.1.length + [x.2.2.1].length ≤ lim) then
   some (true, r1.1 ++ [x.2.2.1], ())
   else none
  else
  (lsl5Pins_0 N N (x.1, x.2.2.1, (-1 : Int), (0 : Int), ())).bind fun o4 =>
  bif decide (o4.2.1 < (0 : Int)) then
   some (false, ([] : (List Int)), ())
  else
  bif decide (0 ≤ o4.2.1) then
  bif decide (o4.2.1 ≤ (o4.1.length : Int)) then
  bif decide (0 ≤ (0 : Int)) then
  bif decide ((0 : Int) ≤ o4.2.1) then
  let y5 := (o4.1.drop (0 : Int).toNat).take (o4.2.1.toNat - (0 : Int).toNat)
  (Fsl5Ints N (y5, ())).bind fun r6 =>
  bif decide (0 ≤ (o4.1.length : Int)) then
  bif decide ((o4.1.length : Int) ≤ (o4.1.length : Int)) then
  bif decide (0 ≤ (w64 (o4.2.1 + (1 : Int)))) then
  bif decide ((w64 (o4.2.1 + (1 : Int))) ≤ (o4.1.length : Int)) then
  let y7 := (o4.1.drop (w64 (o4.2.1 + (1 : Int))).toNat).take ((o4.1.length : Int).toNat - (w64 (o4.2.1 + (1 : Int))).toNat)
  bif decide (r6.1.length + y7.length ≤ lim) then
  some (true, r6.1 ++ y7, ())
  else none
  else none
  else none
  else none
  else none
  else none
  else none
  else none
  else none
noncomputable def consl5Pins (N : Nat) : Con := { f := 103, din := dinsl5Pins, outs := outsl5Pins, F := Fsl5Pins N }
noncomputable def Xsl5Pins (N : Nat) : Ctx := { E := Esl5Pins N, H := Hsl5Pins, lp := [(0, { hd := dsl5Pins_0, outs := osl5Pins_0, run := fun v => lsl5Pins_0 N N v })], jn := [] }
noncomputable def bsl5Pins_0 : Code := loopBody (codeOf Try.f103) 0
theorem Fsl5Pins_eq (N : Nat) (x : ((List Int) × (Int × (Int × Unit)))) : evFn (Xsl5Pins N) Try.f103 dinsl5Pins outsl5Pins x = Fsl5Pins N x := by kernel_rfl
theorem lsl5Pins_0_eq (N n : Nat) (v : ((List Int) × (Int × (Int × (Int × Unit))))) : lsl5Pins_0 N (n + 1) v = ev (Xsl5Pins N) bsl5Pins_0 (roundK dsl5Pins_0 osl5Pins_0 (lsl5Pins_0 N n)) (dsl5Pins_0.mk' v) := by kernel_rfl
theorem cxsl5Pins (N : Nat) : CtxOk Try.prog (Xsl5Pins N) := ⟨⟨TE_ok, List.forall_mem_cons.2 ⟨specsl5Ints N, fun k hk => absurd hk List.not_mem_nil⟩⟩, mixed⟩
theorem lpsl5Pins_0 (N : Nat) : LoopOk Try.prog { hd := dsl5Pins_0, outs := osl5Pins_0, run := fun v => lsl5Pins_0 N N v } bsl5Pins_0 :=
  loop_fuel (d := dsl5Pins_0) (os := osl5Pins_0) (cxsl5Pins N) (loops_at (ids := []) (by kernel_rfl) (trivial)) (lsl5Pins_0 N) (fun _ => rfl) (fun n v => lsl5Pins_0_eq N n v) (fun _ => N)
theorem specsl5Pins (N : Nat) : Spec Try.prog (consl5Pins N) :=
  Spec.of_eq (fn_spec (cxsl5Pins N) (f := 103) (fn := Try.f103) (c := codeOf Try.f103) (by kernel_rfl) (by kernel_rfl) (by kernel_rfl) (loops_at (ids := [0]) (by kernel_rfl) ⟨lp_of (lpsl5Pins_0 N), trivial⟩) (by kernel_rfl)) (fun x r h => (Fsl5Pins_eq N x).trans h)

/-! ### 104: spec.l5One -/

noncomputable def dinsl5One : Desc := { n := 1, regs := [.one (.val .bool)], bx := [], pins := [] }
noncomputable def outsl5One : Outs := [(.ret, { n := 1, regs := [.one (.val (.int .i64))], bx := [], pins := [] })]
noncomputable def Hsl5One : Hints := []
noncomputable def Esl5One (_N : Nat) : Env := { te := TE, cs := [] }
noncomputable def Fsl5One (N : Nat) (x : (Bool × Unit)) : Option (Int × Unit) :=
  bif x.1 then
   some ((1 : Int), ())
  else
  some ((0 : Int), ())
noncomputable def consl5One (N : Nat) : Con := { f := 104, din := dinsl5One, outs := outsl5One, F := Fsl5One N }
noncomputable def Xsl5One (N : Nat) : Ctx := { E := Esl5One N, H := Hsl5One, lp := [], jn := [] }
theorem Fsl5One_eq (N : Nat) (x : (Bool × Unit)) : evFn (Xsl5One N) Try.f104 dinsl5One outsl5One x = Fsl5One N x := by kernel_rfl
theorem cxsl5One (N : Nat) : CtxOk Try.prog (Xsl5One N) := ⟨⟨TE_ok, fun k hk => absurd hk List.not_mem_nil⟩, mixed⟩
theorem specsl5One (N : Nat) : Spec Try.prog (consl5One N) :=
  Spec.of_eq (fn_spec (cxsl5One N) (f := 104) (fn := Try.f104) (c := codeOf Try.f104) (by kernel_rfl) (by kernel_rfl) (by kernel_rfl) (loops_at (ids := []) (by kernel_rfl) (trivial)) (by kernel_rfl)) (fun x r h => (Fsl5One_eq N x).trans h)

/-! ### 49: spec.GraphDo -/

noncomputable def dinsGraphDo : Desc := { n := 3, regs := [.one (.val (.pair (.sl (.pair (.sl (.int .i64)) (.pair (.sl (.int .i64)) .unit))) (.pair (.sl (.sl (.int .i64))) (.pair (.sl (.int .i64)) .unit)))), .one (.val (.int .i64)), .one (.val (.pair (.int .i64) (.pair (.int .i64) (.pair (.int .i64) (.pair (.int .i64) (.pair (.int .i64) (.pair (.int .i64) (.pair (.pair (.int .i64) (.pair (.int .i64) .unit)) .unit))))))))], bx := [], pins := [] }
noncomputable def outsGraphDo : Outs := [(.ret, { n := 3, regs := [.agg [.lit (.row 1038465), .lit (.row 1038466), .lit (.row 1141377)], .one (.val (.int .i64)), .one (.val (.int .i64))], bx := [(1038465, .row (.pair (.sl (.int .i64)) (.pair (.sl (.int .i64)) .unit))), (1038466, .row (.sl (.int .i64))), (1141377, .row (.int .i64))], pins := [] })]
noncomputable def HsGraphDo : Hints := [(0, [(0, { fz := true }), (1, { fz := true })]),
  (1, [(16, { con := 1 })]),
  (2, [(0, { nl := [(0, (.pair (.sl (.int .i64)) (.pair (.sl (.int .i64)) .unit))), (1, (.sl (.int .i64))), (2, (.int .i64))] })]),
  (3, [(1, { con := 2 })]),
  (5, [(2, { con := 3 })]),
  (6, [(5, { con := 4 }), (31, { con := 5 })]),
  (11, [(9, { con := 6 })]),
  (20, [(4, { nl := [(0, (.int .i64))] })]),
  (25, [(3, { dp := true }), (4, { dp := true })]),
  (36, [(11, { con := 7 })])]
noncomputable def EsGraphDo (N : Nat) : Env := { te := TE, cs := [consGraphOk N, consOpOk N, consl5Copy N, consl5Begin N, consl5Fields N, consl5Field N, consl5Pins N, consl5One N] }
noncomputable def dsGraphDo_1 : Desc := { n := 323, regs := [u, .one (.val (.int .i64)), u, u, u, .one (.fpt (.pair (.int .i64) (.pair (.int .i64) (.pair (.int .i64) (.pair (.int .i64) (.pair (.int .i64) (.pair (.int .i64) (.pair (.pair (.int .i64) (.pair (.int .i64) .unit)) .unit)))))))), .one (.lit (.ptr 1000128 0)), u, u, .one (.lit (.ptr 1038528 0)), .one (.nrow 1038466 0), u, u, u, .one (.val (.int .i64)), .one (.lit (.ptr 1256320 0)), .one (.val (.int .i64))], bx := [(1000128, .var [.lit .nil, .lit .nil, .lit .nil]), (1038528, .var [.lit (.row 1038465), .lit (.row 1038466), .lit (.row 1141377)]), (1038465, .row (.pair (.sl (.int .i64)) (.pair (.sl (.int .i64)) .unit))), (1038466, .row (.sl (.int .i64))), (1141377, .row (.int .i64)), (1256320, .var [.lit (.row 1256257), .lit (.row 1256192)]), (1256257, .row (.int .i64)), (1256192, .row (.int .i64))], pins := [] }
noncomputable def osGraphDo_1 : Outs := [(.exit 1, { n := 323, regs := [u, .one (.val (.int .i64)), u, u, u, u, .one (.lit (.ptr 1000128 0)), u, u, .one (.lit (.ptr 1038528 0)), .one (.nrow 1038466 0), u, u, u, .one (.val (.int .i64)), .one (.lit (.ptr 1256320 0))], bx := [(1000128, .var [.lit .nil, .lit .nil, .lit .nil]), (1038528, .var [.lit (.row 1038465), .lit (.row 1038466), .lit (.row 1141377)]), (1038465, .row (.pair (.sl (.int .i64)) (.pair (.sl (.int .i64)) .unit))), (1038466, .row (.sl (.int .i64))), (1141377, .row (.int .i64)), (1256320, .var [.lit (.row 1256257), .lit (.row 1256192)]), (1256257, .row (.int .i64)), (1256192, .row (.int .i64))], pins := [] })]
noncomputable def jsGraphDo_3 : Outs := [(.normal, { n := 323, regs := [u, .one (.val (.int .i64)), u, .one (.fpt (.pair (.sl (.pair (.sl (.int .i64)) (.pair (.sl (.int .i64)) .unit))) (.pair (.sl (.sl (.int .i64))) (.pair (.sl (.int .i64)) .unit)))), u, .one (.fpt (.pair (.int .i64) (.pair (.int .i64) (.pair (.int .i64) (.pair (.int .i64) (.pair (.int .i64) (.pair (.int .i64) (.pair (.pair (.int .i64) (.pair (.int .i64) .unit)) .unit)))))))), .one (.lit (.ptr 1000128 0))], bx := [(1000128, .var [.lit .nil, .lit .nil, .lit .nil])], pins := [] }), (.ret, { n := 323, regs := [u, u, u, u, u, u, .one (.lit (.ptr 1000128 0)), .one (.val (.int .i64)), .one (.val (.int .i64))], bx := [(1000128, .var [.lit (.row 1025601), .lit (.row 1025602), .lit (.row 1025603)]), (1025601, .row (.pair (.sl (.int .i64)) (.pair (.sl (.int .i64)) .unit))), (1025602, .row (.sl (.int .i64))), (1025603, .row (.int .i64))], pins := [] })]
noncomputable def jsGraphDo_8 : Outs := [(.normal, { n := 323, regs := [u, .one (.val (.int .i64)), u, u, u, .one (.fpt (.pair (.int .i64) (.pair (.int .i64) (.pair (.int .i64) (.pair (.int .i64) (.pair (.int .i64) (.pair (.int .i64) (.pair (.pair (.int .i64) (.pair (.int .i64) .unit)) .unit)))))))), .one (.lit (.ptr 1000128 0)), u, u, .one (.lit (.ptr 1038528 0)), .one (.nrow 1038466 0), .one (.val (.int .i64))], bx := [(1000128, .var [.lit .nil, .lit .nil, .lit .nil]), (1038528, .var [.lit (.row 1038465), .lit (.row 1038466), .lit (.row 1038467)]), (1038465, .row (.pair (.sl (.int .i64)) (.pair (.sl (.int .i64)) .unit))), (1038466, .row (.sl (.int .i64))), (1038467, .row (.int .i64))], pins := [] })]
noncomputable def jsGraphDo_10 : Outs := [(.normal, { n := 323, regs := [u, .one (.val (.int .i64)), u, u, u, .one (.fpt (.pair (.int .i64) (.pair (.int .i64) (.pair (.int .i64) (.pair (.int .i64) (.pair (.int .i64) (.pair (.int .i64) (.pair (.pair (.int .i64) (.pair (.int .i64) .unit)) .unit)))))))), .one (.lit (.ptr 1000128 0)), u, u, .one (.lit (.ptr 1038528 0)), .one (.nrow 1038466 0), .one (.val (.int .i64))], bx := [(1000128, .var [.lit .nil, .lit .nil, .lit .nil]), (1038528, .var [.lit (.row 1038465), .lit (.row 1038466), .lit (.row 1038467)]), (1038465, .row (.pair (.sl (.int .i64)) (.pair (.sl (.int .i64)) .unit))), (1038466, .row (.sl (.int .i64))), (1038467, .row (.int .i64))], pins := [] })]
noncomputable def jsGraphDo_15 : Outs := [(.normal, { n := 323, regs := [u, .one (.val (.int .i64)), u, u, u, .one (.fpt (.pair (.int .i64) (.pair (.int .i64) (.pair (.int .i64) (.pair (.int .i64) (.pair (.int .i64) (.pair (.int .i64) (.pair (.pair (.int .i64) (.pair (.int .i64) .unit)) .unit)))))))), .one (.lit (.ptr 1000128 0)), u, u, .one (.lit (.ptr 1038528 0)), .one (.nrow 1038466 0), .one (.val (.int .i64))], bx := [(1000128, .var [.lit .nil, .lit .nil, .lit .nil]), (1038528, .var [.lit (.row 1038465), .lit (.row 1038466), .lit (.row 1141377)]), (1038465, .row (.pair (.sl (.int .i64)) (.pair (.sl (.int .i64)) .unit))), (1038466, .row (.sl (.int .i64))), (1141377, .row (.int .i64))], pins := [] }), (.ret, { n := 323, regs := [u, u, u, u, u, u, .one (.lit (.ptr 1000128 0)), .one (.val (.int .i64)), .one (.val (.int .i64))], bx := [(1000128, .var [.lit (.row 1038465), .lit (.row 1038466), .lit (.row 1038467)]), (1038465, .row (.pair (.sl (.int .i64)) (.pair (.sl (.int .i64)) .unit))), (1038466, .row (.sl (.int .i64))), (1038467, .row (.int .i64))], pins := [] })]
noncomputable def jsGraphDo_45 : Outs := [(.normal, { n := 323, regs := [u, u, u, u, u, u, .one (.lit (.ptr 1000128 0)), u, u, .one (.lit (.ptr 1038528 0)), u, u, u, u, .one (.val (.int .i64))], bx := [(1000128, .var [.lit .nil, .lit .nil, .lit .nil]), (1038528, .var [.lit (.row 1038465), .lit (.row 1038466), .lit (.row 1141377)]), (1038465, .row (.pair (.sl (.int .i64)) (.pair (.sl (.int .i64)) .unit))), (1038466, .row (.sl (.int .i64))), (1141377, .row (.int .i64))], pins := [] })]
noncomputable def lsGraphDo_1 (N : Nat) : Nat → (Int × ((Int × (Int × (Int × (Int × (Int × (Int × ((Int × (Int × Unit)) × Unit))))))) × (Int × (Int × (Int × ((List ((List Int) × ((List Int) × Unit))) × ((List (List Int)) × ((List Int) × ((List Int) × ((List Int) × Unit)))))))))) → Option (Int × (Int × (Int × ((List ((List Int) × ((List Int) × Unit))) × ((List (List Int)) × ((List Int) × ((List Int) × ((List Int) × Unit))))))))
  | 0, _ => none
  | n + 1, v =>
    let y28 := decide (v.2.2.2.2.1 < v.2.1.2.2.2.2.2.2.1.1)
    bif y28 then
     bif decide (v.2.2.2.2.2.2.2.2.1.length + [(-1 : Int)].length ≤ lim) then
     lsGraphDo_1 N n (v.1, v.2.1, Int.ofNat v.2.2.1.toNat, v.2.2.2.1, w64 (v.2.2.2.2.1 + (1 : Int)), v.2.2.2.2.2.1, v.2.2.2.2.2.2.1, v.2.2.2.2.2.2.2.1, v.2.2.2.2.2.2.2.2.1 ++ [(-1 : Int)], v.2.2.2.2.2.2.2.2.2.1, ())
     else none
    else
    some (v.1, Int.ofNat v.2.2.1.toNat, v.2.2.2.1, v.2.2.2.2.2.1, v.2.2.2.2.2.2.1, v.2.2.2.2.2.2.2.1, v.2.2.2.2.2.2.2.2.1, v.2.2.2.2.2.2.2.2.2.1, ())
noncomputable def FsGraphDo (N : Nat) (x : (((List ((List Int) × ((List Int) × Unit))) × ((List (List Int)) × ((List Int) × Unit))) × (Int × ((Int × (Int × (Int × (Int × (Int × (Int × ((Int × (Int × Unit)) × Unit))))))) × Unit)))) : Option (Int × (Int × ((List ((List Int) × ((List Int) × Unit))) × ((List (List Int)) × ((List Int) × Unit))))) :=
  Option.bind (
   (FsGraphOk N (x.1, ())).bind fun r1 =>
   bif !r1.1 then
    let y2 := ([] : (List ((List Int) × ((List Int) × Unit))))
    some (.inr (((0 : Int), (1 : Int), y2, ([] : (List (List Int))), ([] : (List Int)), ())))
   else
   bif decide (x.2.1 < (0 : Int)) then
    let y3 := ([] : (List ((List Int) × ((List Int) × Unit))))
    some (.inr (((0 : Int), (1 : Int), y3, ([] : (List (List Int))), ([] : (List Int)), ())))
   else
   let y4 := decide (x.2.1 ≥ (x.1.2.1.length : Int))
   bif y4 then
    let y5 := ([] : (List ((List Int) × ((List Int) × Unit))))
    some (.inr (((0 : Int), (1 : Int), y5, ([] : (List (List Int))), ([] : (List Int)), ())))
   else
   (FsOpOk N (x.2.2.1, ())).bind fun r6 =>
   bif !r6.1 then
    let y7 := ([] : (List ((List Int) × ((List Int) × Unit))))
    some (.inr (((0 : Int), (1 : Int), y7, ([] : (List (List Int))), ([] : (List Int)), ())))
   else
   some (.inl (x.2.1, x.1, x.2.2.1, ()))) fun o8 =>
  Sum.elim (fun o9 =>
   (Fsl5Copy N (o9.2.1, ())).bind fun r10 =>
   bif decide (0 ≤ o9.1) then
   bif decide (o9.1.toNat < r10.2.1.length) then
   (Fsl5Begin N (o9.2.2.1, r10.2.1.getD o9.1.toNat ([] : (List Int)), (-1 : Int), ())).bind fun r11 =>
   Option.bind (
    bif r11.1 == (0 : Int) then
     (Fsl5Fields N (o9.2.2.1.1, ())).bind fun r12 =>
     bif r12.1 then
      bif decide (0 ≤ o9.2.2.1.2.1) then
      bif decide (o9.2.2.1.2.1.toNat < (r10.2.1.getD o9.1.toNat ([] : (List Int))).length) then
      let y13 := (r10.2.1.getD o9.1.toNat ([] : (List Int))).getD o9.2.2.1.2.1.toNat (0 : Int)
      bif decide (0 ≤ y13) then
      bif decide (y13.toNat < r10.1.length) then
      let y14 := (((r10.1.getD y13.toNat (([] : (List Int)), ([] : (List Int)), ())).1).length : Int)
      bif decide (0 ≤ o9.2.2.1.2.1) then
      bif decide (o9.2.2.1.2.1.toNat < (r10.2.1.getD o9.1.toNat ([] : (List Int))).length) then
      let y15 := (r10.2.1.getD o9.1.toNat ([] : (List Int))).getD o9.2.2.1.2.1.toNat (0 : Int)
      bif decide (0 ≤ y15) then
      bif decide (y15.toNat < r10.1.length) then
      let y16 := ((((r10.1.getD y15.toNat (([] : (List Int)), ([] : (List Int)), ())).2).1).length : Int)
      (Fsl5Field N (o9.2.2.1, y14, y16, ())).bind fun r17 =>
      bif !r17.1 then
       some (o9.1, o9.2.2.1, Int.ofNat o9.1.toNat, (4 : Int), r10.1, r10.2.1, r10.2.2.1, ())
      else
      some (o9.1, o9.2.2.1, Int.ofNat o9.1.toNat, r11.1, r10.1, r10.2.1, r10.2.2.1, ())
      else none
      else none
      else none
      else none
      else none
      else none
      else none
      else none
     else
     some (o9.1, o9.2.2.1, Int.ofNat o9.1.toNat, r11.1, r10.1, r10.2.1, r10.2.2.1, ())
    else
    some (o9.1, o9.2.2.1, Int.ofNat o9.1.toNat, r11.1, r10.1, r10.2.1, r10.2.2.1, ())) fun o18 =>
   Option.bind (
    bif o18.2.2.2.1 == (0 : Int) then
     bif o18.2.1.1 == (1 : Int) then
      let y19 := (o18.2.2.2.2.1.length : Int) == (200 : Int)
      bif y19 then
       some (o18.1, o18.2.1, Int.ofNat o18.2.2.1.toNat, (6 : Int), o18.2.2.2.2.1, o18.2.2.2.2.2.1, o18.2.2.2.2.2.2.1, ())
      else
      some (o18.1, o18.2.1, Int.ofNat o18.2.2.1.toNat, o18.2.2.2.1, o18.2.2.2.2.1, o18.2.2.2.2.2.1, o18.2.2.2.2.2.2.1, ())
     else
     some (o18.1, o18.2.1, Int.ofNat o18.2.2.1.toNat, o18.2.2.2.1, o18.2.2.2.2.1, o18.2.2.2.2.2.1, o18.2.2.2.2.2.2.1, ())
    else
    some (o18.1, o18.2.1, Int.ofNat o18.2.2.1.toNat, o18.2.2.2.1, o18.2.2.2.2.1, o18.2.2.2.2.2.1, o18.2.2.2.2.2.2.1, ())) fun o20 =>
   Option.bind (
    bif o20.2.2.2.1 == (0 : Int) then
     bif o20.2.1.1 == (10 : Int) then
      bif decide (0 ≤ o20.2.1.2.1) then
      bif decide (o20.2.1.2.1.toNat < (o20.2.2.2.2.2.1.getD o20.2.2.1.toNat ([] : (List Int))).length) then
      let y21 := (o20.2.2.2.2.2.1.getD o20.2.2.1.toNat ([] : (List Int))).getD o20.2.1.2.1.toNat (0 : Int)
      (Fsl5Pins N (o20.2.2.2.2.2.2.1, o20.2.1.1, y21, ())).bind fun r22 =>
      bif !r22.1 then
       some (.inr (((0 : Int), (7 : Int), o20.2.2.2.2.1, o20.2.2.2.2.2.1, o20.2.2.2.2.2.2.1, ())))
      else
      some (.inl (o20.1, o20.2.1, Int.ofNat o20.2.2.1.toNat, o20.2.2.2.1, o20.2.2.2.2.1, o20.2.2.2.2.2.1, r22.2.1, ()))
      else none
      else none
     else
     bif o20.2.1.1 == (11 : Int) then
      bif decide (0 ≤ o20.2.1.2.1) then
      bif decide (o20.2.1.2.1.toNat < (o20.2.2.2.2.2.1.getD o20.2.2.1.toNat ([] : (List Int))).length) then
      let y23 := (o20.2.2.2.2.2.1.getD o20.2.2.1.toNat ([] : (List Int))).getD o20.2.1.2.1.toNat (0 : Int)
      (Fsl5Pins N (o20.2.2.2.2.2.2.1, o20.2.1.1, y23, ())).bind fun r24 =>
      bif !r24.1 then
       some (.inr (((0 : Int), (7 : Int), o20.2.2.2.2.1, o20.2.2.2.2.2.1, o20.2.2.2.2.2.2.1, ())))
      else
      some (.inl (o20.1, o20.2.1, Int.ofNat o20.2.2.1.toNat, o20.2.2.2.1, o20.2.2.2.2.1, o20.2.2.2.2.2.1, r24.2.1, ()))
      else none
      else none
     else
     some (.inl (o20.1, o20.2.1, Int.ofNat o20.2.2.1.toNat, o20.2.2.2.1, o20.2.2.2.2.1, o20.2.2.2.2.2.1, o20.2.2.2.2.2.2.1, ()))
    else
    some (.inl (o20.1, o20.2.1, Int.ofNat o20.2.2.1.toNat, o20.2.2.2.1, o20.2.2.2.2.1, o20.2.2.2.2.2.1, o20.2.2.2.2.2.2.1, ()))) fun o25 =>
   Sum.elim (fun o26 =>
    bif o26.2.2.2.1 != (0 : Int) then
     some ((0 : Int), o26.2.2.2.1, o26.2.2.2.2.1, o26.2.2.2.2.2.1, o26.2.2.2.2.2.2.1, ())
    else
    Option.bind (
     bif o26.2.1.1 == (1 : Int) then
      bif decide (0 ≤ o26.2.1.2.2.2.2.2.2.1.2.1) then
      bif decide (o26.2.1.2.2.2.2.2.2.1.2.1.toNat ≤ lim) then
      let y27 := List.replicate o26.2.1.2.2.2.2.2.2.1.2.1.toNat (0 : Int)
      (lsGraphDo_1 N N (o26.1, o26.2.1, Int.ofNat o26.2.2.1.toNat, (0 : Int), (0 : Int), o26.2.2.2.2.1, o26.2.2.2.2.2.1, o26.2.2.2.2.2.2.1, ([] : (List Int)), y27, ())).bind fun o29 =>
      let y30 := [(o29.2.2.2.2.2.2.1, o29.2.2.2.2.2.2.2.1, ())]
      bif decide (o29.2.2.2.1.length + y30.length ≤ lim) then
      let y31 := w64 (((o29.2.2.2.1 ++ y30).length : Int) - (1 : Int))
      bif decide ((o29.2.2.2.2.1.getD o29.2.1.toNat ([] : (List Int))).length + [y31].length ≤ lim) then
      let y32 := (o29.2.2.2.2.1.getD o29.2.1.toNat ([] : (List Int))) ++ [y31]
      bif decide (0 ≤ o29.1) then
      bif decide (o29.1.toNat < o29.2.2.2.2.1.length) then
      bif decide (o29.2.1.toNat = o29.1.toNat) then
      some (o29.2.2.1, o29.2.2.2.1 ++ y30, o29.2.2.2.2.1.set o29.1.toNat y32, o29.2.2.2.2.2.1, ())
      else none
      else none
      else none
      else none
      else none
      else none
      else none
     else
     bif o26.2.1.1 == (2 : Int) then
      bif decide (0 ≤ o26.2.1.2.1) then
      bif decide (o26.2.1.2.1.toNat < (o26.2.2.2.2.2.1.getD o26.2.2.1.toNat ([] : (List Int))).length) then
      let y33 := (o26.2.2.2.2.2.1.getD o26.2.2.1.toNat ([] : (List Int))).getD o26.2.1.2.1.toNat (0 : Int)
      bif decide (0 ≤ y33) then
      bif decide (y33.toNat < o26.2.2.2.2.1.length) then
      bif decide (0 ≤ o26.2.1.2.2.2.2.1) then
      bif decide (o26.2.1.2.2.2.2.1.toNat < ((o26.2.2.2.2.1.getD y33.toNat (([] : (List Int)), ([] : (List Int)), ())).1).length) then
      let y34 := ((o26.2.2.2.2.1.getD y33.toNat (([] : (List Int)), ([] : (List Int)), ())).1).getD o26.2.1.2.2.2.2.1.toNat (0 : Int)
      bif decide ((o26.2.2.2.2.2.1.getD o26.2.2.1.toNat ([] : (List Int))).length + [y34].length ≤ lim) then
      let y35 := (o26.2.2.2.2.2.1.getD o26.2.2.1.toNat ([] : (List Int))) ++ [y34]
      bif decide (0 ≤ o26.1) then
      bif decide (o26.1.toNat < o26.2.2.2.2.2.1.length) then
      bif decide (o26.2.2.1.toNat = o26.1.toNat) then
      some ((0 : Int), o26.2.2.2.2.1, o26.2.2.2.2.2.1.set o26.1.toNat y35, o26.2.2.2.2.2.2.1, ())
      else none
      else none
      else none
      else none
      else none
      else none
      else none
      else none
      else none
      else none
     else
     bif o26.2.1.1 == (3 : Int) then
      bif decide (0 ≤ o26.2.1.2.1) then
      bif decide (o26.2.1.2.1.toNat < (o26.2.2.2.2.2.1.getD o26.2.2.1.toNat ([] : (List Int))).length) then
      let y36 := (o26.2.2.2.2.2.1.getD o26.2.2.1.toNat ([] : (List Int))).getD o26.2.1.2.1.toNat (0 : Int)
      bif decide (0 ≤ y36) then
      bif decide (y36.toNat < o26.2.2.2.2.1.length) then
      bif decide (0 ≤ o26.2.1.2.2.1) then
      bif decide (o26.2.1.2.2.1.toNat < (o26.2.2.2.2.2.1.getD o26.2.2.1.toNat ([] : (List Int))).length) then
      let y37 := (o26.2.2.2.2.2.1.getD o26.2.2.1.toNat ([] : (List Int))).getD o26.2.1.2.2.1.toNat (0 : Int)
      bif decide (0 ≤ o26.2.1.2.2.2.2.1) then
      bif decide (o26.2.1.2.2.2.2.1.toNat < ((o26.2.2.2.2.1.getD y36.toNat (([] : (List Int)), ([] : (List Int)), ())).1).length) then
      let y38 := o26.2.2.2.2.1.set y36.toNat (((o26.2.2.2.2.1.getD y36.toNat (([] : (List Int)), ([] : (List Int)), ())).1).set o26.2.1.2.2.2.2.1.toNat y37, (o26.2.2.2.2.1.getD y36.toNat (([] : (List Int)), ([] : (List Int)), ())).2)
      some ((0 : Int), y38, o26.2.2.2.2.2.1, o26.2.2.2.2.2.2.1, ())
      else none
      else none
      else none
      else none
      else none
      else none
      else none
      else none
     else
     bif o26.2.1.1 == (4 : Int) then
      bif decide (0 ≤ o26.2.1.2.1) then
      bif decide (o26.2.1.2.1.toNat < (o26.2.2.2.2.2.1.getD o26.2.2.1.toNat ([] : (List Int))).length) then
      let y39 := (o26.2.2.2.2.2.1.getD o26.2.2.1.toNat ([] : (List Int))).getD o26.2.1.2.1.toNat (0 : Int)
      bif decide (0 ≤ y39) then
      bif decide (y39.toNat < o26.2.2.2.2.1.length) then
      bif decide (0 ≤ o26.2.1.2.2.2.2.1) then
      bif decide (o26.2.1.2.2.2.2.1.toNat < (((o26.2.2.2.2.1.getD y39.toNat (([] : (List Int)), ([] : (List Int)), ())).2).1).length) then
      let y40 := o26.2.2.2.2.1.set y39.toNat ((o26.2.2.2.2.1.getD y39.toNat (([] : (List Int)), ([] : (List Int)), ())).1, (((o26.2.2.2.2.1.getD y39.toNat (([] : (List Int)), ([] : (List Int)), ())).2).1).set o26.2.1.2.2.2.2.1.toNat o26.2.1.2.2.2.2.2.1, ((o26.2.2.2.2.1.getD y39.toNat (([] : (List Int)), ([] : (List Int)), ())).2).2)
      some ((0 : Int), y40, o26.2.2.2.2.2.1, o26.2.2.2.2.2.2.1, ())
      else none
      else none
      else none
      else none
      else none
      else none
     else
     bif o26.2.1.1 == (5 : Int) then
      bif decide (0 ≤ o26.2.1.2.1) then
      bif decide (o26.2.1.2.1.toNat < (o26.2.2.2.2.2.1.getD o26.2.2.1.toNat ([] : (List Int))).length) then
      let y41 := (o26.2.2.2.2.2.1.getD o26.2.2.1.toNat ([] : (List Int))).getD o26.2.1.2.1.toNat (0 : Int)
      bif decide (0 ≤ y41) then
      bif decide (y41.toNat < o26.2.2.2.2.1.length) then
      bif decide (0 ≤ o26.2.1.2.2.2.2.1) then
      bif decide (o26.2.1.2.2.2.2.1.toNat < (((o26.2.2.2.2.1.getD y41.toNat (([] : (List Int)), ([] : (List Int)), ())).2).1).length) then
      let y42 := (((o26.2.2.2.2.1.getD y41.toNat (([] : (List Int)), ([] : (List Int)), ())).2).1).getD o26.2.1.2.2.2.2.1.toNat (0 : Int)
      some (y42, o26.2.2.2.2.1, o26.2.2.2.2.2.1, o26.2.2.2.2.2.2.1, ())
      else none
      else none
      else none
      else none
      else none
      else none
     else
     bif o26.2.1.1 == (6 : Int) then
      bif decide (0 ≤ o26.2.1.2.1) then
      bif decide (o26.2.1.2.1.toNat < (o26.2.2.2.2.2.1.getD o26.2.2.1.toNat ([] : (List Int))).length) then
      let y43 := (o26.2.2.2.2.2.1.getD o26.2.2.1.toNat ([] : (List Int))).getD o26.2.1.2.1.toNat (0 : Int)
      bif decide (0 ≤ o26.2.1.2.2.1) then
      bif decide (o26.2.1.2.2.1.toNat < (o26.2.2.2.2.2.1.getD o26.2.2.1.toNat ([] : (List Int))).length) then
      let y44 := (o26.2.2.2.2.2.1.getD o26.2.2.1.toNat ([] : (List Int))).getD o26.2.1.2.2.1.toNat (0 : Int)
      (Fsl5One N (y43 == y44, ())).bind fun r45 =>
      some (r45.1, o26.2.2.2.2.1, o26.2.2.2.2.2.1, o26.2.2.2.2.2.2.1, ())
      else none
      else none
      else none
      else none
     else
     bif o26.2.1.1 == (7 : Int) then
      bif decide (0 ≤ o26.2.1.2.1) then
      bif decide (o26.2.1.2.1.toNat < (o26.2.2.2.2.2.1.getD o26.2.2.1.toNat ([] : (List Int))).length) then
      let y46 := (o26.2.2.2.2.2.1.getD o26.2.2.1.toNat ([] : (List Int))).getD o26.2.1.2.1.toNat (0 : Int)
      bif decide (0 ≤ y46) then
      bif decide (y46.toNat < o26.2.2.2.2.1.length) then
      bif decide (0 ≤ o26.2.1.2.2.2.2.1) then
      bif decide (o26.2.1.2.2.2.2.1.toNat < ((o26.2.2.2.2.1.getD y46.toNat (([] : (List Int)), ([] : (List Int)), ())).1).length) then
      let y47 := ((o26.2.2.2.2.1.getD y46.toNat (([] : (List Int)), ([] : (List Int)), ())).1).getD o26.2.1.2.2.2.2.1.toNat (0 : Int)
      bif decide (0 ≤ o26.2.1.2.2.1) then
      bif decide (o26.2.1.2.2.1.toNat < (o26.2.2.2.2.2.1.getD o26.2.2.1.toNat ([] : (List Int))).length) then
      let y48 := (o26.2.2.2.2.2.1.getD o26.2.2.1.toNat ([] : (List Int))).getD o26.2.1.2.2.1.toNat (0 : Int)
      bif y47 == y48 then
       bif decide (0 ≤ o26.2.1.2.1) then
       bif decide (o26.2.1.2.1.toNat < (o26.2.2.2.2.2.1.getD o26.2.2.1.toNat ([] : (List Int))).length) then
       let y49 := (o26.2.2.2.2.2.1.getD o26.2.2.1.toNat ([] : (List Int))).getD o26.2.1.2.1.toNat (0 : Int)
       bif decide (0 ≤ y49) then
       bif decide (y49.toNat < o26.2.2.2.2.1.length) then
       bif decide (0 ≤ o26.2.1.2.2.2.1) then
       bif decide (o26.2.1.2.2.2.1.toNat < (o26.2.2.2.2.2.1.getD o26.2.2.1.toNat ([] : (List Int))).length) then
       let y50 := (o26.2.2.2.2.2.1.getD o26.2.2.1.toNat ([] : (List Int))).getD o26.2.1.2.2.2.1.toNat (0 : Int)
       bif decide (0 ≤ o26.2.1.2.2.2.2.1) then
       bif decide (o26.2.1.2.2.2.2.1.toNat < ((o26.2.2.2.2.1.getD y49.toNat (([] : (List Int)), ([] : (List Int)), ())).1).length) then
       let y51 := o26.2.2.2.2.1.set y49.toNat (((o26.2.2.2.2.1.getD y49.toNat (([] : (List Int)), ([] : (List Int)), ())).1).set o26.2.1.2.2.2.2.1.toNat y50, (o26.2.2.2.2.1.getD y49.toNat (([] : (List Int)), ([] : (List Int)), ())).2)
       some ((1 : Int), y51, o26.2.2.2.2.2.1, o26.2.2.2.2.2.2.1, ())
       else none
       else none
       else none
       else none
       else none
       else none
       else none
       else none
      else
      some ((0 : Int), o26.2.2.2.2.1, o26.2.2.2.2.2.1, o26.2.2.2.2.2.2.1, ())
      else none
      else none
      else none
      else none
      else none
      else none
      else none
      else none
     else
     bif o26.2.1.1 == (8 : Int) then
      let y52 := ((o26.2.2.2.2.2.1.getD o26.2.2.1.toNat ([] : (List Int))).length : Int)
      bif decide (0 ≤ (w64 (y52 - (1 : Int)))) then
      bif decide ((w64 (y52 - (1 : Int))) ≤ ((o26.2.2.2.2.2.1.getD o26.2.2.1.toNat ([] : (List Int))).length : Int)) then
      bif decide (0 ≤ (0 : Int)) then
      bif decide ((0 : Int) ≤ (w64 (y52 - (1 : Int)))) then
      bif decide (0 ≤ o26.1) then
      bif decide (o26.1.toNat < o26.2.2.2.2.2.1.length) then
      bif decide (o26.2.2.1.toNat = o26.1.toNat) then
      let y53 := o26.2.2.2.2.2.1.set o26.1.toNat ((o26.2.2.2.2.2.1.getD o26.1.toNat ([] : (List Int))).take ((w64 (y52 - (1 : Int))).toNat))
      some ((0 : Int), o26.2.2.2.2.1, y53, o26.2.2.2.2.2.2.1, ())
      else none
      else none
      else none
      else none
      else none
      else none
      else none
     else
     bif o26.2.1.1 == (9 : Int) then
      bif decide (0 ≤ o26.2.1.2.1) then
      bif decide (o26.2.1.2.1.toNat < (o26.2.2.2.2.2.1.getD o26.2.2.1.toNat ([] : (List Int))).length) then
      let y54 := (o26.2.2.2.2.2.1.getD o26.2.2.1.toNat ([] : (List Int))).getD o26.2.1.2.1.toNat (0 : Int)
      bif decide ((o26.2.2.2.2.2.1.getD o26.2.2.1.toNat ([] : (List Int))).length + [y54].length ≤ lim) then
      let y55 := (o26.2.2.2.2.2.1.getD o26.2.2.1.toNat ([] : (List Int))) ++ [y54]
      bif decide (0 ≤ o26.1) then
      bif decide (o26.1.toNat < o26.2.2.2.2.2.1.length) then
      bif decide (o26.2.2.1.toNat = o26.1.toNat) then
      some ((0 : Int), o26.2.2.2.2.1, o26.2.2.2.2.2.1.set o26.1.toNat y55, o26.2.2.2.2.2.2.1, ())
      else none
      else none
      else none
      else none
      else none
      else none
     else
     some ((0 : Int), o26.2.2.2.2.1, o26.2.2.2.2.2.1, o26.2.2.2.2.2.2.1, ())) fun o56 =>
    some (o56.1, (0 : Int), o56.2.1, o56.2.2.1, o56.2.2.2.1, ())) (fun o57 =>
    some (o57.1, o57.2.1, o57.2.2.1, o57.2.2.2.1, o57.2.2.2.2.1, ())) o25
   else none
   else none) (fun o58 =>
   some (o58.1, o58.2.1, o58.2.2.1, o58.2.2.2.1, o58.2.2.2.2.1, ())) o8
noncomputable def consGraphDo (N : Nat) : Con := { f := 49, din := dinsGraphDo, outs := outsGraphDo, F := FsGraphDo N }
noncomputable def XsGraphDo (N : Nat) : Ctx := { E := EsGraphDo N, H := HsGraphDo, lp := [(1, { hd := dsGraphDo_1, outs := osGraphDo_1, run := fun v => lsGraphDo_1 N N v })], jn := [(3, jsGraphDo_3), (8, jsGraphDo_8), (10, jsGraphDo_10), (15, jsGraphDo_15), (45, jsGraphDo_45)] }
noncomputable def bsGraphDo_1 : Code := loopBody (codeOf Try.f49) 0
theorem FsGraphDo_eq (N : Nat) (x : (((List ((List Int) × ((List Int) × Unit))) × ((List (List Int)) × ((List Int) × Unit))) × (Int × ((Int × (Int × (Int × (Int × (Int × (Int × ((Int × (Int × Unit)) × Unit))))))) × Unit)))) : evFn (XsGraphDo N) Try.f49 dinsGraphDo outsGraphDo x = FsGraphDo N x := by kernel_rfl
theorem lsGraphDo_1_eq (N n : Nat) (v : (Int × ((Int × (Int × (Int × (Int × (Int × (Int × ((Int × (Int × Unit)) × Unit))))))) × (Int × (Int × (Int × ((List ((List Int) × ((List Int) × Unit))) × ((List (List Int)) × ((List Int) × ((List Int) × ((List Int) × Unit))))))))))) : lsGraphDo_1 N (n + 1) v = ev (XsGraphDo N) bsGraphDo_1 (roundK dsGraphDo_1 osGraphDo_1 (lsGraphDo_1 N n)) (dsGraphDo_1.mk' v) := by kernel_rfl
theorem cxsGraphDo (N : Nat) : CtxOk Try.prog (XsGraphDo N) := ⟨⟨TE_ok, List.forall_mem_cons.2 ⟨specsGraphOk N, List.forall_mem_cons.2 ⟨specsOpOk N, List.forall_mem_cons.2 ⟨specsl5Copy N, List.forall_mem_cons.2 ⟨specsl5Begin N, List.forall_mem_cons.2 ⟨specsl5Fields N, List.forall_mem_cons.2 ⟨specsl5Field N, List.forall_mem_cons.2 ⟨specsl5Pins N, List.forall_mem_cons.2 ⟨specsl5One N, fun k hk => absurd hk List.not_mem_nil⟩⟩⟩⟩⟩⟩⟩⟩⟩, mixed⟩
theorem lpsGraphDo_1 (N : Nat) : LoopOk Try.prog { hd := dsGraphDo_1, outs := osGraphDo_1, run := fun v => lsGraphDo_1 N N v } bsGraphDo_1 :=
  loop_fuel (d := dsGraphDo_1) (os := osGraphDo_1) (cxsGraphDo N) (loops_at (ids := []) (by kernel_rfl) (trivial)) (lsGraphDo_1 N) (fun _ => rfl) (fun n v => lsGraphDo_1_eq N n v) (fun _ => N)
theorem specsGraphDo (N : Nat) : Spec Try.prog (consGraphDo N) :=
  Spec.of_eq (fn_spec (cxsGraphDo N) (f := 49) (fn := Try.f49) (c := codeOf Try.f49) (by kernel_rfl) (by kernel_rfl) (by kernel_rfl) (loops_at (ids := [1]) (by kernel_rfl) ⟨lp_of (lpsGraphDo_1 N), trivial⟩) (by kernel_rfl)) (fun x r h => (FsGraphDo_eq N x).trans h)

/-! ### 148: impl.Graph).leads$1 -/

noncomputable def diniGraph_leads_1 : Desc := { n := 3, regs := [.one (.val (.int .i64)), .one (.fpt (.int .i64)), .one (.fpt (.pair (.sl (.pair (.sl (.int .i64)) (.pair (.sl (.int .i64)) .unit))) (.pair (.sl (.sl (.int .i64))) (.pair (.sl (.int .i64)) .unit))))], bx := [], pins := [] }
noncomputable def outiGraph_leads_1 : Outs := [(.ret, { n := 1, regs := [.one (.val .bool)], bx := [], pins := [] })]
noncomputable def HiGraph_leads_1 : Hints := []
noncomputable def EiGraph_leads_1 (_N : Nat) : Env := { te := TE, cs := [] }
noncomputable def FiGraph_leads_1 (N : Nat) (x : (Int × (Int × (((List ((List Int) × ((List Int) × Unit))) × ((List (List Int)) × ((List Int) × Unit))) × Unit)))) : Option (Bool × Unit) :=
  bif decide (x.1 < x.2.1) then
   some (true, ())
  else
  let y1 := decide (x.1 ≥ (x.2.2.1.1.length : Int))
  some (y1, ())
noncomputable def coniGraph_leads_1 (N : Nat) : Con := { f := 148, din := diniGraph_leads_1, outs := outiGraph_leads_1, F := FiGraph_leads_1 N }
noncomputable def XiGraph_leads_1 (N : Nat) : Ctx := { E := EiGraph_leads_1 N, H := HiGraph_leads_1, lp := [], jn := [] }
theorem FiGraph_leads_1_eq (N : Nat) (x : (Int × (Int × (((List ((List Int) × ((List Int) × Unit))) × ((List (List Int)) × ((List Int) × Unit))) × Unit)))) : evFn (XiGraph_leads_1 N) Try.f148 diniGraph_leads_1 outiGraph_leads_1 x = FiGraph_leads_1 N x := by kernel_rfl
theorem cxiGraph_leads_1 (N : Nat) : CtxOk Try.prog (XiGraph_leads_1 N) := ⟨⟨TE_ok, fun k hk => absurd hk List.not_mem_nil⟩, mixed⟩
theorem speciGraph_leads_1 (N : Nat) : Spec Try.prog (coniGraph_leads_1 N) :=
  Spec.of_eq (fn_spec (cxiGraph_leads_1 N) (f := 148) (fn := Try.f148) (c := codeOf Try.f148) (by kernel_rfl) (by kernel_rfl) (by kernel_rfl) (loops_at (ids := []) (by kernel_rfl) (trivial)) (by kernel_rfl)) (fun x r h => (FiGraph_leads_1_eq N x).trans h)

/-! ### 157: slices.IndexFunc[[]int,int] -/

noncomputable def dinkIndexFunc_Sint_int_iGraph_leads_1 : Desc := { n := 2, regs := [.one (.val (.sl (.int .i64))), .one (.clo 148 [.inr (.int .i64), .inr (.pair (.sl (.pair (.sl (.int .i64)) (.pair (.sl (.int .i64)) .unit))) (.pair (.sl (.sl (.int .i64))) (.pair (.sl (.int .i64)) .unit)))])], bx := [], pins := [] }
noncomputable def outkIndexFunc_Sint_int_iGraph_leads_1 : Outs := [(.ret, { n := 1, regs := [.one (.val (.int .i64))], bx := [], pins := [] })]
noncomputable def HkIndexFunc_Sint_int_iGraph_leads_1 : Hints := []
noncomputable def EkIndexFunc_Sint_int_iGraph_leads_1 (N : Nat) : Env := { te := TE, cs := [coniGraph_leads_1 N] }
noncomputable def dkIndexFunc_Sint_int_iGraph_leads_1_0 : Desc := { n := 19, regs := [.one (.val (.sl (.int .i64))), .one (.clo 148 [.inr (.int .i64), .inr (.pair (.sl (.pair (.sl (.int .i64)) (.pair (.sl (.int .i64)) .unit))) (.pair (.sl (.sl (.int .i64))) (.pair (.sl (.int .i64)) .unit)))]), u, u, u, u, u, .one (.val (.int .i64)), .one (.val (.int .i64))], bx := [], pins := [] }
noncomputable def okIndexFunc_Sint_int_iGraph_leads_1_0 : Outs := [(.exit 0, { n := 19, regs := [], bx := [], pins := [] }), (.ret, { n := 19, regs := [u, u, u, u, .one (.val (.int .i64))], bx := [], pins := [] })]
noncomputable def lkIndexFunc_Sint_int_iGraph_leads_1_0 (N : Nat) : Nat → ((List Int) × (Int × (((List ((List Int) × ((List Int) × Unit))) × ((List (List Int)) × ((List Int) × Unit))) × (Int × (Int × Unit))))) → Option (Unit ⊕ (Int × Unit))
  | 0, _ => none
  | n + 1, v =>
    bif decide (v.2.2.2.2.1 < v.2.2.2.1) then
     bif decide (0 ≤ v.2.2.2.2.1) then
     bif decide (v.2.2.2.2.1.toNat < v.1.length) then
     (FiGraph_leads_1 N (v.1.getD v.2.2.2.2.1.toNat (0 : Int), v.2.1, v.2.2.1, ())).bind fun r1 =>
     bif r1.1 then
      some (.inr ((v.2.2.2.2.1, ())))
     else
     lkIndexFunc_Sint_int_iGraph_leads_1_0 N n (v.1, v.2.1, v.2.2.1, v.2.2.2.1, w64 (v.2.2.2.2.1 + (1 : Int)), ())
     else none
     else none
    else
    some (.inl ())
noncomputable def FkIndexFunc_Sint_int_iGraph_leads_1 (N : Nat) (x : ((List Int) × (Int × (((List ((List Int) × ((List Int) × Unit))) × ((List (List Int)) × ((List Int) × Unit))) × Unit)))) : Option (Int × Unit) :=
  (lkIndexFunc_Sint_int_iGraph_leads_1_0 N N (x.1, x.2.1, x.2.2.1, (x.1.length : Int), (0 : Int), ())).bind fun o2 =>
  Sum.elim (fun o3 =>
   some ((-1 : Int), ())) (fun o4 =>
   some (o4.1, ())) o2
noncomputable def conkIndexFunc_Sint_int_iGraph_leads_1 (N : Nat) : Con := { f := 157, din := dinkIndexFunc_Sint_int_iGraph_leads_1, outs := outkIndexFunc_Sint_int_iGraph_leads_1, F := FkIndexFunc_Sint_int_iGraph_leads_1 N }
noncomputable def XkIndexFunc_Sint_int_iGraph_leads_1 (N : Nat) : Ctx := { E := EkIndexFunc_Sint_int_iGraph_leads_1 N, H := HkIndexFunc_Sint_int_iGraph_leads_1, lp := [(0, { hd := dkIndexFunc_Sint_int_iGraph_leads_1_0, outs := okIndexFunc_Sint_int_iGraph_leads_1_0, run := fun v => lkIndexFunc_Sint_int_iGraph_leads_1_0 N N v })], jn := [] }
noncomputable def bkIndexFunc_Sint_int_iGraph_leads_1_0 : Code := loopBody (codeOf Try.f157) 0
theorem FkIndexFunc_Sint_int_iGraph_leads_1_eq (N : Nat) (x : ((List Int) × (Int × (((List ((List Int) × ((List Int) × Unit))) × ((List (List Int)) × ((List Int) × Unit))) × Unit)))) : evFn (XkIndexFunc_Sint_int_iGraph_leads_1 N) Try.f157 dinkIndexFunc_Sint_int_iGraph_leads_1 outkIndexFunc_Sint_int_iGraph_leads_1 x = FkIndexFunc_Sint_int_iGraph_leads_1 N x := by kernel_rfl
theorem lkIndexFunc_Sint_int_iGraph_leads_1_0_eq (N n : Nat) (v : ((List Int) × (Int × (((List ((List Int) × ((List Int) × Unit))) × ((List (List Int)) × ((List Int) × Unit))) × (Int × (Int × Unit)))))) : lkIndexFunc_Sint_int_iGraph_leads_1_0 N (n + 1) v = ev (XkIndexFunc_Sint_int_iGraph_leads_1 N) bkIndexFunc_Sint_int_iGraph_leads_1_0 (roundK dkIndexFunc_Sint_int_iGraph_leads_1_0 okIndexFunc_Sint_int_iGraph_leads_1_0 (lkIndexFunc_Sint_int_iGraph_leads_1_0 N n)) (dkIndexFunc_Sint_int_iGraph_leads_1_0.mk' v) := by kernel_rfl
theorem cxkIndexFunc_Sint_int_iGraph_leads_1 (N : Nat) : CtxOk Try.prog (XkIndexFunc_Sint_int_iGraph_leads_1 N) := ⟨⟨TE_ok, List.forall_mem_cons.2 ⟨speciGraph_leads_1 N, fun k hk => absurd hk List.not_mem_nil⟩⟩, mixed⟩
theorem lpkIndexFunc_Sint_int_iGraph_leads_1_0 (N : Nat) : LoopOk Try.prog { hd := dkIndexFunc_Sint_int_iGraph_leads_1_0, outs := okIndexFunc_Sint_int_iGraph_leads_1_0, run := fun v => lkIndexFunc_Sint_int_iGraph_leads_1_0 N N v } bkIndexFunc_Sint_int_iGraph_leads_1_0 :=
  loop_fuel (d := dkIndexFunc_Sint_int_iGraph_leads_1_0) (os := okIndexFunc_Sint_int_iGraph_leads_1_0) (cxkIndexFunc_Sint_int_iGraph_leads_1 N) (loops_at (ids := []) (by kernel_rfl) (trivial)) (lkIndexFunc_Sint_int_iGraph_leads_1_0 N) (fun _ => rfl) (fun n v => lkIndexFunc_Sint_int_iGraph_leads_1_0_eq N n v) (fun _ => N)
theorem speckIndexFunc_Sint_int_iGraph_leads_1 (N : Nat) : Spec Try.prog (conkIndexFunc_Sint_int_iGraph_leads_1 N) :=
  Spec.of_eq (fn_spec (cxkIndexFunc_Sint_int_iGraph_leads_1 N) (f := 157) (fn := Try.f157) (c := codeOf Try.f157) (by kernel_rfl) (by kernel_rfl) (by kernel_rfl) (loops_at (ids := [0]) (by kernel_rfl) ⟨lp_of (lpkIndexFunc_Sint_int_iGraph_leads_1_0 N), trivial⟩) (by kernel_rfl)) (fun x r h => (FkIndexFunc_Sint_int_iGraph_leads_1_eq N x).trans h)

/-! ### 147: slices.ContainsFunc[[]int,int] -/

noncomputable def dinkContainsFunc_Sint_int_iGraph_leads_1 : Desc := { n := 2, regs := [.one (.val (.sl (.int .i64))), .one (.clo 148 [.inr (.int .i64), .inr (.pair (.sl (.pair (.sl (.int .i64)) (.pair (.sl (.int .i64)) .unit))) (.pair (.sl (.sl (.int .i64))) (.pair (.sl (.int .i64)) .unit)))])], bx := [], pins := [] }
noncomputable def outkContainsFunc_Sint_int_iGraph_leads_1 : Outs := [(.ret, { n := 1, regs := [.one (.val .bool)], bx := [], pins := [] })]
noncomputable def HkContainsFunc_Sint_int_iGraph_leads_1 : Hints := []
noncomputable def EkContainsFunc_Sint_int_iGraph_leads_1 (N : Nat) : Env := { te := TE, cs := [conkIndexFunc_Sint_int_iGraph_leads_1 N] }
noncomputable def FkContainsFunc_Sint_int_iGraph_leads_1 (N : Nat) (x : ((List Int) × (Int × (((List ((List Int) × ((List Int) × Unit))) × ((List (List Int)) × ((List Int) × Unit))) × Unit)))) : Option (Bool × Unit) :=
  (FkIndexFunc_Sint_int_iGraph_leads_1 N (x.1, x.2.1, x.2.2.1, ())).bind fun r1 =>
  some (decide (r1.1 ≥ (0 : Int)), ())
noncomputable def conkContainsFunc_Sint_int_iGraph_leads_1 (N : Nat) : Con := { f := 147, din := dinkContainsFunc_Sint_int_iGraph_leads_1, outs := outkContainsFunc_Sint_int_iGraph_leads_1, F := FkContainsFunc_Sint_int_iGraph_leads_1 N }
noncomputable def XkContainsFunc_Sint_int_iGraph_leads_1 (N : Nat) : Ctx := { E := EkContainsFunc_Sint_int_iGraph_leads_1 N, H := HkContainsFunc_Sint_int_iGraph_leads_1, lp := [], jn := [] }
theorem FkContainsFunc_Sint_int_iGraph_leads_1_eq (N : Nat) (x : ((List Int) × (Int × (((List ((List Int) × ((List Int) × Unit))) × ((List (List Int)) × ((List Int) × Unit))) × Unit)))) : evFn (XkContainsFunc_Sint_int_iGraph_leads_1 N) Try.f147 dinkContainsFunc_Sint_int_iGraph_leads_1 outkContainsFunc_Sint_int_iGraph_leads_1 x = FkContainsFunc_Sint_int_iGraph_leads_1 N x := by kernel_rfl
theorem cxkContainsFunc_Sint_int_iGraph_leads_1 (N : Nat) : CtxOk Try.prog (XkContainsFunc_Sint_int_iGraph_leads_1 N) := ⟨⟨TE_ok, List.forall_mem_cons.2 ⟨speckIndexFunc_Sint_int_iGraph_leads_1 N, fun k hk => absurd hk List.not_mem_nil⟩⟩, mixed⟩
theorem speckContainsFunc_Sint_int_iGraph_leads_1 (N : Nat) : Spec Try.prog (conkContainsFunc_Sint_int_iGraph_leads_1 N) :=
  Spec.of_eq (fn_spec (cxkContainsFunc_Sint_int_iGraph_leads_1 N) (f := 147) (fn := Try.f147) (c := codeOf Try.f147) (by kernel_rfl) (by kernel_rfl) (by kernel_rfl) (loops_at (ids := []) (by kernel_rfl) (trivial)) (by kernel_rfl)) (fun x r h => (FkContainsFunc_Sint_int_iGraph_leads_1_eq N x).trans h)

/-! ### 126: impl.Graph).leads -/

noncomputable def diniGraph_leads : Desc := { n := 3, regs := [.one (.val (.pair (.sl (.pair (.sl (.int .i64)) (.pair (.sl (.int .i64)) .unit))) (.pair (.sl (.sl (.int .i64))) (.pair (.sl (.int .i64)) .unit)))), .one (.val (.sl (.int .i64))), .one (.val (.int .i64))], bx := [], pins := [] }
noncomputable def outiGraph_leads : Outs := [(.ret, { n := 1, regs := [.one (.val .bool)], bx := [], pins := [] })]
noncomputable def HiGraph_leads : Hints := [(0, [(0, { fz := true }), (1, { fz := true })])]
noncomputable def EiGraph_leads (N : Nat) : Env := { te := TE, cs := [conkContainsFunc_Sint_int_iGraph_leads_1 N] }
noncomputable def FiGraph_leads (N : Nat) (x : (((List ((List Int) × ((List Int) × Unit))) × ((List (List Int)) × ((List Int) × Unit))) × ((List Int) × (Int × Unit)))) : Option (Bool × Unit) :=
  (FkContainsFunc_Sint_int_iGraph_leads_1 N (x.2.1, x.2.2.1, x.1, ())).bind fun r1 =>
  some (!r1.1, ())
noncomputable def coniGraph_leads (N : Nat) : Con := { f := 126, din := diniGraph_leads, outs := outiGraph_leads, F := FiGraph_leads N }
noncomputable def XiGraph_leads (N : Nat) : Ctx := { E := EiGraph_leads N, H := HiGraph_leads, lp := [], jn := [] }
theorem FiGraph_leads_eq (N : Nat) (x : (((List ((List Int) × ((List Int) × Unit))) × ((List (List Int)) × ((List Int) × Unit))) × ((List Int) × (Int × Unit)))) : evFn (XiGraph_leads N) Try.f126 diniGraph_leads outiGraph_leads x = FiGraph_leads N x := by kernel_rfl
theorem cxiGraph_leads (N : Nat) : CtxOk Try.prog (XiGraph_leads N) := ⟨⟨TE_ok, List.forall_mem_cons.2 ⟨speckContainsFunc_Sint_int_iGraph_leads_1 N, fun k hk => absurd hk List.not_mem_nil⟩⟩, mixed⟩
theorem speciGraph_leads (N : Nat) : Spec Try.prog (coniGraph_leads N) :=
  Spec.of_eq (fn_spec (cxiGraph_leads N) (f := 126) (fn := Try.f126) (c := codeOf Try.f126) (by kernel_rfl) (by kernel_rfl) (by kernel_rfl) (loops_at (ids := []) (by kernel_rfl) (trivial)) (by kernel_rfl)) (fun x r h => (FiGraph_leads_eq N x).trans h)

/-! ### 66: impl.GraphOk -/

noncomputable def diniGraphOk : Desc := { n := 1, regs := [.one (.val (.pair (.sl (.pair (.sl (.int .i64)) (.pair (.sl (.int .i64)) .unit))) (.pair (.sl (.sl (.int .i64))) (.pair (.sl (.int .i64)) .unit))))], bx := [], pins := [] }
noncomputable def outiGraphOk : Outs := [(.ret, { n := 1, regs := [.one (.val .bool)], bx := [], pins := [] })]
noncomputable def HiGraphOk : Hints := [(0, [(0, { fz := true })])]
noncomputable def EiGraphOk (N : Nat) : Env := { te := TE, cs := [coniGraph_leads N] }
noncomputable def diGraphOk_0 : Desc := { n := 78, regs := [u, .one (.fpt (.pair (.sl (.pair (.sl (.int .i64)) (.pair (.sl (.int .i64)) .unit))) (.pair (.sl (.sl (.int .i64))) (.pair (.sl (.int .i64)) .unit)))), u, u, u, u, u, u, u, u, u, u, u, u, u, u, u, u, u, u, u, u, u, u, u, u, u, u, u, u, u, u, u, u, u, u, u, .one (.val (.sl (.pair (.sl (.int .i64)) (.pair (.sl (.int .i64)) .unit)))), .one (.val (.int .i64)), .one (.val (.int .i64))], bx := [], pins := [] }
noncomputable def oiGraphOk_0 : Outs := [(.exit 0, { n := 78, regs := [u, .one (.fpt (.pair (.sl (.pair (.sl (.int .i64)) (.pair (.sl (.int .i64)) .unit))) (.pair (.sl (.sl (.int .i64))) (.pair (.sl (.int .i64)) .unit))))], bx := [], pins := [] }), (.ret, { n := 78, regs := [u, u, .one (.val .bool)], bx := [], pins := [] })]
noncomputable def diGraphOk_2 : Desc := { n := 78, regs := [u, .one (.fpt (.pair (.sl (.pair (.sl (.int .i64)) (.pair (.sl (.int .i64)) .unit))) (.pair (.sl (.sl (.int .i64))) (.pair (.sl (.int .i64)) .unit)))), u, u, u, u, u, u, u, u, u, u, u, u, u, u, u, u, u, u, u, u, u, u, u, u, u, u, u, u, u, u, u, u, u, u, u, u, u, u, u, u, u, u, u, u, u, u, u, u, u, u, u, u, u, u, u, u, u, u, u, u, .one (.val (.sl (.sl (.int .i64)))), .one (.val (.int .i64)), .one (.val (.int .i64))], bx := [], pins := [] }
noncomputable def oiGraphOk_2 : Outs := [(.exit 2, { n := 78, regs := [], bx := [], pins := [] }), (.ret, { n := 78, regs := [u, u, .one (.val .bool)], bx := [], pins := [] })]
noncomputable def jiGraphOk_3 : Outs := [(.normal, { n := 78, regs := [u, .one (.fpt (.pair (.sl (.pair (.sl (.int .i64)) (.pair (.sl (.int .i64)) .unit))) (.pair (.sl (.sl (.int .i64))) (.pair (.sl (.int .i64)) .unit))))], bx := [], pins := [] }), (.ret, { n := 78, regs := [u, u, .one (.val .bool)], bx := [], pins := [] })]
noncomputable def liGraphOk_0 (N : Nat) : Nat → (((List ((List Int) × ((List Int) × Unit))) × ((List (List Int)) × ((List Int) × Unit))) × ((List ((List Int) × ((List Int) × Unit))) × (Int × (Int × Unit)))) → Option ((((List ((List Int) × ((List Int) × Unit))) × ((List (List Int)) × ((List Int) × Unit))) × Unit) ⊕ (Bool × Unit))
  | 0, _ => none
  | n + 1, v =>
    bif decide (v.2.2.2.1 < v.2.2.1) then
     bif decide (0 ≤ v.2.2.2.1) then
     bif decide (v.2.2.2.1.toNat < v.2.1.length) then
     let y8 := v.2.1.getD v.2.2.2.1.toNat (([] : (List Int)), ([] : (List Int)), ())
     let y9 := decide ((y8.1.length : Int) > (4 : Int))
     bif y9 then
      some (.inr ((false, ())))
     else
     let y10 := decide ((y8.2.1.length : Int) > (4 : Int))
     bif y10 then
      some (.inr ((false, ())))
     else
     (FiGraph_leads N (v.1, y8.1, (-1 : Int), ())).bind fun r11 =>
     bif !r11.1 then
      some (.inr ((false, ())))
     else
     liGraphOk_0 N n (v.1, v.2.1, v.2.2.1, w64 (v.2.2.2.1 + (1 : Int)), ())
     else none
     else none
    else
    some (.inl (v.1, ()))
noncomputable def liGraphOk_2 (N : Nat) : Nat → (((List ((List Int) × ((List Int) × Unit))) × ((List (List Int)) × ((List Int) × Unit))) × ((List (List Int)) × (Int × (Int × Unit)))) → Option (Unit ⊕ (Bool × Unit))
  | 0, _ => none
  | n + 1, v =>
    bif decide (v.2.2.2.1 < v.2.2.1) then
     bif decide (0 ≤ v.2.2.2.1) then
     bif decide (v.2.2.2.1.toNat < v.2.1.length) then
     let y14 := v.2.1.getD v.2.2.2.1.toNat ([] : (List Int))
     let y15 := decide ((y14.length : Int) > (8 : Int))
     bif y15 then
      some (.inr ((false, ())))
     else
     (FiGraph_leads N (v.1, y14, (-1 : Int), ())).bind fun r16 =>
     bif !r16.1 then
      some (.inr ((false, ())))
     else
     liGraphOk_2 N n (v.1, v.2.1, v.2.2.1, w64 (v.2.2.2.1 + (1 : Int)), ())
     else none
     else none
    else
    some (.inl ())
noncomputable def FiGraphOk (N : Nat) (x : (((List ((List Int) × ((List Int) × Unit))) × ((List (List Int)) × ((List Int) × Unit))) × Unit)) : Option (Bool × Unit) :=
  Option.bind (
   let y1 := decide ((x.1.1.length : Int) > (200 : Int))
   bif y1 then
    some (.inr ((false, ())))
   else
   let y2 := decide ((x.1.2.1.length : Int) < (1 : Int))
   bif y2 then
    some (.inr ((false, ())))
   else
   let y3 := decide ((x.1.2.1.length : Int) > (3 : Int))
   bif y3 then
    some (.inr ((false, ())))
   else
   let y4 := decide ((x.1.2.2.1.length : Int) > (8 : Int))
   bif y4 then
    some (.inr ((false, ())))
   else
   (FiGraph_leads N (x.1, x.1.2.2.1, (0 : Int), ())).bind fun r5 =>
   bif !r5.1 then
    some (.inr ((false, ())))
   else
   some (.inl (x.1, ()))) fun o6 =>
  Sum.elim (fun o7 =>
   (liGraphOk_0 N N (o7.1, o7.1.1, (o7.1.1.length : Int), (0 : Int), ())).bind fun o12 =>
   Sum.elim (fun o13 =>
    (liGraphOk_2 N N (o13.1, o13.1.2.1, (o13.1.2.1.length : Int), (0 : Int), ())).bind fun o17 =>
    Sum.elim (fun o18 =>
     some (true, ())) (fun o19 =>
     some (o19.1, ())) o17) (fun o20 =>
    some (o20.1, ())) o12) (fun o21 =>
   some (o21.1, ())) o6
noncomputable def coniGraphOk (N : Nat) : Con := { f := 66, din := diniGraphOk, outs := outiGraphOk, F := FiGraphOk N }
noncomputable def XiGraphOk (N : Nat) : Ctx := { E := EiGraphOk N, H := HiGraphOk, lp := [(0, { hd := diGraphOk_0, outs := oiGraphOk_0, run := fun v => liGraphOk_0 N N v }), (2, { hd := diGraphOk_2, outs := oiGraphOk_2, run := fun v => liGraphOk_2 N N v })], jn := [(3, jiGraphOk_3)] }
noncomputable def biGraphOk_2 : Code := loopBody (codeOf Try.f66) 1
noncomputable def biGraphOk_0 : Code := loopBody (codeOf Try.f66) 0
theorem FiGraphOk_eq (N : Nat) (x : (((List ((List Int) × ((List Int) × Unit))) × ((List (List Int)) × ((List Int) × Unit))) × Unit)) : evFn (XiGraphOk N) Try.f66 diniGraphOk outiGraphOk x = FiGraphOk N x := by kernel_rfl
theorem liGraphOk_0_eq (N n : Nat) (v : (((List ((List Int) × ((List Int) × Unit))) × ((List (List Int)) × ((List Int) × Unit))) × ((List ((List Int) × ((List Int) × Unit))) × (Int × (Int × Unit))))) : liGraphOk_0 N (n + 1) v = ev (XiGraphOk N) biGraphOk_0 (roundK diGraphOk_0 oiGraphOk_0 (liGraphOk_0 N n)) (diGraphOk_0.mk' v) := by kernel_rfl
theorem liGraphOk_2_eq (N n : Nat) (v : (((List ((List Int) × ((List Int) × Unit))) × ((List (List Int)) × ((List Int) × Unit))) × ((List (List Int)) × (Int × (Int × Unit))))) : liGraphOk_2 N (n + 1) v = ev (XiGraphOk N) biGraphOk_2 (roundK diGraphOk_2 oiGraphOk_2 (liGraphOk_2 N n)) (diGraphOk_2.mk' v) := by kernel_rfl
theorem cxiGraphOk (N : Nat) : CtxOk Try.prog (XiGraphOk N) := ⟨⟨TE_ok, List.forall_mem_cons.2 ⟨speciGraph_leads N, fun k hk => absurd hk List.not_mem_nil⟩⟩, mixed⟩
theorem lpiGraphOk_0 (N : Nat) : LoopOk Try.prog { hd := diGraphOk_0, outs := oiGraphOk_0, run := fun v => liGraphOk_0 N N v } biGraphOk_0 :=
  loop_fuel (d := diGraphOk_0) (os := oiGraphOk_0) (cxiGraphOk N) (loops_at (ids := []) (by kernel_rfl) (trivial)) (liGraphOk_0 N) (fun _ => rfl) (fun n v => liGraphOk_0_eq N n v) (fun _ => N)
theorem lpiGraphOk_2 (N : Nat) : LoopOk Try.prog { hd := diGraphOk_2, outs := oiGraphOk_2, run := fun v => liGraphOk_2 N N v } biGraphOk_2 :=
  loop_fuel (d := diGraphOk_2) (os := oiGraphOk_2) (cxiGraphOk N) (loops_at (ids := []) (by kernel_rfl) (trivial)) (liGraphOk_2 N) (fun _ => rfl) (fun n v => liGraphOk_2_eq N n v) (fun _ => N)
theorem speciGraphOk (N : Nat) : Spec Try.prog (coniGraphOk N) :=
  Spec.of_eq (fn_spec (cxiGraphOk N) (f := 66) (fn := Try.f66) (c := codeOf Try.f66) (by kernel_rfl) (by kernel_rfl) (by kernel_rfl) (loops_at (ids := [0, 2]) (by kernel_rfl) ⟨lp_of (lpiGraphOk_0 N), ⟨lp_of (lpiGraphOk_2 N), trivial⟩⟩) (by kernel_rfl)) (fun x r h => (FiGraphOk_eq N x).trans h)

/-! ### 143: impl.ShapeOk -/

noncomputable def diniShapeOk : Desc := { n := 1, regs := [.one (.val (.pair (.int .i64) (.pair (.int .i64) .unit)))], bx := [], pins := [] }
noncomputable def outiShapeOk : Outs := [(.ret, { n := 1, regs := [.one (.val .bool)], bx := [], pins := [] })]
noncomputable def HiShapeOk : Hints := [(0, [(0, { fz := true })])]
noncomputable def EiShapeOk (_N : Nat) : Env := { te := TE, cs := [] }
noncomputable def FiShapeOk (N : Nat) (x : ((Int × (Int × Unit)) × Unit)) : Option (Bool × Unit) :=
  bif decide (x.1.1 ≥ (0 : Int)) then
   bif decide (x.1.1 ≤ (4 : Int)) then
    bif decide (x.1.2.1 ≥ (0 : Int)) then
     some (decide (x.1.2.1 ≤ (4 : Int)), ())
    else
    some (false, ())
   else
   some (false, ())
  else
  some (false, ())
noncomputable def coniShapeOk (N : Nat) : Con := { f := 143, din := diniShapeOk, outs := outiShapeOk, F := FiShapeOk N }
noncomputable def XiShapeOk (N : Nat) : Ctx := { E := EiShapeOk N, H := HiShapeOk, lp := [], jn := [] }
theorem FiShapeOk_eq (N : Nat) (x : ((Int × (Int × Unit)) × Unit)) : evFn (XiShapeOk N) Try.f143 diniShapeOk outiShapeOk x = FiShapeOk N x := by kernel_rfl
theorem cxiShapeOk (N : Nat) : CtxOk Try.prog (XiShapeOk N) := ⟨⟨TE_ok, fun k hk => absurd hk List.not_mem_nil⟩, mixed⟩
theorem speciShapeOk (N : Nat) : Spec Try.prog (coniShapeOk N) :=
  Spec.of_eq (fn_spec (cxiShapeOk N) (f := 143) (fn := Try.f143) (c := codeOf Try.f143) (by kernel_rfl) (by kernel_rfl) (by kernel_rfl) (loops_at (ids := []) (by kernel_rfl) (trivial)) (by kernel_rfl)) (fun x r h => (FiShapeOk_eq N x).trans h)

/-! ### 106: impl.OpOk -/

noncomputable def diniOpOk : Desc := { n := 1, regs := [.one (.val (.pair (.int .i64) (.pair (.int .i64) (.pair (.int .i64) (.pair (.int .i64) (.pair (.int .i64) (.pair (.int .i64) (.pair (.pair (.int .i64) (.pair (.int .i64) .unit)) .unit))))))))], bx := [], pins := [] }
noncomputable def outiOpOk : Outs := [(.ret, { n := 1, regs := [.one (.val .bool)], bx := [], pins := [] })]
noncomputable def HiOpOk : Hints := [(0, [(0, { fz := true })])]
noncomputable def EiOpOk (N : Nat) : Env := { te := TE, cs := [coniShapeOk N] }
noncomputable def FiOpOk (N : Nat) (x : ((Int × (Int × (Int × (Int × (Int × (Int × ((Int × (Int × Unit)) × Unit))))))) × Unit)) : Option (Bool × Unit) :=
  bif decide (x.1.1 ≥ (1 : Int)) then
   bif decide (x.1.1 ≤ (11 : Int)) then
    bif x.1.1 != (1 : Int) then
     some (true, ())
    else
    (FiShapeOk N (x.1.2.2.2.2.2.2.1, ())).bind fun r1 =>
    some (r1.1, ())
   else
   some (false, ())
  else
  some (false, ())
noncomputable def coniOpOk (N : Nat) : Con := { f := 106, din := diniOpOk, outs := outiOpOk, F := FiOpOk N }
noncomputable def XiOpOk (N : Nat) : Ctx := { E := EiOpOk N, H := HiOpOk, lp := [], jn := [] }
theorem FiOpOk_eq (N : Nat) (x : ((Int × (Int × (Int × (Int × (Int × (Int × ((Int × (Int × Unit)) × Unit))))))) × Unit)) : evFn (XiOpOk N) Try.f106 diniOpOk outiOpOk x = FiOpOk N x := by kernel_rfl
theorem cxiOpOk (N : Nat) : CtxOk Try.prog (XiOpOk N) := ⟨⟨TE_ok, List.forall_mem_cons.2 ⟨speciShapeOk N, fun k hk => absurd hk List.not_mem_nil⟩⟩, mixed⟩
theorem speciOpOk (N : Nat) : Spec Try.prog (coniOpOk N) :=
  Spec.of_eq (fn_spec (cxiOpOk N) (f := 106) (fn := Try.f106) (c := codeOf Try.f106) (by kernel_rfl) (by kernel_rfl) (by kernel_rfl) (loops_at (ids := []) (by kernel_rfl) (trivial)) (by kernel_rfl)) (fun x r h => (FiOpOk_eq N x).trans h)

/-! ### 82: slices.Clone[[]int,int] -/

noncomputable def dinkClone_Sint_int : Desc := { n := 1, regs := [.one (.val (.sl (.int .i64)))], bx := [], pins := [] }
noncomputable def outkClone_Sint_int : Outs := [(.ret, { n := 1, regs := [.one (.lit (.row 1025600))], bx := [(1025600, .row (.int .i64))], pins := [] })]
noncomputable def HkClone_Sint_int : Hints := [(2, [(0, { nl := [(0, (.int .i64))] })])]
noncomputable def EkClone_Sint_int (_N : Nat) : Env := { te := TE, cs := [] }
noncomputable def FkClone_Sint_int (N : Nat) (x : ((List Int) × Unit)) : Option ((List Int) × Unit) :=
  bif x.1.isEmpty then
   anyOf (2) fun i1 =>
    bif bif i1 == 0 then false else true then
     some (([] : (List Int)), ())
    else
    bif decide (([] : (List Int)).length + x.1.length ≤ lim) then
    some (([] : (List Int)) ++ x.1, ())
    else none
  else
  bif decide (([] : (List Int)).length + x.1.length ≤ lim) then
  some (([] : (List Int)) ++ x.1, ())
  else none
noncomputable def conkClone_Sint_int (N : Nat) : Con := { f := 82, din := dinkClone_Sint_int, outs := outkClone_Sint_int, F := FkClone_Sint_int N }
noncomputable def XkClone_Sint_int (N : Nat) : Ctx := { E := EkClone_Sint_int N, H := HkClone_Sint_int, lp := [], jn := [] }
theorem FkClone_Sint_int_eq (N : Nat) (x : ((List Int) × Unit)) : evFn (XkClone_Sint_int N) Try.f82 dinkClone_Sint_int outkClone_Sint_int x = FkClone_Sint_int N x := by kernel_rfl
theorem cxkClone_Sint_int (N : Nat) : CtxOk Try.prog (XkClone_Sint_int N) := ⟨⟨TE_ok, fun k hk => absurd hk List.not_mem_nil⟩, mixed⟩
theorem speckClone_Sint_int (N : Nat) : Spec Try.prog (conkClone_Sint_int N) :=
  Spec.of_eq (fn_spec (cxkClone_Sint_int N) (f := 82) (fn := Try.f82) (c := codeOf Try.f82) (by kernel_rfl) (by kernel_rfl) (by kernel_rfl) (loops_at (ids := []) (by kernel_rfl) (trivial)) (by kernel_rfl)) (fun x r h => (FkClone_Sint_int_eq N x).trans h)

/-! ### 107: impl.Graph).copy -/

noncomputable def diniGraph_copy : Desc := { n := 1, regs := [.one (.val (.pair (.sl (.pair (.sl (.int .i64)) (.pair (.sl (.int .i64)) .unit))) (.pair (.sl (.sl (.int .i64))) (.pair (.sl (.int .i64)) .unit))))], bx := [], pins := [] }
noncomputable def outiGraph_copy : Outs := [(.ret, { n := 1, regs := [.agg [.lit (.row 1012993), .lit (.row 1012994), .lit (.row 1012929)]], bx := [(1012993, .row (.pair (.sl (.int .i64)) (.pair (.sl (.int .i64)) .unit))), (1012994, .row (.sl (.int .i64))), (1012929, .row (.int .i64))], pins := [] })]
noncomputable def HiGraph_copy : Hints := [(0, [(0, { fz := true })]),
  (1, [(3, { nl := [(0, (.pair (.sl (.int .i64)) (.pair (.sl (.int .i64)) .unit))), (1, (.sl (.int .i64)))] })]),
  (5, [(9, { dp := true }), (10, { dp := true })]),
  (10, [(4, { dp := true }), (5, { dp := true })])]
noncomputable def EiGraph_copy (N : Nat) : Env := { te := TE, cs := [conkClone_Sint_int N] }
noncomputable def diGraph_copy_0 : Desc := { n := 48, regs := [u, .one (.fpt (.pair (.sl (.pair (.sl (.int .i64)) (.pair (.sl (.int .i64)) .unit))) (.pair (.sl (.sl (.int .i64))) (.pair (.sl (.int .i64)) .unit)))), .one (.lit (.ptr 1000064 0)), .one (.lit (.ptr 1013056 0)), u, u, u, u, u, u, u, u, u, .one (.val (.sl (.pair (.sl (.int .i64)) (.pair (.sl (.int .i64)) .unit)))), .one (.val (.int .i64)), .one (.val (.int .i64))], bx := [(1000064, .var [.lit .nil, .lit .nil, .lit .nil]), (1013056, .var [.lit (.row 1012993), .lit (.row 1012994), .lit (.row 1012929)]), (1012993, .row (.pair (.sl (.int .i64)) (.pair (.sl (.int .i64)) .unit))), (1012994, .row (.sl (.int .i64))), (1012929, .row (.int .i64))], pins := [] }
noncomputable def oiGraph_copy_0 : Outs := [(.exit 0, { n := 48, regs := [u, .one (.fpt (.pair (.sl (.pair (.sl (.int .i64)) (.pair (.sl (.int .i64)) .unit))) (.pair (.sl (.sl (.int .i64))) (.pair (.sl (.int .i64)) .unit)))), .one (.lit (.ptr 1000064 0)), .one (.lit (.ptr 1013056 0))], bx := [(1000064, .var [.lit .nil, .lit .nil, .lit .nil]), (1013056, .var [.lit (.row 1012993), .lit (.row 1012994), .lit (.row 1012929)]), (1012993, .row (.pair (.sl (.int .i64)) (.pair (.sl (.int .i64)) .unit))), (1012994, .row (.sl (.int .i64))), (1012929, .row (.int .i64))], pins := [] })]
noncomputable def diGraph_copy_2 : Desc := { n := 48, regs := [u, u, .one (.lit (.ptr 1000064 0)), .one (.lit (.ptr 1013056 0)), u, u, u, u, u, u, u, u, u, u, u, u, u, u, u, u, u, u, u, u, u, u, u, u, u, u, u, u, u, .one (.val (.sl (.sl (.int .i64)))), .one (.val (.int .i64)), .one (.val (.int .i64))], bx := [(1000064, .var [.lit .nil, .lit .nil, .lit .nil]), (1013056, .var [.lit (.row 1012993), .lit (.row 1012994), .lit (.row 1012929)]), (1012993, .row (.pair (.sl (.int .i64)) (.pair (.sl (.int .i64)) .unit))), (1012994, .row (.sl (.int .i64))), (1012929, .row (.int .i64))], pins := [] }
noncomputable def oiGraph_copy_2 : Outs := [(.exit 2, { n := 48, regs := [u, u, .one (.lit (.ptr 1000064 0)), .one (.lit (.ptr 1013056 0))], bx := [(1000064, .var [.lit .nil, .lit .nil, .lit .nil]), (1013056, .var [.lit (.row 1012993), .lit (.row 1012994), .lit (.row 1012929)]), (1012993, .row (.pair (.sl (.int .i64)) (.pair (.sl (.int .i64)) .unit))), (1012994, .row (.sl (.int .i64))), (1012929, .row (.int .i64))], pins := [] })]
noncomputable def liGraph_copy_0 (N : Nat) : Nat → (((List ((List Int) × ((List Int) × Unit))) × ((List (List Int)) × ((List Int) × Unit))) × ((List ((List Int) × ((List Int) × Unit))) × (Int × (Int × ((List ((List Int) × ((List Int) × Unit))) × ((List (List Int)) × ((List Int) × Unit))))))) → Option (((List ((List Int) × ((List Int) × Unit))) × ((List (List Int)) × ((List Int) × Unit))) × ((List ((List Int) × ((List Int) × Unit))) × ((List (List Int)) × ((List Int) × Unit))))
  | 0, _ => none
  | n + 1, v =>
    bif decide (v.2.2.2.1 < v.2.2.1) then
     bif decide (0 ≤ v.2.2.2.1) then
     bif decide (v.2.2.2.1.toNat < v.2.1.length) then
     let y3 := v.2.1.getD v.2.2.2.1.toNat (([] : (List Int)), ([] : (List Int)), ())
     (FkClone_Sint_int N (y3.1, ())).bind fun r4 =>
     (FkClone_Sint_int N (y3.2.1, ())).bind fun r5 =>
     bif decide (v.2.2.2.2.1.length + [(r4.1, r5.1, ())].length ≤ lim) then
     liGraph_copy_0 N n (v.1, v.2.1, v.2.2.1, w64 (v.2.2.2.1 + (1 : Int)), v.2.2.2.2.1 ++ [(r4.1, r5.1, ())], v.2.2.2.2.2.1, v.2.2.2.2.2.2.1, ())
     else none
     else none
     else none
    else
    some (v.1, v.2.2.2.2.1, v.2.2.2.2.2.1, v.2.2.2.2.2.2.1, ())
noncomputable def liGraph_copy_2 (N : Nat) : Nat → ((List (List Int)) × (Int × (Int × ((List ((List Int) × ((List Int) × Unit))) × ((List (List Int)) × ((List Int) × Unit)))))) → Option ((List ((List Int) × ((List Int) × Unit))) × ((List (List Int)) × ((List Int) × Unit)))
  | 0, _ => none
  | n + 1, v =>
    bif decide (v.2.2.1 < v.2.1) then
     bif decide (0 ≤ v.2.2.1) then
     bif decide (v.2.2.1.toNat < v.1.length) then
     let y7 := v.1.getD v.2.2.1.toNat ([] : (List Int))
     (FkClone_Sint_int N (y7, ())).bind fun r8 =>
     bif decide (v.2.2.2.2.1.length + [r8.1].length ≤ lim) then
     liGraph_copy_2 N n (v.1, v.2.1, w64 (v.2.2.1 + (1 : Int)), v.2.2.2.1, v.2.2.2.2.1 ++ [r8.1], v.2.2.2.2.2.1, ())
     else none
     else none
     else none
    else
    some (v.2.2.2.1, v.2.2.2.2.1, v.2.2.2.2.2.1, ())
noncomputable def FiGraph_copy (N : Nat) (x : (((List ((List Int) × ((List Int) × Unit))) × ((List (List Int)) × ((List Int) × Unit))) × Unit)) : Option ((List ((List Int) × ((List Int) × Unit))) × ((List (List Int)) × ((List Int) × Unit))) :=
  (FkClone_Sint_int N (x.1.2.2.1, ())).bind fun r1 =>
  let y2 := ([] : (List ((List Int) × ((List Int) × Unit))))
  (liGraph_copy_0 N N (x.1, x.1.1, (x.1.1.length : Int), (0 : Int), y2, ([] : (List (List Int))), r1.1, ())).bind fun o6 =>
  (liGraph_copy_2 N N (o6.1.2.1, (o6.1.2.1.length : Int), (0 : Int), o6.2.1, o6.2.2.1, o6.2.2.2.1, ())).bind fun o9 =>
  some (o9.1, o9.2.1, o9.2.2.1, ())
noncomputable def coniGraph_copy (N : Nat) : Con := { f := 107, din := diniGraph_copy, outs := outiGraph_copy, F := FiGraph_copy N }
noncomputable def XiGraph_copy (N : Nat) : Ctx := { E := EiGraph_copy N, H := HiGraph_copy, lp := [(0, { hd := diGraph_copy_0, outs := oiGraph_copy_0, run := fun v => liGraph_copy_0 N N v }), (2, { hd := diGraph_copy_2, outs := oiGraph_copy_2, run := fun v => liGraph_copy_2 N N v })], jn := [] }
noncomputable def biGraph_copy_2 : Code := loopBody (codeOf Try.f107) 1
noncomputable def biGraph_copy_0 : Code := loopBody (codeOf Try.f107) 0
theorem FiGraph_copy_eq (N : Nat) (x : (((List ((List Int) × ((List Int) × Unit))) × ((List (List Int)) × ((List Int) × Unit))) × Unit)) : evFn (XiGraph_copy N) Try.f107 diniGraph_copy outiGraph_copy x = FiGraph_copy N x := by kernel_rfl
theorem liGraph_copy_0_eq (N n : Nat) (v : (((List ((List Int) × ((List Int) × Unit))) × ((List (List Int)) × ((List Int) × Unit))) × ((List ((List Int) × ((List Int) × Unit))) × (Int × (Int × ((List ((List Int) × ((List Int) × Unit))) × ((List (List Int)) × ((List Int) × Unit)))))))) : liGraph_copy_0 N (n + 1) v = ev (XiGraph_copy N) biGraph_copy_0 (roundK diGraph_copy_0 oiGraph_copy_0 (liGraph_copy_0 N n)) (diGraph_copy_0.mk' v) := by kernel_rfl
theorem liGraph_copy_2_eq (N n : Nat) (v : ((List (List Int)) × (Int × (Int × ((List ((List Int) × ((List Int) × Unit))) × ((List (List Int)) × ((List Int) × Unit))))))) : liGraph_copy_2 N (n + 1) v = ev (XiGraph_copy N) biGraph_copy_2 (roundK diGraph_copy_2 oiGraph_copy_2 (liGraph_copy_2 N n)) (diGraph_copy_2.mk' v) := by kernel_rfl
theorem cxiGraph_copy (N : Nat) : CtxOk Try.prog (XiGraph_copy N) := ⟨⟨TE_ok, List.forall_mem_cons.2 ⟨speckClone_Sint_int N, fun k hk => absurd hk List.not_mem_nil⟩⟩, mixed⟩
theorem lpiGraph_copy_0 (N : Nat) : LoopOk Try.prog { hd := diGraph_copy_0, outs := oiGraph_copy_0, run := fun v => liGraph_copy_0 N N v } biGraph_copy_0 :=
  loop_fuel (d := diGraph_copy_0) (os := oiGraph_copy_0) (cxiGraph_copy N) (loops_at (ids := []) (by kernel_rfl) (trivial)) (liGraph_copy_0 N) (fun _ => rfl) (fun n v => liGraph_copy_0_eq N n v) (fun _ => N)
theorem lpiGraph_copy_2 (N : Nat) : LoopOk Try.prog { hd := diGraph_copy_2, outs := oiGraph_copy_2, run := fun v => liGraph_copy_2 N N v } biGraph_copy_2 :=
  loop_fuel (d := diGraph_copy_2) (os := oiGraph_copy_2) (cxiGraph_copy N) (loops_at (ids := []) (by kernel_rfl) (trivial)) (liGraph_copy_2 N) (fun _ => rfl) (fun n v => liGraph_copy_2_eq N n v) (fun _ => N)
theorem speciGraph_copy (N : Nat) : Spec Try.prog (coniGraph_copy N) :=
  Spec.of_eq (fn_spec (cxiGraph_copy N) (f := 107) (fn := Try.f107) (c := codeOf Try.f107) (by kernel_rfl) (by kernel_rfl) (by kernel_rfl) (loops_at (ids := [0, 2]) (by kernel_rfl) ⟨lp_of (lpiGraph_copy_0 N), ⟨lp_of (lpiGraph_copy_2 N), trivial⟩⟩) (by kernel_rfl)) (fun x r h => (FiGraph_copy_eq N x).trans h)

/-! ### 144: impl.Op).handles -/

noncomputable def diniOp_handles : Desc := { n := 1, regs := [.one (.val (.pair (.int .i64) (.pair (.int .i64) (.pair (.int .i64) (.pair (.int .i64) (.pair (.int .i64) (.pair (.int .i64) (.pair (.pair (.int .i64) (.pair (.int .i64) .unit)) .unit))))))))], bx := [], pins := [] }
noncomputable def outiOp_handles : Outs := [(.ret, { n := 1, regs := [.one (.lit (.row 1051200))], bx := [(1051200, .row (.int .i64))], pins := [] })]
noncomputable def HiOp_handles : Hints := [(0, [(0, { fz := true })]),
  (4, [(0, { nl := [(0, (.int .i64))] })])]
noncomputable def EiOp_handles (_N : Nat) : Env := { te := TE, cs := [] }
noncomputable def FiOp_handles (N : Nat) (x : ((Int × (Int × (Int × (Int × (Int × (Int × ((Int × (Int × Unit)) × Unit))))))) × Unit)) : Option ((List Int) × Unit) :=
  bif x.1.1 == (1 : Int) then
   some (([] : (List Int)), ())
  else
  bif x.1.1 == (8 : Int) then
   some (([] : (List Int)), ())
  else
  bif x.1.1 == (3 : Int) then
   some ([x.1.2.1, x.1.2.2.1], ())
  else
  bif x.1.1 == (6 : Int) then
   some ([x.1.2.1, x.1.2.2.1], ())
  else
  bif x.1.1 == (7 : Int) then
   some ([x.1.2.1, x.1.2.2.1, x.1.2.2.2.1], ())
  else
  some ([x.1.2.1], ())
noncomputable def coniOp_handles (N : Nat) : Con := { f := 144, din := diniOp_handles, outs := outiOp_handles, F := FiOp_handles N }
noncomputable def XiOp_handles (N : Nat) : Ctx := { E := EiOp_handles N, H := HiOp_handles, lp := [], jn := [] }
theorem FiOp_handles_eq (N : Nat) (x : ((Int × (Int × (Int × (Int × (Int × (Int × ((Int × (Int × Unit)) × Unit))))))) × Unit)) : evFn (XiOp_handles N) Try.f144 diniOp_handles outiOp_handles x = FiOp_handles N x := by kernel_rfl
theorem cxiOp_handles (N : Nat) : CtxOk Try.prog (XiOp_handles N) := ⟨⟨TE_ok, fun k hk => absurd hk List.not_mem_nil⟩, mixed⟩
theorem speciOp_handles (N : Nat) : Spec Try.prog (coniOp_handles N) :=
  Spec.of_eq (fn_spec (cxiOp_handles N) (f := 144) (fn := Try.f144) (c := codeOf Try.f144) (by kernel_rfl) (by kernel_rfl) (by kernel_rfl) (loops_at (ids := []) (by kernel_rfl) (trivial)) (by kernel_rfl)) (fun x r h => (FiOp_handles_eq N x).trans h)

/-! ### 108: impl.Op).early -/

noncomputable def diniOp_early : Desc := { n := 3, regs := [.one (.val (.pair (.int .i64) (.pair (.int .i64) (.pair (.int .i64) (.pair (.int .i64) (.pair (.int .i64) (.pair (.int .i64) (.pair (.pair (.int .i64) (.pair (.int .i64) .unit)) .unit)))))))), .one (.val (.sl (.int .i64))), .one (.val (.int .i64))], bx := [], pins := [] }
noncomputable def outiOp_early : Outs := [(.ret, { n := 1, regs := [.one (.val (.int .i64))], bx := [], pins := [] })]
noncomputable def HiOp_early : Hints := [(0, [(0, { fz := true })])]
noncomputable def EiOp_early (N : Nat) : Env := { te := TE, cs := [coniOp_handles N] }
noncomputable def diOp_early_0 : Desc := { n := 61, regs := [u, .one (.val (.sl (.int .i64))), .one (.val (.int .i64)), .one (.fpt (.pair (.int .i64) (.pair (.int .i64) (.pair (.int .i64) (.pair (.int .i64) (.pair (.int .i64) (.pair (.int .i64) (.pair (.pair (.int .i64) (.pair (.int .i64) .unit)) .unit)))))))), u, u, u, u, u, u, .one (.lit (.row 1012865)), .one (.val (.int .i64)), .one (.val (.int .i64))], bx := [(1012865, .row (.int .i64))], pins := [] }
noncomputable def oiOp_early_0 : Outs := [(.exit 0, { n := 61, regs := [u, .one (.val (.sl (.int .i64))), .one (.val (.int .i64)), .one (.fpt (.pair (.int .i64) (.pair (.int .i64) (.pair (.int .i64) (.pair (.int .i64) (.pair (.int .i64) (.pair (.int .i64) (.pair (.pair (.int .i64) (.pair (.int .i64) .unit)) .unit))))))))], bx := [], pins := [] }), (.ret, { n := 61, regs := [u, u, u, u, u, u, .one (.val (.int .i64))], bx := [], pins := [] })]
noncomputable def jiOp_early_16 : Outs := [(.normal, { n := 61, regs := [u, .one (.val (.sl (.int .i64))), u, .one (.fpt (.pair (.int .i64) (.pair (.int .i64) (.pair (.int .i64) (.pair (.int .i64) (.pair (.int .i64) (.pair (.int .i64) (.pair (.pair (.int .i64) (.pair (.int .i64) .unit)) .unit))))))))], bx := [], pins := [] }), (.ret, { n := 61, regs := [u, u, u, u, u, u, .one (.val (.int .i64))], bx := [], pins := [] })]
noncomputable def liOp_early_0 (N : Nat) : Nat → ((List Int) × (Int × ((Int × (Int × (Int × (Int × (Int × (Int × ((Int × (Int × Unit)) × Unit))))))) × (Int × (Int × ((List Int) × Unit)))))) → Option (((List Int) × (Int × ((Int × (Int × (Int × (Int × (Int × (Int × ((Int × (Int × Unit)) × Unit))))))) × Unit))) ⊕ (Int × Unit))
  | 0, _ => none
  | n + 1, v =>
    bif decide (v.2.2.2.2.1 < v.2.2.2.1) then
     bif decide (0 ≤ v.2.2.2.2.1) then
     bif decide (v.2.2.2.2.1.toNat < v.2.2.2.2.2.1.length) then
     let y2 := v.2.2.2.2.2.1.getD v.2.2.2.2.1.toNat (0 : Int)
     bif decide (y2 < (0 : Int)) then
      some (.inr (((2 : Int), ())))
     else
     bif decide (y2 ≥ (v.1.length : Int)) then
      some (.inr (((2 : Int), ())))
     else
     liOp_early_0 N n (v.1, v.2.1, v.2.2.1, v.2.2.2.1, w64 (v.2.2.2.2.1 + (1 : Int)), v.2.2.2.2.2.1, ())
     else none
     else none
    else
    some (.inl (v.1, v.2.1, v.2.2.1, ()))
noncomputable def FiOp_early (N : Nat) (x : ((Int × (Int × (Int × (Int × (Int × (Int × ((Int × (Int × Unit)) × Unit))))))) × ((List Int) × (Int × Unit)))) : Option (Int × Unit) :=
  (FiOp_handles N (x.1, ())).bind fun r1 =>
  (liOp_early_0 N N (x.2.1, x.2.2.1, x.1, (r1.1.length : Int), (0 : Int), r1.1, ())).bind fun o3 =>
  Sum.elim (fun o4 =>
   Option.bind (
    bif o4.2.2.1.1 == (8 : Int) then
     bif (o4.1.length : Int) == (0 : Int) then
      some (.inr (((2 : Int), ())))
     else
     some (.inl (o4.1, o4.2.2.1, ()))
    else
    bif o4.2.2.1.1 == (1 : Int) then
     some (.inl (o4.1, o4.2.2.1, ()))
    else
    bif o4.2.2.1.1 == (6 : Int) then
     some (.inl (o4.1, o4.2.2.1, ()))
    else
    bif o4.2.2.1.1 == (9 : Int) then
     some (.inl (o4.1, o4.2.2.1, ()))
    else
    bif decide (0 ≤ o4.2.2.1.2.1) then
    bif decide (o4.2.2.1.2.1.toNat < o4.1.length) then
    let y5 := o4.1.getD o4.2.2.1.2.1.toNat (0 : Int)
    bif y5 == o4.2.1 then
     some (.inr (((3 : Int), ())))
    else
    some (.inl (o4.1, o4.2.2.1, ()))
    else none
    else none) fun o6 =>
   Sum.elim (fun o7 =>
    bif o7.2.1.1 == (1 : Int) then
     let y8 := decide ((o7.1.length : Int) ≥ (8 : Int))
     bif y8 then
      some ((5 : Int), ())
     else
     some ((0 : Int), ())
    else
    bif o7.2.1.1 == (2 : Int) then
     let y9 := decide ((o7.1.length : Int) ≥ (8 : Int))
     bif y9 then
      some ((5 : Int), ())
     else
     some ((0 : Int), ())
    else
    bif o7.2.1.1 == (9 : Int) then
     let y10 := decide ((o7.1.length : Int) ≥ (8 : Int))
     bif y10 then
      some ((5 : Int), ())
     else
     some ((0 : Int), ())
    else
    some ((0 : Int), ())) (fun o11 =>
    some (o11.1, ())) o6) (fun o12 =>
   some (o12.1, ())) o3
noncomputable def coniOp_early (N : Nat) : Con := { f := 108, din := diniOp_early, outs := outiOp_early, F := FiOp_early N }
noncomputable def XiOp_early (N : Nat) : Ctx := { E := EiOp_early N, H := HiOp_early, lp := [(0, { hd := diOp_early_0, outs := oiOp_early_0, run := fun v => liOp_early_0 N N v })], jn := [(16, jiOp_early_16)] }
noncomputable def biOp_early_0 : Code := loopBody (codeOf Try.f108) 0
theorem FiOp_early_eq (N : Nat) (x : ((Int × (Int × (Int × (Int × (Int × (Int × ((Int × (Int × Unit)) × Unit))))))) × ((List Int) × (Int × Unit)))) : evFn (XiOp_early N) Try.f108 diniOp_early outiOp_early x = FiOp_early N x := by kernel_rfl
theorem liOp_early_0_eq (N n : Nat) (v : ((List Int) × (Int × ((Int × (Int × (Int × (Int × (Int × (Int × ((Int × (Int × Unit)) × Unit))))))) × (Int × (Int × ((List Int) × Unit))))))) : liOp_early_0 N (n + 1) v = ev (XiOp_early N) biOp_early_0 (roundK diOp_early_0 oiOp_early_0 (liOp_early_0 N n)) (diOp_early_0.mk' v) := by kernel_rfl
theorem cxiOp_early (N : Nat) : CtxOk Try.prog (XiOp_early N) := ⟨⟨TE_ok, List.forall_mem_cons.2 ⟨speciOp_handles N, fun k hk => absurd hk List.not_mem_nil⟩⟩, mixed⟩
theorem lpiOp_early_0 (N : Nat) : LoopOk Try.prog { hd := diOp_early_0, outs := oiOp_early_0, run := fun v => liOp_early_0 N N v } biOp_early_0 :=
  loop_fuel (d := diOp_early_0) (os := oiOp_early_0) (cxiOp_early N) (loops_at (ids := []) (by kernel_rfl) (trivial)) (liOp_early_0 N) (fun _ => rfl) (fun n v => liOp_early_0_eq N n v) (fun _ => N)
theorem speciOp_early (N : Nat) : Spec Try.prog (coniOp_early N) :=
  Spec.of_eq (fn_spec (cxiOp_early N) (f := 108) (fn := Try.f108) (c := codeOf Try.f108) (by kernel_rfl) (by kernel_rfl) (by kernel_rfl) (loops_at (ids := [0]) (by kernel_rfl) ⟨lp_of (lpiOp_early_0 N), trivial⟩) (by kernel_rfl)) (fun x r h => (FiOp_early_eq N x).trans h)

/-! ### 109: impl.Op).field -/

noncomputable def diniOp_field : Desc := { n := 3, regs := [.one (.val (.pair (.int .i64) (.pair (.int .i64) (.pair (.int .i64) (.pair (.int .i64) (.pair (.int .i64) (.pair (.int .i64) (.pair (.pair (.int .i64) (.pair (.int .i64) .unit)) .unit)))))))), .one (.val (.int .i64)), .one (.val (.int .i64))], bx := [], pins := [] }
noncomputable def outiOp_field : Outs := [(.ret, { n := 1, regs := [.one (.val .bool)], bx := [], pins := [] })]
noncomputable def HiOp_field : Hints := [(0, [(0, { fz := true })])]
noncomputable def EiOp_field (_N : Nat) : Env := { te := TE, cs := [] }
noncomputable def FiOp_field (N : Nat) (x : ((Int × (Int × (Int × (Int × (Int × (Int × ((Int × (Int × Unit)) × Unit))))))) × (Int × (Int × Unit)))) : Option (Bool × Unit) :=
  bif x.1.1 == (2 : Int) then
   bif decide (x.1.2.2.2.2.1 ≥ (0 : Int)) then
    some (decide (x.1.2.2.2.2.1 < x.2.1), ())
   else
   some (false, ())
  else
  bif x.1.1 == (3 : Int) then
   bif decide (x.1.2.2.2.2.1 ≥ (0 : Int)) then
    some (decide (x.1.2.2.2.2.1 < x.2.1), ())
   else
   some (false, ())
  else
  bif x.1.1 == (7 : Int) then
   bif decide (x.1.2.2.2.2.1 ≥ (0 : Int)) then
    some (decide (x.1.2.2.2.2.1 < x.2.1), ())
   else
   some (false, ())
  else
  bif x.1.1 == (4 : Int) then
   bif decide (x.1.2.2.2.2.1 ≥ (0 : Int)) then
    some (decide (x.1.2.2.2.2.1 < x.2.2.1), ())
   else
   some (false, ())
  else
  bif x.1.1 == (5 : Int) then
   bif decide (x.1.2.2.2.2.1 ≥ (0 : Int)) then
    some (decide (x.1.2.2.2.2.1 < x.2.2.1), ())
   else
   some (false, ())
  else
  some (true, ())
noncomputable def coniOp_field (N : Nat) : Con := { f := 109, din := diniOp_field, outs := outiOp_field, F := FiOp_field N }
noncomputable def XiOp_field (N : Nat) : Ctx := { E := EiOp_field N, H := HiOp_field, lp := [], jn := [] }
theorem FiOp_field_eq (N : Nat) (x : ((Int × (Int × (Int × (Int × (Int × (Int × ((Int × (Int × Unit)) × Unit))))))) × (Int × (Int × Unit)))) : evFn (XiOp_field N) Try.f109 diniOp_field outiOp_field x = FiOp_field N x := by kernel_rfl
theorem cxiOp_field (N : Nat) : CtxOk Try.prog (XiOp_field N) := ⟨⟨TE_ok, fun k hk => absurd hk List.not_mem_nil⟩, mixed⟩
theorem speciOp_field (N : Nat) : Spec Try.prog (coniOp_field N) :=
  Spec.of_eq (fn_spec (cxiOp_field N) (f := 109) (fn := Try.f109) (c := codeOf Try.f109) (by kernel_rfl) (by kernel_rfl) (by kernel_rfl) (loops_at (ids := []) (by kernel_rfl) (trivial)) (by kernel_rfl)) (fun x r h => (FiOp_field_eq N x).trans h)

/-! ### 160: bits.Mul64 -/

noncomputable def dinmath_bits_Mul64 : Desc := { n := 2, regs := [.one (.val (.int .u64)), .one (.val (.int .u64))], bx := [], pins := [] }
noncomputable def outmath_bits_Mul64 : Outs := [(.ret, { n := 2, regs := [.one (.val (.int .u64)), .one (.val (.int .u64))], bx := [], pins := [] })]
noncomputable def Hmath_bits_Mul64 : Hints := []
noncomputable def Emath_bits_Mul64 (_N : Nat) : Env := { te := TE, cs := [] }
noncomputable def Fmath_bits_Mul64 (N : Nat) (x : (Int × (Int × Unit))) : Option (Int × (Int × Unit)) :=
  let y1 := IntKind.wrap .u64 (((bitsOf .u64 x.1 &&& bitsOf .u64 (4294967295 : Int)).toNat : Int))
  bif decide (0 ≤ (32 : Int)) then
  let y2 := Int.fdiv x.1 (2 ^ min (32 : Int).toNat 64)
  let y3 := IntKind.wrap .u64 (((bitsOf .u64 x.2.1 &&& bitsOf .u64 (4294967295 : Int)).toNat : Int))
  bif decide (0 ≤ (32 : Int)) then
  let y4 := Int.fdiv x.2.1 (2 ^ min (32 : Int).toNat 64)
  bif decide (0 ≤ (32 : Int)) then
  let y5 := Int.fdiv (IntKind.wrap .u64 (y1 * y3)) (2 ^ min (32 : Int).toNat 64)
  let y6 := IntKind.wrap .u64 ((IntKind.wrap .u64 (y2 * y3)) + y5)
  let y7 := IntKind.wrap .u64 (((bitsOf .u64 y6 &&& bitsOf .u64 (4294967295 : Int)).toNat : Int))
  bif decide (0 ≤ (32 : Int)) then
  let y8 := Int.fdiv y6 (2 ^ min (32 : Int).toNat 64)
  let y9 := IntKind.wrap .u64 (y7 + (IntKind.wrap .u64 (y1 * y4)))
  let y10 := IntKind.wrap .u64 ((IntKind.wrap .u64 (y2 * y4)) + y8)
  bif decide (0 ≤ (32 : Int)) then
  let y11 := Int.fdiv y9 (2 ^ min (32 : Int).toNat 64)
  some (IntKind.wrap .u64 (y10 + y11), IntKind.wrap .u64 (x.1 * x.2.1), ())
  else none
  else none
  else none
  else none
  else none
noncomputable def conmath_bits_Mul64 (N : Nat) : Con := { f := 160, din := dinmath_bits_Mul64, outs := outmath_bits_Mul64, F := Fmath_bits_Mul64 N }
noncomputable def Xmath_bits_Mul64 (N : Nat) : Ctx := { E := Emath_bits_Mul64 N, H := Hmath_bits_Mul64, lp := [], jn := [] }
theorem Fmath_bits_Mul64_eq (N : Nat) (x : (Int × (Int × Unit))) : evFn (Xmath_bits_Mul64 N) Try.f160 dinmath_bits_Mul64 outmath_bits_Mul64 x = Fmath_bits_Mul64 N x := by kernel_rfl
theorem cxmath_bits_Mul64 (N : Nat) : CtxOk Try.prog (Xmath_bits_Mul64 N) := ⟨⟨TE_ok, fun k hk => absurd hk List.not_mem_nil⟩, mixed⟩
theorem specmath_bits_Mul64 (N : Nat) : Spec Try.prog (conmath_bits_Mul64 N) :=
  Spec.of_eq (fn_spec (cxmath_bits_Mul64 N) (f := 160) (fn := Try.f160) (c := codeOf Try.f160) (by kernel_rfl) (by kernel_rfl) (by kernel_rfl) (loops_at (ids := []) (by kernel_rfl) (trivial)) (by kernel_rfl)) (fun x r h => (Fmath_bits_Mul64_eq N x).trans h)

/-! ### 156: bits.Mul -/

noncomputable def dinmath_bits_Mul : Desc := { n := 2, regs := [.one (.val (.int .u64)), .one (.val (.int .u64))], bx := [], pins := [] }
noncomputable def outmath_bits_Mul : Outs := [(.ret, { n := 2, regs := [.one (.val (.int .u64)), .one (.val (.int .u64))], bx := [], pins := [] })]
noncomputable def Hmath_bits_Mul : Hints := []
noncomputable def Emath_bits_Mul (N : Nat) : Env := { te := TE, cs := [conmath_bits_Mul64 N] }
noncomputable def Fmath_bits_Mul (N : Nat) (x : (Int × (Int × Unit))) : Option (Int × (Int × Unit)) :=
  (Fmath_bits_Mul64 N (x.1, x.2.1, ())).bind fun r1 =>
  some (r1.1, r1.2.1, ())
noncomputable def conmath_bits_Mul (N : Nat) : Con := { f := 156, din := dinmath_bits_Mul, outs := outmath_bits_Mul, F := Fmath_bits_Mul N }
noncomputable def Xmath_bits_Mul (N : Nat) : Ctx := { E := Emath_bits_Mul N, H := Hmath_bits_Mul, lp := [], jn := [] }
theorem Fmath_bits_Mul_eq (N : Nat) (x : (Int × (Int × Unit))) : evFn (Xmath_bits_Mul N) Try.f156 dinmath_bits_Mul outmath_bits_Mul x = Fmath_bits_Mul N x := by kernel_rfl
theorem cxmath_bits_Mul (N : Nat) : CtxOk Try.prog (Xmath_bits_Mul N) := ⟨⟨TE_ok, List.forall_mem_cons.2 ⟨specmath_bits_Mul64 N, fun k hk => absurd hk List.not_mem_nil⟩⟩, mixed⟩
theorem specmath_bits_Mul (N : Nat) : Spec Try.prog (conmath_bits_Mul N) :=
  Spec.of_eq (fn_spec (cxmath_bits_Mul N) (f := 156) (fn := Try.f156) (c := codeOf Try.f156) (by kernel_rfl) (by kernel_rfl) (by kernel_rfl) (loops_at (ids := []) (by kernel_rfl) (trivial)) (by kernel_rfl)) (fun x r h => (Fmath_bits_Mul_eq N x).trans h)

/-! ### 145: slices.Repeat[[]int,int] -/

noncomputable def dinkRepeat_Sint_int : Desc := { n := 2, regs := [.one (.val (.sl (.int .i64))), .one (.val (.int .i64))], bx := [], pins := [] }
noncomputable def outkRepeat_Sint_int : Outs := [(.ret, { n := 1, regs := [.one (.lit (.row 1076928))], bx := [(1076928, .row (.int .i64))], pins := [] })]
noncomputable def HkRepeat_Sint_int : Hints := []
noncomputable def EkRepeat_Sint_int (N : Nat) : Env := { te := TE, cs := [conmath_bits_Mul N] }
noncomputable def dkRepeat_Sint_int_0 : Desc := { n := 48, regs := [u, u, u, u, u, u, u, .one (.lit (.row 1076928)), .one (.val (.int .i64))], bx := [(1076928, .row (.int .i64))], pins := [] }
noncomputable def okRepeat_Sint_int_0 : Outs := [(.exit 0, { n := 48, regs := [u, u, u, u, u, u, u, .one (.lit (.row 1076928))], bx := [(1076928, .row (.int .i64))], pins := [] })]
noncomputable def jkRepeat_Sint_int_3 : Outs := [(.normal, { n := 48, regs := [.one (.val (.sl (.int .i64))), .one (.val (.int .i64))], bx := [], pins := [] })]
noncomputable def jkRepeat_Sint_int_6 : Outs := [(.normal, { n := 48, regs := [.one (.val (.sl (.int .i64))), u, u, u, u, u, .one (.val (.int .u64))], bx := [], pins := [] })]
noncomputable def lkRepeat_Sint_int_0 (N : Nat) : Nat → (Int × ((List Int) × Unit)) → Option ((List Int) × Unit)
  | 0, _ => none
  | n + 1, v =>
    bif decide (v.1 < (v.2.1.length : Int)) then
     bif decide (0 ≤ (v.2.1.length : Int)) then
     bif decide ((v.2.1.length : Int) ≤ (v.2.1.length : Int)) then
     bif decide (0 ≤ v.1) then
     bif decide (v.1 ≤ (v.2.1.length : Int)) then
     bif decide (0 ≤ v.1) then
     bif decide (v.1 ≤ (v.2.1.length : Int)) then
     bif decide (0 ≤ (0 : Int)) then
     bif decide ((0 : Int) ≤ v.1) then
     let y8 := lay v.2.1 v.1.toNat (((v.2.1.drop ((0 : Int).toNat)).take (v.1.toNat - (0 : Int).toNat)).take ((v.2.1.length : Int).toNat - v.1.toNat))
     let y9 := ((min ((v.2.1.drop ((0 : Int).toNat)).take (v.1.toNat - (0 : Int).toNat)).length ((v.2.1.length : Int).toNat - v.1.toNat) : Nat) : Int)
     lkRepeat_Sint_int_0 N n (w64 (v.1 + y9), y8, ())
     else none
     else none
     else none
     else none
     else none
     else none
     else none
     else none
    else
    some (v.2.1, ())
noncomputable def FkRepeat_Sint_int (N : Nat) (x : ((List Int) × (Int × Unit))) : Option ((List Int) × Unit) :=
  Option.bind (
   bif decide (x.2.1 < (0 : Int)) then
    none
   else
   some (x.1, x.2.1, ())) fun o1 =>
  let y2 := IntKind.wrap .u64 ((o1.1.length : Int))
  (Fmath_bits_Mul N (y2, IntKind.wrap .u64 (o1.2.1), ())).bind fun r3 =>
  Option.bind (
   bif decide (r3.1 > (0 : Int)) then
    none
   else
   let y4 := decide (r3.2.1 > (9223372036854775807 : Int))
   bif y4 then
    none
   else
   some (o1.1, r3.2.1, ())) fun o5 =>
  bif decide (0 ≤ (w64 (o5.2.1))) then
  bif decide ((w64 (o5.2.1)).toNat ≤ lim) then
  let y6 := List.replicate (w64 (o5.2.1)).toNat (0 : Int)
  let y7 := ((min o5.1.length y6.length : Nat) : Int)
  (lkRepeat_Sint_int_0 N N (y7, lay y6 0 (o5.1.take y6.length), ())).bind fun o10 =>
  some (o10.1, ())
  else none
  else none
noncomputable def conkRepeat_Sint_int (N : Nat) : Con := { f := 145, din := dinkRepeat_Sint_int, outs := outkRepeat_Sint_int, F := FkRepeat_Sint_int N }
noncomputable def XkRepeat_Sint_int (N : Nat) : Ctx := { E := EkRepeat_Sint_int N, H := HkRepeat_Sint_int, lp := [(0, { hd := dkRepeat_Sint_int_0, outs := okRepeat_Sint_int_0, run := fun v => lkRepeat_Sint_int_0 N N v })], jn := [(3, jkRepeat_Sint_int_3), (6, jkRepeat_Sint_int_6)] }
noncomputable def bkRepeat_Sint_int_0 : Code := loopBody (codeOf Try.f145) 0
theorem FkRepeat_Sint_int_eq (N : Nat) (x : ((List Int) × (Int × Unit))) : evFn (XkRepeat_Sint_int N) Try.f145 dinkRepeat_Sint_int outkRepeat_Sint_int x = FkRepeat_Sint_int N x := by kernel_rfl
theorem lkRepeat_Sint_int_0_eq (N n : Nat) (v : (Int × ((List Int) × Unit))) : lkRepeat_Sint_int_0 N (n + 1) v = ev (XkRepeat_Sint_int N) bkRepeat_Sint_int_0 (roundK dkRepeat_Sint_int_0 okRepeat_Sint_int_0 (lkRepeat_Sint_int_0 N n)) (dkRepeat_Sint_int_0.mk' v) := by kernel_rfl
theorem cxkRepeat_Sint_int (N : Nat) : CtxOk Try.prog (XkRepeat_Sint_int N) := ⟨⟨TE_ok, List.forall_mem_cons.2 ⟨specmath_bits_Mul N, fun k hk => absurd hk List.not_mem_nil⟩⟩, mixed⟩
theorem lpkRepeat_Sint_int_0 (N : Nat) : LoopOk Try.prog { hd := dkRepeat_Sint_int_0, outs := okRepeat_Sint_int_0, run := fun v => lkRepeat_Sint_int_0 N N v } bkRepeat_Sint_int_0 :=
  loop_fuel (d := dkRepeat_Sint_int_0) (os := okRepeat_Sint_int_0) (cxkRepeat_Sint_int N) (loops_at (ids := []) (by kernel_rfl) (trivial)) (lkRepeat_Sint_int_0 N) (fun _ => rfl) (fun n v => lkRepeat_Sint_int_0_eq N n v) (fun _ => N)
theorem speckRepeat_Sint_int (N : Nat) : Spec Try.prog (conkRepeat_Sint_int N) :=
  Spec.of_eq (fn_spec (cxkRepeat_Sint_int N) (f := 145) (fn := Try.f145) (c := codeOf Try.f145) (by kernel_rfl) (by kernel_rfl) (by kernel_rfl) (loops_at (ids := [0]) (by kernel_rfl) ⟨lp_of (lpkRepeat_Sint_int_0 N), trivial⟩) (by kernel_rfl)) (fun x r h => (FkRepeat_Sint_int_eq N x).trans h)

/-! ### 110: impl.none -/

noncomputable def dininone : Desc := { n := 1, regs := [.one (.val (.int .i64))], bx := [], pins := [] }
noncomputable def outinone : Outs := [(.ret, { n := 1, regs := [.one (.lit (.row 1012929))], bx := [(1012929, .row (.int .i64))], pins := [] })]
noncomputable def Hinone : Hints := []
noncomputable def Einone (N : Nat) : Env := { te := TE, cs := [conkRepeat_Sint_int N] }
noncomputable def Finone (N : Nat) (x : (Int × Unit)) : Option ((List Int) × Unit) :=
  (FkRepeat_Sint_int N ([(-1 : Int)], x.1, ())).bind fun r1 =>
  some (r1.1, ())
noncomputable def coninone (N : Nat) : Con := { f := 110, din := dininone, outs := outinone, F := Finone N }
noncomputable def Xinone (N : Nat) : Ctx := { E := Einone N, H := Hinone, lp := [], jn := [] }
theorem Finone_eq (N : Nat) (x : (Int × Unit)) : evFn (Xinone N) Try.f110 dininone outinone x = Finone N x := by kernel_rfl
theorem cxinone (N : Nat) : CtxOk Try.prog (Xinone N) := ⟨⟨TE_ok, List.forall_mem_cons.2 ⟨speckRepeat_Sint_int N, fun k hk => absurd hk List.not_mem_nil⟩⟩, mixed⟩
theorem specinone (N : Nat) : Spec Try.prog (coninone N) :=
  Spec.of_eq (fn_spec (cxinone N) (f := 110) (fn := Try.f110) (c := codeOf Try.f110) (by kernel_rfl) (by kernel_rfl) (by kernel_rfl) (loops_at (ids := []) (by kernel_rfl) (trivial)) (by kernel_rfl)) (fun x r h => (Finone_eq N x).trans h)

/-! ### 111: impl.truth -/

noncomputable def dinitruth : Desc := { n := 1, regs := [.one (.val .bool)], bx := [], pins := [] }
noncomputable def outitruth : Outs := [(.ret, { n := 1, regs := [.one (.val (.int .i64))], bx := [], pins := [] })]
noncomputable def Hitruth : Hints := []
noncomputable def Eitruth (_N : Nat) : Env := { te := TE, cs := [] }
noncomputable def Fitruth (N : Nat) (x : (Bool × Unit)) : Option (Int × Unit) :=
  bif x.1 then
   some ((1 : Int), ())
  else
  some ((0 : Int), ())
noncomputable def conitruth (N : Nat) : Con := { f := 111, din := dinitruth, outs := outitruth, F := Fitruth N }
noncomputable def Xitruth (N : Nat) : Ctx := { E := Eitruth N, H := Hitruth, lp := [], jn := [] }
theorem Fitruth_eq (N : Nat) (x : (Bool × Unit)) : evFn (Xitruth N) Try.f111 dinitruth outitruth x = Fitruth N x := by kernel_rfl
theorem cxitruth (N : Nat) : CtxOk Try.prog (Xitruth N) := ⟨⟨TE_ok, fun k hk => absurd hk List.not_mem_nil⟩, mixed⟩
theorem specitruth (N : Nat) : Spec Try.prog (conitruth N) :=
  Spec.of_eq (fn_spec (cxitruth N) (f := 111) (fn := Try.f111) (c := codeOf Try.f111) (by kernel_rfl) (by kernel_rfl) (by kernel_rfl) (loops_at (ids := []) (by kernel_rfl) (trivial)) (by kernel_rfl)) (fun x r h => (Fitruth_eq N x).trans h)

/-! ### 112: impl.lastOf -/

noncomputable def dinilastOf : Desc := { n := 2, regs := [.one (.val (.sl (.int .i64))), .one (.val (.int .i64))], bx := [], pins := [] }
noncomputable def outilastOf : Outs := [(.ret, { n := 1, regs := [.one (.val (.int .i64))], bx := [], pins := [] })]
noncomputable def HilastOf : Hints := []
noncomputable def EilastOf (_N : Nat) : Env := { te := TE, cs := [] }
noncomputable def dilastOf_0 : Desc := { n := 20, regs := [.one (.val (.sl (.int .i64))), .one (.val (.int .i64)), u, u, u, .one (.val (.int .i64))], bx := [], pins := [] }
noncomputable def oilastOf_0 : Outs := [(.exit 0, { n := 20, regs := [], bx := [], pins := [] }), (.ret, { n := 20, regs := [u, u, u, u, .one (.val (.int .i64))], bx := [], pins := [] })]
noncomputable def lilastOf_0 (N : Nat) : Nat → ((List Int) × (Int × (Int × Unit))) → Option (Unit ⊕ (Int × Unit))
  | 0, _ => none
  | n + 1, v =>
    bif decide (v.2.2.1 ≥ (0 : Int)) then
     bif decide (0 ≤ v.2.2.1) then
     bif decide (v.2.2.1.toNat < v.1.length) then
     let y1 := (v.1.getD v.2.2.1.toNat (0 : Int)) == v.2.1
     bif y1 then
      some (.inr ((v.2.2.1, ())))
     else
     lilastOf_0 N n (v.1, v.2.1, w64 (v.2.2.1 - (1 : Int)), ())
     else none
     else none
    else
    some (.inl ())
noncomputable def FilastOf (N : Nat) (x : ((List Int) × (Int × Unit))) : Option (Int × Unit) :=
  (lilastOf_0 N N (x.1, x.2.1, w64 ((x.1.length : Int) - (1 : Int)), ())).bind fun o2 =>
  Sum.elim (fun o3 =>
   some ((-1 : Int), ())) (fun o4 =>
   some (o4.1, ())) o2
noncomputable def conilastOf (N : Nat) : Con := { f := 112, din := dinilastOf, outs := outilastOf, F := FilastOf N }
noncomputable def XilastOf (N : Nat) : Ctx := { E := EilastOf N, H := HilastOf, lp := [(0, { hd := dilastOf_0, outs := oilastOf_0, run := fun v => lilastOf_0 N N v })], jn := [] }
noncomputable def bilastOf_0 : Code := loopBody (codeOf Try.f112) 0
theorem FilastOf_eq (N : Nat) (x : ((List Int) × (Int × Unit))) : evFn (XilastOf N) Try.f112 dinilastOf outilastOf x = FilastOf N x := by kernel_rfl
theorem lilastOf_0_eq (N n : Nat) (v : ((List Int) × (Int × (Int × Unit)))) : lilastOf_0 N (n + 1) v = ev (XilastOf N) bilastOf_0 (roundK dilastOf_0 oilastOf_0 (lilastOf_0 N n)) (dilastOf_0.mk' v) := by kernel_rfl
theorem cxilastOf (N : Nat) : CtxOk Try.prog (XilastOf N) := ⟨⟨TE_ok, fun k hk => absurd hk List.not_mem_nil⟩, mixed⟩
theorem lpilastOf_0 (N : Nat) : LoopOk Try.prog { hd := dilastOf_0, outs := oilastOf_0, run := fun v => lilastOf_0 N N v } bilastOf_0 :=
  loop_fuel (d := dilastOf_0) (os := oilastOf_0) (cxilastOf N) (loops_at (ids := []) (by kernel_rfl) (trivial)) (lilastOf_0 N) (fun _ => rfl) (fun n v => lilastOf_0_eq N n v) (fun _ => N)
theorem specilastOf (N : Nat) : Spec Try.prog (conilastOf N) :=
  Spec.of_eq (fn_spec (cxilastOf N) (f := 112) (fn := Try.f112) (c := codeOf Try.f112) (by kernel_rfl) (by kernel_rfl) (by kernel_rfl) (loops_at (ids := [0]) (by kernel_rfl) ⟨lp_of (lpilastOf_0 N), trivial⟩) (by kernel_rfl)) (fun x r h => (FilastOf_eq N x).trans h)

/-! ### 113: slices.Delete[[]int,int] -/

noncomputable def dinkDelete_Sint_int : Desc := { n := 3, regs := [.one (.lit (.row 0)), .one (.val (.int .i64)), .one (.val (.int .i64))], bx := [(0, .row (.int .i64))], pins := [] }
noncomputable def outkDelete_Sint_int : Outs := [(.ret, { n := 1, regs := [.one (.lit (.row 0))], bx := [(0, .row (.int .i64))], pins := [] })]
noncomputable def HkDelete_Sint_int : Hints := [(7, [(1, { dp := true })])]
noncomputable def EkDelete_Sint_int (_N : Nat) : Env := { te := TE, cs := [] }
noncomputable def FkDelete_Sint_int (N : Nat) (x : (Int × (Int × ((List Int) × Unit)))) : Option ((List Int) × Unit) :=
  bif decide (0 ≤ x.1) then
  bif decide (x.1 ≤ x.2.1) then
  bif decide (x.2.1 ≤ (x.2.2.1.length : Int)) then
  bif decide ((x.2.2.1.length : Int) ≤ (x.2.2.1.length : Int)) then
  bif x.1 == x.2.1 then
   some (x.2.2.1, ())
  else
  bif decide (0 ≤ x.1) then
  bif decide (x.1 ≤ (x.2.2.1.length : Int)) then
  bif decide (0 ≤ (0 : Int)) then
  bif decide ((0 : Int) ≤ x.1) then
  bif decide (0 ≤ (x.2.2.1.length : Int)) then
  bif decide ((x.2.2.1.length : Int) ≤ (x.2.2.1.length : Int)) then
  bif decide (0 ≤ x.2.1) then
  bif decide (x.2.1 ≤ (x.2.2.1.length : Int)) then
  bif decide ((x.1.toNat - (0 : Int).toNat) + ((x.2.2.1.drop x.2.1.toNat).take ((x.2.2.1.length : Int).toNat - x.2.1.toNat)).length ≤ x.2.2.1.length) then
  let y1 := lay x.2.2.1 (x.1.toNat - (0 : Int).toNat) ((x.2.2.1.drop x.2.1.toNat).take ((x.2.2.1.length : Int).toNat - x.2.1.toNat))
  let y2 := ((((x.1.toNat - (0 : Int).toNat) + ((x.2.2.1.drop x.2.1.toNat).take ((x.2.2.1.length : Int).toNat - x.2.1.toNat)).length) : Nat) : Int)
  bif decide (0 ≤ (x.2.2.1.length : Int)) then
  bif decide ((x.2.2.1.length : Int) ≤ ((y1.length : Nat) : Int)) then
  bif decide (0 ≤ y2) then
  bif decide (y2 ≤ (x.2.2.1.length : Int)) then
  let y3 := lay y1 y2.toNat (List.replicate ((x.2.2.1.length : Int).toNat - y2.toNat) (0 : Int))
  let y4 := y3.take ((x.1.toNat - (0 : Int).toNat) + ((x.2.2.1.drop x.2.1.toNat).take ((x.2.2.1.length : Int).toNat - x.2.1.toNat)).length)
  some (y4, ())
  else none
  else none
  else none
  else none
  else none
  else none
  else none
  else none
  else none
  else none
  else none
  else none
  else none
  else none
  else none
  else none
  else none
noncomputable def conkDelete_Sint_int (N : Nat) : Con := { f := 113, din := dinkDelete_Sint_int, outs := outkDelete_Sint_int, F := FkDelete_Sint_int N }
noncomputable def XkDelete_Sint_int (N : Nat) : Ctx := { E := EkDelete_Sint_int N, H := HkDelete_Sint_int, lp := [], jn := [] }
theorem FkDelete_Sint_int_eq (N : Nat) (x : (Int × (Int × ((List Int) × Unit)))) : evFn (XkDelete_Sint_int N) Try.f113 dinkDelete_Sint_int outkDelete_Sint_int x = FkDelete_Sint_int N x := by kernel_rfl
theorem cxkDelete_Sint_int (N : Nat) : CtxOk Try.prog (XkDelete_Sint_int N) := ⟨⟨TE_ok, fun k hk => absurd hk List.not_mem_nil⟩, mixed⟩
theorem speckDelete_Sint_int (N : Nat) : Spec Try.prog (conkDelete_Sint_int N) :=
  Spec.of_eq (fn_spec (cxkDelete_Sint_int N) (f := 113) (fn := Try.f113) (c := codeOf Try.f113) (by kernel_rfl) (by kernel_rfl) (by kernel_rfl) (loops_at (ids := []) (by kernel_rfl) (trivial)) (by kernel_rfl)) (fun x r h => (FkDelete_Sint_int_eq N x).trans h)

/-! ### 51: impl.GraphDo -/

noncomputable def diniGraphDo : Desc := { n := 3, regs := [.one (.val (.pair (.sl (.pair (.sl (.int .i64)) (.pair (.sl (.int .i64)) .unit))) (.pair (.sl (.sl (.int .i64))) (.pair (.sl (.int .i64)) .unit)))), .one (.val (.int .i64)), .one (.val (.pair (.int .i64) (.pair (.int .i64) (.pair (.int .i64) (.pair (.int .i64) (.pair (.int .i64) (.pair (.int .i64) (.pair (.pair (.int .i64) (.pair (.int .i64) .unit)) .unit))))))))], bx := [], pins := [] }
noncomputable def outiGraphDo : Outs := [(.ret, { n := 3, regs := [.agg [.lit (.row 1038465), .lit (.row 1038466), .lit (.row 1038467)], .one (.val (.int .i64)), .one (.val (.int .i64))], bx := [(1038465, .row (.pair (.sl (.int .i64)) (.pair (.sl (.int .i64)) .unit))), (1038466, .row (.sl (.int .i64))), (1038467, .row (.int .i64))], pins := [] })]
noncomputable def HiGraphDo : Hints := [(0, [(0, { fz := true }), (1, { fz := true })]),
  (1, [(16, { con := 1 })]),
  (2, [(0, { nl := [(0, (.pair (.sl (.int .i64)) (.pair (.sl (.int .i64)) .unit))), (1, (.sl (.int .i64))), (2, (.int .i64))] })]),
  (3, [(1, { con := 2 })]),
  (5, [(4, { con := 3 })]),
  (14, [(11, { con := 4 })]),
  (21, [(5, { con := 5 }), (11, { dp := true }), (12, { dp := true })]),
  (31, [(10, { con := 6 })]),
  (45, [(3, { con := 7 })]),
  (48, [(5, { con := 8, sg := [(0, 1038467)] })])]
noncomputable def EiGraphDo (N : Nat) : Env := { te := TE, cs := [coniGraphOk N, coniOpOk N, coniGraph_copy N, coniOp_early N, coniOp_field N, coninone N, conitruth N, conilastOf N, conkDelete_Sint_int N] }
noncomputable def jiGraphDo_3 : Outs := [(.normal, { n := 272, regs := [u, .one (.val (.int .i64)), u, .one (.fpt (.pair (.sl (.pair (.sl (.int .i64)) (.pair (.sl (.int .i64)) .unit))) (.pair (.sl (.sl (.int .i64))) (.pair (.sl (.int .i64)) .unit)))), u, .one (.fpt (.pair (.int .i64) (.pair (.int .i64) (.pair (.int .i64) (.pair (.int .i64) (.pair (.int .i64) (.pair (.int .i64) (.pair (.pair (.int .i64) (.pair (.int .i64) .unit)) .unit)))))))), .one (.lit (.ptr 1000128 0))], bx := [(1000128, .var [.lit .nil, .lit .nil, .lit .nil])], pins := [] }), (.ret, { n := 272, regs := [u, u, u, u, u, u, .one (.lit (.ptr 1000128 0)), .one (.val (.int .i64)), .one (.val (.int .i64))], bx := [(1000128, .var [.lit (.row 1025601), .lit (.row 1025602), .lit (.row 1025603)]), (1025601, .row (.pair (.sl (.int .i64)) (.pair (.sl (.int .i64)) .unit))), (1025602, .row (.sl (.int .i64))), (1025603, .row (.int .i64))], pins := [] })]
noncomputable def jiGraphDo_12 : Outs := [(.normal, { n := 272, regs := [u, u, u, u, u, .one (.fpt (.pair (.int .i64) (.pair (.int .i64) (.pair (.int .i64) (.pair (.int .i64) (.pair (.int .i64) (.pair (.int .i64) (.pair (.pair (.int .i64) (.pair (.int .i64) .unit)) .unit)))))))), .one (.lit (.ptr 1000128 0)), u, u, .one (.lit (.ptr 1038528 0)), .one (.ept 1038466 0), u, .one (.lit .pnil), .one (.val (.int .i64))], bx := [(1000128, .var [.lit .nil, .lit .nil, .lit .nil]), (1038528, .var [.lit (.row 1038465), .lit (.row 1038466), .lit (.row 1038467)]), (1038465, .row (.pair (.sl (.int .i64)) (.pair (.sl (.int .i64)) .unit))), (1038466, .row (.sl (.int .i64))), (1038467, .row (.int .i64))], pins := [] })]
noncomputable def FiGraphDo (N : Nat) (x : (((List ((List Int) × ((List Int) × Unit))) × ((List (List Int)) × ((List Int) × Unit))) × (Int × ((Int × (Int × (Int × (Int × (Int × (Int × ((Int × (Int × Unit)) × Unit))))))) × Unit)))) : Option (Int × (Int × ((List ((List Int) × ((List Int) × Unit))) × ((List (List Int)) × ((List Int) × Unit))))) :=
  Option.bind (
   (FiGraphOk N (x.1, ())).bind fun r1 =>
   bif !r1.1 then
    let y2 := ([] : (List ((List Int) × ((List Int) × Unit))))
    some (.inr (((0 : Int), (1 : Int), y2, ([] : (List (List Int))), ([] : (List Int)), ())))
   else
   bif decide (x.2.1 < (0 : Int)) then
    let y3 := ([] : (List ((List Int) × ((List Int) × Unit))))
    some (.inr (((0 : Int), (1 : Int), y3, ([] : (List (List Int))), ([] : (List Int)), ())))
   else
   let y4 := decide (x.2.1 ≥ (x.1.2.1.length : Int))
   bif y4 then
    let y5 := ([] : (List ((List Int) × ((List Int) × Unit))))
    some (.inr (((0 : Int), (1 : Int), y5, ([] : (List (List Int))), ([] : (List Int)), ())))
   else
   (FiOpOk N (x.2.2.1, ())).bind fun r6 =>
   bif !r6.1 then
    let y7 := ([] : (List ((List Int) × ((List Int) × Unit))))
    some (.inr (((0 : Int), (1 : Int), y7, ([] : (List (List Int))), ([] : (List Int)), ())))
   else
   some (.inl (x.2.1, x.1, x.2.2.1, ()))) fun o8 =>
  Sum.elim (fun o9 =>
   (FiGraph_copy N (o9.2.1, ())).bind fun r10 =>
   bif decide (0 ≤ o9.1) then
   bif decide (o9.1.toNat < r10.2.1.length) then
   (FiOp_early N (o9.2.2.1, r10.2.1.getD o9.1.toNat ([] : (List Int)), (-1 : Int), ())).bind fun r11 =>
   bif r11.1 != (0 : Int) then
    some ((0 : Int), r11.1, r10.1, r10.2.1, r10.2.2.1, ())
   else
   Option.bind (
    bif o9.2.2.1.1 != (1 : Int) then
     bif o9.2.2.1.1 != (8 : Int) then
      bif decide (0 ≤ o9.2.2.1.2.1) then
      bif decide (o9.2.2.1.2.1.toNat < (r10.2.1.getD o9.1.toNat ([] : (List Int))).length) then
      let y12 := (r10.2.1.getD o9.1.toNat ([] : (List Int))).getD o9.2.2.1.2.1.toNat (0 : Int)
      some (o9.2.2.1, Int.ofNat o9.1.toNat, y12, r10.1, r10.2.1, r10.2.2.1, ())
      else none
      else none
     else
     some (o9.2.2.1, Int.ofNat o9.1.toNat, (-1 : Int), r10.1, r10.2.1, r10.2.2.1, ())
    else
    some (o9.2.2.1, Int.ofNat o9.1.toNat, (-1 : Int), r10.1, r10.2.1, r10.2.2.1, ())) fun o13 =>
   bif decide (o13.2.2.1 ≥ (0 : Int)) then
    bif decide (0 ≤ o13.2.2.1) then
    bif decide (o13.2.2.1.toNat < o13.2.2.2.1.length) then
    let y14 := (((o13.2.2.2.1.getD o13.2.2.1.toNat (([] : (List Int)), ([] : (List Int)), ())).1).length : Int)
    let y15 := ((((o13.2.2.2.1.getD o13.2.2.1.toNat (([] : (List Int)), ([] : (List Int)), ())).2).1).length : Int)
    (FiOp_field N (o13.1, y14, y15, ())).bind fun r16 =>
    bif !r16.1 then
     some ((0 : Int), (4 : Int), o13.2.2.2.1, o13.2.2.2.2.1, o13.2.2.2.2.2.1, ())
    else
    bif o13.1.1 == (1 : Int) then
     let y17 := (o13.2.2.2.1.length : Int) == (200 : Int)
     bif y17 then
      some ((0 : Int), (6 : Int), o13.2.2.2.1, o13.2.2.2.2.1, o13.2.2.2.2.2.1, ())
     else
     bif decide ((o13.2.2.2.2.1.getD o13.2.1.toNat ([] : (List Int))).length + [(o13.2.2.2.1.length : Int)].length ≤ lim) then
     let y18 := (o13.2.2.2.2.1.getD o13.2.1.toNat ([] : (List Int))) ++ [(o13.2.2.2.1.length : Int)]
     bif decide (o13.2.1.toNat = o13.2.1.toNat) then
     (Finone N (o13.1.2.2.2.2.2.2.1.1, ())).bind fun r19 =>
     bif decide (0 ≤ o13.1.2.2.2.2.2.2.1.2.1) then
     bif decide (o13.1.2.2.2.2.2.2.1.2.1.toNat ≤ lim) then
     let y20 := List.replicate o13.1.2.2.2.2.2.2.1.2.1.toNat (0 : Int)
     bif decide (o13.2.2.2.1.length + [(r19.1, y20, ())].length ≤ lim) then
     some ((0 : Int), (0 : Int), o13.2.2.2.1 ++ [(r19.1, y20, ())], o13.2.2.2.2.1.set o13.2.1.toNat y18, o13.2.2.2.2.2.1, ())
     else none
     else none
     else none
     else none
     else none
    else
    bif o13.1.1 == (2 : Int) then
     bif decide (0 ≤ o13.1.2.2.2.2.1) then
     bif decide (o13.1.2.2.2.2.1.toNat < ((o13.2.2.2.1.getD o13.2.2.1.toNat (([] : (List Int)), ([] : (List Int)), ())).1).length) then
     let y21 := ((o13.2.2.2.1.getD o13.2.2.1.toNat (([] : (List Int)), ([] : (List Int)), ())).1).getD o13.1.2.2.2.2.1.toNat (0 : Int)
     bif decide ((o13.2.2.2.2.1.getD o13.2.1.toNat ([] : (List Int))).length + [y21].length ≤ lim) then
     let y22 := (o13.2.2.2.2.1.getD o13.2.1.toNat ([] : (List Int))) ++ [y21]
     bif decide (o13.2.1.toNat = o13.2.1.toNat) then
     some ((0 : Int), (0 : Int), o13.2.2.2.1, o13.2.2.2.2.1.set o13.2.1.toNat y22, o13.2.2.2.2.2.1, ())
     else none
     else none
     else none
     else none
    else
    bif o13.1.1 == (3 : Int) then
     bif decide (0 ≤ o13.1.2.2.1) then
     bif decide (o13.1.2.2.1.toNat < (o13.2.2.2.2.1.getD o13.2.1.toNat ([] : (List Int))).length) then
     let y23 := (o13.2.2.2.2.1.getD o13.2.1.toNat ([] : (List Int))).getD o13.1.2.2.1.toNat (0 : Int)
     bif decide (0 ≤ o13.1.2.2.2.2.1) then
     bif decide (o13.1.2.2.2.2.1.toNat < ((o13.2.2.2.1.getD o13.2.2.1.toNat (([] : (List Int)), ([] : (List Int)), ())).1).length) then
     let y24 := o13.2.2.2.1.set o13.2.2.1.toNat (((o13.2.2.2.1.getD o13.2.2.1.toNat (([] : (List Int)), ([] : (List Int)), ())).1).set o13.1.2.2.2.2.1.toNat y23, (o13.2.2.2.1.getD o13.2.2.1.toNat (([] : (List Int)), ([] : (List Int)), ())).2)
     some ((0 : Int), (0 : Int), y24, o13.2.2.2.2.1, o13.2.2.2.2.2.1, ())
     else none
     else none
     else none
     else none
    else
    bif o13.1.1 == (4 : Int) then
     bif decide (0 ≤ o13.1.2.2.2.2.1) then
     bif decide (o13.1.2.2.2.2.1.toNat < (((o13.2.2.2.1.getD o13.2.2.1.toNat (([] : (List Int)), ([] : (List Int)), ())).2).1).length) then
     let y25 := o13.2.2.2.1.set o13.2.2.1.toNat ((o13.2.2.2.1.getD o13.2.2.1.toNat (([] : (List Int)), ([] : (List Int)), ())).1, (((o13.2.2.2.1.getD o13.2.2.1.toNat (([] : (List Int)), ([] : (List Int)), ())).2).1).set o13.1.2.2.2.2.1.toNat o13.1.2.2.2.2.2.1, ((o13.2.2.2.1.getD o13.2.2.1.toNat (([] : (List Int)), ([] : (List Int)), ())).2).2)
     some ((0 : Int), (0 : Int), y25, o13.2.2.2.2.1, o13.2.2.2.2.2.1, ())
     else none
     else none
    else
    bif o13.1.1 == (5 : Int) then
     bif decide (0 ≤ o13.1.2.2.2.2.1) then
     bif decide (o13.1.2.2.2.2.1.toNat < (((o13.2.2.2.1.getD o13.2.2.1.toNat (([] : (List Int)), ([] : (List Int)), ())).2).1).length) then
     let y26 := (((o13.2.2.2.1.getD o13.2.2.1.toNat (([] : (List Int)), ([] : (List Int)), ())).2).1).getD o13.1.2.2.2.2.1.toNat (0 : Int)
     some (y26, (0 : Int), o13.2.2.2.1, o13.2.2.2.2.1, o13.2.2.2.2.2.1, ())
     else none
     else none
    else
    bif o13.1.1 == (6 : Int) then
     bif decide (0 ≤ o13.1.2.2.1) then
     bif decide (o13.1.2.2.1.toNat < (o13.2.2.2.2.1.getD o13.2.1.toNat ([] : (List Int))).length) then
     let y27 := (o13.2.2.2.2.1.getD o13.2.1.toNat ([] : (List Int))).getD o13.1.2.2.1.toNat (0 : Int)
     (Fitruth N (o13.2.2.1 == y27, ())).bind fun r28 =>
     some (r28.1, (0 : Int), o13.2.2.2.1, o13.2.2.2.2.1, o13.2.2.2.2.2.1, ())
     else none
     else none
    else
    bif o13.1.1 == (7 : Int) then
     bif decide (0 ≤ o13.1.2.2.2.2.1) then
     bif decide (o13.1.2.2.2.2.1.toNat < ((o13.2.2.2.1.getD o13.2.2.1.toNat (([] : (List Int)), ([] : (List Int)), ())).1).length) then
     let y29 := ((o13.2.2.2.1.getD o13.2.2.1.toNat (([] : (List Int)), ([] : (List Int)), ())).1).getD o13.1.2.2.2.2.1.toNat (0 : Int)
     bif decide (0 ≤ o13.1.2.2.1) then
     bif decide (o13.1.2.2.1.toNat < (o13.2.2.2.2.1.getD o13.2.1.toNat ([] : (List Int))).length) then
     let y30 := (o13.2.2.2.2.1.getD o13.2.1.toNat ([] : (List Int))).getD o13.1.2.2.1.toNat (0 : Int)
     bif y29 != y30 then
      some ((0 : Int), (0 : Int), o13.2.2.2.1, o13.2.2.2.2.1, o13.2.2.2.2.2.1, ())
     else
     bif decide (0 ≤ o13.1.2.2.2.1) then
     bif decide (o13.1.2.2.2.1.toNat < (o13.2.2.2.2.1.getD o13.2.1.toNat ([] : (List Int))).length) then
     let y31 := (o13.2.2.2.2.1.getD o13.2.1.toNat ([] : (List Int))).getD o13.1.2.2.2.1.toNat (0 : Int)
     bif decide (0 ≤ o13.1.2.2.2.2.1) then
     bif decide (o13.1.2.2.2.2.1.toNat < ((o13.2.2.2.1.getD o13.2.2.1.toNat (([] : (List Int)), ([] : (List Int)), ())).1).length) then
     let y32 := o13.2.2.2.1.set o13.2.2.1.toNat (((o13.2.2.2.1.getD o13.2.2.1.toNat (([] : (List Int)), ([] : (List Int)), ())).1).set o13.1.2.2.2.2.1.toNat y31, (o13.2.2.2.1.getD o13.2.2.1.toNat (([] : (List Int)), ([] : (List Int)), ())).2)
     some ((1 : Int), (0 : Int), y32, o13.2.2.2.2.1, o13.2.2.2.2.2.1, ())
     else none
     else none
     else none
     else none
     else none
     else none
     else none
     else none
    else
    bif o13.1.1 == (8 : Int) then
     let y33 := ((o13.2.2.2.2.1.getD o13.2.1.toNat ([] : (List Int))).length : Int)
     bif decide (0 ≤ (w64 (y33 - (1 : Int)))) then
     bif decide ((w64 (y33 - (1 : Int))) ≤ ((o13.2.2.2.2.1.getD o13.2.1.toNat ([] : (List Int))).length : Int)) then
     bif decide (0 ≤ (0 : Int)) then
     bif decide ((0 : Int) ≤ (w64 (y33 - (1 : Int)))) then
     bif decide (o13.2.1.toNat = o13.2.1.toNat) then
     let y34 := o13.2.2.2.2.1.set o13.2.1.toNat ((o13.2.2.2.2.1.getD o13.2.1.toNat ([] : (List Int))).take ((w64 (y33 - (1 : Int))).toNat))
     some ((0 : Int), (0 : Int), o13.2.2.2.1, y34, o13.2.2.2.2.2.1, ())
     else none
     else none
     else none
     else none
     else none
    else
    bif o13.1.1 == (9 : Int) then
     bif decide ((o13.2.2.2.2.1.getD o13.2.1.toNat ([] : (List Int))).length + [o13.2.2.1].length ≤ lim) then
     let y35 := (o13.2.2.2.2.1.getD o13.2.1.toNat ([] : (List Int))) ++ [o13.2.2.1]
     bif decide (o13.2.1.toNat = o13.2.1.toNat) then
     some ((0 : Int), (0 : Int), o13.2.2.2.1, o13.2.2.2.2.1.set o13.2.1.toNat y35, o13.2.2.2.2.2.1, ())
     else none
     else none
    else
    bif o13.1.1 == (10 : Int) then
     let y36 := (o13.2.2.2.2.2.1.length : Int) == (8 : Int)
     bif y36 then
      some ((0 : Int), (7 : Int), o13.2.2.2.1, o13.2.2.2.2.1, o13.2.2.2.2.2.1, ())
     else
     bif decide (o13.2.2.2.2.2.1.length + [o13.2.2.1].length ≤ lim) then
     some ((0 : Int), (0 : Int), o13.2.2.2.1, o13.2.2.2.2.1, o13.2.2.2.2.2.1 ++ [o13.2.2.1], ())
     else none
    else
    bif o13.1.1 == (11 : Int) then
     (FilastOf N (o13.2.2.2.2.2.1, o13.2.2.1, ())).bind fun r37 =>
     bif decide (r37.1 < (0 : Int)) then
      some ((0 : Int), (7 : Int), o13.2.2.2.1, o13.2.2.2.2.1, o13.2.2.2.2.2.1, ())
     else
     (FkDelete_Sint_int N (r37.1, w64 (r37.1 + (1 : Int)), o13.2.2.2.2.2.1, ())).bind fun r38 =>
     some ((0 : Int), (0 : Int), o13.2.2.2.1, o13.2.2.2.2.1, r38.1, ())
    else
    some ((0 : Int), (0 : Int), o13.2.2.2.1, o13.2.2.2.2.1, o13.2.2.2.2.2.1, ())
    else none
    else none
   else
   bif o13.1.1 == (1 : Int) then
    let y39 := (o13.2.2.2.1.length : Int) == (200 : Int)
    bif y39 then
     some ((0 : Int), (6 : Int), o13.2.2.2.1, o13.2.2.2.2.1, o13.2.2.2.2.2.1, ())
    else
    bif decide ((o13.2.2.2.2.1.getD o13.2.1.toNat ([] : (List Int))).length + [(o13.2.2.2.1.length : Int)].length ≤ lim) then
    let y40 := (o13.2.2.2.2.1.getD o13.2.1.toNat ([] : (List Int))) ++ [(o13.2.2.2.1.length : Int)]
    bif decide (o13.2.1.toNat = o13.2.1.toNat) then
    (Finone N (o13.1.2.2.2.2.2.2.1.1, ())).bind fun r41 =>
    bif decide (0 ≤ o13.1.2.2.2.2.2.2.1.2.1) then
    bif decide (o13.1.2.2.2.2.2.2.1.2.1.toNat ≤ lim) then
    let y42 := List.replicate o13.1.2.2.2.2.2.2.1.2.1.toNat (0 : Int)
    bif decide (o13.2.2.2.1.length + [(r41.1, y42, ())].length ≤ lim) then
    some ((0 : Int), (0 : Int), o13.2.2.2.1 ++ [(r41.1, y42, ())], o13.2.2.2.2.1.set o13.2.1.toNat y40, o13.2.2.2.2.2.1, ())
    else none
    else none
    else none
    else none
    else none
   else
   bif o13.1.1 == (2 : Int) then
    none
   else
   bif o13.1.1 == (3 : Int) then
    none
   else
   bif o13.1.1 == (4 : Int) then
    none
   else
   bif o13.1.1 == (5 : Int) then
    none
   else
   bif o13.1.1 == (6 : Int) then
    bif decide (0 ≤ o13.1.2.2.1) then
    bif decide (o13.1.2.2.1.toNat < (o13.2.2.2.2.1.getD o13.2.1.toNat ([] : (List Int))).length) then
    let y43 := (o13.2.2.2.2.1.getD o13.2.1.toNat ([] : (List Int))).getD o13.1.2.2.1.toNat (0 : Int)
    (Fitruth N (o13.2.2.1 == y43, ())).bind fun r44 =>
    some (r44.1, (0 : Int), o13.2.2.2.1, o13.2.2.2.2.1, o13.2.2.2.2.2.1, ())
    else none
    else none
   else
   bif o13.1.1 == (7 : Int) then
    none
   else
   bif o13.1.1 == (8 : Int) then
    let y45 := ((o13.2.2.2.2.1.getD o13.2.1.toNat ([] : (List Int))).length : Int)
    bif decide (0 ≤ (w64 (y45 - (1 : Int)))) then
    bif decide ((w64 (y45 - (1 : Int))) ≤ ((o13.2.2.2.2.1.getD o13.2.1.toNat ([] : (List Int))).length : Int)) then
    bif decide (0 ≤ (0 : Int)) then
    bif decide ((0 : Int) ≤ (w64 (y45 - (1 : Int)))) then
    bif decide (o13.2.1.toNat = o13.2.1.toNat) then
    let y46 := o13.2.2.2.2.1.set o13.2.1.toNat ((o13.2.2.2.2.1.getD o13.2.1.toNat ([] : (List Int))).take ((w64 (y45 - (1 : Int))).toNat))
    some ((0 : Int), (0 : Int), o13.2.2.2.1, y46, o13.2.2.2.2.2.1, ())
    else none
    else none
    else none
    else none
    else none
   else
   bif o13.1.1 == (9 : Int) then
    bif decide ((o13.2.2.2.2.1.getD o13.2.1.toNat ([] : (List Int))).length + [o13.2.2.1].length ≤ lim) then
    let y47 := (o13.2.2.2.2.1.getD o13.2.1.toNat ([] : (List Int))) ++ [o13.2.2.1]
    bif decide (o13.2.1.toNat = o13.2.1.toNat) then
    some ((0 : Int), (0 : Int), o13.2.2.2.1, o13.2.2.2.2.1.set o13.2.1.toNat y47, o13.2.2.2.2.2.1, ())
    else none
    else none
   else
   bif o13.1.1 == (10 : Int) then
    let y48 := (o13.2.2.2.2.2.1.length : Int) == (8 : Int)
    bif y48 then
     some ((0 : Int), (7 : Int), o13.2.2.2.1, o13.2.2.2.2.1, o13.2.2.2.2.2.1, ())
    else
    bif decide (o13.2.2.2.2.2.1.length + [o13.2.2.1].length ≤ lim) then
    some ((0 : Int), (0 : Int), o13.2.2.2.1, o13.2.2.2.2.1, o13.2.2.2.2.2.1 ++ [o13.2.2.1], ())
    else none
   else
   bif o13.1.1 == (11 : Int) then
    (FilastOf N (o13.2.2.2.2.2.1, o13.2.2.1, ())).bind fun r49 =>
    bif decide (r49.1 < (0 : Int)) then
     some ((0 : Int), (7 : Int), o13.2.2.2.1, o13.2.2.2.2.1, o13.2.2.2.2.2.1, ())
    else
    (FkDelete_Sint_int N (r49.1, w64 (r49.1 + (1 : Int)), o13.2.2.2.2.2.1, ())).bind fun r50 =>
    some ((0 : Int), (0 : Int), o13.2.2.2.1, o13.2.2.2.2.1, r50.1, ())
   else
   some ((0 : Int), (0 : Int), o13.2.2.2.1, o13.2.2.2.2.1, o13.2.2.2.2.2.1, ())
   else none
   else none) (fun o51 =>
   some (o51.1, o51.2.1, o51.2.2.1, o51.2.2.2.1, o51.2.2.2.2.1, ())) o8
noncomputable def coniGraphDo (N : Nat) : Con := { f := 51, din := diniGraphDo, outs := outiGraphDo, F := FiGraphDo N }
noncomputable def XiGraphDo (N : Nat) : Ctx := { E := EiGraphDo N, H := HiGraphDo, lp := [], jn := [(3, jiGraphDo_3), (12, jiGraphDo_12)] }
theorem FiGraphDo_eq (N : Nat) (x : (((List ((List Int) × ((List Int) × Unit))) × ((List (List Int)) × ((List Int) × Unit))) × (Int × ((Int × (Int × (Int × (Int × (Int × (Int × ((Int × (Int × Unit)) × Unit))))))) × Unit)))) : evFn (XiGraphDo N) Try.f51 diniGraphDo outiGraphDo x = FiGraphDo N x := by kernel_rfl
theorem cxiGraphDo (N : Nat) : CtxOk Try.prog (XiGraphDo N) := ⟨⟨TE_ok, List.forall_mem_cons.2 ⟨speciGraphOk N, List.forall_mem_cons.2 ⟨speciOpOk N, List.forall_mem_cons.2 ⟨speciGraph_copy N, List.forall_mem_cons.2 ⟨speciOp_early N, List.forall_mem_cons.2 ⟨speciOp_field N, List.forall_mem_cons.2 ⟨specinone N, List.forall_mem_cons.2 ⟨specitruth N, List.forall_mem_cons.2 ⟨specilastOf N, List.forall_mem_cons.2 ⟨speckDelete_Sint_int N, fun k hk => absurd hk List.not_mem_nil⟩⟩⟩⟩⟩⟩⟩⟩⟩⟩, mixed⟩
theorem speciGraphDo (N : Nat) : Spec Try.prog (coniGraphDo N) :=
  Spec.of_eq (fn_spec (cxiGraphDo N) (f := 51) (fn := Try.f51) (c := codeOf Try.f51) (by kernel_rfl) (by kernel_rfl) (by kernel_rfl) (loops_at (ids := []) (by kernel_rfl) (trivial)) (by kernel_rfl)) (fun x r h => (FiGraphDo_eq N x).trans h)

/-! ### 19: laws.eqIntS -/

noncomputable def dinveqIntS : Desc := { n := 2, regs := [.one (.val (.sl (.int .i64))), .one (.val (.sl (.int .i64)))], bx := [], pins := [] }
noncomputable def outveqIntS : Outs := [(.ret, { n := 1, regs := [.one (.val .bool)], bx := [], pins := [] })]
noncomputable def HveqIntS : Hints := []
noncomputable def EveqIntS (_N : Nat) : Env := { te := TE, cs := [] }
noncomputable def dveqIntS_0 : Desc := { n := 26, regs := [.one (.val (.sl (.int .i64))), .one (.val (.sl (.int .i64))), u, u, u, .one (.val (.int .i64))], bx := [], pins := [] }
noncomputable def oveqIntS_0 : Outs := [(.exit 0, { n := 26, regs := [], bx := [], pins := [] }), (.ret, { n := 26, regs := [u, u, u, u, .one (.val .bool)], bx := [], pins := [] })]
noncomputable def lveqIntS_0 (N : Nat) : Nat → ((List Int) × ((List Int) × (Int × Unit))) → Option (Unit ⊕ (Bool × Unit))
  | 0, _ => none
  | n + 1, v =>
    let y2 := decide (v.2.2.1 < (v.1.length : Int))
    bif y2 then
     bif decide (0 ≤ v.2.2.1) then
     bif decide (v.2.2.1.toNat < v.1.length) then
     bif decide (0 ≤ v.2.2.1) then
     bif decide (v.2.2.1.toNat < v.2.1.length) then
     let y3 := (v.1.getD v.2.2.1.toNat (0 : Int)) != (v.2.1.getD v.2.2.1.toNat (0 : Int))
     bif y3 then
      some (.inr ((false, ())))
     else
     lveqIntS_0 N n (v.1, v.2.1, w64 (v.2.2.1 + (1 : Int)), ())
     else none
     else none
     else none
     else none
    else
    some (.inl ())
noncomputable def FveqIntS (N : Nat) (x : ((List Int) × ((List Int) × Unit))) : Option (Bool × Unit) :=
  let y1 := (x.1.length : Int) != (x.2.1.length : Int)
  bif y1 then
   some (false, ())
  else
  (lveqIntS_0 N N (x.1, x.2.1, (0 : Int), ())).bind fun o4 =>
  Sum.elim (fun o5 =>
   some (true, ())) (fun o6 =>
   some (o6.1, ())) o4
noncomputable def conveqIntS (N : Nat) : Con := { f := 19, din := dinveqIntS, outs := outveqIntS, F := FveqIntS N }
noncomputable def XveqIntS (N : Nat) : Ctx := { E := EveqIntS N, H := HveqIntS, lp := [(0, { hd := dveqIntS_0, outs := oveqIntS_0, run := fun v => lveqIntS_0 N N v })], jn := [] }
noncomputable def bveqIntS_0 : Code := loopBody (codeOf Try.f19) 0
theorem FveqIntS_eq (N : Nat) (x : ((List Int) × ((List Int) × Unit))) : evFn (XveqIntS N) Try.f19 dinveqIntS outveqIntS x = FveqIntS N x := by kernel_rfl
theorem lveqIntS_0_eq (N n : Nat) (v : ((List Int) × ((List Int) × (Int × Unit)))) : lveqIntS_0 N (n + 1) v = ev (XveqIntS N) bveqIntS_0 (roundK dveqIntS_0 oveqIntS_0 (lveqIntS_0 N n)) (dveqIntS_0.mk' v) := by kernel_rfl
theorem cxveqIntS (N : Nat) : CtxOk Try.prog (XveqIntS N) := ⟨⟨TE_ok, fun k hk => absurd hk List.not_mem_nil⟩, mixed⟩
theorem lpveqIntS_0 (N : Nat) : LoopOk Try.prog { hd := dveqIntS_0, outs := oveqIntS_0, run := fun v => lveqIntS_0 N N v } bveqIntS_0 :=
  loop_fuel (d := dveqIntS_0) (os := oveqIntS_0) (cxveqIntS N) (loops_at (ids := []) (by kernel_rfl) (trivial)) (lveqIntS_0 N) (fun _ => rfl) (fun n v => lveqIntS_0_eq N n v) (fun _ => N)
theorem specveqIntS (N : Nat) : Spec Try.prog (conveqIntS N) :=
  Spec.of_eq (fn_spec (cxveqIntS N) (f := 19) (fn := Try.f19) (c := codeOf Try.f19) (by kernel_rfl) (by kernel_rfl) (by kernel_rfl) (loops_at (ids := [0]) (by kernel_rfl) ⟨lp_of (lpveqIntS_0 N), trivial⟩) (by kernel_rfl)) (fun x r h => (FveqIntS_eq N x).trans h)

/-! ### 128: laws.eqNode -/

noncomputable def dinveqNode : Desc := { n := 2, regs := [.one (.val (.pair (.sl (.int .i64)) (.pair (.sl (.int .i64)) .unit))), .one (.val (.pair (.sl (.int .i64)) (.pair (.sl (.int .i64)) .unit)))], bx := [], pins := [] }
noncomputable def outveqNode : Outs := [(.ret, { n := 1, regs := [.one (.val .bool)], bx := [], pins := [] })]
noncomputable def HveqNode : Hints := [(0, [(0, { fz := true }), (1, { fz := true })])]
noncomputable def EveqNode (N : Nat) : Env := { te := TE, cs := [conveqIntS N] }
noncomputable def FveqNode (N : Nat) (x : (((List Int) × ((List Int) × Unit)) × (((List Int) × ((List Int) × Unit)) × Unit))) : Option (Bool × Unit) :=
  (FveqIntS N (x.1.1, x.2.1.1, ())).bind fun r1 =>
  bif !r1.1 then
   some (false, ())
  else
  (FveqIntS N (x.1.2.1, x.2.1.2.1, ())).bind fun r2 =>
  bif !r2.1 then
   some (false, ())
  else
  some (true, ())
noncomputable def conveqNode (N : Nat) : Con := { f := 128, din := dinveqNode, outs := outveqNode, F := FveqNode N }
noncomputable def XveqNode (N : Nat) : Ctx := { E := EveqNode N, H := HveqNode, lp := [], jn := [] }
theorem FveqNode_eq (N : Nat) (x : (((List Int) × ((List Int) × Unit)) × (((List Int) × ((List Int) × Unit)) × Unit))) : evFn (XveqNode N) Try.f128 dinveqNode outveqNode x = FveqNode N x := by kernel_rfl
theorem cxveqNode (N : Nat) : CtxOk Try.prog (XveqNode N) := ⟨⟨TE_ok, List.forall_mem_cons.2 ⟨specveqIntS N, fun k hk => absurd hk List.not_mem_nil⟩⟩, mixed⟩
theorem specveqNode (N : Nat) : Spec Try.prog (conveqNode N) :=
  Spec.of_eq (fn_spec (cxveqNode N) (f := 128) (fn := Try.f128) (c := codeOf Try.f128) (by kernel_rfl) (by kernel_rfl) (by kernel_rfl) (loops_at (ids := []) (by kernel_rfl) (trivial)) (by kernel_rfl)) (fun x r h => (FveqNode_eq N x).trans h)

/-! ### 68: laws.eqNodeS -/

noncomputable def dinveqNodeS : Desc := { n := 2, regs := [.one (.val (.sl (.pair (.sl (.int .i64)) (.pair (.sl (.int .i64)) .unit)))), .one (.val (.sl (.pair (.sl (.int .i64)) (.pair (.sl (.int .i64)) .unit))))], bx := [], pins := [] }
noncomputable def outveqNodeS : Outs := [(.ret, { n := 1, regs := [.one (.val .bool)], bx := [], pins := [] })]
noncomputable def HveqNodeS : Hints := []
noncomputable def EveqNodeS (N : Nat) : Env := { te := TE, cs := [conveqNode N] }
noncomputable def dveqNodeS_0 : Desc := { n := 27, regs := [.one (.val (.sl (.pair (.sl (.int .i64)) (.pair (.sl (.int .i64)) .unit)))), .one (.val (.sl (.pair (.sl (.int .i64)) (.pair (.sl (.int .i64)) .unit)))), u, u, u, .one (.val (.int .i64))], bx := [], pins := [] }
noncomputable def oveqNodeS_0 : Outs := [(.exit 0, { n := 27, regs := [], bx := [], pins := [] }), (.ret, { n := 27, regs := [u, u, u, u, .one (.val .bool)], bx := [], pins := [] })]
noncomputable def lveqNodeS_0 (N : Nat) : Nat → ((List ((List Int) × ((List Int) × Unit))) × ((List ((List Int) × ((List Int) × Unit))) × (Int × Unit))) → Option (Unit ⊕ (Bool × Unit))
  | 0, _ => none
  | n + 1, v =>
    let y2 := decide (v.2.2.1 < (v.1.length : Int))
    bif y2 then
     bif decide (0 ≤ v.2.2.1) then
     bif decide (v.2.2.1.toNat < v.1.length) then
     let y3 := v.1.getD v.2.2.1.toNat (([] : (List Int)), ([] : (List Int)), ())
     bif decide (0 ≤ v.2.2.1) then
     bif decide (v.2.2.1.toNat < v.2.1.length) then
     let y4 := v.2.1.getD v.2.2.1.toNat (([] : (List Int)), ([] : (List Int)), ())
     (FveqNode N (y3, y4, ())).bind fun r5 =>
     bif !r5.1 then
      some (.inr ((false, ())))
     else
     lveqNodeS_0 N n (v.1, v.2.1, w64 (v.2.2.1 + (1 : Int)), ())
     else none
     else none
     else none
     else none
    else
    some (.inl ())
noncomputable def FveqNodeS (N : Nat) (x : ((List ((List Int) × ((List Int) × Unit))) × ((List ((List Int) × ((List Int) × Unit))) × Unit))) : Option (Bool × Unit) :=
  let y1 := (x.1.length : Int) != (x.2.1.length : Int)
  bif y1 then
   some (false, ())
  else
  (lveqNodeS_0 N N (x.1, x.2.1, (0 : Int), ())).bind fun o6 =>
  Sum.elim (fun o7 =>
   some (true, ())) (fun o8 =>
   some (o8.1, ())) o6
noncomputable def conveqNodeS (N : Nat) : Con := { f := 68, din := dinveqNodeS, outs := outveqNodeS, F := FveqNodeS N }
noncomputable def XveqNodeS (N : Nat) : Ctx := { E := EveqNodeS N, H := HveqNodeS, lp := [(0, { hd := dveqNodeS_0, outs := oveqNodeS_0, run := fun v => lveqNodeS_0 N N v })], jn := [] }
noncomputable def bveqNodeS_0 : Code := loopBody (codeOf Try.f68) 0
theorem FveqNodeS_eq (N : Nat) (x : ((List ((List Int) × ((List Int) × Unit))) × ((List ((List Int) × ((List Int) × Unit))) × Unit))) : evFn (XveqNodeS N) Try.f68 dinveqNodeS outveqNodeS x = FveqNodeS N x := by kernel_rfl
theorem lveqNodeS_0_eq (N n : Nat) (v : ((List ((List Int) × ((List Int) × Unit))) × ((List ((List Int) × ((List Int) × Unit))) × (Int × Unit)))) : lveqNodeS_0 N (n + 1) v = ev (XveqNodeS N) bveqNodeS_0 (roundK dveqNodeS_0 oveqNodeS_0 (lveqNodeS_0 N n)) (dveqNodeS_0.mk' v) := by kernel_rfl
theorem cxveqNodeS (N : Nat) : CtxOk Try.prog (XveqNodeS N) := ⟨⟨TE_ok, List.forall_mem_cons.2 ⟨specveqNode N, fun k hk => absurd hk List.not_mem_nil⟩⟩, mixed⟩
theorem lpveqNodeS_0 (N : Nat) : LoopOk Try.prog { hd := dveqNodeS_0, outs := oveqNodeS_0, run := fun v => lveqNodeS_0 N N v } bveqNodeS_0 :=
  loop_fuel (d := dveqNodeS_0) (os := oveqNodeS_0) (cxveqNodeS N) (loops_at (ids := []) (by kernel_rfl) (trivial)) (lveqNodeS_0 N) (fun _ => rfl) (fun n v => lveqNodeS_0_eq N n v) (fun _ => N)
theorem specveqNodeS (N : Nat) : Spec Try.prog (conveqNodeS N) :=
  Spec.of_eq (fn_spec (cxveqNodeS N) (f := 68) (fn := Try.f68) (c := codeOf Try.f68) (by kernel_rfl) (by kernel_rfl) (by kernel_rfl) (loops_at (ids := [0]) (by kernel_rfl) ⟨lp_of (lpveqNodeS_0 N), trivial⟩) (by kernel_rfl)) (fun x r h => (FveqNodeS_eq N x).trans h)

/-! ### 69: laws.eqIntSS -/

noncomputable def dinveqIntSS : Desc := { n := 2, regs := [.one (.val (.sl (.sl (.int .i64)))), .one (.val (.sl (.sl (.int .i64))))], bx := [], pins := [] }
noncomputable def outveqIntSS : Outs := [(.ret, { n := 1, regs := [.one (.val .bool)], bx := [], pins := [] })]
noncomputable def HveqIntSS : Hints := []
noncomputable def EveqIntSS (N : Nat) : Env := { te := TE, cs := [conveqIntS N] }
noncomputable def dveqIntSS_0 : Desc := { n := 27, regs := [.one (.val (.sl (.sl (.int .i64)))), .one (.val (.sl (.sl (.int .i64)))), u, u, u, .one (.val (.int .i64))], bx := [], pins := [] }
noncomputable def oveqIntSS_0 : Outs := [(.exit 0, { n := 27, regs := [], bx := [], pins := [] }), (.ret, { n := 27, regs := [u, u, u, u, .one (.val .bool)], bx := [], pins := [] })]
noncomputable def lveqIntSS_0 (N : Nat) : Nat → ((List (List Int)) × ((List (List Int)) × (Int × Unit))) → Option (Unit ⊕ (Bool × Unit))
  | 0, _ => none
  | n + 1, v =>
    let y2 := decide (v.2.2.1 < (v.1.length : Int))
    bif y2 then
     bif decide (0 ≤ v.2.2.1) then
     bif decide (v.2.2.1.toNat < v.1.length) then
     let y3 := v.1.getD v.2.2.1.toNat ([] : (List Int))
     bif decide (0 ≤ v.2.2.1) then
     bif decide (v.2.2.1.toNat < v.2.1.length) then
     let y4 := v.2.1.getD v.2.2.1.toNat ([] : (List Int))
     (FveqIntS N (y3, y4, ())).bind fun r5 =>
     bif !r5.1 then
      some (.inr ((false, ())))
     else
     lveqIntSS_0 N n (v.1, v.2.1, w64 (v.2.2.1 + (1 : Int)), ())
     else none
     else none
     else none
     else none
    else
    some (.inl ())
noncomputable def FveqIntSS (N : Nat) (x : ((List (List Int)) × ((List (List Int)) × Unit))) : Option (Bool × Unit) :=
  let y1 := (x.1.length : Int) != (x.2.1.length : Int)
  bif y1 then
   some (false, ())
  else
  (lveqIntSS_0 N N (x.1, x.2.1, (0 : Int), ())).bind fun o6 =>
  Sum.elim (fun o7 =>
   some (true, ())) (fun o8 =>
   some (o8.1, ())) o6
noncomputable def conveqIntSS (N : Nat) : Con := { f := 69, din := dinveqIntSS, outs := outveqIntSS, F := FveqIntSS N }
noncomputable def XveqIntSS (N : Nat) : Ctx := { E := EveqIntSS N, H := HveqIntSS, lp := [(0, { hd := dveqIntSS_0, outs := oveqIntSS_0, run := fun v => lveqIntSS_0 N N v })], jn := [] }
noncomputable def bveqIntSS_0 : Code := loopBody (codeOf Try.f69) 0
theorem FveqIntSS_eq (N : Nat) (x : ((List (List Int)) × ((List (List Int)) × Unit))) : evFn (XveqIntSS N) Try.f69 dinveqIntSS outveqIntSS x = FveqIntSS N x := by kernel_rfl
theorem lveqIntSS_0_eq (N n : Nat) (v : ((List (List Int)) × ((List (List Int)) × (Int × Unit)))) : lveqIntSS_0 N (n + 1) v = ev (XveqIntSS N) bveqIntSS_0 (roundK dveqIntSS_0 oveqIntSS_0 (lveqIntSS_0 N n)) (dveqIntSS_0.mk' v) := by kernel_rfl
theorem cxveqIntSS (N : Nat) : CtxOk Try.prog (XveqIntSS N) := ⟨⟨TE_ok, List.forall_mem_cons.2 ⟨specveqIntS N, fun k hk => absurd hk List.not_mem_nil⟩⟩, mixed⟩
theorem lpveqIntSS_0 (N : Nat) : LoopOk Try.prog { hd := dveqIntSS_0, outs := oveqIntSS_0, run := fun v => lveqIntSS_0 N N v } bveqIntSS_0 :=
  loop_fuel (d := dveqIntSS_0) (os := oveqIntSS_0) (cxveqIntSS N) (loops_at (ids := []) (by kernel_rfl) (trivial)) (lveqIntSS_0 N) (fun _ => rfl) (fun n v => lveqIntSS_0_eq N n v) (fun _ => N)
theorem specveqIntSS (N : Nat) : Spec Try.prog (conveqIntSS N) :=
  Spec.of_eq (fn_spec (cxveqIntSS N) (f := 69) (fn := Try.f69) (c := codeOf Try.f69) (by kernel_rfl) (by kernel_rfl) (by kernel_rfl) (loops_at (ids := [0]) (by kernel_rfl) ⟨lp_of (lpveqIntSS_0 N), trivial⟩) (by kernel_rfl)) (fun x r h => (FveqIntSS_eq N x).trans h)

/-! ### 20: laws.eqGraph -/

noncomputable def dinveqGraph : Desc := { n := 2, regs := [.one (.val (.pair (.sl (.pair (.sl (.int .i64)) (.pair (.sl (.int .i64)) .unit))) (.pair (.sl (.sl (.int .i64))) (.pair (.sl (.int .i64)) .unit)))), .one (.val (.pair (.sl (.pair (.sl (.int .i64)) (.pair (.sl (.int .i64)) .unit))) (.pair (.sl (.sl (.int .i64))) (.pair (.sl (.int .i64)) .unit))))], bx := [], pins := [] }
noncomputable def outveqGraph : Outs := [(.ret, { n := 1, regs := [.one (.val .bool)], bx := [], pins := [] })]
noncomputable def HveqGraph : Hints := [(0, [(0, { fz := true }), (1, { fz := true })]),
  (3, [(4, { con := 1 })]),
  (5, [(4, { con := 2 })])]
noncomputable def EveqGraph (N : Nat) : Env := { te := TE, cs := [conveqNodeS N, conveqIntSS N, conveqIntS N] }
noncomputable def FveqGraph (N : Nat) (x : (((List ((List Int) × ((List Int) × Unit))) × ((List (List Int)) × ((List Int) × Unit))) × (((List ((List Int) × ((List Int) × Unit))) × ((List (List Int)) × ((List Int) × Unit))) × Unit))) : Option (Bool × Unit) :=
  (FveqNodeS N (x.1.1, x.2.1.1, ())).bind fun r1 =>
  bif !r1.1 then
   some (false, ())
  else
  (FveqIntSS N (x.1.2.1, x.2.1.2.1, ())).bind fun r2 =>
  bif !r2.1 then
   some (false, ())
  else
  (FveqIntS N (x.1.2.2.1, x.2.1.2.2.1, ())).bind fun r3 =>
  bif !r3.1 then
   some (false, ())
  else
  some (true, ())
noncomputable def conveqGraph (N : Nat) : Con := { f := 20, din := dinveqGraph, outs := outveqGraph, F := FveqGraph N }
noncomputable def XveqGraph (N : Nat) : Ctx := { E := EveqGraph N, H := HveqGraph, lp := [], jn := [] }
theorem FveqGraph_eq (N : Nat) (x : (((List ((List Int) × ((List Int) × Unit))) × ((List (List Int)) × ((List Int) × Unit))) × (((List ((List Int) × ((List Int) × Unit))) × ((List (List Int)) × ((List Int) × Unit))) × Unit))) : evFn (XveqGraph N) Try.f20 dinveqGraph outveqGraph x = FveqGraph N x := by kernel_rfl
theorem cxveqGraph (N : Nat) : CtxOk Try.prog (XveqGraph N) := ⟨⟨TE_ok, List.forall_mem_cons.2 ⟨specveqNodeS N, List.forall_mem_cons.2 ⟨specveqIntSS N, List.forall_mem_cons.2 ⟨specveqIntS N, fun k hk => absurd hk List.not_mem_nil⟩⟩⟩⟩, mixed⟩
theorem specveqGraph (N : Nat) : Spec Try.prog (conveqGraph N) :=
  Spec.of_eq (fn_spec (cxveqGraph N) (f := 20) (fn := Try.f20) (c := codeOf Try.f20) (by kernel_rfl) (by kernel_rfl) (by kernel_rfl) (loops_at (ids := []) (by kernel_rfl) (trivial)) (by kernel_rfl)) (fun x r h => (FveqGraph_eq N x).trans h)

/-! ### 22: laws.markIntS -/

noncomputable def dinvmarkIntS : Desc := { n := 2, regs := [.one (.lit (.row 0)), .one (.val (.int .i64))], bx := [(0, .row (.int .i64))], pins := [] }
noncomputable def outvmarkIntS : Outs := [(.ret, { n := 1, regs := [.one (.val (.int .i64))], bx := [(0, .row (.int .i64))], pins := [.one (.lit (.row 0))] })]
noncomputable def HvmarkIntS : Hints := []
noncomputable def EvmarkIntS (_N : Nat) : Env := { te := TE, cs := [] }
noncomputable def dvmarkIntS_0 : Desc := { n := 19, regs := [.one (.lit (.row 0)), .one (.val (.int .i64)), u, u, u, .one (.val (.int .i64))], bx := [(0, .row (.int .i64))], pins := [.one (.lit (.row 0))] }
noncomputable def ovmarkIntS_0 : Outs := [(.exit 0, { n := 19, regs := [u, .one (.val (.int .i64))], bx := [(0, .row (.int .i64))], pins := [.one (.lit (.row 0))] })]
noncomputable def lvmarkIntS_0 (N : Nat) : Nat → (Int × (Int × ((List Int) × Unit))) → Option (Int × ((List Int) × Unit))
  | 0, _ => none
  | n + 1, v =>
    let y1 := decide (v.2.1 < (v.2.2.1.length : Int))
    bif y1 then
     bif decide (0 ≤ v.2.1) then
     bif decide (v.2.1.toNat < v.2.2.1.length) then
     lvmarkIntS_0 N n (w64 (v.1 + (1 : Int)), w64 (v.2.1 + (1 : Int)), v.2.2.1.set v.2.1.toNat v.1, ())
     else none
     else none
    else
    some (v.1, v.2.2.1, ())
noncomputable def FvmarkIntS (N : Nat) (x : (Int × ((List Int) × Unit))) : Option (Int × ((List Int) × Unit)) :=
  (lvmarkIntS_0 N N (x.1, (0 : Int), x.2.1, ())).bind fun o2 =>
  some (o2.1, o2.2.1, ())
noncomputable def convmarkIntS (N : Nat) : Con := { f := 22, din := dinvmarkIntS, outs := outvmarkIntS, F := FvmarkIntS N }
noncomputable def XvmarkIntS (N : Nat) : Ctx := { E := EvmarkIntS N, H := HvmarkIntS, lp := [(0, { hd := dvmarkIntS_0, outs := ovmarkIntS_0, run := fun v => lvmarkIntS_0 N N v })], jn := [] }
noncomputable def bvmarkIntS_0 : Code := loopBody (codeOf Try.f22) 0
theorem FvmarkIntS_eq (N : Nat) (x : (Int × ((List Int) × Unit))) : evFn (XvmarkIntS N) Try.f22 dinvmarkIntS outvmarkIntS x = FvmarkIntS N x := by kernel_rfl
theorem lvmarkIntS_0_eq (N n : Nat) (v : (Int × (Int × ((List Int) × Unit)))) : lvmarkIntS_0 N (n + 1) v = ev (XvmarkIntS N) bvmarkIntS_0 (roundK dvmarkIntS_0 ovmarkIntS_0 (lvmarkIntS_0 N n)) (dvmarkIntS_0.mk' v) := by kernel_rfl
theorem cxvmarkIntS (N : Nat) : CtxOk Try.prog (XvmarkIntS N) := ⟨⟨TE_ok, fun k hk => absurd hk List.not_mem_nil⟩, mixed⟩
theorem lpvmarkIntS_0 (N : Nat) : LoopOk Try.prog { hd := dvmarkIntS_0, outs := ovmarkIntS_0, run := fun v => lvmarkIntS_0 N N v } bvmarkIntS_0 :=
  loop_fuel (d := dvmarkIntS_0) (os := ovmarkIntS_0) (cxvmarkIntS N) (loops_at (ids := []) (by kernel_rfl) (trivial)) (lvmarkIntS_0 N) (fun _ => rfl) (fun n v => lvmarkIntS_0_eq N n v) (fun _ => N)
theorem specvmarkIntS (N : Nat) : Spec Try.prog (convmarkIntS N) :=
  Spec.of_eq (fn_spec (cxvmarkIntS N) (f := 22) (fn := Try.f22) (c := codeOf Try.f22) (by kernel_rfl) (by kernel_rfl) (by kernel_rfl) (loops_at (ids := [0]) (by kernel_rfl) ⟨lp_of (lpvmarkIntS_0 N), trivial⟩) (by kernel_rfl)) (fun x r h => (FvmarkIntS_eq N x).trans h)

/-! ### 70: laws.markNodeS -/

noncomputable def dinvmarkNodeS : Desc := { n := 2, regs := [.one (.lit (.row 0)), .one (.val (.int .i64))], bx := [(0, .row (.pair (.sl (.int .i64)) (.pair (.sl (.int .i64)) .unit)))], pins := [] }
noncomputable def outvmarkNodeS : Outs := [(.ret, { n := 1, regs := [.one (.val (.int .i64))], bx := [(0, .row (.pair (.sl (.int .i64)) (.pair (.sl (.int .i64)) .unit)))], pins := [.one (.lit (.row 0))] })]
noncomputable def HvmarkNodeS : Hints := [(4, [(6, { sg := [(0, 1051624)], pre := [.take 16 1051624], post := [.give 1051624 0] })]),
  (5, [(6, { sg := [(0, 1064424)], pre := [.take 23 1064424], post := [.give 1064424 0] })])]
noncomputable def EvmarkNodeS (N : Nat) : Env := { te := TE, cs := [convmarkIntS N] }
noncomputable def dvmarkNodeS_0 : Desc := { n := 27, regs := [.one (.lit (.row 0)), .one (.val (.int .i64)), u, u, u, .one (.val (.int .i64))], bx := [(0, .row (.pair (.sl (.int .i64)) (.pair (.sl (.int .i64)) .unit)))], pins := [.one (.lit (.row 0))] }
noncomputable def ovmarkNodeS_0 : Outs := [(.exit 0, { n := 27, regs := [u, .one (.val (.int .i64))], bx := [(0, .row (.pair (.sl (.int .i64)) (.pair (.sl (.int .i64)) .unit)))], pins := [.one (.lit (.row 0))] })]
noncomputable def lvmarkNodeS_0 (N : Nat) : Nat → (Int × (Int × ((List ((List Int) × ((List Int) × Unit))) × Unit))) → Option (Int × ((List ((List Int) × ((List Int) × Unit))) × Unit))
  | 0, _ => none
  | n + 1, v =>
    let y1 := decide (v.2.1 < (v.2.2.1.length : Int))
    bif y1 then
     bif decide (0 ≤ v.2.1) then
     bif decide (v.2.1.toNat < v.2.2.1.length) then
     (FvmarkIntS N (v.1, (v.2.2.1.getD v.2.1.toNat (([] : (List Int)), ([] : (List Int)), ())).1, ())).bind fun r2 =>
     bif decide (0 ≤ v.2.1) then
     bif decide (v.2.1.toNat < (v.2.2.1.set v.2.1.toNat (r2.2.1, (v.2.2.1.getD v.2.1.toNat (([] : (List Int)), ([] : (List Int)), ())).2)).length) then
     (FvmarkIntS N (r2.1, (((v.2.2.1.set v.2.1.toNat (r2.2.1, (v.2.2.1.getD v.2.1.toNat (([] : (List Int)), ([] : (List Int)), ())).2)).getD v.2.1.toNat (([] : (List Int)), ([] : (List Int)), ())).2).1, ())).bind fun r3 =>
     lvmarkNodeS_0 N n (r3.1, w64 (v.2.1 + (1 : Int)), (v.2.2.1.set v.2.1.toNat (r2.2.1, (v.2.2.1.getD v.2.1.toNat (([] : (List Int)), ([] : (List Int)), ())).2)).set v.2.1.toNat (((v.2.2.1.set v.2.1.toNat (r2.2.1, (v.2.2.1.getD v.2.1.toNat (([] : (List Int)), ([] : (List Int)), ())).2)).getD v.2.1.toNat (([] : (List Int)), ([] : (List Int)), ())).1, r3.2.1, (((v.2.2.1.set v.2.1.toNat (r2.2.1, (v.2.2.1.getD v.2.1.toNat (([] : (List Int)), ([] : (List Int)), ())).2)).getD v.2.1.toNat (([] : (List Int)), ([] : (List Int)), ())).2).2), ())
     else none
     else none
     else none
     else none
    else
    some (v.1, v.2.2.1, ())
noncomputable def FvmarkNodeS (N : Nat) (x : (Int × ((List ((List Int) × ((List Int) × Unit))) × Unit))) : Option (Int × ((List ((List Int) × ((List Int) × Unit))) × Unit)) :=
  (lvmarkNodeS_0 N N (x.1, (0 : Int), x.2.1, ())).bind fun o4 =>
  some (o4.1, o4.2.1, ())
noncomputable def convmarkNodeS (N : Nat) : Con := { f := 70, din := dinvmarkNodeS, outs := outvmarkNodeS, F := FvmarkNodeS N }
noncomputable def XvmarkNodeS (N : Nat) : Ctx := { E := EvmarkNodeS N, H := HvmarkNodeS, lp := [(0, { hd := dvmarkNodeS_0, outs := ovmarkNodeS_0, run := fun v => lvmarkNodeS_0 N N v })], jn := [] }
noncomputable def bvmarkNodeS_0 : Code := loopBody (codeOf Try.f70) 0
theorem FvmarkNodeS_eq (N : Nat) (x : (Int × ((List ((List Int) × ((List Int) × Unit))) × Unit))) : evFn (XvmarkNodeS N) Try.f70 dinvmarkNodeS outvmarkNodeS x = FvmarkNodeS N x := by kernel_rfl
theorem lvmarkNodeS_0_eq (N n : Nat) (v : (Int × (Int × ((List ((List Int) × ((List Int) × Unit))) × Unit)))) : lvmarkNodeS_0 N (n + 1) v = ev (XvmarkNodeS N) bvmarkNodeS_0 (roundK dvmarkNodeS_0 ovmarkNodeS_0 (lvmarkNodeS_0 N n)) (dvmarkNodeS_0.mk' v) := by kernel_rfl
theorem cxvmarkNodeS (N : Nat) : CtxOk Try.prog (XvmarkNodeS N) := ⟨⟨TE_ok, List.forall_mem_cons.2 ⟨specvmarkIntS N, fun k hk => absurd hk List.not_mem_nil⟩⟩, mixed⟩
theorem lpvmarkNodeS_0 (N : Nat) : LoopOk Try.prog { hd := dvmarkNodeS_0, outs := ovmarkNodeS_0, run := fun v => lvmarkNodeS_0 N N v } bvmarkNodeS_0 :=
  loop_fuel (d := dvmarkNodeS_0) (os := ovmarkNodeS_0) (cxvmarkNodeS N) (loops_at (ids := []) (by kernel_rfl) (trivial)) (lvmarkNodeS_0 N) (fun _ => rfl) (fun n v => lvmarkNodeS_0_eq N n v) (fun _ => N)
theorem specvmarkNodeS (N : Nat) : Spec Try.prog (convmarkNodeS N) :=
  Spec.of_eq (fn_spec (cxvmarkNodeS N) (f := 70) (fn := Try.f70) (c := codeOf Try.f70) (by kernel_rfl) (by kernel_rfl) (by kernel_rfl) (loops_at (ids := [0]) (by kernel_rfl) ⟨lp_of (lpvmarkNodeS_0 N), trivial⟩) (by kernel_rfl)) (fun x r h => (FvmarkNodeS_eq N x).trans h)

/-! ### 71: laws.markIntSS -/

noncomputable def dinvmarkIntSS : Desc := { n := 2, regs := [.one (.lit (.row 0)), .one (.val (.int .i64))], bx := [(0, .row (.sl (.int .i64)))], pins := [] }
noncomputable def outvmarkIntSS : Outs := [(.ret, { n := 1, regs := [.one (.val (.int .i64))], bx := [(0, .row (.sl (.int .i64)))], pins := [.one (.lit (.row 0))] })]
noncomputable def HvmarkIntSS : Hints := [(4, [(5, { sg := [(0, 1051560)], pre := [.take 15 1051560], post := [.give 1051560 0] })])]
noncomputable def EvmarkIntSS (N : Nat) : Env := { te := TE, cs := [convmarkIntS N] }
noncomputable def dvmarkIntSS_0 : Desc := { n := 19, regs := [.one (.lit (.row 0)), .one (.val (.int .i64)), u, u, u, .one (.val (.int .i64))], bx := [(0, .row (.sl (.int .i64)))], pins := [.one (.lit (.row 0))] }
noncomputable def ovmarkIntSS_0 : Outs := [(.exit 0, { n := 19, regs := [u, .one (.val (.int .i64))], bx := [(0, .row (.sl (.int .i64)))], pins := [.one (.lit (.row 0))] })]
noncomputable def lvmarkIntSS_0 (N : Nat) : Nat → (Int × (Int × ((List (List Int)) × Unit))) → Option (Int × ((List (List Int)) × Unit))
  | 0, _ => none
  | n + 1, v =>
    let y1 := decide (v.2.1 < (v.2.2.1.length : Int))
    bif y1 then
     bif decide (0 ≤ v.2.1) then
     bif decide (v.2.1.toNat < v.2.2.1.length) then
     (FvmarkIntS N (v.1, v.2.2.1.getD v.2.1.toNat ([] : (List Int)), ())).bind fun r2 =>
     lvmarkIntSS_0 N n (r2.1, w64 (v.2.1 + (1 : Int)), v.2.2.1.set v.2.1.toNat r2.2.1, ())
     else none
     else none
    else
    some (v.1, v.2.2.1, ())
noncomputable def FvmarkIntSS (N : Nat) (x : (Int × ((List (List Int)) × Unit))) : Option (Int × ((List (List Int)) × Unit)) :=
  (lvmarkIntSS_0 N N (x.1, (0 : Int), x.2.1, ())).bind fun o3 =>
  some (o3.1, o3.2.1, ())
noncomputable def convmarkIntSS (N : Nat) : Con := { f := 71, din := dinvmarkIntSS, outs := outvmarkIntSS, F := FvmarkIntSS N }
noncomputable def XvmarkIntSS (N : Nat) : Ctx := { E := EvmarkIntSS N, H := HvmarkIntSS, lp := [(0, { hd := dvmarkIntSS_0, outs := ovmarkIntSS_0, run := fun v => lvmarkIntSS_0 N N v })], jn := [] }
noncomputable def bvmarkIntSS_0 : Code := loopBody (codeOf Try.f71) 0
theorem FvmarkIntSS_eq (N : Nat) (x : (Int × ((List (List Int)) × Unit))) : evFn (XvmarkIntSS N) Try.f71 dinvmarkIntSS outvmarkIntSS x = FvmarkIntSS N x := by kernel_rfl
theorem lvmarkIntSS_0_eq (N n : Nat) (v : (Int × (Int × ((List (List Int)) × Unit)))) : lvmarkIntSS_0 N (n + 1) v = ev (XvmarkIntSS N) bvmarkIntSS_0 (roundK dvmarkIntSS_0 ovmarkIntSS_0 (lvmarkIntSS_0 N n)) (dvmarkIntSS_0.mk' v) := by kernel_rfl
theorem cxvmarkIntSS (N : Nat) : CtxOk Try.prog (XvmarkIntSS N) := ⟨⟨TE_ok, List.forall_mem_cons.2 ⟨specvmarkIntS N, fun k hk => absurd hk List.not_mem_nil⟩⟩, mixed⟩
theorem lpvmarkIntSS_0 (N : Nat) : LoopOk Try.prog { hd := dvmarkIntSS_0, outs := ovmarkIntSS_0, run := fun v => lvmarkIntSS_0 N N v } bvmarkIntSS_0 :=
  loop_fuel (d := dvmarkIntSS_0) (os := ovmarkIntSS_0) (cxvmarkIntSS N) (loops_at (ids := []) (by kernel_rfl) (trivial)) (lvmarkIntSS_0 N) (fun _ => rfl) (fun n v => lvmarkIntSS_0_eq N n v) (fun _ => N)
theorem specvmarkIntSS (N : Nat) : Spec Try.prog (convmarkIntSS N) :=
  Spec.of_eq (fn_spec (cxvmarkIntSS N) (f := 71) (fn := Try.f71) (c := codeOf Try.f71) (by kernel_rfl) (by kernel_rfl) (by kernel_rfl) (loops_at (ids := [0]) (by kernel_rfl) ⟨lp_of (lpvmarkIntSS_0 N), trivial⟩) (by kernel_rfl)) (fun x r h => (FvmarkIntSS_eq N x).trans h)

/-! ### 21: laws.markGraph -/

noncomputable def dinvmarkGraph : Desc := { n := 2, regs := [.agg [.lit (.row 0), .lit (.row 1), .lit (.row 2)], .one (.val (.int .i64))], bx := [(0, .row (.pair (.sl (.int .i64)) (.pair (.sl (.int .i64)) .unit))), (1, .row (.sl (.int .i64))), (2, .row (.int .i64))], pins := [] }
noncomputable def outvmarkGraph : Outs := [(.ret, { n := 1, regs := [.one (.val (.int .i64))], bx := [(0, .row (.pair (.sl (.int .i64)) (.pair (.sl (.int .i64)) .unit))), (1, .row (.sl (.int .i64))), (2, .row (.int .i64))], pins := [.agg [.lit (.row 0), .lit (.row 1), .lit (.row 2)]] })]
noncomputable def HvmarkGraph : Hints := [(2, [(3, { con := 1, sg := [(0, 1)] })]),
  (3, [(3, { con := 2, sg := [(0, 2)] })])]
noncomputable def EvmarkGraph (N : Nat) : Env := { te := TE, cs := [convmarkNodeS N, convmarkIntSS N, convmarkIntS N] }
noncomputable def FvmarkGraph (N : Nat) (x : (Int × ((List ((List Int) × ((List Int) × Unit))) × ((List (List Int)) × ((List Int) × Unit))))) : Option (Int × ((List ((List Int) × ((List Int) × Unit))) × ((List (List Int)) × ((List Int) × Unit)))) :=
  (FvmarkNodeS N (x.1, x.2.1, ())).bind fun r1 =>
  (FvmarkIntSS N (r1.1, x.2.2.1, ())).bind fun r2 =>
  (FvmarkIntS N (r2.1, x.2.2.2.1, ())).bind fun r3 =>
  some (r3.1, r1.2.1, r2.2.1, r3.2.1, ())
noncomputable def convmarkGraph (N : Nat) : Con := { f := 21, din := dinvmarkGraph, outs := outvmarkGraph, F := FvmarkGraph N }
noncomputable def XvmarkGraph (N : Nat) : Ctx := { E := EvmarkGraph N, H := HvmarkGraph, lp := [], jn := [] }
theorem FvmarkGraph_eq (N : Nat) (x : (Int × ((List ((List Int) × ((List Int) × Unit))) × ((List (List Int)) × ((List Int) × Unit))))) : evFn (XvmarkGraph N) Try.f21 dinvmarkGraph outvmarkGraph x = FvmarkGraph N x := by kernel_rfl
theorem cxvmarkGraph (N : Nat) : CtxOk Try.prog (XvmarkGraph N) := ⟨⟨TE_ok, List.forall_mem_cons.2 ⟨specvmarkNodeS N, List.forall_mem_cons.2 ⟨specvmarkIntSS N, List.forall_mem_cons.2 ⟨specvmarkIntS N, fun k hk => absurd hk List.not_mem_nil⟩⟩⟩⟩, mixed⟩
theorem specvmarkGraph (N : Nat) : Spec Try.prog (convmarkGraph N) :=
  Spec.of_eq (fn_spec (cxvmarkGraph N) (f := 21) (fn := Try.f21) (c := codeOf Try.f21) (by kernel_rfl) (by kernel_rfl) (by kernel_rfl) (loops_at (ids := []) (by kernel_rfl) (trivial)) (by kernel_rfl)) (fun x r h => (FvmarkGraph_eq N x).trans h)

/-! ### 23: laws.heldIntS -/

noncomputable def dinvheldIntS : Desc := { n := 2, regs := [.one (.val (.sl (.int .i64))), .one (.val (.int .i64))], bx := [], pins := [] }
noncomputable def outvheldIntS : Outs := [(.ret, { n := 1, regs := [.one (.val (.int .i64))], bx := [], pins := [] })]
noncomputable def HvheldIntS : Hints := []
noncomputable def EvheldIntS (_N : Nat) : Env := { te := TE, cs := [] }
noncomputable def dvheldIntS_0 : Desc := { n := 21, regs := [.one (.val (.sl (.int .i64))), .one (.val (.int .i64)), u, u, u, .one (.val (.int .i64))], bx := [], pins := [] }
noncomputable def ovheldIntS_0 : Outs := [(.exit 0, { n := 21, regs := [u, .one (.val (.int .i64))], bx := [], pins := [] }), (.ret, { n := 21, regs := [u, u, u, u, .one (.val (.int .i64))], bx := [], pins := [] })]
noncomputable def lvheldIntS_0 (N : Nat) : Nat → ((List Int) × (Int × (Int × Unit))) → Option ((Int × Unit) ⊕ (Int × Unit))
  | 0, _ => none
  | n + 1, v =>
    let y1 := decide (v.2.2.1 < (v.1.length : Int))
    bif y1 then
     bif decide (0 ≤ v.2.2.1) then
     bif decide (v.2.2.1.toNat < v.1.length) then
     let y2 := (v.1.getD v.2.2.1.toNat (0 : Int)) != v.2.1
     bif y2 then
      some (.inr (((-1 : Int), ())))
     else
     lvheldIntS_0 N n (v.1, w64 (v.2.1 + (1 : Int)), w64 (v.2.2.1 + (1 : Int)), ())
     else none
     else none
    else
    some (.inl (v.2.1, ()))
noncomputable def FvheldIntS (N : Nat) (x : ((List Int) × (Int × Unit))) : Option (Int × Unit) :=
  (lvheldIntS_0 N N (x.1, x.2.1, (0 : Int), ())).bind fun o3 =>
  Sum.elim (fun o4 =>
   some (o4.1, ())) (fun o5 =>
   some (o5.1, ())) o3
noncomputable def convheldIntS (N : Nat) : Con := { f := 23, din := dinvheldIntS, outs := outvheldIntS, F := FvheldIntS N }
noncomputable def XvheldIntS (N : Nat) : Ctx := { E := EvheldIntS N, H := HvheldIntS, lp := [(0, { hd := dvheldIntS_0, outs := ovheldIntS_0, run := fun v => lvheldIntS_0 N N v })], jn := [] }
noncomputable def bvheldIntS_0 : Code := loopBody (codeOf Try.f23) 0
theorem FvheldIntS_eq (N : Nat) (x : ((List Int) × (Int × Unit))) : evFn (XvheldIntS N) Try.f23 dinvheldIntS outvheldIntS x = FvheldIntS N x := by kernel_rfl
theorem lvheldIntS_0_eq (N n : Nat) (v : ((List Int) × (Int × (Int × Unit)))) : lvheldIntS_0 N (n + 1) v = ev (XvheldIntS N) bvheldIntS_0 (roundK dvheldIntS_0 ovheldIntS_0 (lvheldIntS_0 N n)) (dvheldIntS_0.mk' v) := by kernel_rfl
theorem cxvheldIntS (N : Nat) : CtxOk Try.prog (XvheldIntS N) := ⟨⟨TE_ok, fun k hk => absurd hk List.not_mem_nil⟩, mixed⟩
theorem lpvheldIntS_0 (N : Nat) : LoopOk Try.prog { hd := dvheldIntS_0, outs := ovheldIntS_0, run := fun v => lvheldIntS_0 N N v } bvheldIntS_0 :=
  loop_fuel (d := dvheldIntS_0) (os := ovheldIntS_0) (cxvheldIntS N) (loops_at (ids := []) (by kernel_rfl) (trivial)) (lvheldIntS_0 N) (fun _ => rfl) (fun n v => lvheldIntS_0_eq N n v) (fun _ => N)
theorem specvheldIntS (N : Nat) : Spec Try.prog (convheldIntS N) :=
  Spec.of_eq (fn_spec (cxvheldIntS N) (f := 23) (fn := Try.f23) (c := codeOf Try.f23) (by kernel_rfl) (by kernel_rfl) (by kernel_rfl) (loops_at (ids := [0]) (by kernel_rfl) ⟨lp_of (lpvheldIntS_0 N), trivial⟩) (by kernel_rfl)) (fun x r h => (FvheldIntS_eq N x).trans h)

/-! ### 83: laws.heldNodeS -/

noncomputable def dinvheldNodeS : Desc := { n := 2, regs := [.one (.val (.sl (.pair (.sl (.int .i64)) (.pair (.sl (.int .i64)) .unit)))), .one (.val (.int .i64))], bx := [], pins := [] }
noncomputable def outvheldNodeS : Outs := [(.ret, { n := 1, regs := [.one (.val (.int .i64))], bx := [], pins := [] })]
noncomputable def HvheldNodeS : Hints := []
noncomputable def EvheldNodeS (N : Nat) : Env := { te := TE, cs := [convheldIntS N] }
noncomputable def dvheldNodeS_0 : Desc := { n := 31, regs := [.one (.val (.sl (.pair (.sl (.int .i64)) (.pair (.sl (.int .i64)) .unit)))), .one (.val (.int .i64)), u, u, u, .one (.val (.int .i64))], bx := [], pins := [] }
noncomputable def ovheldNodeS_0 : Outs := [(.exit 0, { n := 31, regs := [u, .one (.val (.int .i64))], bx := [], pins := [] }), (.ret, { n := 31, regs := [u, u, u, u, .one (.val (.int .i64))], bx := [], pins := [] })]
noncomputable def lvheldNodeS_0 (N : Nat) : Nat → ((List ((List Int) × ((List Int) × Unit))) × (Int × (Int × Unit))) → Option ((Int × Unit) ⊕ (Int × Unit))
  | 0, _ => none
  | n + 1, v =>
    let y1 := decide (v.2.2.1 < (v.1.length : Int))
    bif y1 then
     bif decide (0 ≤ v.2.2.1) then
     bif decide (v.2.2.1.toNat < v.1.length) then
     let y2 := v.1.getD v.2.2.1.toNat (([] : (List Int)), ([] : (List Int)), ())
     (FvheldIntS N (y2.1, v.2.1, ())).bind fun r3 =>
     bif decide (r3.1 < (0 : Int)) then
      some (.inr (((-1 : Int), ())))
     else
     bif decide (0 ≤ v.2.2.1) then
     bif decide (v.2.2.1.toNat < v.1.length) then
     let y4 := v.1.getD v.2.2.1.toNat (([] : (List Int)), ([] : (List Int)), ())
     (FvheldIntS N (y4.2.1, r3.1, ())).bind fun r5 =>
     bif decide (r5.1 < (0 : Int)) then
      some (.inr (((-1 : Int), ())))
     else
     lvheldNodeS_0 N n (v.1, r5.1, w64 (v.2.2.1 + (1 : Int)), ())
     else none
     else none
     else none
     else none
    else
    some (.inl (v.2.1, ()))
noncomputable def FvheldNodeS (N : Nat) (x : ((List ((List Int) × ((List Int) × Unit))) × (Int × Unit))) : Option (Int × Unit) :=
  (lvheldNodeS_0 N N (x.1, x.2.1, (0 : Int), ())).bind fun o6 =>
  Sum.elim (fun o7 =>
   some (o7.1, ())) (fun o8 =>
   some (o8.1, ())) o6
noncomputable def convheldNodeS (N : Nat) : Con := { f := 83, din := dinvheldNodeS, outs := outvheldNodeS, F := FvheldNodeS N }
noncomputable def XvheldNodeS (N : Nat) : Ctx := { E := EvheldNodeS N, H := HvheldNodeS, lp := [(0, { hd := dvheldNodeS_0, outs := ovheldNodeS_0, run := fun v => lvheldNodeS_0 N N v })], jn := [] }
noncomputable def bvheldNodeS_0 : Code := loopBody (codeOf Try.f83) 0
theorem FvheldNodeS_eq (N : Nat) (x : ((List ((List Int) × ((List Int) × Unit))) × (Int × Unit))) : evFn (XvheldNodeS N) Try.f83 dinvheldNodeS outvheldNodeS x = FvheldNodeS N x := by kernel_rfl
theorem lvheldNodeS_0_eq (N n : Nat) (v : ((List ((List Int) × ((List Int) × Unit))) × (Int × (Int × Unit)))) : lvheldNodeS_0 N (n + 1) v = ev (XvheldNodeS N) bvheldNodeS_0 (roundK dvheldNodeS_0 ovheldNodeS_0 (lvheldNodeS_0 N n)) (dvheldNodeS_0.mk' v) := by kernel_rfl
theorem cxvheldNodeS (N : Nat) : CtxOk Try.prog (XvheldNodeS N) := ⟨⟨TE_ok, List.forall_mem_cons.2 ⟨specvheldIntS N, fun k hk => absurd hk List.not_mem_nil⟩⟩, mixed⟩
theorem lpvheldNodeS_0 (N : Nat) : LoopOk Try.prog { hd := dvheldNodeS_0, outs := ovheldNodeS_0, run := fun v => lvheldNodeS_0 N N v } bvheldNodeS_0 :=
  loop_fuel (d := dvheldNodeS_0) (os := ovheldNodeS_0) (cxvheldNodeS N) (loops_at (ids := []) (by kernel_rfl) (trivial)) (lvheldNodeS_0 N) (fun _ => rfl) (fun n v => lvheldNodeS_0_eq N n v) (fun _ => N)
theorem specvheldNodeS (N : Nat) : Spec Try.prog (convheldNodeS N) :=
  Spec.of_eq (fn_spec (cxvheldNodeS N) (f := 83) (fn := Try.f83) (c := codeOf Try.f83) (by kernel_rfl) (by kernel_rfl) (by kernel_rfl) (loops_at (ids := [0]) (by kernel_rfl) ⟨lp_of (lpvheldNodeS_0 N), trivial⟩) (by kernel_rfl)) (fun x r h => (FvheldNodeS_eq N x).trans h)

/-! ### 84: laws.heldIntSS -/

noncomputable def dinvheldIntSS : Desc := { n := 2, regs := [.one (.val (.sl (.sl (.int .i64)))), .one (.val (.int .i64))], bx := [], pins := [] }
noncomputable def outvheldIntSS : Outs := [(.ret, { n := 1, regs := [.one (.val (.int .i64))], bx := [], pins := [] })]
noncomputable def HvheldIntSS : Hints := []
noncomputable def EvheldIntSS (N : Nat) : Env := { te := TE, cs := [convheldIntS N] }
noncomputable def dvheldIntSS_0 : Desc := { n := 21, regs := [.one (.val (.sl (.sl (.int .i64)))), .one (.val (.int .i64)), u, u, u, .one (.val (.int .i64))], bx := [], pins := [] }
noncomputable def ovheldIntSS_0 : Outs := [(.exit 0, { n := 21, regs := [u, .one (.val (.int .i64))], bx := [], pins := [] }), (.ret, { n := 21, regs := [u, u, u, u, .one (.val (.int .i64))], bx := [], pins := [] })]
noncomputable def lvheldIntSS_0 (N : Nat) : Nat → ((List (List Int)) × (Int × (Int × Unit))) → Option ((Int × Unit) ⊕ (Int × Unit))
  | 0, _ => none
  | n + 1, v =>
    let y1 := decide (v.2.2.1 < (v.1.length : Int))
    bif y1 then
     bif decide (0 ≤ v.2.2.1) then
     bif decide (v.2.2.1.toNat < v.1.length) then
     let y2 := v.1.getD v.2.2.1.toNat ([] : (List Int))
     (FvheldIntS N (y2, v.2.1, ())).bind fun r3 =>
     bif decide (r3.1 < (0 : Int)) then
      some (.inr (((-1 : Int), ())))
     else
     lvheldIntSS_0 N n (v.1, r3.1, w64 (v.2.2.1 + (1 : Int)), ())
     else none
     else none
    else
    some (.inl (v.2.1, ()))
noncomputable def FvheldIntSS (N : Nat) (x : ((List (List Int)) × (Int × Unit))) : Option (Int × Unit) :=
  (lvheldIntSS_0 N N (x.1, x.2.1, (0 : Int), ())).bind fun o4 =>
  Sum.elim (fun o5 =>
   some (o5.1, ())) (fun o6 =>
   some (o6.1, ())) o4
noncomputable def convheldIntSS (N : Nat) : Con := { f := 84, din := dinvheldIntSS, outs := outvheldIntSS, F := FvheldIntSS N }
noncomputable def XvheldIntSS (N : Nat) : Ctx := { E := EvheldIntSS N, H := HvheldIntSS, lp := [(0, { hd := dvheldIntSS_0, outs := ovheldIntSS_0, run := fun v => lvheldIntSS_0 N N v })], jn := [] }
noncomputable def bvheldIntSS_0 : Code := loopBody (codeOf Try.f84) 0
theorem FvheldIntSS_eq (N : Nat) (x : ((List (List Int)) × (Int × Unit))) : evFn (XvheldIntSS N) Try.f84 dinvheldIntSS outvheldIntSS x = FvheldIntSS N x := by kernel_rfl
theorem lvheldIntSS_0_eq (N n : Nat) (v : ((List (List Int)) × (Int × (Int × Unit)))) : lvheldIntSS_0 N (n + 1) v = ev (XvheldIntSS N) bvheldIntSS_0 (roundK dvheldIntSS_0 ovheldIntSS_0 (lvheldIntSS_0 N n)) (dvheldIntSS_0.mk' v) := by kernel_rfl
theorem cxvheldIntSS (N : Nat) : CtxOk Try.prog (XvheldIntSS N) := ⟨⟨TE_ok, List.forall_mem_cons.2 ⟨specvheldIntS N, fun k hk => absurd hk List.not_mem_nil⟩⟩, mixed⟩
theorem lpvheldIntSS_0 (N : Nat) : LoopOk Try.prog { hd := dvheldIntSS_0, outs := ovheldIntSS_0, run := fun v => lvheldIntSS_0 N N v } bvheldIntSS_0 :=
  loop_fuel (d := dvheldIntSS_0) (os := ovheldIntSS_0) (cxvheldIntSS N) (loops_at (ids := []) (by kernel_rfl) (trivial)) (lvheldIntSS_0 N) (fun _ => rfl) (fun n v => lvheldIntSS_0_eq N n v) (fun _ => N)
theorem specvheldIntSS (N : Nat) : Spec Try.prog (convheldIntSS N) :=
  Spec.of_eq (fn_spec (cxvheldIntSS N) (f := 84) (fn := Try.f84) (c := codeOf Try.f84) (by kernel_rfl) (by kernel_rfl) (by kernel_rfl) (loops_at (ids := [0]) (by kernel_rfl) ⟨lp_of (lpvheldIntSS_0 N), trivial⟩) (by kernel_rfl)) (fun x r h => (FvheldIntSS_eq N x).trans h)

/-! ### 30: laws.heldGraph -/

noncomputable def dinvheldGraph : Desc := { n := 2, regs := [.one (.val (.pair (.sl (.pair (.sl (.int .i64)) (.pair (.sl (.int .i64)) .unit))) (.pair (.sl (.sl (.int .i64))) (.pair (.sl (.int .i64)) .unit)))), .one (.val (.int .i64))], bx := [], pins := [] }
noncomputable def outvheldGraph : Outs := [(.ret, { n := 1, regs := [.one (.val (.int .i64))], bx := [], pins := [] })]
noncomputable def HvheldGraph : Hints := [(0, [(0, { fz := true })]),
  (4, [(3, { con := 1 })]),
  (7, [(3, { con := 2 })])]
noncomputable def EvheldGraph (N : Nat) : Env := { te := TE, cs := [convheldNodeS N, convheldIntSS N, convheldIntS N] }
noncomputable def FvheldGraph (N : Nat) (x : (((List ((List Int) × ((List Int) × Unit))) × ((List (List Int)) × ((List Int) × Unit))) × (Int × Unit))) : Option (Int × Unit) :=
  (FvheldNodeS N (x.1.1, x.2.1, ())).bind fun r1 =>
  bif decide (r1.1 < (0 : Int)) then
   some ((-1 : Int), ())
  else
  (FvheldIntSS N (x.1.2.1, r1.1, ())).bind fun r2 =>
  bif decide (r2.1 < (0 : Int)) then
   some ((-1 : Int), ())
  else
  (FvheldIntS N (x.1.2.2.1, r2.1, ())).bind fun r3 =>
  bif decide (r3.1 < (0 : Int)) then
   some ((-1 : Int), ())
  else
  some (r3.1, ())
noncomputable def convheldGraph (N : Nat) : Con := { f := 30, din := dinvheldGraph, outs := outvheldGraph, F := FvheldGraph N }
noncomputable def XvheldGraph (N : Nat) : Ctx := { E := EvheldGraph N, H := HvheldGraph, lp := [], jn := [] }
theorem FvheldGraph_eq (N : Nat) (x : (((List ((List Int) × ((List Int) × Unit))) × ((List (List Int)) × ((List Int) × Unit))) × (Int × Unit))) : evFn (XvheldGraph N) Try.f30 dinvheldGraph outvheldGraph x = FvheldGraph N x := by kernel_rfl
theorem cxvheldGraph (N : Nat) : CtxOk Try.prog (XvheldGraph N) := ⟨⟨TE_ok, List.forall_mem_cons.2 ⟨specvheldNodeS N, List.forall_mem_cons.2 ⟨specvheldIntSS N, List.forall_mem_cons.2 ⟨specvheldIntS N, fun k hk => absurd hk List.not_mem_nil⟩⟩⟩⟩, mixed⟩
theorem specvheldGraph (N : Nat) : Spec Try.prog (convheldGraph N) :=
  Spec.of_eq (fn_spec (cxvheldGraph N) (f := 30) (fn := Try.f30) (c := codeOf Try.f30) (by kernel_rfl) (by kernel_rfl) (by kernel_rfl) (loops_at (ids := []) (by kernel_rfl) (trivial)) (by kernel_rfl)) (fun x r h => (FvheldGraph_eq N x).trans h)

/-! ### 13: laws.FnExactGraphDo -/

noncomputable def dinvFnExactGraphDo : Desc := { n := 3, regs := [.one (.val (.pair (.sl (.pair (.sl (.int .i64)) (.pair (.sl (.int .i64)) .unit))) (.pair (.sl (.sl (.int .i64))) (.pair (.sl (.int .i64)) .unit)))), .one (.val (.int .i64)), .one (.val (.pair (.int .i64) (.pair (.int .i64) (.pair (.int .i64) (.pair (.int .i64) (.pair (.int .i64) (.pair (.int .i64) (.pair (.pair (.int .i64) (.pair (.int .i64) .unit)) .unit))))))))], bx := [], pins := [] }
noncomputable def outvFnExactGraphDo : Outs := [(.ret, { n := 1, regs := [.one (.val .bool)], bx := [], pins := [] })]
noncomputable def HvFnExactGraphDo : Hints := [(0, [(0, { fz := true }), (1, { fz := true })]),
  (5, [(1, { con := 1 }), (4, { con := 2 }), (5, { con := 3 })]),
  (6, [(1, { con := 1 })]),
  (7, [(3, { con := 2 }), (4, { con := 4 })]),
  (8, [(2, { con := 5 })]),
  (10, [(2, { con := 1 }), (3, { con := 5 })]),
  (13, [(2, { con := 6, sg := [(0, 1076865), (1, 1076866), (2, 1076867)] })]),
  (14, [(5, { con := 5 })]),
  (17, [(2, { con := 6, sg := [(0, 1089857), (1, 1089858), (2, 1089859)] })]),
  (19, [(2, { con := 7 })]),
  (24, [(1, { con := 1 }), (4, { con := 2 }), (5, { con := 4 })]),
  (25, [(2, { con := 5 })]),
  (28, [(2, { con := 7 })])]
noncomputable def EvFnExactGraphDo (N : Nat) : Env := { te := TE, cs := [convszGraph N, convtoGraph N, convtoOp N, consGraphDo N, coniGraphDo N, conveqGraph N, convmarkGraph N, convheldGraph N] }
noncomputable def jvFnExactGraphDo_10 : Outs := [(.normal, { n := 130, regs := [u, .one (.val (.int .i64)), u, .one (.fpt (.pair (.sl (.pair (.sl (.int .i64)) (.pair (.sl (.int .i64)) .unit))) (.pair (.sl (.sl (.int .i64))) (.pair (.sl (.int .i64)) .unit)))), u, .one (.fpt (.pair (.int .i64) (.pair (.int .i64) (.pair (.int .i64) (.pair (.int .i64) (.pair (.int .i64) (.pair (.int .i64) (.pair (.pair (.int .i64) (.pair (.int .i64) .unit)) .unit)))))))), u, u, .one (.lit (.ptr 1064640 0)), .one (.val (.int .i64)), .one (.val (.int .i64)), .one (.lit (.ptr 1076928 0)), .one (.lit (.ptr 1090176 0)), .one (.val (.int .i64)), .one (.val (.int .i64))], bx := [(1064640, .var [.lit (.row 1064321), .lit (.row 1064322), .lit (.row 1064323)]), (1064321, .row (.pair (.sl (.int .i64)) (.pair (.sl (.int .i64)) .unit))), (1064322, .row (.sl (.int .i64))), (1064323, .row (.int .i64)), (1076928, .var [.lit (.row 1076865), .lit (.row 1076866), .lit (.row 1076867)]), (1076865, .row (.pair (.sl (.int .i64)) (.pair (.sl (.int .i64)) .unit))), (1076866, .row (.sl (.int .i64))), (1076867, .row (.int .i64)), (1090176, .var [.lit (.row 1089857), .lit (.row 1089858), .lit (.row 1089859)]), (1089857, .row (.pair (.sl (.int .i64)) (.pair (.sl (.int .i64)) .unit))), (1089858, .row (.sl (.int .i64))), (1089859, .row (.int .i64))], pins := [] }), (.ret, { n := 130, regs := [u, u, u, u, u, u, .one (.val .bool)], bx := [], pins := [] })]
noncomputable def jvFnExactGraphDo_16 : Outs := [(.normal, { n := 130, regs := [u, .one (.val (.int .i64)), u, .one (.fpt (.pair (.sl (.pair (.sl (.int .i64)) (.pair (.sl (.int .i64)) .unit))) (.pair (.sl (.sl (.int .i64))) (.pair (.sl (.int .i64)) .unit)))), u, .one (.fpt (.pair (.int .i64) (.pair (.int .i64) (.pair (.int .i64) (.pair (.int .i64) (.pair (.int .i64) (.pair (.int .i64) (.pair (.pair (.int .i64) (.pair (.int .i64) .unit)) .unit)))))))), u, u, .one (.lit (.ptr 1064640 0)), .one (.val (.int .i64)), .one (.val (.int .i64)), u, .one (.lit (.ptr 1090176 0))], bx := [(1064640, .var [.lit (.row 1064321), .lit (.row 1064322), .lit (.row 1064323)]), (1064321, .row (.pair (.sl (.int .i64)) (.pair (.sl (.int .i64)) .unit))), (1064322, .row (.sl (.int .i64))), (1064323, .row (.int .i64)), (1090176, .var [.lit (.row 1089857), .lit (.row 1089858), .lit (.row 1089859)]), (1089857, .row (.pair (.sl (.int .i64)) (.pair (.sl (.int .i64)) .unit))), (1089858, .row (.sl (.int .i64))), (1089859, .row (.int .i64))], pins := [] }), (.ret, { n := 130, regs := [u, u, u, u, u, u, .one (.val .bool)], bx := [], pins := [] })]
noncomputable def jvFnExactGraphDo_27 : Outs := [(.normal, { n := 130, regs := [u, u, u, u, u, u, u, u, u, u, u, u, .one (.lit (.ptr 1090176 0)), u, u, u, .one (.val (.int .i64))], bx := [(1090176, .var [.lit (.row 1089857), .lit (.row 1089858), .lit (.row 1089859)]), (1089857, .row (.pair (.sl (.int .i64)) (.pair (.sl (.int .i64)) .unit))), (1089858, .row (.sl (.int .i64))), (1089859, .row (.int .i64))], pins := [] }), (.ret, { n := 130, regs := [u, u, u, u, u, u, .one (.val .bool)], bx := [], pins := [] })]
noncomputable def FvFnExactGraphDo (N : Nat) (x : (((List ((List Int) × ((List Int) × Unit))) × ((List (List Int)) × ((List Int) × Unit))) × (Int × ((Int × (Int × (Int × (Int × (Int × (Int × ((Int × (Int × Unit)) × Unit))))))) × Unit)))) : Option (Bool × Unit) :=
  (FvszGraph N (x.1, (1048576 : Int), ())).bind fun r1 =>
  bif decide (r1.1 < (0 : Int)) then
   some (true, ())
  else
  (FvtoGraph N (x.1, ())).bind fun r2 =>
  (FvtoOp N (x.2.2.1, ())).bind fun r3 =>
  (FsGraphDo N ((r2.1, r2.2.1, r2.2.2.1, ()), x.2.1, (r3.1, r3.2.1, r3.2.2.1, r3.2.2.2.1, r3.2.2.2.2.1, r3.2.2.2.2.2.1, (r3.2.2.2.2.2.2.1, r3.2.2.2.2.2.2.2.1, ()), ()), ())).bind fun r4 =>
  (FvtoGraph N (x.1, ())).bind fun r5 =>
  (FvtoOp N (x.2.2.1, ())).bind fun r6 =>
  (FiGraphDo N ((r5.1, r5.2.1, r5.2.2.1, ()), x.2.1, (r6.1, r6.2.1, r6.2.2.1, r6.2.2.2.1, r6.2.2.2.2.1, r6.2.2.2.2.2.1, (r6.2.2.2.2.2.2.1, r6.2.2.2.2.2.2.2.1, ()), ()), ())).bind fun r7 =>
  Option.bind (
   (FveqGraph N ((r7.2.2.1, r7.2.2.2.1, r7.2.2.2.2.1, ()), (r4.2.2.1, r4.2.2.2.1, r4.2.2.2.2.1, ()), ())).bind fun r8 =>
   bif !r8.1 then
    some (.inr ((false, ())))
   else
   bif r7.1 != r4.1 then
    some (.inr ((false, ())))
   else
   bif r7.2.1 != r4.2.1 then
    some (.inr ((false, ())))
   else
   some (.inl (x.2.1, x.1, x.2.2.1, r4.1, r4.2.1, r7.1, r7.2.1, r4.2.2.1, r4.2.2.2.1, r4.2.2.2.2.1, r5.1, r5.2.1, r5.2.2.1, r7.2.2.1, r7.2.2.2.1, r7.2.2.2.2.1, ()))) fun o9 =>
  Sum.elim (fun o10 =>
   (FvtoGraph N (o10.2.1, ())).bind fun r11 =>
   (FveqGraph N ((o10.2.2.2.2.2.2.2.2.2.2.1, o10.2.2.2.2.2.2.2.2.2.2.2.1, o10.2.2.2.2.2.2.2.2.2.2.2.2.1, ()), (r11.1, r11.2.1, r11.2.2.1, ()), ())).bind fun r12 =>
   bif !r12.1 then
    some (false, ())
   else
   (FvmarkGraph N ((1 : Int), o10.2.2.2.2.2.2.2.2.2.2.1, o10.2.2.2.2.2.2.2.2.2.2.2.1, o10.2.2.2.2.2.2.2.2.2.2.2.2.1, ())).bind fun r13 =>
   Option.bind (
    bif decide (r13.1 < (0 : Int)) then
     some (.inr ((false, ())))
    else
    (FveqGraph N ((o10.2.2.2.2.2.2.2.2.2.2.2.2.2.1, o10.2.2.2.2.2.2.2.2.2.2.2.2.2.2.1, o10.2.2.2.2.2.2.2.2.2.2.2.2.2.2.2.1, ()), (o10.2.2.2.2.2.2.2.1, o10.2.2.2.2.2.2.2.2.1, o10.2.2.2.2.2.2.2.2.2.1, ()), ())).bind fun r14 =>
    bif !r14.1 then
     some (.inr ((false, ())))
    else
    bif o10.2.2.2.2.2.1 != o10.2.2.2.1 then
     some (.inr ((false, ())))
    else
    bif o10.2.2.2.2.2.2.1 != o10.2.2.2.2.1 then
     some (.inr ((false, ())))
    else
    some (.inl (o10.1, o10.2.1, o10.2.2.1, o10.2.2.2.1, o10.2.2.2.2.1, o10.2.2.2.2.2.2.2.1, o10.2.2.2.2.2.2.2.2.1, o10.2.2.2.2.2.2.2.2.2.1, o10.2.2.2.2.2.2.2.2.2.2.2.2.2.1, o10.2.2.2.2.2.2.2.2.2.2.2.2.2.2.1, o10.2.2.2.2.2.2.2.2.2.2.2.2.2.2.2.1, ()))) fun o15 =>
   Sum.elim (fun o16 =>
    (FvmarkGraph N ((1 : Int), o16.2.2.2.2.2.2.2.2.1, o16.2.2.2.2.2.2.2.2.2.1, o16.2.2.2.2.2.2.2.2.2.2.1, ())).bind fun r17 =>
    (FvheldGraph N ((r17.2.1, r17.2.2.1, r17.2.2.2.1, ()), (1 : Int), ())).bind fun r18 =>
    bif decide (r18.1 < (0 : Int)) then
     some (false, ())
    else
    bif r18.1 != r17.1 then
     some (false, ())
    else
    (FvtoGraph N (o16.2.1, ())).bind fun r19 =>
    (FvtoOp N (o16.2.2.1, ())).bind fun r20 =>
    (FiGraphDo N ((r19.1, r19.2.1, r19.2.2.1, ()), o16.1, (r20.1, r20.2.1, r20.2.2.1, r20.2.2.2.1, r20.2.2.2.2.1, r20.2.2.2.2.2.1, (r20.2.2.2.2.2.2.1, r20.2.2.2.2.2.2.2.1, ()), ()), ())).bind fun r21 =>
    Option.bind (
     (FveqGraph N ((r21.2.2.1, r21.2.2.2.1, r21.2.2.2.2.1, ()), (o16.2.2.2.2.2.1, o16.2.2.2.2.2.2.1, o16.2.2.2.2.2.2.2.1, ()), ())).bind fun r22 =>
     bif !r22.1 then
      some (.inr ((false, ())))
     else
     bif r21.1 != o16.2.2.2.1 then
      some (.inr ((false, ())))
     else
     bif r21.2.1 != o16.2.2.2.2.1 then
      some (.inr ((false, ())))
     else
     some (.inl (r17.1, r17.2.1, r17.2.2.1, r17.2.2.2.1, ()))) fun o23 =>
    Sum.elim (fun o24 =>
     (FvheldGraph N ((o24.2.1, o24.2.2.1, o24.2.2.2.1, ()), (1 : Int), ())).bind fun r25 =>
     bif decide (r25.1 < (0 : Int)) then
      some (false, ())
     else
     bif r25.1 != o24.1 then
      some (false, ())
     else
     some (true, ())) (fun o26 =>
     some (o26.1, ())) o23) (fun o27 =>
    some (o27.1, ())) o15) (fun o28 =>
   some (o28.1, ())) o9
noncomputable def convFnExactGraphDo (N : Nat) : Con := { f := 13, din := dinvFnExactGraphDo, outs := outvFnExactGraphDo, F := FvFnExactGraphDo N }
noncomputable def XvFnExactGraphDo (N : Nat) : Ctx := { E := EvFnExactGraphDo N, H := HvFnExactGraphDo, lp := [], jn := [(10, jvFnExactGraphDo_10), (16, jvFnExactGraphDo_16), (27, jvFnExactGraphDo_27)] }
theorem FvFnExactGraphDo_eq (N : Nat) (x : (((List ((List Int) × ((List Int) × Unit))) × ((List (List Int)) × ((List Int) × Unit))) × (Int × ((Int × (Int × (Int × (Int × (Int × (Int × ((Int × (Int × Unit)) × Unit))))))) × Unit)))) : evFn (XvFnExactGraphDo N) Try.f13 dinvFnExactGraphDo outvFnExactGraphDo x = FvFnExactGraphDo N x := by kernel_rfl
theorem cxvFnExactGraphDo (N : Nat) : CtxOk Try.prog (XvFnExactGraphDo N) := ⟨⟨TE_ok, List.forall_mem_cons.2 ⟨specvszGraph N, List.forall_mem_cons.2 ⟨specvtoGraph N, List.forall_mem_cons.2 ⟨specvtoOp N, List.forall_mem_cons.2 ⟨specsGraphDo N, List.forall_mem_cons.2 ⟨speciGraphDo N, List.forall_mem_cons.2 ⟨specveqGraph N, List.forall_mem_cons.2 ⟨specvmarkGraph N, List.forall_mem_cons.2 ⟨specvheldGraph N, fun k hk => absurd hk List.not_mem_nil⟩⟩⟩⟩⟩⟩⟩⟩⟩, mixed⟩
theorem specvFnExactGraphDo (N : Nat) : Spec Try.prog (convFnExactGraphDo N) :=
  Spec.of_eq (fn_spec (cxvFnExactGraphDo N) (f := 13) (fn := Try.f13) (c := codeOf Try.f13) (by kernel_rfl) (by kernel_rfl) (by kernel_rfl) (loops_at (ids := []) (by kernel_rfl) (trivial)) (by kernel_rfl)) (fun x r h => (FvFnExactGraphDo_eq N x).trans h)

end Go.Fl

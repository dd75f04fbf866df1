/- Proved: for every input the law FnExactPathShared returns true and leaves its arguments as they were. Part 1: the functions that the law reaches, as plain functions, and plain laws about them; no conditions. -/
import Derived.Test.YtjlcdaggbpgpjaaK3
import Derived.Test.YtjlcdaggbpgpjaaProg
set_option linter.all false
-- FUNCS vszIntS vszNode vszNodeS vszIntSS vszGraph vtoIntS vtoNode vtoNodeS vtoIntSS vtoGraph sl5Refs sGraphOk sl5Ints sl5Copy sl5Order sGraphReach sPathShared iGraph_leads_1 kIndexFunc_Sint_int_iGraph_leads_1 kContainsFunc_Sint_int_iGraph_leads_1 iGraph_leads iGraphOk iGraph_from_1_iGraph_from_1 iGraph_from iPathShared veqIntS veqNode veqNodeS veqIntSS veqGraph vmarkIntS vmarkNodeS vmarkIntSS vmarkGraph vheldIntS vFnExactPathShared
set_option maxRecDepth 100000
set_option linter.all false
namespace Go.Fl
open Go Go.Proofs
noncomputable def TE : List (Nat × Ty) := [(3, (.int .i64)),
  (4, .bool),
  (22, (.sl (.pair (.sl (.int .i64)) (.pair (.sl (.int .i64)) .unit)))),
  (23, (.sl (.sl (.int .i64)))),
  (24, (.sl (.int .i64))),
  (26, (.pair (.sl (.pair (.sl (.int .i64)) (.pair (.sl (.int .i64)) .unit))) (.pair (.sl (.sl (.int .i64))) (.pair (.sl (.int .i64)) .unit)))),
  (29, (.sl (.pair (.sl (.int .i64)) (.pair (.sl (.int .i64)) .unit)))),
  (31, (.pair (.sl (.pair (.sl (.int .i64)) (.pair (.sl (.int .i64)) .unit))) (.pair (.sl (.sl (.int .i64))) (.pair (.sl (.int .i64)) .unit)))),
  (44, (.sl .bool)),
  (47, (.pair (.sl (.int .i64)) (.pair (.sl (.int .i64)) .unit))),
  (91, (.mp .bool)),
  (97, (.hnd true)),
  (109, (.hnd true)),
  (144, (.pair (.sl (.int .i64)) (.pair (.sl (.int .i64)) .unit)))]
theorem TE_ok : TyOk Try.prog TE := tysB_spec (by kernel_rfl)
theorem mixed : Try.prog.follows .mixedOrders = true := by kernel_rfl

/-! ### 61: laws.szIntS -/

noncomputable def dinvszIntS : Desc := { n := 2, regs := [.one (.val (.sl (.int .i64))), .one (.val (.int .i64))], bx := [], pins := [] }
noncomputable def outvszIntS : Outs := [(.ret, { n := 1, regs := [.one (.val (.int .i64))], bx := [], pins := [] })]
noncomputable def HvszIntS : Hints := []
noncomputable def EvszIntS (_N : Nat) : Env := { te := TE, cs := [] }
noncomputable def FvszIntS (N : Nat) (x : ((List Int) × (Int × Unit))) : Option (Int × Unit) :=
  let y1 := decide ((w64 (x.2.1 - (x.1.length : Int))) < (0 : Int))
  bif y1 then
   some ((-1 : Int), ())
  else
  some (w64 (x.2.1 - (x.1.length : Int)), ())
noncomputable def convszIntS (N : Nat) : Con := { f := 61, din := dinvszIntS, outs := outvszIntS, F := FvszIntS N }
noncomputable def XvszIntS (N : Nat) : Ctx := { E := EvszIntS N, H := HvszIntS, lp := [], jn := [] }
theorem FvszIntS_eq (N : Nat) (x : ((List Int) × (Int × Unit))) : evFn (XvszIntS N) Try.f61 dinvszIntS outvszIntS x = FvszIntS N x := by kernel_rfl
theorem cxvszIntS (N : Nat) : CtxOk Try.prog (XvszIntS N) := ⟨⟨TE_ok, fun k hk => absurd hk List.not_mem_nil⟩, mixed⟩
theorem specvszIntS (N : Nat) : Spec Try.prog (convszIntS N) :=
  Spec.of_eq (fn_spec (cxvszIntS N) (f := 61) (fn := Try.f61) (c := codeOf Try.f61) (by kernel_rfl) (by kernel_rfl) (by kernel_rfl) (loops_at (ids := []) (by kernel_rfl) (trivial)) (by kernel_rfl)) (fun x r h => (FvszIntS_eq N x).trans h)

/-! ### 124: laws.szNode -/

noncomputable def dinvszNode : Desc := { n := 2, regs := [.one (.val (.pair (.sl (.int .i64)) (.pair (.sl (.int .i64)) .unit))), .one (.val (.int .i64))], bx := [], pins := [] }
noncomputable def outvszNode : Outs := [(.ret, { n := 1, regs := [.one (.val (.int .i64))], bx := [], pins := [] })]
noncomputable def HvszNode : Hints := [(0, [(0, { fz := true })])]
noncomputable def EvszNode (N : Nat) : Env := { te := TE, cs := [convszIntS N] }
noncomputable def FvszNode (N : Nat) (x : (((List Int) × ((List Int) × Unit)) × (Int × Unit))) : Option (Int × Unit) :=
  (FvszIntS N (x.1.1, x.2.1, ())).bind fun r1 =>
  bif decide (r1.1 < (0 : Int)) then
   some ((-1 : Int), ())
  else
  (FvszIntS N (x.1.2.1, r1.1, ())).bind fun r2 =>
  bif decide (r2.1 < (0 : Int)) then
   some ((-1 : Int), ())
  else
  some (r2.1, ())
noncomputable def convszNode (N : Nat) : Con := { f := 124, din := dinvszNode, outs := outvszNode, F := FvszNode N }
noncomputable def XvszNode (N : Nat) : Ctx := { E := EvszNode N, H := HvszNode, lp := [], jn := [] }
theorem FvszNode_eq (N : Nat) (x : (((List Int) × ((List Int) × Unit)) × (Int × Unit))) : evFn (XvszNode N) Try.f124 dinvszNode outvszNode x = FvszNode N x := by kernel_rfl
theorem cxvszNode (N : Nat) : CtxOk Try.prog (XvszNode N) := ⟨⟨TE_ok, List.forall_mem_cons.2 ⟨(specvszIntS N), fun k hk => absurd hk List.not_mem_nil⟩⟩, mixed⟩
theorem specvszNode (N : Nat) : Spec Try.prog (convszNode N) :=
  Spec.of_eq (fn_spec (cxvszNode N) (f := 124) (fn := Try.f124) (c := codeOf Try.f124) (by kernel_rfl) (by kernel_rfl) (by kernel_rfl) (loops_at (ids := []) (by kernel_rfl) (trivial)) (by kernel_rfl)) (fun x r h => (FvszNode_eq N x).trans h)

/-! ### 59: laws.szNodeS -/

noncomputable def dinvszNodeS : Desc := { n := 2, regs := [.one (.val (.sl (.pair (.sl (.int .i64)) (.pair (.sl (.int .i64)) .unit)))), .one (.val (.int .i64))], bx := [], pins := [] }
noncomputable def outvszNodeS : Outs := [(.ret, { n := 1, regs := [.one (.val (.int .i64))], bx := [], pins := [] })]
noncomputable def HvszNodeS : Hints := []
noncomputable def EvszNodeS (N : Nat) : Env := { te := TE, cs := [convszNode N] }
noncomputable def dvszNodeS_0 : Desc := { n := 27, regs := [.one (.val (.sl (.pair (.sl (.int .i64)) (.pair (.sl (.int .i64)) .unit)))), .one (.val (.int .i64)), u, u, u, .one (.val (.int .i64))], bx := [], pins := [] }
noncomputable def ovszNodeS_0 : Outs := [(.exit 0, { n := 27, regs := [u, .one (.val (.int .i64))], bx := [], pins := [] }), (.ret, { n := 27, regs := [u, u, u, u, .one (.val (.int .i64))], bx := [], pins := [] })]
noncomputable def lvszNodeS_0 (N : Nat) : Nat → ((List ((List Int) × ((List Int) × Unit))) × (Int × (Int × Unit))) → Option ((Int × Unit) ⊕ (Int × Unit))
  | 0, _ => none
  | n + 1, v =>
    let y2 := decide (v.2.2.1 < (v.1.length : Int))
    bif y2 then
     bif decide (0 ≤ v.2.2.1) then
     bif decide (v.2.2.1.toNat < v.1.length) then
     let y3 := v.1.getD v.2.2.1.toNat (([] : (List Int)), ([] : (List Int)), ())
     (FvszNode N (y3, v.2.1, ())).bind fun r4 =>
     bif decide (r4.1 < (0 : Int)) then
      some (.inr (((-1 : Int), ())))
     else
     lvszNodeS_0 N n (v.1, r4.1, w64 (v.2.2.1 + (1 : Int)), ())
     else none
     else none
    else
    some (.inl (v.2.1, ()))
noncomputable def FvszNodeS (N : Nat) (x : ((List ((List Int) × ((List Int) × Unit))) × (Int × Unit))) : Option (Int × Unit) :=
  let y1 := decide ((w64 (x.2.1 - (x.1.length : Int))) < (0 : Int))
  bif y1 then
   some ((-1 : Int), ())
  else
  (lvszNodeS_0 N N (x.1, w64 (x.2.1 - (x.1.length : Int)), (0 : Int), ())).bind fun o5 =>
  Sum.elim (fun o6 =>
   some (o6.1, ())) (fun o7 =>
   some (o7.1, ())) o5
noncomputable def convszNodeS (N : Nat) : Con := { f := 59, din := dinvszNodeS, outs := outvszNodeS, F := FvszNodeS N }
noncomputable def XvszNodeS (N : Nat) : Ctx := { E := EvszNodeS N, H := HvszNodeS, lp := [(0, { hd := dvszNodeS_0, outs := ovszNodeS_0, run := fun v => lvszNodeS_0 N N v })], jn := [] }
noncomputable def bvszNodeS_0 : Code := loopBody (codeOf Try.f59) 0
theorem FvszNodeS_eq (N : Nat) (x : ((List ((List Int) × ((List Int) × Unit))) × (Int × Unit))) : evFn (XvszNodeS N) Try.f59 dinvszNodeS outvszNodeS x = FvszNodeS N x := by kernel_rfl
theorem lvszNodeS_0_eq (N n : Nat) (v : ((List ((List Int) × ((List Int) × Unit))) × (Int × (Int × Unit)))) : lvszNodeS_0 N (n + 1) v = ev (XvszNodeS N) bvszNodeS_0 (roundK dvszNodeS_0 ovszNodeS_0 (lvszNodeS_0 N n)) (dvszNodeS_0.mk' v) := by kernel_rfl
theorem cxvszNodeS (N : Nat) : CtxOk Try.prog (XvszNodeS N) := ⟨⟨TE_ok, List.forall_mem_cons.2 ⟨(specvszNode N), fun k hk => absurd hk List.not_mem_nil⟩⟩, mixed⟩
theorem lpvszNodeS_0 (N : Nat) : LoopOk Try.prog { hd := dvszNodeS_0, outs := ovszNodeS_0, run := fun v => lvszNodeS_0 N N v } bvszNodeS_0 :=
  loop_fuel (d := dvszNodeS_0) (os := ovszNodeS_0) (cxvszNodeS N) (loops_at (ids := []) (by kernel_rfl) (trivial)) (lvszNodeS_0 N) (fun _ => rfl) (fun n v => lvszNodeS_0_eq N n v) (fun _ => N)
theorem specvszNodeS (N : Nat) : Spec Try.prog (convszNodeS N) :=
  Spec.of_eq (fn_spec (cxvszNodeS N) (f := 59) (fn := Try.f59) (c := codeOf Try.f59) (by kernel_rfl) (by kernel_rfl) (by kernel_rfl) (loops_at (ids := [0]) (by kernel_rfl) ⟨lp_of (lpvszNodeS_0 N), trivial⟩) (by kernel_rfl)) (fun x r h => (FvszNodeS_eq N x).trans h)

/-! ### 60: laws.szIntSS -/

noncomputable def dinvszIntSS : Desc := { n := 2, regs := [.one (.val (.sl (.sl (.int .i64)))), .one (.val (.int .i64))], bx := [], pins := [] }
noncomputable def outvszIntSS : Outs := [(.ret, { n := 1, regs := [.one (.val (.int .i64))], bx := [], pins := [] })]
noncomputable def HvszIntSS : Hints := []
noncomputable def EvszIntSS (N : Nat) : Env := { te := TE, cs := [convszIntS N] }
noncomputable def dvszIntSS_0 : Desc := { n := 27, regs := [.one (.val (.sl (.sl (.int .i64)))), .one (.val (.int .i64)), u, u, u, .one (.val (.int .i64))], bx := [], pins := [] }
noncomputable def ovszIntSS_0 : Outs := [(.exit 0, { n := 27, regs := [u, .one (.val (.int .i64))], bx := [], pins := [] }), (.ret, { n := 27, regs := [u, u, u, u, .one (.val (.int .i64))], bx := [], pins := [] })]
noncomputable def lvszIntSS_0 (N : Nat) : Nat → ((List (List Int)) × (Int × (Int × Unit))) → Option ((Int × Unit) ⊕ (Int × Unit))
  | 0, _ => none
  | n + 1, v =>
    let y2 := decide (v.2.2.1 < (v.1.length : Int))
    bif y2 then
     bif decide (0 ≤ v.2.2.1) then
     bif decide (v.2.2.1.toNat < v.1.length) then
     let y3 := v.1.getD v.2.2.1.toNat ([] : (List Int))
     (FvszIntS N (y3, v.2.1, ())).bind fun r4 =>
     bif decide (r4.1 < (0 : Int)) then
      some (.inr (((-1 : Int), ())))
     else
     lvszIntSS_0 N n (v.1, r4.1, w64 (v.2.2.1 + (1 : Int)), ())
     else none
     else none
    else
    some (.inl (v.2.1, ()))
noncomputable def FvszIntSS (N : Nat) (x : ((List (List Int)) × (Int × Unit))) : Option (Int × Unit) :=
  let y1 := decide ((w64 (x.2.1 - (x.1.length : Int))) < (0 : Int))
  bif y1 then
   some ((-1 : Int), ())
  else
  (lvszIntSS_0 N N (x.1, w64 (x.2.1 - (x.1.length : Int)), (0 : Int), ())).bind fun o5 =>
  Sum.elim (fun o6 =>
   some (o6.1, ())) (fun o7 =>
   some (o7.1, ())) o5
noncomputable def convszIntSS (N : Nat) : Con := { f := 60, din := dinvszIntSS, outs := outvszIntSS, F := FvszIntSS N }
noncomputable def XvszIntSS (N : Nat) : Ctx := { E := EvszIntSS N, H := HvszIntSS, lp := [(0, { hd := dvszIntSS_0, outs := ovszIntSS_0, run := fun v => lvszIntSS_0 N N v })], jn := [] }
noncomputable def bvszIntSS_0 : Code := loopBody (codeOf Try.f60) 0
theorem FvszIntSS_eq (N : Nat) (x : ((List (List Int)) × (Int × Unit))) : evFn (XvszIntSS N) Try.f60 dinvszIntSS outvszIntSS x = FvszIntSS N x := by kernel_rfl
theorem lvszIntSS_0_eq (N n : Nat) (v : ((List (List Int)) × (Int × (Int × Unit)))) : lvszIntSS_0 N (n + 1) v = ev (XvszIntSS N) bvszIntSS_0 (roundK dvszIntSS_0 ovszIntSS_0 (lvszIntSS_0 N n)) (dvszIntSS_0.mk' v) := by kernel_rfl
theorem cxvszIntSS (N : Nat) : CtxOk Try.prog (XvszIntSS N) := ⟨⟨TE_ok, List.forall_mem_cons.2 ⟨(specvszIntS N), fun k hk => absurd hk List.not_mem_nil⟩⟩, mixed⟩
theorem lpvszIntSS_0 (N : Nat) : LoopOk Try.prog { hd := dvszIntSS_0, outs := ovszIntSS_0, run := fun v => lvszIntSS_0 N N v } bvszIntSS_0 :=
  loop_fuel (d := dvszIntSS_0) (os := ovszIntSS_0) (cxvszIntSS N) (loops_at (ids := []) (by kernel_rfl) (trivial)) (lvszIntSS_0 N) (fun _ => rfl) (fun n v => lvszIntSS_0_eq N n v) (fun _ => N)
theorem specvszIntSS (N : Nat) : Spec Try.prog (convszIntSS N) :=
  Spec.of_eq (fn_spec (cxvszIntSS N) (f := 60) (fn := Try.f60) (c := codeOf Try.f60) (by kernel_rfl) (by kernel_rfl) (by kernel_rfl) (loops_at (ids := [0]) (by kernel_rfl) ⟨lp_of (lpvszIntSS_0 N), trivial⟩) (by kernel_rfl)) (fun x r h => (FvszIntSS_eq N x).trans h)

/-! ### 15: laws.szGraph -/

noncomputable def dinvszGraph : Desc := { n := 2, regs := [.one (.val (.pair (.sl (.pair (.sl (.int .i64)) (.pair (.sl (.int .i64)) .unit))) (.pair (.sl (.sl (.int .i64))) (.pair (.sl (.int .i64)) .unit)))), .one (.val (.int .i64))], bx := [], pins := [] }
noncomputable def outvszGraph : Outs := [(.ret, { n := 1, regs := [.one (.val (.int .i64))], bx := [], pins := [] })]
noncomputable def HvszGraph : Hints := [(0, [(0, { fz := true })]),
  (4, [(3, { con := 1 })]),
  (7, [(3, { con := 2 })])]
noncomputable def EvszGraph (N : Nat) : Env := { te := TE, cs := [convszNodeS N, convszIntSS N, convszIntS N] }
noncomputable def FvszGraph (N : Nat) (x : (((List ((List Int) × ((List Int) × Unit))) × ((List (List Int)) × ((List Int) × Unit))) × (Int × Unit))) : Option (Int × Unit) :=
  (FvszNodeS N (x.1.1, x.2.1, ())).bind fun r1 =>
  bif decide (r1.1 < (0 : Int)) then
   some ((-1 : Int), ())
  else
  (FvszIntSS N (x.1.2.1, r1.1, ())).bind fun r2 =>
  bif decide (r2.1 < (0 : Int)) then
   some ((-1 : Int), ())
  else
  (FvszIntS N (x.1.2.2.1, r2.1, ())).bind fun r3 =>
  bif decide (r3.1 < (0 : Int)) then
   some ((-1 : Int), ())
  else
  some (r3.1, ())
noncomputable def convszGraph (N : Nat) : Con := { f := 15, din := dinvszGraph, outs := outvszGraph, F := FvszGraph N }
noncomputable def XvszGraph (N : Nat) : Ctx := { E := EvszGraph N, H := HvszGraph, lp := [], jn := [] }
theorem FvszGraph_eq (N : Nat) (x : (((List ((List Int) × ((List Int) × Unit))) × ((List (List Int)) × ((List Int) × Unit))) × (Int × Unit))) : evFn (XvszGraph N) Try.f15 dinvszGraph outvszGraph x = FvszGraph N x := by kernel_rfl
theorem cxvszGraph (N : Nat) : CtxOk Try.prog (XvszGraph N) := ⟨⟨TE_ok, List.forall_mem_cons.2 ⟨(specvszNodeS N), List.forall_mem_cons.2 ⟨(specvszIntSS N), List.forall_mem_cons.2 ⟨(specvszIntS N), fun k hk => absurd hk List.not_mem_nil⟩⟩⟩⟩, mixed⟩
theorem specvszGraph (N : Nat) : Spec Try.prog (convszGraph N) :=
  Spec.of_eq (fn_spec (cxvszGraph N) (f := 15) (fn := Try.f15) (c := codeOf Try.f15) (by kernel_rfl) (by kernel_rfl) (by kernel_rfl) (loops_at (ids := []) (by kernel_rfl) (trivial)) (by kernel_rfl)) (fun x r h => (FvszGraph_eq N x).trans h)

/-! ### 65: laws.toIntS -/

noncomputable def dinvtoIntS : Desc := { n := 1, regs := [.one (.val (.sl (.int .i64)))], bx := [], pins := [] }
noncomputable def outvtoIntS : Outs := [(.ret, { n := 1, regs := [.one (.lit (.row 1012928))], bx := [(1012928, .row (.int .i64))], pins := [] })]
noncomputable def HvtoIntS : Hints := []
noncomputable def EvtoIntS (_N : Nat) : Env := { te := TE, cs := [] }
noncomputable def dvtoIntS_0 : Desc := { n := 22, regs := [.one (.val (.sl (.int .i64))), u, u, .one (.lit (.row 1012928)), .one (.val (.int .i64))], bx := [(1012928, .row (.int .i64))], pins := [] }
noncomputable def ovtoIntS_0 : Outs := [(.exit 0, { n := 22, regs := [u, u, u, .one (.lit (.row 1012928))], bx := [(1012928, .row (.int .i64))], pins := [] })]
noncomputable def lvtoIntS_0 (N : Nat) : Nat → ((List Int) × (Int × ((List Int) × Unit))) → Option ((List Int) × Unit)
  | 0, _ => none
  | n + 1, v =>
    bif decide (v.2.1 < (v.1.length : Int)) then
     bif decide (0 ≤ v.2.1) then
     bif decide (v.2.1.toNat < v.1.length) then
     bif decide (0 ≤ v.2.1) then
     bif decide (v.2.1.toNat < v.2.2.1.length) then
     let y2 := v.2.2.1.set v.2.1.toNat (v.1.getD v.2.1.toNat (0 : Int))
     lvtoIntS_0 N n (v.1, w64 (v.2.1 + (1 : Int)), y2, ())
     else none
     else none
     else none
     else none
    else
    some (v.2.2.1, ())
noncomputable def FvtoIntS (N : Nat) (x : ((List Int) × Unit)) : Option ((List Int) × Unit) :=
  bif decide (0 ≤ (x.1.length : Int)) then
  bif decide ((x.1.length : Int).toNat ≤ lim) then
  let y1 := List.replicate (x.1.length : Int).toNat (0 : Int)
  (lvtoIntS_0 N N (x.1, (0 : Int), y1, ())).bind fun o3 =>
  some (o3.1, ())
  else none
  else none
noncomputable def convtoIntS (N : Nat) : Con := { f := 65, din := dinvtoIntS, outs := outvtoIntS, F := FvtoIntS N }
noncomputable def XvtoIntS (N : Nat) : Ctx := { E := EvtoIntS N, H := HvtoIntS, lp := [(0, { hd := dvtoIntS_0, outs := ovtoIntS_0, run := fun v => lvtoIntS_0 N N v })], jn := [] }
noncomputable def bvtoIntS_0 : Code := loopBody (codeOf Try.f65) 0
theorem FvtoIntS_eq (N : Nat) (x : ((List Int) × Unit)) : evFn (XvtoIntS N) Try.f65 dinvtoIntS outvtoIntS x = FvtoIntS N x := by kernel_rfl
theorem lvtoIntS_0_eq (N n : Nat) (v : ((List Int) × (Int × ((List Int) × Unit)))) : lvtoIntS_0 N (n + 1) v = ev (XvtoIntS N) bvtoIntS_0 (roundK dvtoIntS_0 ovtoIntS_0 (lvtoIntS_0 N n)) (dvtoIntS_0.mk' v) := by kernel_rfl
theorem cxvtoIntS (N : Nat) : CtxOk Try.prog (XvtoIntS N) := ⟨⟨TE_ok, fun k hk => absurd hk List.not_mem_nil⟩, mixed⟩
theorem lpvtoIntS_0 (N : Nat) : LoopOk Try.prog { hd := dvtoIntS_0, outs := ovtoIntS_0, run := fun v => lvtoIntS_0 N N v } bvtoIntS_0 :=
  loop_fuel (d := dvtoIntS_0) (os := ovtoIntS_0) (cxvtoIntS N) (loops_at (ids := []) (by kernel_rfl) (trivial)) (lvtoIntS_0 N) (fun _ => rfl) (fun n v => lvtoIntS_0_eq N n v) (fun _ => N)
theorem specvtoIntS (N : Nat) : Spec Try.prog (convtoIntS N) :=
  Spec.of_eq (fn_spec (cxvtoIntS N) (f := 65) (fn := Try.f65) (c := codeOf Try.f65) (by kernel_rfl) (by kernel_rfl) (by kernel_rfl) (loops_at (ids := [0]) (by kernel_rfl) ⟨lp_of (lpvtoIntS_0 N), trivial⟩) (by kernel_rfl)) (fun x r h => (FvtoIntS_eq N x).trans h)

/-! ### 125: laws.toNode -/

noncomputable def dinvtoNode : Desc := { n := 1, regs := [.one (.val (.pair (.sl (.int .i64)) (.pair (.sl (.int .i64)) .unit)))], bx := [], pins := [] }
noncomputable def outvtoNode : Outs := [(.ret, { n := 1, regs := [.agg [.lit (.row 1025729), .lit (.row 1038529)]], bx := [(1025729, .row (.int .i64)), (1038529, .row (.int .i64))], pins := [] })]
noncomputable def HvtoNode : Hints := [(0, [(0, { fz := true })])]
noncomputable def EvtoNode (N : Nat) : Env := { te := TE, cs := [convtoIntS N] }
noncomputable def FvtoNode (N : Nat) (x : (((List Int) × ((List Int) × Unit)) × Unit)) : Option ((List Int) × ((List Int) × Unit)) :=
  (FvtoIntS N (x.1.1, ())).bind fun r1 =>
  (FvtoIntS N (x.1.2.1, ())).bind fun r2 =>
  some (r1.1, r2.1, ())
noncomputable def convtoNode (N : Nat) : Con := { f := 125, din := dinvtoNode, outs := outvtoNode, F := FvtoNode N }
noncomputable def XvtoNode (N : Nat) : Ctx := { E := EvtoNode N, H := HvtoNode, lp := [], jn := [] }
theorem FvtoNode_eq (N : Nat) (x : (((List Int) × ((List Int) × Unit)) × Unit)) : evFn (XvtoNode N) Try.f125 dinvtoNode outvtoNode x = FvtoNode N x := by kernel_rfl
theorem cxvtoNode (N : Nat) : CtxOk Try.prog (XvtoNode N) := ⟨⟨TE_ok, List.forall_mem_cons.2 ⟨(specvtoIntS N), fun k hk => absurd hk List.not_mem_nil⟩⟩, mixed⟩
theorem specvtoNode (N : Nat) : Spec Try.prog (convtoNode N) :=
  Spec.of_eq (fn_spec (cxvtoNode N) (f := 125) (fn := Try.f125) (c := codeOf Try.f125) (by kernel_rfl) (by kernel_rfl) (by kernel_rfl) (loops_at (ids := []) (by kernel_rfl) (trivial)) (by kernel_rfl)) (fun x r h => (FvtoNode_eq N x).trans h)

/-! ### 63: laws.toNodeS -/

noncomputable def dinvtoNodeS : Desc := { n := 1, regs := [.one (.val (.sl (.pair (.sl (.int .i64)) (.pair (.sl (.int .i64)) .unit))))], bx := [], pins := [] }
noncomputable def outvtoNodeS : Outs := [(.ret, { n := 1, regs := [.one (.lit (.row 1012928))], bx := [(1012928, .row (.pair (.sl (.int .i64)) (.pair (.sl (.int .i64)) .unit)))], pins := [] })]
noncomputable def HvtoNodeS : Hints := [(1, [(2, { dp := true })])]
noncomputable def EvtoNodeS (N : Nat) : Env := { te := TE, cs := [convtoNode N] }
noncomputable def dvtoNodeS_0 : Desc := { n := 23, regs := [.one (.val (.sl (.pair (.sl (.int .i64)) (.pair (.sl (.int .i64)) .unit)))), u, u, .one (.lit (.row 1012928)), .one (.val (.int .i64))], bx := [(1012928, .row (.pair (.sl (.int .i64)) (.pair (.sl (.int .i64)) .unit)))], pins := [] }
noncomputable def ovtoNodeS_0 : Outs := [(.exit 0, { n := 23, regs := [u, u, u, .one (.lit (.row 1012928))], bx := [(1012928, .row (.pair (.sl (.int .i64)) (.pair (.sl (.int .i64)) .unit)))], pins := [] })]
noncomputable def lvtoNodeS_0 (N : Nat) : Nat → ((List ((List Int) × ((List Int) × Unit))) × (Int × ((List ((List Int) × ((List Int) × Unit))) × Unit))) → Option ((List ((List Int) × ((List Int) × Unit))) × Unit)
  | 0, _ => none
  | n + 1, v =>
    bif decide (v.2.1 < (v.1.length : Int)) then
     bif decide (0 ≤ v.2.1) then
     bif decide (v.2.1.toNat < v.1.length) then
     let y2 := v.1.getD v.2.1.toNat (([] : (List Int)), ([] : (List Int)), ())
     (FvtoNode N (y2, ())).bind fun r3 =>
     bif decide (0 ≤ v.2.1) then
     bif decide (v.2.1.toNat < v.2.2.1.length) then
     let y4 := v.2.2.1.set v.2.1.toNat (r3.1, r3.2.1, ())
     lvtoNodeS_0 N n (v.1, w64 (v.2.1 + (1 : Int)), y4, ())
     else none
     else none
     else none
     else none
    else
    some (v.2.2.1, ())
noncomputable def FvtoNodeS (N : Nat) (x : ((List ((List Int) × ((List Int) × Unit))) × Unit)) : Option ((List ((List Int) × ((List Int) × Unit))) × Unit) :=
  bif decide (0 ≤ (x.1.length : Int)) then
  bif decide ((x.1.length : Int).toNat ≤ lim) then
  let y1 := List.replicate (x.1.length : Int).toNat (([] : (List Int)), ([] : (List Int)), ())
  (lvtoNodeS_0 N N (x.1, (0 : Int), y1, ())).bind fun o5 =>
  some (o5.1, ())
  else none
  else none
noncomputable def convtoNodeS (N : Nat) : Con := { f := 63, din := dinvtoNodeS, outs := outvtoNodeS, F := FvtoNodeS N }
noncomputable def XvtoNodeS (N : Nat) : Ctx := { E := EvtoNodeS N, H := HvtoNodeS, lp := [(0, { hd := dvtoNodeS_0, outs := ovtoNodeS_0, run := fun v => lvtoNodeS_0 N N v })], jn := [] }
noncomputable def bvtoNodeS_0 : Code := loopBody (codeOf Try.f63) 0
theorem FvtoNodeS_eq (N : Nat) (x : ((List ((List Int) × ((List Int) × Unit))) × Unit)) : evFn (XvtoNodeS N) Try.f63 dinvtoNodeS outvtoNodeS x = FvtoNodeS N x := by kernel_rfl
theorem lvtoNodeS_0_eq (N n : Nat) (v : ((List ((List Int) × ((List Int) × Unit))) × (Int × ((List ((List Int) × ((List Int) × Unit))) × Unit)))) : lvtoNodeS_0 N (n + 1) v = ev (XvtoNodeS N) bvtoNodeS_0 (roundK dvtoNodeS_0 ovtoNodeS_0 (lvtoNodeS_0 N n)) (dvtoNodeS_0.mk' v) := by kernel_rfl
theorem cxvtoNodeS (N : Nat) : CtxOk Try.prog (XvtoNodeS N) := ⟨⟨TE_ok, List.forall_mem_cons.2 ⟨(specvtoNode N), fun k hk => absurd hk List.not_mem_nil⟩⟩, mixed⟩
theorem lpvtoNodeS_0 (N : Nat) : LoopOk Try.prog { hd := dvtoNodeS_0, outs := ovtoNodeS_0, run := fun v => lvtoNodeS_0 N N v } bvtoNodeS_0 :=
  loop_fuel (d := dvtoNodeS_0) (os := ovtoNodeS_0) (cxvtoNodeS N) (loops_at (ids := []) (by kernel_rfl) (trivial)) (lvtoNodeS_0 N) (fun _ => rfl) (fun n v => lvtoNodeS_0_eq N n v) (fun _ => N)
theorem specvtoNodeS (N : Nat) : Spec Try.prog (convtoNodeS N) :=
  Spec.of_eq (fn_spec (cxvtoNodeS N) (f := 63) (fn := Try.f63) (c := codeOf Try.f63) (by kernel_rfl) (by kernel_rfl) (by kernel_rfl) (loops_at (ids := [0]) (by kernel_rfl) ⟨lp_of (lpvtoNodeS_0 N), trivial⟩) (by kernel_rfl)) (fun x r h => (FvtoNodeS_eq N x).trans h)

/-! ### 64: laws.toIntSS -/

noncomputable def dinvtoIntSS : Desc := { n := 1, regs := [.one (.val (.sl (.sl (.int .i64))))], bx := [], pins := [] }
noncomputable def outvtoIntSS : Outs := [(.ret, { n := 1, regs := [.one (.lit (.row 1012928))], bx := [(1012928, .row (.sl (.int .i64)))], pins := [] })]
noncomputable def HvtoIntSS : Hints := [(1, [(2, { dp := true })])]
noncomputable def EvtoIntSS (N : Nat) : Env := { te := TE, cs := [convtoIntS N] }
noncomputable def dvtoIntSS_0 : Desc := { n := 23, regs := [.one (.val (.sl (.sl (.int .i64)))), u, u, .one (.lit (.row 1012928)), .one (.val (.int .i64))], bx := [(1012928, .row (.sl (.int .i64)))], pins := [] }
noncomputable def ovtoIntSS_0 : Outs := [(.exit 0, { n := 23, regs := [u, u, u, .one (.lit (.row 1012928))], bx := [(1012928, .row (.sl (.int .i64)))], pins := [] })]
noncomputable def lvtoIntSS_0 (N : Nat) : Nat → ((List (List Int)) × (Int × ((List (List Int)) × Unit))) → Option ((List (List Int)) × Unit)
  | 0, _ => none
  | n + 1, v =>
    bif decide (v.2.1 < (v.1.length : Int)) then
     bif decide (0 ≤ v.2.1) then
     bif decide (v.2.1.toNat < v.1.length) then
     let y2 := v.1.getD v.2.1.toNat ([] : (List Int))
     (FvtoIntS N (y2, ())).bind fun r3 =>
     bif decide (0 ≤ v.2.1) then
     bif decide (v.2.1.toNat < v.2.2.1.length) then
     lvtoIntSS_0 N n (v.1, w64 (v.2.1 + (1 : Int)), v.2.2.1.set v.2.1.toNat r3.1, ())
     else none
     else none
     else none
     else none
    else
    some (v.2.2.1, ())
noncomputable def FvtoIntSS (N : Nat) (x : ((List (List Int)) × Unit)) : Option ((List (List Int)) × Unit) :=
  bif decide (0 ≤ (x.1.length : Int)) then
  bif decide ((x.1.length : Int).toNat ≤ lim) then
  let y1 := List.replicate (x.1.length : Int).toNat ([] : (List Int))
  (lvtoIntSS_0 N N (x.1, (0 : Int), y1, ())).bind fun o4 =>
  some (o4.1, ())
  else none
  else none
noncomputable def convtoIntSS (N : Nat) : Con := { f := 64, din := dinvtoIntSS, outs := outvtoIntSS, F := FvtoIntSS N }
noncomputable def XvtoIntSS (N : Nat) : Ctx := { E := EvtoIntSS N, H := HvtoIntSS, lp := [(0, { hd := dvtoIntSS_0, outs := ovtoIntSS_0, run := fun v => lvtoIntSS_0 N N v })], jn := [] }
noncomputable def bvtoIntSS_0 : Code := loopBody (codeOf Try.f64) 0
theorem FvtoIntSS_eq (N : Nat) (x : ((List (List Int)) × Unit)) : evFn (XvtoIntSS N) Try.f64 dinvtoIntSS outvtoIntSS x = FvtoIntSS N x := by kernel_rfl
theorem lvtoIntSS_0_eq (N n : Nat) (v : ((List (List Int)) × (Int × ((List (List Int)) × Unit)))) : lvtoIntSS_0 N (n + 1) v = ev (XvtoIntSS N) bvtoIntSS_0 (roundK dvtoIntSS_0 ovtoIntSS_0 (lvtoIntSS_0 N n)) (dvtoIntSS_0.mk' v) := by kernel_rfl
theorem cxvtoIntSS (N : Nat) : CtxOk Try.prog (XvtoIntSS N) := ⟨⟨TE_ok, List.forall_mem_cons.2 ⟨(specvtoIntS N), fun k hk => absurd hk List.not_mem_nil⟩⟩, mixed⟩
theorem lpvtoIntSS_0 (N : Nat) : LoopOk Try.prog { hd := dvtoIntSS_0, outs := ovtoIntSS_0, run := fun v => lvtoIntSS_0 N N v } bvtoIntSS_0 :=
  loop_fuel (d := dvtoIntSS_0) (os := ovtoIntSS_0) (cxvtoIntSS N) (loops_at (ids := []) (by kernel_rfl) (trivial)) (lvtoIntSS_0 N) (fun _ => rfl) (fun n v => lvtoIntSS_0_eq N n v) (fun _ => N)
theorem specvtoIntSS (N : Nat) : Spec Try.prog (convtoIntSS N) :=
  Spec.of_eq (fn_spec (cxvtoIntSS N) (f := 64) (fn := Try.f64) (c := codeOf Try.f64) (by kernel_rfl) (by kernel_rfl) (by kernel_rfl) (loops_at (ids := [0]) (by kernel_rfl) ⟨lp_of (lpvtoIntSS_0 N), trivial⟩) (by kernel_rfl)) (fun x r h => (FvtoIntSS_eq N x).trans h)

/-! ### 17: laws.toGraph -/

noncomputable def dinvtoGraph : Desc := { n := 1, regs := [.one (.val (.pair (.sl (.pair (.sl (.int .i64)) (.pair (.sl (.int .i64)) .unit))) (.pair (.sl (.sl (.int .i64))) (.pair (.sl (.int .i64)) .unit))))], bx := [], pins := [] }
noncomputable def outvtoGraph : Outs := [(.ret, { n := 1, regs := [.agg [.lit (.row 1025729), .lit (.row 1038529), .lit (.row 1051329)]], bx := [(1025729, .row (.pair (.sl (.int .i64)) (.pair (.sl (.int .i64)) .unit))), (1038529, .row (.sl (.int .i64))), (1051329, .row (.int .i64))], pins := [] })]
noncomputable def HvtoGraph : Hints := [(0, [(0, { fz := true })]),
  (3, [(2, { con := 1 })]),
  (4, [(2, { con := 2 })])]
noncomputable def EvtoGraph (N : Nat) : Env := { te := TE, cs := [convtoNodeS N, convtoIntSS N, convtoIntS N] }
noncomputable def FvtoGraph (N : Nat) (x : (((List ((List Int) × ((List Int) × Unit))) × ((List (List Int)) × ((List Int) × Unit))) × Unit)) : Option ((List ((List Int) × ((List Int) × Unit))) × ((List (List Int)) × ((List Int) × Unit))) :=
  (FvtoNodeS N (x.1.1, ())).bind fun r1 =>
  (FvtoIntSS N (x.1.2.1, ())).bind fun r2 =>
  (FvtoIntS N (x.1.2.2.1, ())).bind fun r3 =>
  some (r1.1, r2.1, r3.1, ())
noncomputable def convtoGraph (N : Nat) : Con := { f := 17, din := dinvtoGraph, outs := outvtoGraph, F := FvtoGraph N }
noncomputable def XvtoGraph (N : Nat) : Ctx := { E := EvtoGraph N, H := HvtoGraph, lp := [], jn := [] }
theorem FvtoGraph_eq (N : Nat) (x : (((List ((List Int) × ((List Int) × Unit))) × ((List (List Int)) × ((List Int) × Unit))) × Unit)) : evFn (XvtoGraph N) Try.f17 dinvtoGraph outvtoGraph x = FvtoGraph N x := by kernel_rfl
theorem cxvtoGraph (N : Nat) : CtxOk Try.prog (XvtoGraph N) := ⟨⟨TE_ok, List.forall_mem_cons.2 ⟨(specvtoNodeS N), List.forall_mem_cons.2 ⟨(specvtoIntSS N), List.forall_mem_cons.2 ⟨(specvtoIntS N), fun k hk => absurd hk List.not_mem_nil⟩⟩⟩⟩, mixed⟩
theorem specvtoGraph (N : Nat) : Spec Try.prog (convtoGraph N) :=
  Spec.of_eq (fn_spec (cxvtoGraph N) (f := 17) (fn := Try.f17) (c := codeOf Try.f17) (by kernel_rfl) (by kernel_rfl) (by kernel_rfl) (loops_at (ids := []) (by kernel_rfl) (trivial)) (by kernel_rfl)) (fun x r h => (FvtoGraph_eq N x).trans h)

/-! ### 91: spec.l5Refs -/

noncomputable def dinsl5Refs : Desc := { n := 2, regs := [.one (.val (.sl (.int .i64))), .one (.val (.int .i64))], bx := [], pins := [] }
noncomputable def outsl5Refs : Outs := [(.ret, { n := 1, regs := [.one (.val .bool)], bx := [], pins := [] })]
noncomputable def Hsl5Refs : Hints := []
noncomputable def Esl5Refs (_N : Nat) : Env := { te := TE, cs := [] }
noncomputable def dsl5Refs_0 : Desc := { n := 25, regs := [.one (.val (.sl (.int .i64))), .one (.val (.int .i64)), u, u, u, .one (.val (.int .i64))], bx := [], pins := [] }
noncomputable def osl5Refs_0 : Outs := [(.exit 0, { n := 25, regs := [], bx := [], pins := [] }), (.ret, { n := 25, regs := [u, u, u, u, .one (.val .bool)], bx := [], pins := [] })]
noncomputable def lsl5Refs_0 (N : Nat) : Nat → ((List Int) × (Int × (Int × Unit))) → Option (Unit ⊕ (Bool × Unit))
  | 0, _ => none
  | n + 1, v =>
    let y1 := decide (v.2.2.1 < (v.1.length : Int))
    bif y1 then
     bif decide (0 ≤ v.2.2.1) then
     bif decide (v.2.2.1.toNat < v.1.length) then
     let y2 := decide ((v.1.getD v.2.2.1.toNat (0 : Int)) < (-1 : Int))
     bif y2 then
      some (.inr ((false, ())))
     else
     bif decide (0 ≤ v.2.2.1) then
     bif decide (v.2.2.1.toNat < v.1.length) then
     let y3 := decide ((v.1.getD v.2.2.1.toNat (0 : Int)) ≥ v.2.1)
     bif y3 then
      some (.inr ((false, ())))
     else
     lsl5Refs_0 N n (v.1, v.2.1, w64 (v.2.2.1 + (1 : Int)), ())
     else none
     else none
     else none
     else none
    else
    some (.inl ())
noncomputable def Fsl5Refs (N : Nat) (x : ((List Int) × (Int × Unit))) : Option (Bool × Unit) :=
  (lsl5Refs_0 N N (x.1, x.2.1, (0 : Int), ())).bind fun o4 =>
  Sum.elim (fun o5 =>
   some (true, ())) (fun o6 =>
   some (o6.1, ())) o4
noncomputable def consl5Refs (N : Nat) : Con := { f := 91, din := dinsl5Refs, outs := outsl5Refs, F := Fsl5Refs N }
noncomputable def Xsl5Refs (N : Nat) : Ctx := { E := Esl5Refs N, H := Hsl5Refs, lp := [(0, { hd := dsl5Refs_0, outs := osl5Refs_0, run := fun v => lsl5Refs_0 N N v })], jn := [] }
noncomputable def bsl5Refs_0 : Code := loopBody (codeOf Try.f91) 0
theorem Fsl5Refs_eq (N : Nat) (x : ((List Int) × (Int × Unit))) : evFn (Xsl5Refs N) Try.f91 dinsl5Refs outsl5Refs x = Fsl5Refs N x := by kernel_rfl
theorem lsl5Refs_0_eq (N n : Nat) (v : ((List Int) × (Int × (Int × Unit)))) : lsl5Refs_0 N (n + 1) v = ev (Xsl5Refs N) bsl5Refs_0 (roundK dsl5Refs_0 osl5Refs_0 (lsl5Refs_0 N n)) (dsl5Refs_0.mk' v) := by kernel_rfl
theorem cxsl5Refs (N : Nat) : CtxOk Try.prog (Xsl5Refs N) := ⟨⟨TE_ok, fun k hk => absurd hk List.not_mem_nil⟩, mixed⟩
theorem lpsl5Refs_0 (N : Nat) : LoopOk Try.prog { hd := dsl5Refs_0, outs := osl5Refs_0, run := fun v => lsl5Refs_0 N N v } bsl5Refs_0 :=
  loop_fuel (d := dsl5Refs_0) (os := osl5Refs_0) (cxsl5Refs N) (loops_at (ids := []) (by kernel_rfl) (trivial)) (lsl5Refs_0 N) (fun _ => rfl) (fun n v => lsl5Refs_0_eq N n v) (fun _ => N)
theorem specsl5Refs (N : Nat) : Spec Try.prog (consl5Refs N) :=
  Spec.of_eq (fn_spec (cxsl5Refs N) (f := 91) (fn := Try.f91) (c := codeOf Try.f91) (by kernel_rfl) (by kernel_rfl) (by kernel_rfl) (loops_at (ids := [0]) (by kernel_rfl) ⟨lp_of (lpsl5Refs_0 N), trivial⟩) (by kernel_rfl)) (fun x r h => (Fsl5Refs_eq N x).trans h)

/-! ### 42: spec.GraphOk -/

noncomputable def dinsGraphOk : Desc := { n := 1, regs := [.one (.val (.pair (.sl (.pair (.sl (.int .i64)) (.pair (.sl (.int .i64)) .unit))) (.pair (.sl (.sl (.int .i64))) (.pair (.sl (.int .i64)) .unit))))], bx := [], pins := [] }
noncomputable def outsGraphOk : Outs := [(.ret, { n := 1, regs := [.one (.val .bool)], bx := [], pins := [] })]
noncomputable def HsGraphOk : Hints := [(0, [(0, { fz := true })])]
noncomputable def EsGraphOk (N : Nat) : Env := { te := TE, cs := [consl5Refs N] }
noncomputable def dsGraphOk_0 : Desc := { n := 105, regs := [u, .one (.fpt (.pair (.sl (.pair (.sl (.int .i64)) (.pair (.sl (.int .i64)) .unit))) (.pair (.sl (.sl (.int .i64))) (.pair (.sl (.int .i64)) .unit)))), u, .one (.val (.int .i64))], bx := [], pins := [] }
noncomputable def osGraphOk_0 : Outs := [(.exit 0, { n := 105, regs := [u, .one (.fpt (.pair (.sl (.pair (.sl (.int .i64)) (.pair (.sl (.int .i64)) .unit))) (.pair (.sl (.sl (.int .i64))) (.pair (.sl (.int .i64)) .unit))))], bx := [], pins := [] }), (.ret, { n := 105, regs := [u, u, .one (.val .bool)], bx := [], pins := [] })]
noncomputable def dsGraphOk_2 : Desc := { n := 105, regs := [u, .one (.fpt (.pair (.sl (.pair (.sl (.int .i64)) (.pair (.sl (.int .i64)) .unit))) (.pair (.sl (.sl (.int .i64))) (.pair (.sl (.int .i64)) .unit)))), u, u, u, .one (.val (.int .i64))], bx := [], pins := [] }
noncomputable def osGraphOk_2 : Outs := [(.exit 2, { n := 105, regs := [u, .one (.fpt (.pair (.sl (.pair (.sl (.int .i64)) (.pair (.sl (.int .i64)) .unit))) (.pair (.sl (.sl (.int .i64))) (.pair (.sl (.int .i64)) .unit))))], bx := [], pins := [] }), (.ret, { n := 105, regs := [u, u, .one (.val .bool)], bx := [], pins := [] })]
noncomputable def dsGraphOk_4 : Desc := { n := 105, regs := [u, .one (.fpt (.pair (.sl (.pair (.sl (.int .i64)) (.pair (.sl (.int .i64)) .unit))) (.pair (.sl (.sl (.int .i64))) (.pair (.sl (.int .i64)) .unit)))), u, u, u, u, .one (.val (.int .i64))], bx := [], pins := [] }
noncomputable def osGraphOk_4 : Outs := [(.exit 4, { n := 105, regs := [u, .one (.fpt (.pair (.sl (.pair (.sl (.int .i64)) (.pair (.sl (.int .i64)) .unit))) (.pair (.sl (.sl (.int .i64))) (.pair (.sl (.int .i64)) .unit))))], bx := [], pins := [] }), (.ret, { n := 105, regs := [u, u, .one (.val .bool)], bx := [], pins := [] })]
noncomputable def jsGraphOk_3 : Outs := [(.normal, { n := 105, regs := [u, .one (.fpt (.pair (.sl (.pair (.sl (.int .i64)) (.pair (.sl (.int .i64)) .unit))) (.pair (.sl (.sl (.int .i64))) (.pair (.sl (.int .i64)) .unit))))], bx := [], pins := [] }), (.ret, { n := 105, regs := [u, u, .one (.val .bool)], bx := [], pins := [] })]
noncomputable def lsGraphOk_0 (N : Nat) : Nat → (((List ((List Int) × ((List Int) × Unit))) × ((List (List Int)) × ((List Int) × Unit))) × (Int × Unit)) → Option ((((List ((List Int) × ((List Int) × Unit))) × ((List (List Int)) × ((List Int) × Unit))) × Unit) ⊕ (Bool × Unit))
  | 0, _ => none
  | n + 1, v =>
    let y6 := decide (v.2.1 < (v.1.1.length : Int))
    bif y6 then
     bif decide (0 ≤ v.2.1) then
     bif decide (v.2.1.toNat < v.1.1.length) then
     let y7 := v.1.1.getD v.2.1.toNat (([] : (List Int)), ([] : (List Int)), ())
     let y8 := decide ((y7.1.length : Int) > (4 : Int))
     bif y8 then
      some (.inr ((false, ())))
     else
     let y9 := decide ((y7.2.1.length : Int) > (4 : Int))
     bif y9 then
      some (.inr ((false, ())))
     else
     (Fsl5Refs N (y7.1, (v.1.1.length : Int), ())).bind fun r10 =>
     bif !r10.1 then
      some (.inr ((false, ())))
     else
     lsGraphOk_0 N n (v.1, w64 (v.2.1 + (1 : Int)), ())
     else none
     else none
    else
    some (.inl (v.1, ()))
noncomputable def lsGraphOk_2 (N : Nat) : Nat → (((List ((List Int) × ((List Int) × Unit))) × ((List (List Int)) × ((List Int) × Unit))) × (Int × Unit)) → Option ((((List ((List Int) × ((List Int) × Unit))) × ((List (List Int)) × ((List Int) × Unit))) × Unit) ⊕ (Bool × Unit))
  | 0, _ => none
  | n + 1, v =>
    let y13 := decide (v.2.1 < (v.1.2.1.length : Int))
    bif y13 then
     bif decide (0 ≤ v.2.1) then
     bif decide (v.2.1.toNat < v.1.2.1.length) then
     let y14 := v.1.2.1.getD v.2.1.toNat ([] : (List Int))
     let y15 := decide ((y14.length : Int) > (8 : Int))
     bif y15 then
      some (.inr ((false, ())))
     else
     bif decide (0 ≤ v.2.1) then
     bif decide (v.2.1.toNat < v.1.2.1.length) then
     let y16 := v.1.2.1.getD v.2.1.toNat ([] : (List Int))
     (Fsl5Refs N (y16, (v.1.1.length : Int), ())).bind fun r17 =>
     bif !r17.1 then
      some (.inr ((false, ())))
     else
     lsGraphOk_2 N n (v.1, w64 (v.2.1 + (1 : Int)), ())
     else none
     else none
     else none
     else none
    else
    some (.inl (v.1, ()))
noncomputable def lsGraphOk_4 (N : Nat) : Nat → (((List ((List Int) × ((List Int) × Unit))) × ((List (List Int)) × ((List Int) × Unit))) × (Int × Unit)) → Option ((((List ((List Int) × ((List Int) × Unit))) × ((List (List Int)) × ((List Int) × Unit))) × Unit) ⊕ (Bool × Unit))
  | 0, _ => none
  | n + 1, v =>
    let y20 := decide (v.2.1 < (v.1.2.2.1.length : Int))
    bif y20 then
     bif decide (0 ≤ v.2.1) then
     bif decide (v.2.1.toNat < v.1.2.2.1.length) then
     let y21 := decide ((v.1.2.2.1.getD v.2.1.toNat (0 : Int)) < (0 : Int))
     bif y21 then
      some (.inr ((false, ())))
     else
     lsGraphOk_4 N n (v.1, w64 (v.2.1 + (1 : Int)), ())
     else none
     else none
    else
    some (.inl (v.1, ()))
noncomputable def FsGraphOk (N : Nat) (x : (((List ((List Int) × ((List Int) × Unit))) × ((List (List Int)) × ((List Int) × Unit))) × Unit)) : Option (Bool × Unit) :=
  Option.bind (
   let y1 := decide ((x.1.1.length : Int) > (200 : Int))
   bif y1 then
    some (.inr ((false, ())))
   else
   let y2 := decide ((x.1.2.1.length : Int) < (1 : Int))
   bif y2 then
    some (.inr ((false, ())))
   else
   let y3 := decide ((x.1.2.1.length : Int) > (3 : Int))
   bif y3 then
    some (.inr ((false, ())))
   else
   some (.inl (x.1, ()))) fun o4 =>
  Sum.elim (fun o5 =>
   (lsGraphOk_0 N N (o5.1, (0 : Int), ())).bind fun o11 =>
   Sum.elim (fun o12 =>
    (lsGraphOk_2 N N (o12.1, (0 : Int), ())).bind fun o18 =>
    Sum.elim (fun o19 =>
     (lsGraphOk_4 N N (o19.1, (0 : Int), ())).bind fun o22 =>
     Sum.elim (fun o23 =>
      let y24 := decide ((o23.1.2.2.1.length : Int) ≤ (8 : Int))
      bif y24 then
       (Fsl5Refs N (o23.1.2.2.1, (o23.1.1.length : Int), ())).bind fun r25 =>
       some (r25.1, ())
      else
      some (false, ())) (fun o26 =>
      some (o26.1, ())) o22) (fun o27 =>
     some (o27.1, ())) o18) (fun o28 =>
    some (o28.1, ())) o11) (fun o29 =>
   some (o29.1, ())) o4
noncomputable def consGraphOk (N : Nat) : Con := { f := 42, din := dinsGraphOk, outs := outsGraphOk, F := FsGraphOk N }
noncomputable def XsGraphOk (N : Nat) : Ctx := { E := EsGraphOk N, H := HsGraphOk, lp := [(0, { hd := dsGraphOk_0, outs := osGraphOk_0, run := fun v => lsGraphOk_0 N N v }), (2, { hd := dsGraphOk_2, outs := osGraphOk_2, run := fun v => lsGraphOk_2 N N v }), (4, { hd := dsGraphOk_4, outs := osGraphOk_4, run := fun v => lsGraphOk_4 N N v })], jn := [(3, jsGraphOk_3)] }
noncomputable def bsGraphOk_4 : Code := loopBody (codeOf Try.f42) 2
noncomputable def bsGraphOk_2 : Code := loopBody (codeOf Try.f42) 1
noncomputable def bsGraphOk_0 : Code := loopBody (codeOf Try.f42) 0
theorem FsGraphOk_eq (N : Nat) (x : (((List ((List Int) × ((List Int) × Unit))) × ((List (List Int)) × ((List Int) × Unit))) × Unit)) : evFn (XsGraphOk N) Try.f42 dinsGraphOk outsGraphOk x = FsGraphOk N x := by kernel_rfl
theorem lsGraphOk_0_eq (N n : Nat) (v : (((List ((List Int) × ((List Int) × Unit))) × ((List (List Int)) × ((List Int) × Unit))) × (Int × Unit))) : lsGraphOk_0 N (n + 1) v = ev (XsGraphOk N) bsGraphOk_0 (roundK dsGraphOk_0 osGraphOk_0 (lsGraphOk_0 N n)) (dsGraphOk_0.mk' v) := by kernel_rfl
theorem lsGraphOk_2_eq (N n : Nat) (v : (((List ((List Int) × ((List Int) × Unit))) × ((List (List Int)) × ((List Int) × Unit))) × (Int × Unit))) : lsGraphOk_2 N (n + 1) v = ev (XsGraphOk N) bsGraphOk_2 (roundK dsGraphOk_2 osGraphOk_2 (lsGraphOk_2 N n)) (dsGraphOk_2.mk' v) := by kernel_rfl
theorem lsGraphOk_4_eq (N n : Nat) (v : (((List ((List Int) × ((List Int) × Unit))) × ((List (List Int)) × ((List Int) × Unit))) × (Int × Unit))) : lsGraphOk_4 N (n + 1) v = ev (XsGraphOk N) bsGraphOk_4 (roundK dsGraphOk_4 osGraphOk_4 (lsGraphOk_4 N n)) (dsGraphOk_4.mk' v) := by kernel_rfl
theorem cxsGraphOk (N : Nat) : CtxOk Try.prog (XsGraphOk N) := ⟨⟨TE_ok, List.forall_mem_cons.2 ⟨(specsl5Refs N), fun k hk => absurd hk List.not_mem_nil⟩⟩, mixed⟩
theorem lpsGraphOk_0 (N : Nat) : LoopOk Try.prog { hd := dsGraphOk_0, outs := osGraphOk_0, run := fun v => lsGraphOk_0 N N v } bsGraphOk_0 :=
  loop_fuel (d := dsGraphOk_0) (os := osGraphOk_0) (cxsGraphOk N) (loops_at (ids := []) (by kernel_rfl) (trivial)) (lsGraphOk_0 N) (fun _ => rfl) (fun n v => lsGraphOk_0_eq N n v) (fun _ => N)
theorem lpsGraphOk_2 (N : Nat) : LoopOk Try.prog { hd := dsGraphOk_2, outs := osGraphOk_2, run := fun v => lsGraphOk_2 N N v } bsGraphOk_2 :=
  loop_fuel (d := dsGraphOk_2) (os := osGraphOk_2) (cxsGraphOk N) (loops_at (ids := []) (by kernel_rfl) (trivial)) (lsGraphOk_2 N) (fun _ => rfl) (fun n v => lsGraphOk_2_eq N n v) (fun _ => N)
theorem lpsGraphOk_4 (N : Nat) : LoopOk Try.prog { hd := dsGraphOk_4, outs := osGraphOk_4, run := fun v => lsGraphOk_4 N N v } bsGraphOk_4 :=
  loop_fuel (d := dsGraphOk_4) (os := osGraphOk_4) (cxsGraphOk N) (loops_at (ids := []) (by kernel_rfl) (trivial)) (lsGraphOk_4 N) (fun _ => rfl) (fun n v => lsGraphOk_4_eq N n v) (fun _ => N)
theorem specsGraphOk (N : Nat) : Spec Try.prog (consGraphOk N) :=
  Spec.of_eq (fn_spec (cxsGraphOk N) (f := 42) (fn := Try.f42) (c := codeOf Try.f42) (by kernel_rfl) (by kernel_rfl) (by kernel_rfl) (loops_at (ids := [0, 2, 4]) (by kernel_rfl) ⟨lp_of (lpsGraphOk_0 N), ⟨lp_of (lpsGraphOk_2 N), ⟨lp_of (lpsGraphOk_4 N), trivial⟩⟩⟩) (by kernel_rfl)) (fun x r h => (FsGraphOk_eq N x).trans h)

/-! ### 79: spec.l5Ints -/

noncomputable def dinsl5Ints : Desc := { n := 1, regs := [.one (.val (.sl (.int .i64)))], bx := [], pins := [] }
noncomputable def outsl5Ints : Outs := [(.ret, { n := 1, regs := [.one (.lit (.row 1012800))], bx := [(1012800, .row (.int .i64))], pins := [] })]
noncomputable def Hsl5Ints : Hints := []
noncomputable def Esl5Ints (_N : Nat) : Env := { te := TE, cs := [] }
noncomputable def Fsl5Ints (N : Nat) (x : ((List Int) × Unit)) : Option ((List Int) × Unit) :=
  bif decide (([] : (List Int)).length + x.1.length ≤ lim) then
  some (([] : (List Int)) ++ x.1, ())
  else none
noncomputable def consl5Ints (N : Nat) : Con := { f := 79, din := dinsl5Ints, outs := outsl5Ints, F := Fsl5Ints N }
noncomputable def Xsl5Ints (N : Nat) : Ctx := { E := Esl5Ints N, H := Hsl5Ints, lp := [], jn := [] }
theorem Fsl5Ints_eq (N : Nat) (x : ((List Int) × Unit)) : evFn (Xsl5Ints N) Try.f79 dinsl5Ints outsl5Ints x = Fsl5Ints N x := by kernel_rfl
theorem cxsl5Ints (N : Nat) : CtxOk Try.prog (Xsl5Ints N) := ⟨⟨TE_ok, fun k hk => absurd hk List.not_mem_nil⟩, mixed⟩
theorem specsl5Ints (N : Nat) : Spec Try.prog (consl5Ints N) :=
  Spec.of_eq (fn_spec (cxsl5Ints N) (f := 79) (fn := Try.f79) (c := codeOf Try.f79) (by kernel_rfl) (by kernel_rfl) (by kernel_rfl) (loops_at (ids := []) (by kernel_rfl) (trivial)) (by kernel_rfl)) (fun x r h => (Fsl5Ints_eq N x).trans h)

/-! ### 62: spec.l5Copy -/

noncomputable def dinsl5Copy : Desc := { n := 1, regs := [.one (.val (.pair (.sl (.pair (.sl (.int .i64)) (.pair (.sl (.int .i64)) .unit))) (.pair (.sl (.sl (.int .i64))) (.pair (.sl (.int .i64)) .unit))))], bx := [], pins := [] }
noncomputable def outsl5Copy : Outs := [(.ret, { n := 1, regs := [.agg [.lit (.row 1012993), .lit (.row 1012994), .lit (.row 1012929)]], bx := [(1012993, .row (.pair (.sl (.int .i64)) (.pair (.sl (.int .i64)) .unit))), (1012994, .row (.sl (.int .i64))), (1012929, .row (.int .i64))], pins := [] })]
noncomputable def Hsl5Copy : Hints := [(0, [(0, { fz := true })]),
  (1, [(3, { nl := [(0, (.pair (.sl (.int .i64)) (.pair (.sl (.int .i64)) .unit))), (1, (.sl (.int .i64)))] })]),
  (5, [(17, { dp := true }), (18, { dp := true })]),
  (9, [(8, { dp := true }), (9, { dp := true })])]
noncomputable def Esl5Copy (N : Nat) : Env := { te := TE, cs := [consl5Ints N] }
noncomputable def dsl5Copy_0 : Desc := { n := 56, regs := [u, .one (.fpt (.pair (.sl (.pair (.sl (.int .i64)) (.pair (.sl (.int .i64)) .unit))) (.pair (.sl (.sl (.int .i64))) (.pair (.sl (.int .i64)) .unit)))), .one (.lit (.ptr 1000064 0)), .one (.lit (.ptr 1013056 0)), .one (.val (.int .i64))], bx := [(1000064, .var [.lit .nil, .lit .nil, .lit .nil]), (1013056, .var [.lit (.row 1012993), .lit (.row 1012994), .lit (.row 1012929)]), (1012993, .row (.pair (.sl (.int .i64)) (.pair (.sl (.int .i64)) .unit))), (1012994, .row (.sl (.int .i64))), (1012929, .row (.int .i64))], pins := [] }
noncomputable def osl5Copy_0 : Outs := [(.exit 0, { n := 56, regs := [u, .one (.fpt (.pair (.sl (.pair (.sl (.int .i64)) (.pair (.sl (.int .i64)) .unit))) (.pair (.sl (.sl (.int .i64))) (.pair (.sl (.int .i64)) .unit)))), .one (.lit (.ptr 1000064 0)), .one (.lit (.ptr 1013056 0))], bx := [(1000064, .var [.lit .nil, .lit .nil, .lit .nil]), (1013056, .var [.lit (.row 1012993), .lit (.row 1012994), .lit (.row 1012929)]), (1012993, .row (.pair (.sl (.int .i64)) (.pair (.sl (.int .i64)) .unit))), (1012994, .row (.sl (.int .i64))), (1012929, .row (.int .i64))], pins := [] })]
noncomputable def dsl5Copy_2 : Desc := { n := 56, regs := [u, .one (.fpt (.pair (.sl (.pair (.sl (.int .i64)) (.pair (.sl (.int .i64)) .unit))) (.pair (.sl (.sl (.int .i64))) (.pair (.sl (.int .i64)) .unit)))), .one (.lit (.ptr 1000064 0)), .one (.lit (.ptr 1013056 0)), u, .one (.val (.int .i64))], bx := [(1000064, .var [.lit .nil, .lit .nil, .lit .nil]), (1013056, .var [.lit (.row 1012993), .lit (.row 1012994), .lit (.row 1012929)]), (1012993, .row (.pair (.sl (.int .i64)) (.pair (.sl (.int .i64)) .unit))), (1012994, .row (.sl (.int .i64))), (1012929, .row (.int .i64))], pins := [] }
noncomputable def osl5Copy_2 : Outs := [(.exit 2, { n := 56, regs := [u, u, .one (.lit (.ptr 1000064 0)), .one (.lit (.ptr 1013056 0))], bx := [(1000064, .var [.lit .nil, .lit .nil, .lit .nil]), (1013056, .var [.lit (.row 1012993), .lit (.row 1012994), .lit (.row 1012929)]), (1012993, .row (.pair (.sl (.int .i64)) (.pair (.sl (.int .i64)) .unit))), (1012994, .row (.sl (.int .i64))), (1012929, .row (.int .i64))], pins := [] })]
noncomputable def lsl5Copy_0 (N : Nat) : Nat → (((List ((List Int) × ((List Int) × Unit))) × ((List (List Int)) × ((List Int) × Unit))) × (Int × ((List ((List Int) × ((List Int) × Unit))) × ((List (List Int)) × ((List Int) × Unit))))) → Option (((List ((List Int) × ((List Int) × Unit))) × ((List (List Int)) × ((List Int) × Unit))) × ((List ((List Int) × ((List Int) × Unit))) × ((List (List Int)) × ((List Int) × Unit))))
  | 0, _ => none
  | n + 1, v =>
    let y3 := decide (v.2.1 < (v.1.1.length : Int))
    bif y3 then
     bif decide (0 ≤ v.2.1) then
     bif decide (v.2.1.toNat < v.1.1.length) then
     let y4 := v.1.1.getD v.2.1.toNat (([] : (List Int)), ([] : (List Int)), ())
     (Fsl5Ints N (y4.1, ())).bind fun r5 =>
     bif decide (0 ≤ v.2.1) then
     bif decide (v.2.1.toNat < v.1.1.length) then
     let y6 := v.1.1.getD v.2.1.toNat (([] : (List Int)), ([] : (List Int)), ())
     (Fsl5Ints N (y6.2.1, ())).bind fun r7 =>
     bif decide (v.2.2.1.length + [(r5.1, r7.1, ())].length ≤ lim) then
     lsl5Copy_0 N n (v.1, w64 (v.2.1 + (1 : Int)), v.2.2.1 ++ [(r5.1, r7.1, ())], v.2.2.2.1, v.2.2.2.2.1, ())
     else none
     else none
     else none
     else none
     else none
    else
    some (v.1, v.2.2.1, v.2.2.2.1, v.2.2.2.2.1, ())
noncomputable def lsl5Copy_2 (N : Nat) : Nat → (((List ((List Int) × ((List Int) × Unit))) × ((List (List Int)) × ((List Int) × Unit))) × (Int × ((List ((List Int) × ((List Int) × Unit))) × ((List (List Int)) × ((List Int) × Unit))))) → Option ((List ((List Int) × ((List Int) × Unit))) × ((List (List Int)) × ((List Int) × Unit)))
  | 0, _ => none
  | n + 1, v =>
    let y9 := decide (v.2.1 < (v.1.2.1.length : Int))
    bif y9 then
     bif decide (0 ≤ v.2.1) then
     bif decide (v.2.1.toNat < v.1.2.1.length) then
     let y10 := v.1.2.1.getD v.2.1.toNat ([] : (List Int))
     (Fsl5Ints N (y10, ())).bind fun r11 =>
     bif decide (v.2.2.2.1.length + [r11.1].length ≤ lim) then
     lsl5Copy_2 N n (v.1, w64 (v.2.1 + (1 : Int)), v.2.2.1, v.2.2.2.1 ++ [r11.1], v.2.2.2.2.1, ())
     else none
     else none
     else none
    else
    some (v.2.2.1, v.2.2.2.1, v.2.2.2.2.1, ())
noncomputable def Fsl5Copy (N : Nat) (x : (((List ((List Int) × ((List Int) × Unit))) × ((List (List Int)) × ((List Int) × Unit))) × Unit)) : Option ((List ((List Int) × ((List Int) × Unit))) × ((List (List Int)) × ((List Int) × Unit))) :=
  (Fsl5Ints N (x.1.2.2.1, ())).bind fun r1 =>
  let y2 := ([] : (List ((List Int) × ((List Int) × Unit))))
  (lsl5Copy_0 N N (x.1, (0 : Int), y2, ([] : (List (List Int))), r1.1, ())).bind fun o8 =>
  (lsl5Copy_2 N N (o8.1, (0 : Int), o8.2.1, o8.2.2.1, o8.2.2.2.1, ())).bind fun o12 =>
  some (o12.1, o12.2.1, o12.2.2.1, ())
noncomputable def consl5Copy (N : Nat) : Con := { f := 62, din := dinsl5Copy, outs := outsl5Copy, F := Fsl5Copy N }
noncomputable def Xsl5Copy (N : Nat) : Ctx := { E := Esl5Copy N, H := Hsl5Copy, lp := [(0, { hd := dsl5Copy_0, outs := osl5Copy_0, run := fun v => lsl5Copy_0 N N v }), (2, { hd := dsl5Copy_2, outs := osl5Copy_2, run := fun v => lsl5Copy_2 N N v })], jn := [] }
noncomputable def bsl5Copy_2 : Code := loopBody (codeOf Try.f62) 1
noncomputable def bsl5Copy_0 : Code := loopBody (codeOf Try.f62) 0
theorem Fsl5Copy_eq (N : Nat) (x : (((List ((List Int) × ((List Int) × Unit))) × ((List (List Int)) × ((List Int) × Unit))) × Unit)) : evFn (Xsl5Copy N) Try.f62 dinsl5Copy outsl5Copy x = Fsl5Copy N x := by kernel_rfl
theorem lsl5Copy_0_eq (N n : Nat) (v : (((List ((List Int) × ((List Int) × Unit))) × ((List (List Int)) × ((List Int) × Unit))) × (Int × ((List ((List Int) × ((List Int) × Unit))) × ((List (List Int)) × ((List Int) × Unit)))))) : lsl5Copy_0 N (n + 1) v = ev (Xsl5Copy N) bsl5Copy_0 (roundK dsl5Copy_0 osl5Copy_0 (lsl5Copy_0 N n)) (dsl5Copy_0.mk' v) := by kernel_rfl
theorem lsl5Copy_2_eq (N n : Nat) (v : (((List ((List Int) × ((List Int) × Unit))) × ((List (List Int)) × ((List Int) × Unit))) × (Int × ((List ((List Int) × ((List Int) × Unit))) × ((List (List Int)) × ((List Int) × Unit)))))) : lsl5Copy_2 N (n + 1) v = ev (Xsl5Copy N) bsl5Copy_2 (roundK dsl5Copy_2 osl5Copy_2 (lsl5Copy_2 N n)) (dsl5Copy_2.mk' v) := by kernel_rfl
theorem cxsl5Copy (N : Nat) : CtxOk Try.prog (Xsl5Copy N) := ⟨⟨TE_ok, List.forall_mem_cons.2 ⟨(specsl5Ints N), fun k hk => absurd hk List.not_mem_nil⟩⟩, mixed⟩
theorem lpsl5Copy_0 (N : Nat) : LoopOk Try.prog { hd := dsl5Copy_0, outs := osl5Copy_0, run := fun v => lsl5Copy_0 N N v } bsl5Copy_0 :=
  loop_fuel (d := dsl5Copy_0) (os := osl5Copy_0) (cxsl5Copy N) (loops_at (ids := []) (by kernel_rfl) (trivial)) (lsl5Copy_0 N) (fun _ => rfl) (fun n v => lsl5Copy_0_eq N n v) (fun _ => N)
theorem lpsl5Copy_2 (N : Nat) : LoopOk Try.prog { hd := dsl5Copy_2, outs := osl5Copy_2, run := fun v => lsl5Copy_2 N N v } bsl5Copy_2 :=
  loop_fuel (d := dsl5Copy_2) (os := osl5Copy_2) (cxsl5Copy N) (loops_at (ids := []) (by kernel_rfl) (trivial)) (lsl5Copy_2 N) (fun _ => rfl) (fun n v => lsl5Copy_2_eq N n v) (fun _ => N)
theorem specsl5Copy (N : Nat) : Spec Try.prog (consl5Copy N) :=
  Spec.of_eq (fn_spec (cxsl5Copy N) (f := 62) (fn := Try.f62) (c := codeOf Try.f62) (by kernel_rfl) (by kernel_rfl) (by kernel_rfl) (loops_at (ids := [0, 2]) (by kernel_rfl) ⟨lp_of (lpsl5Copy_0 N), ⟨lp_of (lpsl5Copy_2 N), trivial⟩⟩) (by kernel_rfl)) (fun x r h => (Fsl5Copy_eq N x).trans h)

/-! ### 77: spec.l5Order -/

noncomputable def dinsl5Order : Desc := { n := 1, regs := [.one (.val (.pair (.sl (.pair (.sl (.int .i64)) (.pair (.sl (.int .i64)) .unit))) (.pair (.sl (.sl (.int .i64))) (.pair (.sl (.int .i64)) .unit))))], bx := [], pins := [] }
noncomputable def outsl5Order : Outs := [(.ret, { n := 1, regs := [.one (.lit (.row 1012800))], bx := [(1012800, .row (.int .i64))], pins := [] })]
noncomputable def Hsl5Order : Hints := [(0, [(0, { fz := true })]),
  (1, [(0, { nl := [(0, (.int .i64))] })])]
noncomputable def Esl5Order (_N : Nat) : Env := { te := TE, cs := [] }
noncomputable def dsl5Order_2 : Desc := { n := 138, regs := [u, .one (.fpt (.pair (.sl (.pair (.sl (.int .i64)) (.pair (.sl (.int .i64)) .unit))) (.pair (.sl (.sl (.int .i64))) (.pair (.sl (.int .i64)) .unit)))), u, .one (.lit (.row 1012800)), .one (.lit (.row 1025792)), .one (.val (.int .i64)), .one (.val (.int .i64))], bx := [(1012800, .row (.int .i64)), (1025792, .row .bool)], pins := [] }
noncomputable def osl5Order_2 : Outs := [(.exit 2, { n := 138, regs := [u, .one (.fpt (.pair (.sl (.pair (.sl (.int .i64)) (.pair (.sl (.int .i64)) .unit))) (.pair (.sl (.sl (.int .i64))) (.pair (.sl (.int .i64)) .unit)))), u, .one (.lit (.row 1012800)), .one (.lit (.row 1025792)), .one (.val (.int .i64))], bx := [(1012800, .row (.int .i64)), (1025792, .row .bool)], pins := [] })]
noncomputable def dsl5Order_0 : Desc := { n := 138, regs := [u, .one (.fpt (.pair (.sl (.pair (.sl (.int .i64)) (.pair (.sl (.int .i64)) .unit))) (.pair (.sl (.sl (.int .i64))) (.pair (.sl (.int .i64)) .unit)))), u, .one (.lit (.row 1012800)), .one (.lit (.row 1025792)), .one (.val (.int .i64))], bx := [(1012800, .row (.int .i64)), (1025792, .row .bool)], pins := [] }
noncomputable def osl5Order_0 : Outs := [(.exit 0, { n := 138, regs := [u, .one (.fpt (.pair (.sl (.pair (.sl (.int .i64)) (.pair (.sl (.int .i64)) .unit))) (.pair (.sl (.sl (.int .i64))) (.pair (.sl (.int .i64)) .unit)))), u, .one (.lit (.row 1012800)), .one (.lit (.row 1025792))], bx := [(1012800, .row (.int .i64)), (1025792, .row .bool)], pins := [] })]
noncomputable def dsl5Order_4 : Desc := { n := 138, regs := [u, .one (.fpt (.pair (.sl (.pair (.sl (.int .i64)) (.pair (.sl (.int .i64)) .unit))) (.pair (.sl (.sl (.int .i64))) (.pair (.sl (.int .i64)) .unit)))), u, .one (.lit (.row 1012800)), .one (.lit (.row 1025792)), u, u, u, .one (.val (.int .i64))], bx := [(1012800, .row (.int .i64)), (1025792, .row .bool)], pins := [] }
noncomputable def osl5Order_4 : Outs := [(.exit 4, { n := 138, regs := [u, .one (.fpt (.pair (.sl (.pair (.sl (.int .i64)) (.pair (.sl (.int .i64)) .unit))) (.pair (.sl (.sl (.int .i64))) (.pair (.sl (.int .i64)) .unit)))), u, .one (.lit (.row 1012800)), .one (.lit (.row 1025792))], bx := [(1012800, .row (.int .i64)), (1025792, .row .bool)], pins := [] })]
noncomputable def dsl5Order_8 : Desc := { n := 138, regs := [u, .one (.fpt (.pair (.sl (.pair (.sl (.int .i64)) (.pair (.sl (.int .i64)) .unit))) (.pair (.sl (.sl (.int .i64))) (.pair (.sl (.int .i64)) .unit)))), u, .one (.lit (.row 1012800)), .one (.lit (.row 1025792)), u, u, u, u, .one (.val (.int .i64)), .one (.val (.sl (.int .i64))), .one (.val (.int .i64))], bx := [(1012800, .row (.int .i64)), (1025792, .row .bool)], pins := [] }
noncomputable def osl5Order_8 : Outs := [(.exit 8, { n := 138, regs := [u, .one (.fpt (.pair (.sl (.pair (.sl (.int .i64)) (.pair (.sl (.int .i64)) .unit))) (.pair (.sl (.sl (.int .i64))) (.pair (.sl (.int .i64)) .unit)))), u, .one (.lit (.row 1012800)), .one (.lit (.row 1025792)), u, u, u, u, .one (.val (.int .i64))], bx := [(1012800, .row (.int .i64)), (1025792, .row .bool)], pins := [] })]
noncomputable def dsl5Order_6 : Desc := { n := 138, regs := [u, .one (.fpt (.pair (.sl (.pair (.sl (.int .i64)) (.pair (.sl (.int .i64)) .unit))) (.pair (.sl (.sl (.int .i64))) (.pair (.sl (.int .i64)) .unit)))), u, .one (.lit (.row 1012800)), .one (.lit (.row 1025792)), u, u, u, u, .one (.val (.int .i64))], bx := [(1012800, .row (.int .i64)), (1025792, .row .bool)], pins := [] }
noncomputable def osl5Order_6 : Outs := [(.exit 6, { n := 138, regs := [u, u, u, .one (.lit (.row 1012800))], bx := [(1012800, .row (.int .i64))], pins := [] })]
noncomputable def lsl5Order_2 (N : Nat) : Nat → (((List ((List Int) × ((List Int) × Unit))) × ((List (List Int)) × ((List Int) × Unit))) × (Int × (Int × ((List Int) × ((List Bool) × Unit))))) → Option (((List ((List Int) × ((List Int) × Unit))) × ((List (List Int)) × ((List Int) × Unit))) × (Int × ((List Int) × ((List Bool) × Unit))))
  | 0, _ => none
  | n + 1, v =>
    bif decide (0 ≤ v.2.1) then
    bif decide (v.2.1.toNat < v.1.2.1.length) then
    let y3 := v.1.2.1.getD v.2.1.toNat ([] : (List Int))
    bif decide (v.2.2.1 < (y3.length : Int)) then
     bif decide (0 ≤ v.2.1) then
     bif decide (v.2.1.toNat < v.1.2.1.length) then
     let y4 := v.1.2.1.getD v.2.1.toNat ([] : (List Int))
     bif decide (0 ≤ v.2.2.1) then
     bif decide (v.2.2.1.toNat < y4.length) then
     let y5 := decide ((y4.getD v.2.2.1.toNat (0 : Int)) ≥ (0 : Int))
     bif y5 then
      bif decide (0 ≤ (y4.getD v.2.2.1.toNat (0 : Int))) then
      bif decide ((y4.getD v.2.2.1.toNat (0 : Int)).toNat < v.2.2.2.2.1.length) then
      let y6 := (y4.getD v.2.2.1.toNat (0 : Int)).toNat
      bif !(v.2.2.2.2.1.getD y6 false) then
       bif decide (0 ≤ (y4.getD v.2.2.1.toNat (0 : Int))) then
       bif decide ((y4.getD v.2.2.1.toNat (0 : Int)).toNat < v.2.2.2.2.1.length) then
       let y7 := (y4.getD v.2.2.1.toNat (0 : Int)).toNat
       bif decide (v.2.2.2.1.length + [y4.getD v.2.2.1.toNat (0 : Int)].length ≤ lim) then
       let y8 := v.2.2.2.1 ++ [y4.getD v.2.2.1.toNat (0 : Int)]
       lsl5Order_2 N n (v.1, v.2.1, w64 (v.2.2.1 + (1 : Int)), y8, v.2.2.2.2.1.set y7 true, ())
       else none
       else none
       else none
      else
      lsl5Order_2 N n (v.1, v.2.1, w64 (v.2.2.1 + (1 : Int)), v.2.2.2.1, v.2.2.2.2.1, ())
      else none
      else none
     else
     lsl5Order_2 N n (v.1, v.2.1, w64 (v.2.2.1 + (1 : Int)), v.2.2.2.1, v.2.2.2.2.1, ())
     else none
     else none
     else none
     else none
    else
    some (v.1, v.2.1, v.2.2.2.1, v.2.2.2.2.1, ())
    else none
    else none
noncomputable def lsl5Order_0 (N : Nat) : Nat → (((List ((List Int) × ((List Int) × Unit))) × ((List (List Int)) × ((List Int) × Unit))) × (Int × ((List Int) × ((List Bool) × Unit)))) → Option (((List ((List Int) × ((List Int) × Unit))) × ((List (List Int)) × ((List Int) × Unit))) × ((List Int) × ((List Bool) × Unit)))
  | 0, _ => none
  | n + 1, v =>
    let y2 := decide (v.2.1 < (v.1.2.1.length : Int))
    bif y2 then
     (lsl5Order_2 N N (v.1, v.2.1, (0 : Int), v.2.2.1, v.2.2.2.1, ())).bind fun o9 =>
     lsl5Order_0 N n (o9.1, w64 (o9.2.1 + (1 : Int)), o9.2.2.1, o9.2.2.2.1, ())
    else
    some (v.1, v.2.2.1, v.2.2.2.1, ())
noncomputable def lsl5Order_4 (N : Nat) : Nat → (((List ((List Int) × ((List Int) × Unit))) × ((List (List Int)) × ((List Int) × Unit))) × (Int × ((List Int) × ((List Bool) × Unit)))) → Option (((List ((List Int) × ((List Int) × Unit))) × ((List (List Int)) × ((List Int) × Unit))) × ((List Int) × ((List Bool) × Unit)))
  | 0, _ => none
  | n + 1, v =>
    let y11 := decide (v.2.1 < (v.1.2.2.1.length : Int))
    bif y11 then
     bif decide (0 ≤ v.2.1) then
     bif decide (v.2.1.toNat < v.1.2.2.1.length) then
     bif decide (0 ≤ (v.1.2.2.1.getD v.2.1.toNat (0 : Int))) then
     bif decide ((v.1.2.2.1.getD v.2.1.toNat (0 : Int)).toNat < v.2.2.2.1.length) then
     let y12 := (v.1.2.2.1.getD v.2.1.toNat (0 : Int)).toNat
     bif !(v.2.2.2.1.getD y12 false) then
      bif decide (0 ≤ v.2.1) then
      bif decide (v.2.1.toNat < v.1.2.2.1.length) then
      bif decide (0 ≤ (v.1.2.2.1.getD v.2.1.toNat (0 : Int))) then
      bif decide ((v.1.2.2.1.getD v.2.1.toNat (0 : Int)).toNat < v.2.2.2.1.length) then
      let y13 := (v.1.2.2.1.getD v.2.1.toNat (0 : Int)).toNat
      bif decide (0 ≤ v.2.1) then
      bif decide (v.2.1.toNat < v.1.2.2.1.length) then
      let y14 := [v.1.2.2.1.getD v.2.1.toNat (0 : Int)]
      bif decide (v.2.2.1.length + y14.length ≤ lim) then
      lsl5Order_4 N n (v.1, w64 (v.2.1 + (1 : Int)), v.2.2.1 ++ y14, v.2.2.2.1.set y13 true, ())
      else none
      else none
      else none
      else none
      else none
      else none
      else none
     else
     lsl5Order_4 N n (v.1, w64 (v.2.1 + (1 : Int)), v.2.2.1, v.2.2.2.1, ())
     else none
     else none
     else none
     else none
    else
    some (v.1, v.2.2.1, v.2.2.2.1, ())
noncomputable def lsl5Order_8 (N : Nat) : Nat → (((List ((List Int) × ((List Int) × Unit))) × ((List (List Int)) × ((List Int) × Unit))) × (Int × ((List Int) × (Int × ((List Int) × ((List Bool) × Unit)))))) → Option (((List ((List Int) × ((List Int) × Unit))) × ((List (List Int)) × ((List Int) × Unit))) × (Int × ((List Int) × ((List Bool) × Unit))))
  | 0, _ => none
  | n + 1, v =>
    let y18 := decide (v.2.2.2.1 < (v.2.2.1.length : Int))
    bif y18 then
     bif decide (0 ≤ v.2.2.2.1) then
     bif decide (v.2.2.2.1.toNat < v.2.2.1.length) then
     let y19 := v.2.2.1.getD v.2.2.2.1.toNat (0 : Int)
     bif decide (y19 ≥ (0 : Int)) then
      bif decide (0 ≤ v.2.2.2.1) then
      bif decide (v.2.2.2.1.toNat < v.2.2.1.length) then
      let y20 := v.2.2.1.getD v.2.2.2.1.toNat (0 : Int)
      bif decide (0 ≤ y20) then
      bif decide (y20.toNat < v.2.2.2.2.2.1.length) then
      let y21 := !(v.2.2.2.2.2.1.getD y20.toNat false)
      bif y21 then
       bif decide (0 ≤ v.2.2.2.1) then
       bif decide (v.2.2.2.1.toNat < v.2.2.1.length) then
       let y22 := v.2.2.1.getD v.2.2.2.1.toNat (0 : Int)
       bif decide (0 ≤ y22) then
       bif decide (y22.toNat < v.2.2.2.2.2.1.length) then
       bif decide (0 ≤ v.2.2.2.1) then
       bif decide (v.2.2.2.1.toNat < v.2.2.1.length) then
       let y23 := v.2.2.1.getD v.2.2.2.1.toNat (0 : Int)
       bif decide (v.2.2.2.2.1.length + [y23].length ≤ lim) then
       lsl5Order_8 N n (v.1, v.2.1, v.2.2.1, w64 (v.2.2.2.1 + (1 : Int)), v.2.2.2.2.1 ++ [y23], v.2.2.2.2.2.1.set y22.toNat true, ())
       else none
       else none
       else none
       else none
       else none
       else none
       else none
      else
      lsl5Order_8 N n (v.1, v.2.1, v.2.2.1, w64 (v.2.2.2.1 + (1 : Int)), v.2.2.2.2.1, v.2.2.2.2.2.1, ())
      else none
      else none
      else none
      else none
     else
     lsl5Order_8 N n (v.1, v.2.1, v.2.2.1, w64 (v.2.2.2.1 + (1 : Int)), v.2.2.2.2.1, v.2.2.2.2.2.1, ())
     else none
     else none
    else
    some (v.1, v.2.1, v.2.2.2.2.1, v.2.2.2.2.2.1, ())
noncomputable def lsl5Order_6 (N : Nat) : Nat → (((List ((List Int) × ((List Int) × Unit))) × ((List (List Int)) × ((List Int) × Unit))) × (Int × ((List Int) × ((List Bool) × Unit)))) → Option ((List Int) × Unit)
  | 0, _ => none
  | n + 1, v =>
    let y16 := decide (v.2.1 < (v.2.2.1.length : Int))
    bif y16 then
     bif decide (0 ≤ v.2.1) then
     bif decide (v.2.1.toNat < v.2.2.1.length) then
     bif decide (0 ≤ (v.2.2.1.getD v.2.1.toNat (0 : Int))) then
     bif decide ((v.2.2.1.getD v.2.1.toNat (0 : Int)).toNat < v.1.1.length) then
     let y17 := v.1.1.getD ((v.2.2.1.getD v.2.1.toNat (0 : Int)).toNat) (([] : (List Int)), ([] : (List Int)), ())
     (lsl5Order_8 N N (v.1, v.2.1, y17.1, (0 : Int), v.2.2.1, v.2.2.2.1, ())).bind fun o24 =>
     lsl5Order_6 N n (o24.1, w64 (o24.2.1 + (1 : Int)), o24.2.2.1, o24.2.2.2.1, ())
     else none
     else none
     else none
     else none
    else
    some (v.2.2.1, ())
noncomputable def Fsl5Order (N : Nat) (x : (((List ((List Int) × ((List Int) × Unit))) × ((List (List Int)) × ((List Int) × Unit))) × Unit)) : Option ((List Int) × Unit) :=
  bif decide (0 ≤ (x.1.1.length : Int)) then
  bif decide ((x.1.1.length : Int).toNat ≤ lim) then
  let y1 := List.replicate (x.1.1.length : Int).toNat false
  (lsl5Order_0 N N (x.1, (0 : Int), ([] : (List Int)), y1, ())).bind fun o10 =>
  (lsl5Order_4 N N (o10.1, (0 : Int), o10.2.1, o10.2.2.1, ())).bind fun o15 =>
  (lsl5Order_6 N N (o15.1, (0 : Int), o15.2.1, o15.2.2.1, ())).bind fun o25 =>
  some (o25.1, ())
  else none
  else none
noncomputable def consl5Order (N : Nat) : Con := { f := 77, din := dinsl5Order, outs := outsl5Order, F := Fsl5Order N }
noncomputable def Xsl5Order (N : Nat) : Ctx := { E := Esl5Order N, H := Hsl5Order, lp := [(2, { hd := dsl5Order_2, outs := osl5Order_2, run := fun v => lsl5Order_2 N N v }), (0, { hd := dsl5Order_0, outs := osl5Order_0, run := fun v => lsl5Order_0 N N v }), (4, { hd := dsl5Order_4, outs := osl5Order_4, run := fun v => lsl5Order_4 N N v }), (8, { hd := dsl5Order_8, outs := osl5Order_8, run := fun v => lsl5Order_8 N N v }), (6, { hd := dsl5Order_6, outs := osl5Order_6, run := fun v => lsl5Order_6 N N v })], jn := [] }
noncomputable def bsl5Order_6 : Code := loopBody (codeOf Try.f77) 2
noncomputable def bsl5Order_8 : Code := loopBody bsl5Order_6 0
noncomputable def bsl5Order_4 : Code := loopBody (codeOf Try.f77) 1
noncomputable def bsl5Order_0 : Code := loopBody (codeOf Try.f77) 0
noncomputable def bsl5Order_2 : Code := loopBody bsl5Order_0 0
theorem Fsl5Order_eq (N : Nat) (x : (((List ((List Int) × ((List Int) × Unit))) × ((List (List Int)) × ((List Int) × Unit))) × Unit)) : evFn (Xsl5Order N) Try.f77 dinsl5Order outsl5Order x = Fsl5Order N x := by kernel_rfl
theorem lsl5Order_2_eq (N n : Nat) (v : (((List ((List Int) × ((List Int) × Unit))) × ((List (List Int)) × ((List Int) × Unit))) × (Int × (Int × ((List Int) × ((List Bool) × Unit)))))) : lsl5Order_2 N (n + 1) v = ev (Xsl5Order N) bsl5Order_2 (roundK dsl5Order_2 osl5Order_2 (lsl5Order_2 N n)) (dsl5Order_2.mk' v) := by kernel_rfl
theorem lsl5Order_0_eq (N n : Nat) (v : (((List ((List Int) × ((List Int) × Unit))) × ((List (List Int)) × ((List Int) × Unit))) × (Int × ((List Int) × ((List Bool) × Unit))))) : lsl5Order_0 N (n + 1) v = ev (Xsl5Order N) bsl5Order_0 (roundK dsl5Order_0 osl5Order_0 (lsl5Order_0 N n)) (dsl5Order_0.mk' v) := by kernel_rfl
theorem lsl5Order_4_eq (N n : Nat) (v : (((List ((List Int) × ((List Int) × Unit))) × ((List (List Int)) × ((List Int) × Unit))) × (Int × ((List Int) × ((List Bool) × Unit))))) : lsl5Order_4 N (n + 1) v = ev (Xsl5Order N) bsl5Order_4 (roundK dsl5Order_4 osl5Order_4 (lsl5Order_4 N n)) (dsl5Order_4.mk' v) := by kernel_rfl
theorem lsl5Order_8_eq (N n : Nat) (v : (((List ((List Int) × ((List Int) × Unit))) × ((List (List Int)) × ((List Int) × Unit))) × (Int × ((List Int) × (Int × ((List Int) × ((List Bool) × Unit))))))) : lsl5Order_8 N (n + 1) v = ev (Xsl5Order N) bsl5Order_8 (roundK dsl5Order_8 osl5Order_8 (lsl5Order_8 N n)) (dsl5Order_8.mk' v) := by kernel_rfl
theorem lsl5Order_6_eq (N n : Nat) (v : (((List ((List Int) × ((List Int) × Unit))) × ((List (List Int)) × ((List Int) × Unit))) × (Int × ((List Int) × ((List Bool) × Unit))))) : lsl5Order_6 N (n + 1) v = ev (Xsl5Order N) bsl5Order_6 (roundK dsl5Order_6 osl5Order_6 (lsl5Order_6 N n)) (dsl5Order_6.mk' v) := by kernel_rfl
theorem cxsl5Order (N : Nat) : CtxOk Try.prog (Xsl5Order N) := ⟨⟨TE_ok, fun k hk => absurd hk List.not_mem_nil⟩, mixed⟩
theorem lpsl5Order_2 (N : Nat) : LoopOk Try.prog { hd := dsl5Order_2, outs := osl5Order_2, run := fun v => lsl5Order_2 N N v } bsl5Order_2 :=
  loop_fuel (d := dsl5Order_2) (os := osl5Order_2) (cxsl5Order N) (loops_at (ids := []) (by kernel_rfl) (trivial)) (lsl5Order_2 N) (fun _ => rfl) (fun n v => lsl5Order_2_eq N n v) (fun _ => N)
theorem lpsl5Order_0 (N : Nat) : LoopOk Try.prog { hd := dsl5Order_0, outs := osl5Order_0, run := fun v => lsl5Order_0 N N v } bsl5Order_0 :=
  loop_fuel (d := dsl5Order_0) (os := osl5Order_0) (cxsl5Order N) (loops_at (ids := [2]) (by kernel_rfl) ⟨lp_of (lpsl5Order_2 N), trivial⟩) (lsl5Order_0 N) (fun _ => rfl) (fun n v => lsl5Order_0_eq N n v) (fun _ => N)
theorem lpsl5Order_4 (N : Nat) : LoopOk Try.prog { hd := dsl5Order_4, outs := osl5Order_4, run := fun v => lsl5Order_4 N N v } bsl5Order_4 :=
  loop_fuel (d := dsl5Order_4) (os := osl5Order_4) (cxsl5Order N) (loops_at (ids := []) (by kernel_rfl) (trivial)) (lsl5Order_4 N) (fun _ => rfl) (fun n v => lsl5Order_4_eq N n v) (fun _ => N)
theorem lpsl5Order_8 (N : Nat) : LoopOk Try.prog { hd := dsl5Order_8, outs := osl5Order_8, run := fun v => lsl5Order_8 N N v } bsl5Order_8 :=
  loop_fuel (d := dsl5Order_8) (os := osl5Order_8) (cxsl5Order N) (loops_at (ids := []) (by kernel_rfl) (trivial)) (lsl5Order_8 N) (fun _ => rfl) (fun n v => lsl5Order_8_eq N n v) (fun _ => N)
theorem lpsl5Order_6 (N : Nat) : LoopOk Try.prog { hd := dsl5Order_6, outs := osl5Order_6, run := fun v => lsl5Order_6 N N v } bsl5Order_6 :=
  loop_fuel (d := dsl5Order_6) (os := osl5Order_6) (cxsl5Order N) (loops_at (ids := [8]) (by kernel_rfl) ⟨lp_of (lpsl5Order_8 N), trivial⟩) (lsl5Order_6 N) (fun _ => rfl) (fun n v => lsl5Order_6_eq N n v) (fun _ => N)
theorem specsl5Order (N : Nat) : Spec Try.prog (consl5Order N) :=
  Spec.of_eq (fn_spec (cxsl5Order N) (f := 77) (fn := Try.f77) (c := codeOf Try.f77) (by kernel_rfl) (by kernel_rfl) (by kernel_rfl) (loops_at (ids := [0, 4, 6]) (by kernel_rfl) ⟨lp_of (lpsl5Order_0 N), ⟨lp_of (lpsl5Order_4 N), ⟨lp_of (lpsl5Order_6 N), trivial⟩⟩⟩) (by kernel_rfl)) (fun x r h => (Fsl5Order_eq N x).trans h)

/-! ### 33: spec.GraphReach -/

noncomputable def dinsGraphReach : Desc := { n := 1, regs := [.one (.val (.pair (.sl (.pair (.sl (.int .i64)) (.pair (.sl (.int .i64)) .unit))) (.pair (.sl (.sl (.int .i64))) (.pair (.sl (.int .i64)) .unit))))], bx := [], pins := [] }
noncomputable def outsGraphReach : Outs := [(.ret, { n := 1, regs := [.one (.lit (.row 1025600))], bx := [(1025600, .row .bool)], pins := [] })]
noncomputable def HsGraphReach : Hints := [(0, [(0, { fz := true })]),
  (2, [(0, { nl := [(0, .bool)] })]),
  (4, [(1, { con := 1 })])]
noncomputable def EsGraphReach (N : Nat) : Env := { te := TE, cs := [consGraphOk N, consl5Order N] }
noncomputable def dsGraphReach_0 : Desc := { n := 28, regs := [u, u, u, .one (.lit (.row 1038592)), .one (.lit (.row 1051265)), .one (.val (.int .i64))], bx := [(1038592, .row .bool), (1051265, .row (.int .i64))], pins := [] }
noncomputable def osGraphReach_0 : Outs := [(.exit 0, { n := 28, regs := [u, u, u, .one (.lit (.row 1038592))], bx := [(1038592, .row .bool)], pins := [] })]
noncomputable def lsGraphReach_0 (N : Nat) : Nat → (Int × ((List Bool) × ((List Int) × Unit))) → Option ((List Bool) × Unit)
  | 0, _ => none
  | n + 1, v =>
    let y4 := decide (v.1 < (v.2.2.1.length : Int))
    bif y4 then
     bif decide (0 ≤ v.1) then
     bif decide (v.1.toNat < v.2.2.1.length) then
     bif decide (0 ≤ (v.2.2.1.getD v.1.toNat (0 : Int))) then
     bif decide ((v.2.2.1.getD v.1.toNat (0 : Int)).toNat < v.2.1.length) then
     let y5 := (v.2.2.1.getD v.1.toNat (0 : Int)).toNat
     lsGraphReach_0 N n (w64 (v.1 + (1 : Int)), v.2.1.set y5 true, v.2.2.1, ())
     else none
     else none
     else none
     else none
    else
    some (v.2.1, ())
noncomputable def FsGraphReach (N : Nat) (x : (((List ((List Int) × ((List Int) × Unit))) × ((List (List Int)) × ((List Int) × Unit))) × Unit)) : Option ((List Bool) × Unit) :=
  (FsGraphOk N (x.1, ())).bind fun r1 =>
  bif !r1.1 then
   some (([] : (List Bool)), ())
  else
  bif decide (0 ≤ (x.1.1.length : Int)) then
  bif decide ((x.1.1.length : Int).toNat ≤ lim) then
  let y2 := List.replicate (x.1.1.length : Int).toNat false
  (Fsl5Order N (x.1, ())).bind fun r3 =>
  (lsGraphReach_0 N N ((0 : Int), y2, r3.1, ())).bind fun o6 =>
  some (o6.1, ())
  else none
  else none
noncomputable def consGraphReach (N : Nat) : Con := { f := 33, din := dinsGraphReach, outs := outsGraphReach, F := FsGraphReach N }
noncomputable def XsGraphReach (N : Nat) : Ctx := { E := EsGraphReach N, H := HsGraphReach, lp := [(0, { hd := dsGraphReach_0, outs := osGraphReach_0, run := fun v => lsGraphReach_0 N N v })], jn := [] }
noncomputable def bsGraphReach_0 : Code := loopBody (codeOf Try.f33) 0
theorem FsGraphReach_eq (N : Nat) (x : (((List ((List Int) × ((List Int) × Unit))) × ((List (List Int)) × ((List Int) × Unit))) × Unit)) : evFn (XsGraphReach N) Try.f33 dinsGraphReach outsGraphReach x = FsGraphReach N x := by kernel_rfl
theorem lsGraphReach_0_eq (N n : Nat) (v : (Int × ((List Bool) × ((List Int) × Unit)))) : lsGraphReach_0 N (n + 1) v = ev (XsGraphReach N) bsGraphReach_0 (roundK dsGraphReach_0 osGraphReach_0 (lsGraphReach_0 N n)) (dsGraphReach_0.mk' v) := by kernel_rfl
theorem cxsGraphReach (N : Nat) : CtxOk Try.prog (XsGraphReach N) := ⟨⟨TE_ok, List.forall_mem_cons.2 ⟨(specsGraphOk N), List.forall_mem_cons.2 ⟨(specsl5Order N), fun k hk => absurd hk List.not_mem_nil⟩⟩⟩, mixed⟩
theorem lpsGraphReach_0 (N : Nat) : LoopOk Try.prog { hd := dsGraphReach_0, outs := osGraphReach_0, run := fun v => lsGraphReach_0 N N v } bsGraphReach_0 :=
  loop_fuel (d := dsGraphReach_0) (os := osGraphReach_0) (cxsGraphReach N) (loops_at (ids := []) (by kernel_rfl) (trivial)) (lsGraphReach_0 N) (fun _ => rfl) (fun n v => lsGraphReach_0_eq N n v) (fun _ => N)
theorem specsGraphReach (N : Nat) : Spec Try.prog (consGraphReach N) :=
  Spec.of_eq (fn_spec (cxsGraphReach N) (f := 33) (fn := Try.f33) (c := codeOf Try.f33) (by kernel_rfl) (by kernel_rfl) (by kernel_rfl) (loops_at (ids := [0]) (by kernel_rfl) ⟨lp_of (lpsGraphReach_0 N), trivial⟩) (by kernel_rfl)) (fun x r h => (FsGraphReach_eq N x).trans h)

/-! ### 16: spec.PathShared -/

noncomputable def dinsPathShared : Desc := { n := 1, regs := [.one (.val (.pair (.sl (.pair (.sl (.int .i64)) (.pair (.sl (.int .i64)) .unit))) (.pair (.sl (.sl (.int .i64))) (.pair (.sl (.int .i64)) .unit))))], bx := [], pins := [] }
noncomputable def outsPathShared : Outs := [(.ret, { n := 1, regs := [.one (.lit (.row 1025600))], bx := [(1025600, .row (.int .i64))], pins := [] })]
noncomputable def HsPathShared : Hints := [(0, [(0, { fz := true })]),
  (2, [(0, { nl := [(0, (.int .i64))] })]),
  (7, [(1, { con := 1 })]),
  (10, [(1, { con := 2 })]),
  (16, [(0, { nl := [(0, (.int .i64))] })])]
noncomputable def EsPathShared (N : Nat) : Env := { te := TE, cs := [consGraphOk N, consl5Copy N, consGraphReach N] }
noncomputable def dsPathShared_2 : Desc := { n := 70, regs := [u, .one (.fpt (.pair (.sl (.pair (.sl (.int .i64)) (.pair (.sl (.int .i64)) .unit))) (.pair (.sl (.sl (.int .i64))) (.pair (.sl (.int .i64)) .unit)))), u, .one (.lit (.row 1038592)), .one (.val (.int .i64)), u, .one (.lit (.row 1128065)), .one (.val (.int .i64))], bx := [(1038592, .row (.int .i64)), (1128065, .row .bool)], pins := [] }
noncomputable def osPathShared_2 : Outs := [(.exit 2, { n := 70, regs := [u, .one (.fpt (.pair (.sl (.pair (.sl (.int .i64)) (.pair (.sl (.int .i64)) .unit))) (.pair (.sl (.sl (.int .i64))) (.pair (.sl (.int .i64)) .unit)))), u, .one (.lit (.row 1038592)), .one (.val (.int .i64))], bx := [(1038592, .row (.int .i64))], pins := [] })]
noncomputable def dsPathShared_0 : Desc := { n := 70, regs := [u, .one (.fpt (.pair (.sl (.pair (.sl (.int .i64)) (.pair (.sl (.int .i64)) .unit))) (.pair (.sl (.sl (.int .i64))) (.pair (.sl (.int .i64)) .unit)))), u, .one (.lit (.row 1038592)), .one (.val (.int .i64))], bx := [(1038592, .row (.int .i64))], pins := [] }
noncomputable def osPathShared_0 : Outs := [(.exit 0, { n := 70, regs := [u, u, u, .one (.lit (.row 1038592))], bx := [(1038592, .row (.int .i64))], pins := [] })]
noncomputable def dsPathShared_4 : Desc := { n := 70, regs := [u, u, u, .one (.lit (.row 1038592)), u, u, u, u, .one (.lit (.row 1204800)), .one (.val (.int .i64))], bx := [(1038592, .row (.int .i64)), (1204800, .row (.int .i64))], pins := [] }
noncomputable def osPathShared_4 : Outs := [(.exit 4, { n := 70, regs := [u, u, u, u, u, u, u, u, .one (.lit (.row 1204800))], bx := [(1204800, .row (.int .i64))], pins := [] })]
noncomputable def lsPathShared_2 (N : Nat) : Nat → (((List ((List Int) × ((List Int) × Unit))) × ((List (List Int)) × ((List Int) × Unit))) × (Int × (Int × ((List Int) × ((List Bool) × Unit))))) → Option (((List ((List Int) × ((List Int) × Unit))) × ((List (List Int)) × ((List Int) × Unit))) × (Int × ((List Int) × Unit)))
  | 0, _ => none
  | n + 1, v =>
    let y7 := decide (v.2.2.1 < (v.2.2.2.2.1.length : Int))
    bif y7 then
     bif decide (0 ≤ v.2.2.1) then
     bif decide (v.2.2.1.toNat < v.2.2.2.2.1.length) then
     bif v.2.2.2.2.1.getD v.2.2.1.toNat false then
      bif decide (0 ≤ v.2.2.1) then
      bif decide (v.2.2.1.toNat < v.2.2.2.1.length) then
      let y8 := v.2.2.2.1.getD v.2.2.1.toNat (0 : Int)
      bif decide (0 ≤ v.2.2.1) then
      bif decide (v.2.2.1.toNat < v.2.2.2.1.length) then
      let y9 := v.2.2.2.1.set v.2.2.1.toNat (w64 (y8 + (1 : Int)))
      lsPathShared_2 N n (v.1, v.2.1, w64 (v.2.2.1 + (1 : Int)), y9, v.2.2.2.2.1, ())
      else none
      else none
      else none
      else none
     else
     lsPathShared_2 N n (v.1, v.2.1, w64 (v.2.2.1 + (1 : Int)), v.2.2.2.1, v.2.2.2.2.1, ())
     else none
     else none
    else
    some (v.1, v.2.1, v.2.2.2.1, ())
noncomputable def lsPathShared_0 (N : Nat) : Nat → (((List ((List Int) × ((List Int) × Unit))) × ((List (List Int)) × ((List Int) × Unit))) × (Int × ((List Int) × Unit))) → Option ((List Int) × Unit)
  | 0, _ => none
  | n + 1, v =>
    let y3 := decide (v.2.1 < (v.1.2.1.length : Int))
    bif y3 then
     (Fsl5Copy N (v.1, ())).bind fun r4 =>
     bif decide (0 ≤ v.2.1) then
     bif decide (v.2.1.toNat < v.1.2.1.length) then
     let y5 := v.1.2.1.getD v.2.1.toNat ([] : (List Int))
     (FsGraphReach N ((r4.1, [y5], ([] : (List Int)), ()), ())).bind fun r6 =>
     (lsPathShared_2 N N (v.1, v.2.1, (0 : Int), v.2.2.1, r6.1, ())).bind fun o10 =>
     lsPathShared_0 N n (o10.1, w64 (o10.2.1 + (1 : Int)), o10.2.2.1, ())
     else none
     else none
    else
    some (v.2.2.1, ())
noncomputable def lsPathShared_4 (N : Nat) : Nat → (Int × ((List Int) × ((List Int) × Unit))) → Option ((List Int) × Unit)
  | 0, _ => none
  | n + 1, v =>
    bif decide (v.1 < (v.2.1.length : Int)) then
     bif decide (0 ≤ v.1) then
     bif decide (v.1.toNat < v.2.1.length) then
     let y12 := decide ((v.2.1.getD v.1.toNat (0 : Int)) > (1 : Int))
     bif y12 then
      bif decide (v.2.2.1.length + [v.1].length ≤ lim) then
      lsPathShared_4 N n (w64 (v.1 + (1 : Int)), v.2.1, v.2.2.1 ++ [v.1], ())
      else none
     else
     lsPathShared_4 N n (w64 (v.1 + (1 : Int)), v.2.1, v.2.2.1, ())
     else none
     else none
    else
    some (v.2.2.1, ())
noncomputable def FsPathShared (N : Nat) (x : (((List ((List Int) × ((List Int) × Unit))) × ((List (List Int)) × ((List Int) × Unit))) × Unit)) : Option ((List Int) × Unit) :=
  (FsGraphOk N (x.1, ())).bind fun r1 =>
  bif !r1.1 then
   some (([] : (List Int)), ())
  else
  bif decide (0 ≤ (x.1.1.length : Int)) then
  bif decide ((x.1.1.length : Int).toNat ≤ lim) then
  let y2 := List.replicate (x.1.1.length : Int).toNat (0 : Int)
  (lsPathShared_0 N N (x.1, (0 : Int), y2, ())).bind fun o11 =>
  (lsPathShared_4 N N ((0 : Int), o11.1, ([] : (List Int)), ())).bind fun o13 =>
  some (o13.1, ())
  else none
  else none
noncomputable def consPathShared (N : Nat) : Con := { f := 16, din := dinsPathShared, outs := outsPathShared, F := FsPathShared N }
noncomputable def XsPathShared (N : Nat) : Ctx := { E := EsPathShared N, H := HsPathShared, lp := [(2, { hd := dsPathShared_2, outs := osPathShared_2, run := fun v => lsPathShared_2 N N v }), (0, { hd := dsPathShared_0, outs := osPathShared_0, run := fun v => lsPathShared_0 N N v }), (4, { hd := dsPathShared_4, outs := osPathShared_4, run := fun v => lsPathShared_4 N N v })], jn := [] }
noncomputable def bsPathShared_4 : Code := loopBody (codeOf Try.f16) 1
noncomputable def bsPathShared_0 : Code := loopBody (codeOf Try.f16) 0
noncomputable def bsPathShared_2 : Code := loopBody bsPathShared_0 0
theorem FsPathShared_eq (N : Nat) (x : (((List ((List Int) × ((List Int) × Unit))) × ((List (List Int)) × ((List Int) × Unit))) × Unit)) : evFn (XsPathShared N) Try.f16 dinsPathShared outsPathShared x = FsPathShared N x := by kernel_rfl
theorem lsPathShared_2_eq (N n : Nat) (v : (((List ((List Int) × ((List Int) × Unit))) × ((List (List Int)) × ((List Int) × Unit))) × (Int × (Int × ((List Int) × ((List Bool) × Unit)))))) : lsPathShared_2 N (n + 1) v = ev (XsPathShared N) bsPathShared_2 (roundK dsPathShared_2 osPathShared_2 (lsPathShared_2 N n)) (dsPathShared_2.mk' v) := by kernel_rfl
theorem lsPathShared_0_eq (N n : Nat) (v : (((List ((List Int) × ((List Int) × Unit))) × ((List (List Int)) × ((List Int) × Unit))) × (Int × ((List Int) × Unit)))) : lsPathShared_0 N (n + 1) v = ev (XsPathShared N) bsPathShared_0 (roundK dsPathShared_0 osPathShared_0 (lsPathShared_0 N n)) (dsPathShared_0.mk' v) := by kernel_rfl
theorem lsPathShared_4_eq (N n : Nat) (v : (Int × ((List Int) × ((List Int) × Unit)))) : lsPathShared_4 N (n + 1) v = ev (XsPathShared N) bsPathShared_4 (roundK dsPathShared_4 osPathShared_4 (lsPathShared_4 N n)) (dsPathShared_4.mk' v) := by kernel_rfl
theorem cxsPathShared (N : Nat) : CtxOk Try.prog (XsPathShared N) := ⟨⟨TE_ok, List.forall_mem_cons.2 ⟨(specsGraphOk N), List.forall_mem_cons.2 ⟨(specsl5Copy N), List.forall_mem_cons.2 ⟨(specsGraphReach N), fun k hk => absurd hk List.not_mem_nil⟩⟩⟩⟩, mixed⟩
theorem lpsPathShared_2 (N : Nat) : LoopOk Try.prog { hd := dsPathShared_2, outs := osPathShared_2, run := fun v => lsPathShared_2 N N v } bsPathShared_2 :=
  loop_fuel (d := dsPathShared_2) (os := osPathShared_2) (cxsPathShared N) (loops_at (ids := []) (by kernel_rfl) (trivial)) (lsPathShared_2 N) (fun _ => rfl) (fun n v => lsPathShared_2_eq N n v) (fun _ => N)
theorem lpsPathShared_0 (N : Nat) : LoopOk Try.prog { hd := dsPathShared_0, outs := osPathShared_0, run := fun v => lsPathShared_0 N N v } bsPathShared_0 :=
  loop_fuel (d := dsPathShared_0) (os := osPathShared_0) (cxsPathShared N) (loops_at (ids := [2]) (by kernel_rfl) ⟨lp_of (lpsPathShared_2 N), trivial⟩) (lsPathShared_0 N) (fun _ => rfl) (fun n v => lsPathShared_0_eq N n v) (fun _ => N)
theorem lpsPathShared_4 (N : Nat) : LoopOk Try.prog { hd := dsPathShared_4, outs := osPathShared_4, run := fun v => lsPathShared_4 N N v } bsPathShared_4 :=
  loop_fuel (d := dsPathShared_4) (os := osPathShared_4) (cxsPathShared N) (loops_at (ids := []) (by kernel_rfl) (trivial)) (lsPathShared_4 N) (fun _ => rfl) (fun n v => lsPathShared_4_eq N n v) (fun _ => N)
theorem specsPathShared (N : Nat) : Spec Try.prog (consPathShared N) :=
  Spec.of_eq (fn_spec (cxsPathShared N) (f := 16) (fn := Try.f16) (c := codeOf Try.f16) (by kernel_rfl) (by kernel_rfl) (by kernel_rfl) (loops_at (ids := [0, 4]) (by kernel_rfl) ⟨lp_of (lpsPathShared_0 N), ⟨lp_of (lpsPathShared_4 N), trivial⟩⟩) (by kernel_rfl)) (fun x r h => (FsPathShared_eq N x).trans h)

/-! ### 148: impl.Graph).leads$1 -/

noncomputable def diniGraph_leads_1 : Desc := { n := 3, regs := [.one (.val (.int .i64)), .one (.fpt (.int .i64)), .one (.fpt (.pair (.sl (.pair (.sl (.int .i64)) (.pair (.sl (.int .i64)) .unit))) (.pair (.sl (.sl (.int .i64))) (.pair (.sl (.int .i64)) .unit))))], bx := [], pins := [] }
noncomputable def outiGraph_leads_1 : Outs := [(.ret, { n := 1, regs := [.one (.val .bool)], bx := [], pins := [] })]
noncomputable def HiGraph_leads_1 : Hints := []
noncomputable def EiGraph_leads_1 (_N : Nat) : Env := { te := TE, cs := [] }
noncomputable def FiGraph_leads_1 (N : Nat) (x : (Int × (Int × (((List ((List Int) × ((List Int) × Unit))) × ((List (List Int)) × ((List Int) × Unit))) × Unit)))) : Option (Bool × Unit) :=
  bif decide (x.1 < x.2.1) then
   some (true, ())
  else
  let y1 := decide (x.1 ≥ (x.2.2.1.1.length : Int))
  some (y1, ())
noncomputable def coniGraph_leads_1 (N : Nat) : Con := { f := 148, din := diniGraph_leads_1, outs := outiGraph_leads_1, F := FiGraph_leads_1 N }
noncomputable def XiGraph_leads_1 (N : Nat) : Ctx := { E := EiGraph_leads_1 N, H := HiGraph_leads_1, lp := [], jn := [] }
theorem FiGraph_leads_1_eq (N : Nat) (x : (Int × (Int × (((List ((List Int) × ((List Int) × Unit))) × ((List (List Int)) × ((List Int) × Unit))) × Unit)))) : evFn (XiGraph_leads_1 N) Try.f148 diniGraph_leads_1 outiGraph_leads_1 x = FiGraph_leads_1 N x := by kernel_rfl
theorem cxiGraph_leads_1 (N : Nat) : CtxOk Try.prog (XiGraph_leads_1 N) := ⟨⟨TE_ok, fun k hk => absurd hk List.not_mem_nil⟩, mixed⟩
theorem speciGraph_leads_1 (N : Nat) : Spec Try.prog (coniGraph_leads_1 N) :=
  Spec.of_eq (fn_spec (cxiGraph_leads_1 N) (f := 148) (fn := Try.f148) (c := codeOf Try.f148) (by kernel_rfl) (by kernel_rfl) (by kernel_rfl) (loops_at (ids := []) (by kernel_rfl) (trivial)) (by kernel_rfl)) (fun x r h => (FiGraph_leads_1_eq N x).trans h)

/-! ### 157: slices.IndexFunc[[]int,int] -/

noncomputable def dinkIndexFunc_Sint_int_iGraph_leads_1 : Desc := { n := 2, regs := [.one (.val (.sl (.int .i64))), .one (.clo 148 [.inr (.int .i64), .inr (.pair (.sl (.pair (.sl (.int .i64)) (.pair (.sl (.int .i64)) .unit))) (.pair (.sl (.sl (.int .i64))) (.pair (.sl (.int .i64)) .unit)))])], bx := [], pins := [] }
noncomputable def outkIndexFunc_Sint_int_iGraph_leads_1 : Outs := [(.ret, { n := 1, regs := [.one (.val (.int .i64))], bx := [], pins := [] })]
noncomputable def HkIndexFunc_Sint_int_iGraph_leads_1 : Hints := []
noncomputable def EkIndexFunc_Sint_int_iGraph_leads_1 (N : Nat) : Env := { te := TE, cs := [coniGraph_leads_1 N] }
noncomputable def dkIndexFunc_Sint_int_iGraph_leads_1_0 : Desc := { n := 19, regs := [.one (.val (.sl (.int .i64))), .one (.clo 148 [.inr (.int .i64), .inr (.pair (.sl (.pair (.sl (.int .i64)) (.pair (.sl (.int .i64)) .unit))) (.pair (.sl (.sl (.int .i64))) (.pair (.sl (.int .i64)) .unit)))]), u, u, u, u, u, .one (.val (.int .i64)), .one (.val (.int .i64))], bx := [], pins := [] }
noncomputable def okIndexFunc_Sint_int_iGraph_leads_1_0 : Outs := [(.exit 0, { n := 19, regs := [], bx := [], pins := [] }), (.ret, { n := 19, regs := [u, u, u, u, .one (.val (.int .i64))], bx := [], pins := [] })]
noncomputable def lkIndexFunc_Sint_int_iGraph_leads_1_0 (N : Nat) : Nat → ((List Int) × (Int × (((List ((List Int) × ((List Int) × Unit))) × ((List (List Int)) × ((List Int) × Unit))) × (Int × (Int × Unit))))) → Option (Unit ⊕ (Int × Unit))
  | 0, _ => none
  | n + 1, v =>
    bif decide (v.2.2.2.2.1 < v.2.2.2.1) then
     bif decide (0 ≤ v.2.2.2.2.1) then
     bif decide (v.2.2.2.2.1.toNat < v.1.length) then
     (FiGraph_leads_1 N (v.1.getD v.2.2.2.2.1.toNat (0 : Int), v.2.1, v.2.2.1, ())).bind fun r1 =>
     bif r1.1 then
      some (.inr ((v.2.2.2.2.1, ())))
     else
     lkIndexFunc_Sint_int_iGraph_leads_1_0 N n (v.1, v.2.1, v.2.2.1, v.2.2.2.1, w64 (v.2.2.2.2.1 + (1 : Int)), ())
     else none
     else none
    else
    some (.inl ())
noncomputable def FkIndexFunc_Sint_int_iGraph_leads_1 (N : Nat) (x : ((List Int) × (Int × (((List ((List Int) × ((List Int) × Unit))) × ((List (List Int)) × ((List Int) × Unit))) × Unit)))) : Option (Int × Unit) :=
  (lkIndexFunc_Sint_int_iGraph_leads_1_0 N N (x.1, x.2.1, x.2.2.1, (x.1.length : Int), (0 : Int), ())).bind fun o2 =>
  Sum.elim (fun o3 =>
   some ((-1 : Int), ())) (fun o4 =>
   some (o4.1, ())) o2
noncomputable def conkIndexFunc_Sint_int_iGraph_leads_1 (N : Nat) : Con := { f := 157, din := dinkIndexFunc_Sint_int_iGraph_leads_1, outs := outkIndexFunc_Sint_int_iGraph_leads_1, F := FkIndexFunc_Sint_int_iGraph_leads_1 N }
noncomputable def XkIndexFunc_Sint_int_iGraph_leads_1 (N : Nat) : Ctx := { E := EkIndexFunc_Sint_int_iGraph_leads_1 N, H := HkIndexFunc_Sint_int_iGraph_leads_1, lp := [(0, { hd := dkIndexFunc_Sint_int_iGraph_leads_1_0, outs := okIndexFunc_Sint_int_iGraph_leads_1_0, run := fun v => lkIndexFunc_Sint_int_iGraph_leads_1_0 N N v })], jn := [] }
noncomputable def bkIndexFunc_Sint_int_iGraph_leads_1_0 : Code := loopBody (codeOf Try.f157) 0
theorem FkIndexFunc_Sint_int_iGraph_leads_1_eq (N : Nat) (x : ((List Int) × (Int × (((List ((List Int) × ((List Int) × Unit))) × ((List (List Int)) × ((List Int) × Unit))) × Unit)))) : evFn (XkIndexFunc_Sint_int_iGraph_leads_1 N) Try.f157 dinkIndexFunc_Sint_int_iGraph_leads_1 outkIndexFunc_Sint_int_iGraph_leads_1 x = FkIndexFunc_Sint_int_iGraph_leads_1 N x := by kernel_rfl
theorem lkIndexFunc_Sint_int_iGraph_leads_1_0_eq (N n : Nat) (v : ((List Int) × (Int × (((List ((List Int) × ((List Int) × Unit))) × ((List (List Int)) × ((List Int) × Unit))) × (Int × (Int × Unit)))))) : lkIndexFunc_Sint_int_iGraph_leads_1_0 N (n + 1) v = ev (XkIndexFunc_Sint_int_iGraph_leads_1 N) bkIndexFunc_Sint_int_iGraph_leads_1_0 (roundK dkIndexFunc_Sint_int_iGraph_leads_1_0 okIndexFunc_Sint_int_iGraph_leads_1_0 (lkIndexFunc_Sint_int_iGraph_leads_1_0 N n)) (dkIndexFunc_Sint_int_iGraph_leads_1_0.mk' v) := by kernel_rfl
theorem cxkIndexFunc_Sint_int_iGraph_leads_1 (N : Nat) : CtxOk Try.prog (XkIndexFunc_Sint_int_iGraph_leads_1 N) := ⟨⟨TE_ok, List.forall_mem_cons.2 ⟨(speciGraph_leads_1 N), fun k hk => absurd hk List.not_mem_nil⟩⟩, mixed⟩
theorem lpkIndexFunc_Sint_int_iGraph_leads_1_0 (N : Nat) : LoopOk Try.prog { hd := dkIndexFunc_Sint_int_iGraph_leads_1_0, outs := okIndexFunc_Sint_int_iGraph_leads_1_0, run := fun v => lkIndexFunc_Sint_int_iGraph_leads_1_0 N N v } bkIndexFunc_Sint_int_iGraph_leads_1_0 :=
  loop_fuel (d := dkIndexFunc_Sint_int_iGraph_leads_1_0) (os := okIndexFunc_Sint_int_iGraph_leads_1_0) (cxkIndexFunc_Sint_int_iGraph_leads_1 N) (loops_at (ids := []) (by kernel_rfl) (trivial)) (lkIndexFunc_Sint_int_iGraph_leads_1_0 N) (fun _ => rfl) (fun n v => lkIndexFunc_Sint_int_iGraph_leads_1_0_eq N n v) (fun _ => N)
theorem speckIndexFunc_Sint_int_iGraph_leads_1 (N : Nat) : Spec Try.prog (conkIndexFunc_Sint_int_iGraph_leads_1 N) :=
  Spec.of_eq (fn_spec (cxkIndexFunc_Sint_int_iGraph_leads_1 N) (f := 157) (fn := Try.f157) (c := codeOf Try.f157) (by kernel_rfl) (by kernel_rfl) (by kernel_rfl) (loops_at (ids := [0]) (by kernel_rfl) ⟨lp_of (lpkIndexFunc_Sint_int_iGraph_leads_1_0 N), trivial⟩) (by kernel_rfl)) (fun x r h => (FkIndexFunc_Sint_int_iGraph_leads_1_eq N x).trans h)

/-! ### 147: slices.ContainsFunc[[]int,int] -/

noncomputable def dinkContainsFunc_Sint_int_iGraph_leads_1 : Desc := { n := 2, regs := [.one (.val (.sl (.int .i64))), .one (.clo 148 [.inr (.int .i64), .inr (.pair (.sl (.pair (.sl (.int .i64)) (.pair (.sl (.int .i64)) .unit))) (.pair (.sl (.sl (.int .i64))) (.pair (.sl (.int .i64)) .unit)))])], bx := [], pins := [] }
noncomputable def outkContainsFunc_Sint_int_iGraph_leads_1 : Outs := [(.ret, { n := 1, regs := [.one (.val .bool)], bx := [], pins := [] })]
noncomputable def HkContainsFunc_Sint_int_iGraph_leads_1 : Hints := []
noncomputable def EkContainsFunc_Sint_int_iGraph_leads_1 (N : Nat) : Env := { te := TE, cs := [conkIndexFunc_Sint_int_iGraph_leads_1 N] }
noncomputable def FkContainsFunc_Sint_int_iGraph_leads_1 (N : Nat) (x : ((List Int) × (Int × (((List ((List Int) × ((List Int) × Unit))) × ((List (List Int)) × ((List Int) × Unit))) × Unit)))) : Option (Bool × Unit) :=
  (FkIndexFunc_Sint_int_iGraph_leads_1 N (x.1, x.2.1, x.2.2.1, ())).bind fun r1 =>
  some (decide (r1.1 ≥ (0 : Int)), ())
noncomputable def conkContainsFunc_Sint_int_iGraph_leads_1 (N : Nat) : Con := { f := 147, din := dinkContainsFunc_Sint_int_iGraph_leads_1, outs := outkContainsFunc_Sint_int_iGraph_leads_1, F := FkContainsFunc_Sint_int_iGraph_leads_1 N }
noncomputable def XkContainsFunc_Sint_int_iGraph_leads_1 (N : Nat) : Ctx := { E := EkContainsFunc_Sint_int_iGraph_leads_1 N, H := HkContainsFunc_Sint_int_iGraph_leads_1, lp := [], jn := [] }
theorem FkContainsFunc_Sint_int_iGraph_leads_1_eq (N : Nat) (x : ((List Int) × (Int × (((List ((List Int) × ((List Int) × Unit))) × ((List (List Int)) × ((List Int) × Unit))) × Unit)))) : evFn (XkContainsFunc_Sint_int_iGraph_leads_1 N) Try.f147 dinkContainsFunc_Sint_int_iGraph_leads_1 outkContainsFunc_Sint_int_iGraph_leads_1 x = FkContainsFunc_Sint_int_iGraph_leads_1 N x := by kernel_rfl
theorem cxkContainsFunc_Sint_int_iGraph_leads_1 (N : Nat) : CtxOk Try.prog (XkContainsFunc_Sint_int_iGraph_leads_1 N) := ⟨⟨TE_ok, List.forall_mem_cons.2 ⟨(speckIndexFunc_Sint_int_iGraph_leads_1 N), fun k hk => absurd hk List.not_mem_nil⟩⟩, mixed⟩
theorem speckContainsFunc_Sint_int_iGraph_leads_1 (N : Nat) : Spec Try.prog (conkContainsFunc_Sint_int_iGraph_leads_1 N) :=
  Spec.of_eq (fn_spec (cxkContainsFunc_Sint_int_iGraph_leads_1 N) (f := 147) (fn := Try.f147) (c := codeOf Try.f147) (by kernel_rfl) (by kernel_rfl) (by kernel_rfl) (loops_at (ids := []) (by kernel_rfl) (trivial)) (by kernel_rfl)) (fun x r h => (FkContainsFunc_Sint_int_iGraph_leads_1_eq N x).trans h)

/-! ### 126: impl.Graph).leads -/

noncomputable def diniGraph_leads : Desc := { n := 3, regs := [.one (.val (.pair (.sl (.pair (.sl (.int .i64)) (.pair (.sl (.int .i64)) .unit))) (.pair (.sl (.sl (.int .i64))) (.pair (.sl (.int .i64)) .unit)))), .one (.val (.sl (.int .i64))), .one (.val (.int .i64))], bx := [], pins := [] }
noncomputable def outiGraph_leads : Outs := [(.ret, { n := 1, regs := [.one (.val .bool)], bx := [], pins := [] })]
noncomputable def HiGraph_leads : Hints := [(0, [(0, { fz := true }), (1, { fz := true })])]
noncomputable def EiGraph_leads (N : Nat) : Env := { te := TE, cs := [conkContainsFunc_Sint_int_iGraph_leads_1 N] }
noncomputable def FiGraph_leads (N : Nat) (x : (((List ((List Int) × ((List Int) × Unit))) × ((List (List Int)) × ((List Int) × Unit))) × ((List Int) × (Int × Unit)))) : Option (Bool × Unit) :=
  (FkContainsFunc_Sint_int_iGraph_leads_1 N (x.2.1, x.2.2.1, x.1, ())).bind fun r1 =>
  some (!r1.1, ())
noncomputable def coniGraph_leads (N : Nat) : Con := { f := 126, din := diniGraph_leads, outs := outiGraph_leads, F := FiGraph_leads N }
noncomputable def XiGraph_leads (N : Nat) : Ctx := { E := EiGraph_leads N, H := HiGraph_leads, lp := [], jn := [] }
theorem FiGraph_leads_eq (N : Nat) (x : (((List ((List Int) × ((List Int) × Unit))) × ((List (List Int)) × ((List Int) × Unit))) × ((List Int) × (Int × Unit)))) : evFn (XiGraph_leads N) Try.f126 diniGraph_leads outiGraph_leads x = FiGraph_leads N x := by kernel_rfl
theorem cxiGraph_leads (N : Nat) : CtxOk Try.prog (XiGraph_leads N) := ⟨⟨TE_ok, List.forall_mem_cons.2 ⟨(speckContainsFunc_Sint_int_iGraph_leads_1 N), fun k hk => absurd hk List.not_mem_nil⟩⟩, mixed⟩
theorem speciGraph_leads (N : Nat) : Spec Try.prog (coniGraph_leads N) :=
  Spec.of_eq (fn_spec (cxiGraph_leads N) (f := 126) (fn := Try.f126) (c := codeOf Try.f126) (by kernel_rfl) (by kernel_rfl) (by kernel_rfl) (loops_at (ids := []) (by kernel_rfl) (trivial)) (by kernel_rfl)) (fun x r h => (FiGraph_leads_eq N x).trans h)

/-! ### 66: impl.GraphOk -/

noncomputable def diniGraphOk : Desc := { n := 1, regs := [.one (.val (.pair (.sl (.pair (.sl (.int .i64)) (.pair (.sl (.int .i64)) .unit))) (.pair (.sl (.sl (.int .i64))) (.pair (.sl (.int .i64)) .unit))))], bx := [], pins := [] }
noncomputable def outiGraphOk : Outs := [(.ret, { n := 1, regs := [.one (.val .bool)], bx := [], pins := [] })]
noncomputable def HiGraphOk : Hints := [(0, [(0, { fz := true })])]
noncomputable def EiGraphOk (N : Nat) : Env := { te := TE, cs := [coniGraph_leads N] }
noncomputable def diGraphOk_0 : Desc := { n := 78, regs := [u, .one (.fpt (.pair (.sl (.pair (.sl (.int .i64)) (.pair (.sl (.int .i64)) .unit))) (.pair (.sl (.sl (.int .i64))) (.pair (.sl (.int .i64)) .unit)))), u, u, u, u, u, u, u, u, u, u, u, u, u, u, u, u, u, u, u, u, u, u, u, u, u, u, u, u, u, u, u, u, u, u, u, .one (.val (.sl (.pair (.sl (.int .i64)) (.pair (.sl (.int .i64)) .unit)))), .one (.val (.int .i64)), .one (.val (.int .i64))], bx := [], pins := [] }
noncomputable def oiGraphOk_0 : Outs := [(.exit 0, { n := 78, regs := [u, .one (.fpt (.pair (.sl (.pair (.sl (.int .i64)) (.pair (.sl (.int .i64)) .unit))) (.pair (.sl (.sl (.int .i64))) (.pair (.sl (.int .i64)) .unit))))], bx := [], pins := [] }), (.ret, { n := 78, regs := [u, u, .one (.val .bool)], bx := [], pins := [] })]
noncomputable def diGraphOk_2 : Desc := { n := 78, regs := [u, .one (.fpt (.pair (.sl (.pair (.sl (.int .i64)) (.pair (.sl (.int .i64)) .unit))) (.pair (.sl (.sl (.int .i64))) (.pair (.sl (.int .i64)) .unit)))), u, u, u, u, u, u, u, u, u, u, u, u, u, u, u, u, u, u, u, u, u, u, u, u, u, u, u, u, u, u, u, u, u, u, u, u, u, u, u, u, u, u, u, u, u, u, u, u, u, u, u, u, u, u, u, u, u, u, u, u, .one (.val (.sl (.sl (.int .i64)))), .one (.val (.int .i64)), .one (.val (.int .i64))], bx := [], pins := [] }
noncomputable def oiGraphOk_2 : Outs := [(.exit 2, { n := 78, regs := [], bx := [], pins := [] }), (.ret, { n := 78, regs := [u, u, .one (.val .bool)], bx := [], pins := [] })]
noncomputable def jiGraphOk_3 : Outs := [(.normal, { n := 78, regs := [u, .one (.fpt (.pair (.sl (.pair (.sl (.int .i64)) (.pair (.sl (.int .i64)) .unit))) (.pair (.sl (.sl (.int .i64))) (.pair (.sl (.int .i64)) .unit))))], bx := [], pins := [] }), (.ret, { n := 78, regs := [u, u, .one (.val .bool)], bx := [], pins := [] })]
noncomputable def liGraphOk_0 (N : Nat) : Nat → (((List ((List Int) × ((List Int) × Unit))) × ((List (List Int)) × ((List Int) × Unit))) × ((List ((List Int) × ((List Int) × Unit))) × (Int × (Int × Unit)))) → Option ((((List ((List Int) × ((List Int) × Unit))) × ((List (List Int)) × ((List Int) × Unit))) × Unit) ⊕ (Bool × Unit))
  | 0, _ => none
  | n + 1, v =>
    bif decide (v.2.2.2.1 < v.2.2.1) then
     bif decide (0 ≤ v.2.2.2.1) then
     bif decide (v.2.2.2.1.toNat < v.2.1.length) then
     let y8 := v.2.1.getD v.2.2.2.1.toNat (([] : (List Int)), ([] : (List Int)), ())
     let y9 := decide ((y8.1.length : Int) > (4 : Int))
     bif y9 then
      some (.inr ((false, ())))
     else
     let y10 := decide ((y8.2.1.length : Int) > (4 : Int))
     bif y10 then
      some (.inr ((false, ())))
     else
     (FiGraph_leads N (v.1, y8.1, (-1 : Int), ())).bind fun r11 =>
     bif !r11.1 then
      some (.inr ((false, ())))
     else
     liGraphOk_0 N n (v.1, v.2.1, v.2.2.1, w64 (v.2.2.2.1 + (1 : Int)), ())
     else none
     else none
    else
    some (.inl (v.1, ()))
noncomputable def liGraphOk_2 (N : Nat) : Nat → (((List ((List Int) × ((List Int) × Unit))) × ((List (List Int)) × ((List Int) × Unit))) × ((List (List Int)) × (Int × (Int × Unit)))) → Option (Unit ⊕ (Bool × Unit))
  | 0, _ => none
  | n + 1, v =>
    bif decide (v.2.2.2.1 < v.2.2.1) then
     bif decide (0 ≤ v.2.2.2.1) then
     bif decide (v.2.2.2.1.toNat < v.2.1.length) then
     let y14 := v.2.1.getD v.2.2.2.1.toNat ([] : (List Int))
     let y15 := decide ((y14.length : Int) > (8 : Int))
     bif y15 then
      some (.inr ((false, ())))
     else
     (FiGraph_leads N (v.1, y14, (-1 : Int), ())).bind fun r16 =>
     bif !r16.1 then
      some (.inr ((false, ())))
     else
     liGraphOk_2 N n (v.1, v.2.1, v.2.2.1, w64 (v.2.2.2.1 + (1 : Int)), ())
     else none
     else none
    else
    some (.inl ())
noncomputable def FiGraphOk (N : Nat) (x : (((List ((List Int) × ((List Int) × Unit))) × ((List (List Int)) × ((List Int) × Unit))) × Unit)) : Option (Bool × Unit) :=
  Option.bind (
   let y1 := decide ((x.1.1.length : Int) > (200 : Int))
   bif y1 then
    some (.inr ((false, ())))
   else
   let y2 := decide ((x.1.2.1.length : Int) < (1 : Int))
   bif y2 then
    some (.inr ((false, ())))
   else
   let y3 := decide ((x.1.2.1.length : Int) > (3 : Int))
   bif y3 then
    some (.inr ((false, ())))
   else
   let y4 := decide ((x.1.2.2.1.length : Int) > (8 : Int))
   bif y4 then
    some (.inr ((false, ())))
   else
   (FiGraph_leads N (x.1, x.1.2.2.1, (0 : Int), ())).bind fun r5 =>
   bif !r5.1 then
    some (.inr ((false, ())))
   else
   some (.inl (x.1, ()))) fun o6 =>
  Sum.elim (fun o7 =>
   (liGraphOk_0 N N (o7.1, o7.1.1, (o7.1.1.length : Int), (0 : Int), ())).bind fun o12 =>
   Sum.elim (fun o13 =>
    (liGraphOk_2 N N (o13.1, o13.1.2.1, (o13.1.2.1.length : Int), (0 : Int), ())).bind fun o17 =>
    Sum.elim (fun o18 =>
     some (true, ())) (fun o19 =>
     some (o19.1, ())) o17) (fun o20 =>
    some (o20.1, ())) o12) (fun o21 =>
   some (o21.1, ())) o6
noncomputable def coniGraphOk (N : Nat) : Con := { f := 66, din := diniGraphOk, outs := outiGraphOk, F := FiGraphOk N }
noncomputable def XiGraphOk (N : Nat) : Ctx := { E := EiGraphOk N, H := HiGraphOk, lp := [(0, { hd := diGraphOk_0, outs := oiGraphOk_0, run := fun v => liGraphOk_0 N N v }), (2, { hd := diGraphOk_2, outs := oiGraphOk_2, run := fun v => liGraphOk_2 N N v })], jn := [(3, jiGraphOk_3)] }
noncomputable def biGraphOk_2 : Code := loopBody (codeOf Try.f66) 1
noncomputable def biGraphOk_0 : Code := loopBody (codeOf Try.f66) 0
theorem FiGraphOk_eq (N : Nat) (x : (((List ((List Int) × ((List Int) × Unit))) × ((List (List Int)) × ((List Int) × Unit))) × Unit)) : evFn (XiGraphOk N) Try.f66 diniGraphOk outiGraphOk x = FiGraphOk N x := by kernel_rfl
theorem liGraphOk_0_eq (N n : Nat) (v : (((List ((List Int) × ((List Int) × Unit))) × ((List (List Int)) × ((List Int) × Unit))) × ((List ((List Int) × ((List Int) × Unit))) × (Int × (Int × Unit))))) : liGraphOk_0 N (n + 1) v = ev (XiGraphOk N) biGraphOk_0 (roundK diGraphOk_0 oiGraphOk_0 (liGraphOk_0 N n)) (diGraphOk_0.mk' v) := by kernel_rfl
theorem liGraphOk_2_eq (N n : Nat) (v : (((List ((List Int) × ((List Int) × Unit))) × ((List (List Int)) × ((List Int) × Unit))) × ((List (List Int)) × (Int × (Int × Unit))))) : liGraphOk_2 N (n + 1) v = ev (XiGraphOk N) biGraphOk_2 (roundK diGraphOk_2 oiGraphOk_2 (liGraphOk_2 N n)) (diGraphOk_2.mk' v) := by kernel_rfl
theorem cxiGraphOk (N : Nat) : CtxOk Try.prog (XiGraphOk N) := ⟨⟨TE_ok, List.forall_mem_cons.2 ⟨(speciGraph_leads N), fun k hk => absurd hk List.not_mem_nil⟩⟩, mixed⟩
theorem lpiGraphOk_0 (N : Nat) : LoopOk Try.prog { hd := diGraphOk_0, outs := oiGraphOk_0, run := fun v => liGraphOk_0 N N v } biGraphOk_0 :=
  loop_fuel (d := diGraphOk_0) (os := oiGraphOk_0) (cxiGraphOk N) (loops_at (ids := []) (by kernel_rfl) (trivial)) (liGraphOk_0 N) (fun _ => rfl) (fun n v => liGraphOk_0_eq N n v) (fun _ => N)
theorem lpiGraphOk_2 (N : Nat) : LoopOk Try.prog { hd := diGraphOk_2, outs := oiGraphOk_2, run := fun v => liGraphOk_2 N N v } biGraphOk_2 :=
  loop_fuel (d := diGraphOk_2) (os := oiGraphOk_2) (cxiGraphOk N) (loops_at (ids := []) (by kernel_rfl) (trivial)) (liGraphOk_2 N) (fun _ => rfl) (fun n v => liGraphOk_2_eq N n v) (fun _ => N)
theorem speciGraphOk (N : Nat) : Spec Try.prog (coniGraphOk N) :=
  Spec.of_eq (fn_spec (cxiGraphOk N) (f := 66) (fn := Try.f66) (c := codeOf Try.f66) (by kernel_rfl) (by kernel_rfl) (by kernel_rfl) (loops_at (ids := [0, 2]) (by kernel_rfl) ⟨lp_of (lpiGraphOk_0 N), ⟨lp_of (lpiGraphOk_2 N), trivial⟩⟩) (by kernel_rfl)) (fun x r h => (FiGraphOk_eq N x).trans h)

/-! ### 127: impl.Graph).from$1 -/

noncomputable def diniGraph_from_1_iGraph_from_1 : Desc := { n := 5, regs := [.one (.val (.sl (.int .i64))), .one (.fpt (.int .i64)), .one (.lit (.ptr 128 0)), .one (.lit (.ptr 192 0)), .one (.fpt (.pair (.sl (.pair (.sl (.int .i64)) (.pair (.sl (.int .i64)) .unit))) (.pair (.sl (.sl (.int .i64))) (.pair (.sl (.int .i64)) .unit))))], bx := [(128, .var [.lit (.mrow 129)]), (129, .mp .bool), (192, .var [.clo 127 [.inr (.int .i64), .inl 128, .inl 192, .inr (.pair (.sl (.pair (.sl (.int .i64)) (.pair (.sl (.int .i64)) .unit))) (.pair (.sl (.sl (.int .i64))) (.pair (.sl (.int .i64)) .unit)))]])], pins := [] }
noncomputable def outiGraph_from_1_iGraph_from_1 : Outs := [(.ret, { n := 0, regs := [], bx := [(128, .var [.lit (.mrow 129)]), (129, .mp .bool), (192, .var [.clo 127 [.inr (.int .i64), .inl 128, .inl 192, .inr (.pair (.sl (.pair (.sl (.int .i64)) (.pair (.sl (.int .i64)) .unit))) (.pair (.sl (.sl (.int .i64))) (.pair (.sl (.int .i64)) .unit)))]])], pins := [u, u, .one (.lit (.ptr 128 0)), .one (.lit (.ptr 192 0))] })]
noncomputable def HiGraph_from_1_iGraph_from_1 : Hints := []
noncomputable def diGraph_from_1_iGraph_from_1_0 : Desc := { n := 38, regs := [u, .one (.fpt (.int .i64)), .one (.lit (.ptr 128 0)), .one (.lit (.ptr 192 0)), .one (.fpt (.pair (.sl (.pair (.sl (.int .i64)) (.pair (.sl (.int .i64)) .unit))) (.pair (.sl (.sl (.int .i64))) (.pair (.sl (.int .i64)) .unit)))), u, u, u, .one (.val (.sl (.int .i64))), .one (.val (.int .i64)), .one (.val (.int .i64))], bx := [(128, .var [.lit (.mrow 129)]), (129, .mp .bool), (192, .var [.clo 127 [.inr (.int .i64), .inl 128, .inl 192, .inr (.pair (.sl (.pair (.sl (.int .i64)) (.pair (.sl (.int .i64)) .unit))) (.pair (.sl (.sl (.int .i64))) (.pair (.sl (.int .i64)) .unit)))]])], pins := [u, u, .one (.lit (.ptr 128 0)), .one (.lit (.ptr 192 0))] }
noncomputable def oiGraph_from_1_iGraph_from_1_0 : Outs := [(.exit 0, { n := 38, regs := [], bx := [(128, .var [.lit (.mrow 129)]), (129, .mp .bool), (192, .var [.clo 127 [.inr (.int .i64), .inl 128, .inl 192, .inr (.pair (.sl (.pair (.sl (.int .i64)) (.pair (.sl (.int .i64)) .unit))) (.pair (.sl (.sl (.int .i64))) (.pair (.sl (.int .i64)) .unit)))]])], pins := [u, u, .one (.lit (.ptr 128 0)), .one (.lit (.ptr 192 0))] })]
noncomputable def liGraph_from_1_iGraph_from_1_0 (N : Nat) (f_ : ((List Int) × (Int × (((List ((List Int) × ((List Int) × Unit))) × ((List (List Int)) × ((List Int) × Unit))) × ((List (Int × Bool)) × (Int × (((List ((List Int) × ((List Int) × Unit))) × ((List (List Int)) × ((List Int) × Unit))) × Unit)))))) → Option ((List (Int × Bool)) × (Int × (((List ((List Int) × ((List Int) × Unit))) × ((List (List Int)) × ((List Int) × Unit))) × Unit)))) : Nat → (Int × (((List ((List Int) × ((List Int) × Unit))) × ((List (List Int)) × ((List Int) × Unit))) × ((List Int) × (Int × (Int × ((List (Int × Bool)) × (Int × (((List ((List Int) × ((List Int) × Unit))) × ((List (List Int)) × ((List Int) × Unit))) × Unit)))))))) → Option ((List (Int × Bool)) × (Int × (((List ((List Int) × ((List Int) × Unit))) × ((List (List Int)) × ((List Int) × Unit))) × Unit)))
  | 0, _ => none
  | n + 1, v =>
    bif decide (v.2.2.2.2.1 < v.2.2.2.1) then
     bif decide (0 ≤ v.2.2.2.2.1) then
     bif decide (v.2.2.2.2.1.toNat < v.2.2.1.length) then
     let y1 := v.2.2.1.getD v.2.2.2.2.1.toNat (0 : Int)
     bif decide (y1 ≥ (0 : Int)) then
      bif y1 != v.1 then
       let y2 := !((mget v.2.2.2.2.2.1 y1).getD false)
       bif y2 then
        bif decide (0 ≤ y1) then
        bif decide (y1.toNat < v.2.1.1.length) then
        let y3 := v.2.1.1.getD y1.toNat (([] : (List Int)), ([] : (List Int)), ())
        (f_ (y3.1, v.2.2.2.2.2.2.1, v.2.2.2.2.2.2.2.1, mset v.2.2.2.2.2.1 y1 true, v.2.2.2.2.2.2.1, v.2.2.2.2.2.2.2.1, ())).bind fun r4 =>
        liGraph_from_1_iGraph_from_1_0 N f_ n (v.1, v.2.1, v.2.2.1, v.2.2.2.1, w64 (v.2.2.2.2.1 + (1 : Int)), r4.1, r4.2.1, r4.2.2.1, ())
        else none
        else none
       else
       liGraph_from_1_iGraph_from_1_0 N f_ n (v.1, v.2.1, v.2.2.1, v.2.2.2.1, w64 (v.2.2.2.2.1 + (1 : Int)), v.2.2.2.2.2.1, v.2.2.2.2.2.2.1, v.2.2.2.2.2.2.2.1, ())
      else
      liGraph_from_1_iGraph_from_1_0 N f_ n (v.1, v.2.1, v.2.2.1, v.2.2.2.1, w64 (v.2.2.2.2.1 + (1 : Int)), v.2.2.2.2.2.1, v.2.2.2.2.2.2.1, v.2.2.2.2.2.2.2.1, ())
     else
     liGraph_from_1_iGraph_from_1_0 N f_ n (v.1, v.2.1, v.2.2.1, v.2.2.2.1, w64 (v.2.2.2.2.1 + (1 : Int)), v.2.2.2.2.2.1, v.2.2.2.2.2.2.1, v.2.2.2.2.2.2.2.1, ())
     else none
     else none
    else
    some (v.2.2.2.2.2.1, v.2.2.2.2.2.2.1, v.2.2.2.2.2.2.2.1, ())
noncomputable def FiGraph_from_1_iGraph_from_1 (N : Nat) : Nat → ((List Int) × (Int × (((List ((List Int) × ((List Int) × Unit))) × ((List (List Int)) × ((List Int) × Unit))) × ((List (Int × Bool)) × (Int × (((List ((List Int) × ((List Int) × Unit))) × ((List (List Int)) × ((List Int) × Unit))) × Unit)))))) → Option ((List (Int × Bool)) × (Int × (((List ((List Int) × ((List Int) × Unit))) × ((List (List Int)) × ((List Int) × Unit))) × Unit)))
  | 0, _ => none
  | m_ + 1, x =>
  (liGraph_from_1_iGraph_from_1_0 N (fun x_ => FiGraph_from_1_iGraph_from_1 N m_ x_) N (x.2.1, x.2.2.1, x.1, (x.1.length : Int), (0 : Int), x.2.2.2.1, x.2.2.2.2.1, x.2.2.2.2.2.1, ())).bind fun o5 =>
  some (o5.1, o5.2.1, o5.2.2.1, ())
noncomputable def coniGraph_from_1_iGraph_from_1 (N : Nat) (m_ : Nat) : Con := { f := 127, din := diniGraph_from_1_iGraph_from_1, outs := outiGraph_from_1_iGraph_from_1, F := FiGraph_from_1_iGraph_from_1 N m_ }
noncomputable def EiGraph_from_1_iGraph_from_1 (N : Nat) (m_ : Nat) : Env := { te := TE, cs := [coniGraph_from_1_iGraph_from_1 N m_] }
noncomputable def XiGraph_from_1_iGraph_from_1 (N : Nat) (m_ : Nat) : Ctx := { E := EiGraph_from_1_iGraph_from_1 N m_, H := HiGraph_from_1_iGraph_from_1, lp := [(0, { hd := diGraph_from_1_iGraph_from_1_0, outs := oiGraph_from_1_iGraph_from_1_0, run := fun v => liGraph_from_1_iGraph_from_1_0 N (fun x_ => FiGraph_from_1_iGraph_from_1 N m_ x_) N v })], jn := [] }
noncomputable def biGraph_from_1_iGraph_from_1_0 : Code := loopBody (codeOf Try.f127) 0
theorem FiGraph_from_1_iGraph_from_1_eq (N m_ : Nat) (x : ((List Int) × (Int × (((List ((List Int) × ((List Int) × Unit))) × ((List (List Int)) × ((List Int) × Unit))) × ((List (Int × Bool)) × (Int × (((List ((List Int) × ((List Int) × Unit))) × ((List (List Int)) × ((List Int) × Unit))) × Unit))))))) : evFn (XiGraph_from_1_iGraph_from_1 N m_) Try.f127 diniGraph_from_1_iGraph_from_1 outiGraph_from_1_iGraph_from_1 x = FiGraph_from_1_iGraph_from_1 N (m_ + 1) x := by kernel_rfl
theorem liGraph_from_1_iGraph_from_1_0_eq (N m_ n : Nat) (v : (Int × (((List ((List Int) × ((List Int) × Unit))) × ((List (List Int)) × ((List Int) × Unit))) × ((List Int) × (Int × (Int × ((List (Int × Bool)) × (Int × (((List ((List Int) × ((List Int) × Unit))) × ((List (List Int)) × ((List Int) × Unit))) × Unit))))))))) : liGraph_from_1_iGraph_from_1_0 N (fun x_ => FiGraph_from_1_iGraph_from_1 N m_ x_) (n + 1) v = ev (XiGraph_from_1_iGraph_from_1 N m_) biGraph_from_1_iGraph_from_1_0 (roundK diGraph_from_1_iGraph_from_1_0 oiGraph_from_1_iGraph_from_1_0 (liGraph_from_1_iGraph_from_1_0 N (fun x_ => FiGraph_from_1_iGraph_from_1 N m_ x_) n)) (diGraph_from_1_iGraph_from_1_0.mk' v) := by kernel_rfl
theorem cxiGraph_from_1_iGraph_from_1 (N : Nat) (m_ : Nat) (hs : Spec Try.prog (coniGraph_from_1_iGraph_from_1 N m_)) : CtxOk Try.prog (XiGraph_from_1_iGraph_from_1 N m_) := ⟨⟨TE_ok, List.forall_mem_cons.2 ⟨hs, fun k hk => absurd hk List.not_mem_nil⟩⟩, mixed⟩
theorem lpiGraph_from_1_iGraph_from_1_0 (N : Nat) (m_ : Nat) (hs : Spec Try.prog (coniGraph_from_1_iGraph_from_1 N m_)) : LoopOk Try.prog { hd := diGraph_from_1_iGraph_from_1_0, outs := oiGraph_from_1_iGraph_from_1_0, run := fun v => liGraph_from_1_iGraph_from_1_0 N (fun x_ => FiGraph_from_1_iGraph_from_1 N m_ x_) N v } biGraph_from_1_iGraph_from_1_0 :=
  loop_fuel (d := diGraph_from_1_iGraph_from_1_0) (os := oiGraph_from_1_iGraph_from_1_0) (cxiGraph_from_1_iGraph_from_1 N m_ hs) (loops_at (ids := []) (by kernel_rfl) (trivial)) (liGraph_from_1_iGraph_from_1_0 N (fun x_ => FiGraph_from_1_iGraph_from_1 N m_ x_)) (fun _ => rfl) (fun n v => liGraph_from_1_iGraph_from_1_0_eq N m_ n v) (fun _ => N)
theorem cziGraph_from_1_iGraph_from_1 : CtxOk Try.prog { E := { te := TE, cs := [] }, H := [], lp := [], jn := [] } := ⟨⟨TE_ok, fun k hk => absurd hk List.not_mem_nil⟩, mixed⟩
theorem speciGraph_from_1_iGraph_from_1 (N : Nat) : ∀ m_ : Nat, Spec Try.prog (coniGraph_from_1_iGraph_from_1 N m_)
  | 0 => Spec.of_eq (fn_spec (cziGraph_from_1_iGraph_from_1) (f := 127) (fn := Try.f127) (din := diniGraph_from_1_iGraph_from_1) (os := outiGraph_from_1_iGraph_from_1) (c := codeOf Try.f127) (by kernel_rfl) (by kernel_rfl) (by kernel_rfl) (loops_at (ids := [0]) (by kernel_rfl) ⟨lp_none, trivial⟩) (by kernel_rfl)) (fun x r h => nomatch (show (none : Option _) = some r from h))
  | m_ + 1 => Spec.of_eq (fn_spec (cxiGraph_from_1_iGraph_from_1 N m_ (speciGraph_from_1_iGraph_from_1 N m_)) (f := 127) (fn := Try.f127) (c := codeOf Try.f127) (by kernel_rfl) (by kernel_rfl) (by kernel_rfl) (loops_at (ids := [0]) (by kernel_rfl) ⟨lp_of (lpiGraph_from_1_iGraph_from_1_0 N m_ (speciGraph_from_1_iGraph_from_1 N m_)), trivial⟩) (by kernel_rfl)) (fun x r h => (FiGraph_from_1_iGraph_from_1_eq N m_ x).trans h)

/-! ### 67: impl.Graph).from -/

noncomputable def diniGraph_from : Desc := { n := 3, regs := [.one (.val (.pair (.sl (.pair (.sl (.int .i64)) (.pair (.sl (.int .i64)) .unit))) (.pair (.sl (.sl (.int .i64))) (.pair (.sl (.int .i64)) .unit)))), .one (.val (.sl (.int .i64))), .one (.val (.int .i64))], bx := [], pins := [] }
noncomputable def outiGraph_from : Outs := [(.ret, { n := 1, regs := [.one (.lit (.mrow 1012800))], bx := [(1012800, .mp .bool)], pins := [] })]
noncomputable def HiGraph_from : Hints := [(0, [(0, { fz := true }), (1, { fz := true })]),
  (4, [(2, { sg := [(128, 1012864), (129, 1012800), (192, 1025600)] })])]
noncomputable def EiGraph_from (N : Nat) : Env := { te := TE, cs := [coniGraph_from_1_iGraph_from_1 N N] }
noncomputable def FiGraph_from (N : Nat) (x : (((List ((List Int) × ((List Int) × Unit))) × ((List (List Int)) × ((List Int) × Unit))) × ((List Int) × (Int × Unit)))) : Option ((List (Int × Bool)) × Unit) :=
  (FiGraph_from_1_iGraph_from_1 N N (x.2.1, x.2.2.1, x.1, ([] : (List (Int × Bool))), x.2.2.1, x.1, ())).bind fun r1 =>
  some (r1.1, ())
noncomputable def coniGraph_from (N : Nat) : Con := { f := 67, din := diniGraph_from, outs := outiGraph_from, F := FiGraph_from N }
noncomputable def XiGraph_from (N : Nat) : Ctx := { E := EiGraph_from N, H := HiGraph_from, lp := [], jn := [] }
theorem FiGraph_from_eq (N : Nat) (x : (((List ((List Int) × ((List Int) × Unit))) × ((List (List Int)) × ((List Int) × Unit))) × ((List Int) × (Int × Unit)))) : evFn (XiGraph_from N) Try.f67 diniGraph_from outiGraph_from x = FiGraph_from N x := by kernel_rfl
theorem cxiGraph_from (N : Nat) : CtxOk Try.prog (XiGraph_from N) := ⟨⟨TE_ok, List.forall_mem_cons.2 ⟨(speciGraph_from_1_iGraph_from_1 N N), fun k hk => absurd hk List.not_mem_nil⟩⟩, mixed⟩
theorem speciGraph_from (N : Nat) : Spec Try.prog (coniGraph_from N) :=
  Spec.of_eq (fn_spec (cxiGraph_from N) (f := 67) (fn := Try.f67) (c := codeOf Try.f67) (by kernel_rfl) (by kernel_rfl) (by kernel_rfl) (loops_at (ids := []) (by kernel_rfl) (trivial)) (by kernel_rfl)) (fun x r h => (FiGraph_from_eq N x).trans h)

/-! ### 18: impl.PathShared -/

noncomputable def diniPathShared : Desc := { n := 1, regs := [.one (.val (.pair (.sl (.pair (.sl (.int .i64)) (.pair (.sl (.int .i64)) .unit))) (.pair (.sl (.sl (.int .i64))) (.pair (.sl (.int .i64)) .unit))))], bx := [], pins := [] }
noncomputable def outiPathShared : Outs := [(.ret, { n := 1, regs := [.one (.lit (.row 1025600))], bx := [(1025600, .row (.int .i64))], pins := [] })]
noncomputable def HiPathShared : Hints := [(0, [(0, { fz := true })]),
  (2, [(0, { nl := [(0, (.int .i64))] })]),
  (7, [(2, { con := 1 }), (3, { pre := [.freeze 1089729] })]),
  (12, [(0, { nl := [(0, (.int .i64))] })])]
noncomputable def EiPathShared (N : Nat) : Env := { te := TE, cs := [coniGraphOk N, coniGraph_from N] }
noncomputable def diPathShared_2 : Desc := { n := 54, regs := [u, .one (.fpt (.pair (.sl (.pair (.sl (.int .i64)) (.pair (.sl (.int .i64)) .unit))) (.pair (.sl (.sl (.int .i64))) (.pair (.sl (.int .i64)) .unit)))), u, .one (.lit (.row 1038592)), u, u, u, u, u, u, u, u, u, u, u, u, u, u, .one (.val (.sl (.sl (.int .i64)))), .one (.val (.int .i64)), .one (.val (.int .i64)), u, u, u, u, u, u, .one (.lit (.it 1089792))], bx := [(1038592, .row (.int .i64)), (1089792, .it .bool)], pins := [] }
noncomputable def oiPathShared_2 : Outs := [(.exit 2, { n := 54, regs := [u, .one (.fpt (.pair (.sl (.pair (.sl (.int .i64)) (.pair (.sl (.int .i64)) .unit))) (.pair (.sl (.sl (.int .i64))) (.pair (.sl (.int .i64)) .unit)))), u, .one (.lit (.row 1038592)), u, u, u, u, u, u, u, u, u, u, u, u, u, u, .one (.val (.sl (.sl (.int .i64)))), .one (.val (.int .i64)), .one (.val (.int .i64))], bx := [(1038592, .row (.int .i64))], pins := [] })]
noncomputable def diPathShared_0 : Desc := { n := 54, regs := [u, .one (.fpt (.pair (.sl (.pair (.sl (.int .i64)) (.pair (.sl (.int .i64)) .unit))) (.pair (.sl (.sl (.int .i64))) (.pair (.sl (.int .i64)) .unit)))), u, .one (.lit (.row 1038592)), u, u, u, u, u, u, u, u, u, u, u, u, u, u, .one (.val (.sl (.sl (.int .i64)))), .one (.val (.int .i64)), .one (.val (.int .i64))], bx := [(1038592, .row (.int .i64))], pins := [] }
noncomputable def oiPathShared_0 : Outs := [(.exit 0, { n := 54, regs := [u, u, u, .one (.lit (.row 1038592))], bx := [(1038592, .row (.int .i64))], pins := [] })]
noncomputable def diPathShared_4 : Desc := { n := 54, regs := [u, u, u, u, u, u, u, .one (.lit (.row 1153600)), u, u, u, u, u, u, u, u, u, u, u, u, u, u, u, u, u, u, u, u, u, u, u, u, u, u, u, u, u, u, u, .one (.lit (.row 1038592)), .one (.val (.int .i64)), .one (.val (.int .i64))], bx := [(1153600, .row (.int .i64)), (1038592, .row (.int .i64))], pins := [] }
noncomputable def oiPathShared_4 : Outs := [(.exit 4, { n := 54, regs := [u, u, u, u, u, u, u, .one (.lit (.row 1153600))], bx := [(1153600, .row (.int .i64))], pins := [] })]
noncomputable def liPathShared_2 (N : Nat) : Nat → (((List ((List Int) × ((List Int) × Unit))) × ((List (List Int)) × ((List Int) × Unit))) × ((List (List Int)) × (Int × (Int × ((List Int) × ((List (Int × Bool)) × Unit)))))) → Option (((List ((List Int) × ((List Int) × Unit))) × ((List (List Int)) × ((List Int) × Unit))) × ((List (List Int)) × (Int × (Int × ((List Int) × Unit)))))
  | 0, _ => none
  | n + 1, v =>
    bif v.2.2.2.2.2.1.isEmpty then
     some (v.1, v.2.1, v.2.2.1, v.2.2.2.1, v.2.2.2.2.1, ())
    else
    anyOf (v.2.2.2.2.2.1.length) fun i5 =>
     bif decide (0 ≤ ((v.2.2.2.2.2.1.getD i5 (0, false)).1)) then
     bif decide (((v.2.2.2.2.2.1.getD i5 (0, false)).1).toNat < v.2.2.2.2.1.length) then
     let y6 := ((v.2.2.2.2.2.1.getD i5 (0, false)).1).toNat
     let y7 := w64 ((v.2.2.2.2.1.getD y6 (0 : Int)) + (1 : Int))
     bif decide (0 ≤ ((v.2.2.2.2.2.1.getD i5 (0, false)).1)) then
     bif decide (((v.2.2.2.2.2.1.getD i5 (0, false)).1).toNat < v.2.2.2.2.1.length) then
     let y8 := ((v.2.2.2.2.2.1.getD i5 (0, false)).1).toNat
     liPathShared_2 N n (v.1, v.2.1, v.2.2.1, v.2.2.2.1, v.2.2.2.2.1.set y8 y7, v.2.2.2.2.2.1.eraseIdx i5, ())
     else none
     else none
     else none
     else none
noncomputable def liPathShared_0 (N : Nat) : Nat → (((List ((List Int) × ((List Int) × Unit))) × ((List (List Int)) × ((List Int) × Unit))) × ((List (List Int)) × (Int × (Int × ((List Int) × Unit))))) → Option ((List Int) × Unit)
  | 0, _ => none
  | n + 1, v =>
    bif decide (v.2.2.2.1 < v.2.2.1) then
     bif decide (0 ≤ v.2.2.2.1) then
     bif decide (v.2.2.2.1.toNat < v.2.1.length) then
     let y3 := v.2.1.getD v.2.2.2.1.toNat ([] : (List Int))
     (FiGraph_from N (v.1, y3, (-1 : Int), ())).bind fun r4 =>
     (liPathShared_2 N N (v.1, v.2.1, v.2.2.1, v.2.2.2.1, v.2.2.2.2.1, r4.1, ())).bind fun o9 =>
     liPathShared_0 N n (o9.1, o9.2.1, o9.2.2.1, w64 (o9.2.2.2.1 + (1 : Int)), o9.2.2.2.2.1, ())
     else none
     else none
    else
    some (v.2.2.2.2.1, ())
noncomputable def liPathShared_4 (N : Nat) : Nat → (Int × (Int × ((List Int) × ((List Int) × Unit)))) → Option ((List Int) × Unit)
  | 0, _ => none
  | n + 1, v =>
    bif decide (v.2.1 < v.1) then
     bif decide (0 ≤ v.2.1) then
     bif decide (v.2.1.toNat < v.2.2.2.1.length) then
     let y11 := decide ((v.2.2.2.1.getD v.2.1.toNat (0 : Int)) > (1 : Int))
     bif y11 then
      bif decide (v.2.2.1.length + [v.2.1].length ≤ lim) then
      liPathShared_4 N n (v.1, w64 (v.2.1 + (1 : Int)), v.2.2.1 ++ [v.2.1], v.2.2.2.1, ())
      else none
     else
     liPathShared_4 N n (v.1, w64 (v.2.1 + (1 : Int)), v.2.2.1, v.2.2.2.1, ())
     else none
     else none
    else
    some (v.2.2.1, ())
noncomputable def FiPathShared (N : Nat) (x : (((List ((List Int) × ((List Int) × Unit))) × ((List (List Int)) × ((List Int) × Unit))) × Unit)) : Option ((List Int) × Unit) :=
  (FiGraphOk N (x.1, ())).bind fun r1 =>
  bif !r1.1 then
   some (([] : (List Int)), ())
  else
  bif decide (0 ≤ (x.1.1.length : Int)) then
  bif decide ((x.1.1.length : Int).toNat ≤ lim) then
  let y2 := List.replicate (x.1.1.length : Int).toNat (0 : Int)
  (liPathShared_0 N N (x.1, x.1.2.1, (x.1.2.1.length : Int), (0 : Int), y2, ())).bind fun o10 =>
  (liPathShared_4 N N ((o10.1.length : Int), (0 : Int), ([] : (List Int)), o10.1, ())).bind fun o12 =>
  some (o12.1, ())
  else none
  else none
noncomputable def coniPathShared (N : Nat) : Con := { f := 18, din := diniPathShared, outs := outiPathShared, F := FiPathShared N }
noncomputable def XiPathShared (N : Nat) : Ctx := { E := EiPathShared N, H := HiPathShared, lp := [(2, { hd := diPathShared_2, outs := oiPathShared_2, run := fun v => liPathShared_2 N N v }), (0, { hd := diPathShared_0, outs := oiPathShared_0, run := fun v => liPathShared_0 N N v }), (4, { hd := diPathShared_4, outs := oiPathShared_4, run := fun v => liPathShared_4 N N v })], jn := [] }
noncomputable def biPathShared_4 : Code := loopBody (codeOf Try.f18) 1
noncomputable def biPathShared_0 : Code := loopBody (codeOf Try.f18) 0
noncomputable def biPathShared_2 : Code := loopBody biPathShared_0 0
theorem FiPathShared_eq (N : Nat) (x : (((List ((List Int) × ((List Int) × Unit))) × ((List (List Int)) × ((List Int) × Unit))) × Unit)) : evFn (XiPathShared N) Try.f18 diniPathShared outiPathShared x = FiPathShared N x := by kernel_rfl
theorem liPathShared_2_eq (N n : Nat) (v : (((List ((List Int) × ((List Int) × Unit))) × ((List (List Int)) × ((List Int) × Unit))) × ((List (List Int)) × (Int × (Int × ((List Int) × ((List (Int × Bool)) × Unit))))))) : liPathShared_2 N (n + 1) v = ev (XiPathShared N) biPathShared_2 (roundK diPathShared_2 oiPathShared_2 (liPathShared_2 N n)) (diPathShared_2.mk' v) := by kernel_rfl
theorem liPathShared_0_eq (N n : Nat) (v : (((List ((List Int) × ((List Int) × Unit))) × ((List (List Int)) × ((List Int) × Unit))) × ((List (List Int)) × (Int × (Int × ((List Int) × Unit)))))) : liPathShared_0 N (n + 1) v = ev (XiPathShared N) biPathShared_0 (roundK diPathShared_0 oiPathShared_0 (liPathShared_0 N n)) (diPathShared_0.mk' v) := by kernel_rfl
theorem liPathShared_4_eq (N n : Nat) (v : (Int × (Int × ((List Int) × ((List Int) × Unit))))) : liPathShared_4 N (n + 1) v = ev (XiPathShared N) biPathShared_4 (roundK diPathShared_4 oiPathShared_4 (liPathShared_4 N n)) (diPathShared_4.mk' v) := by kernel_rfl
theorem cxiPathShared (N : Nat) : CtxOk Try.prog (XiPathShared N) := ⟨⟨TE_ok, List.forall_mem_cons.2 ⟨(speciGraphOk N), List.forall_mem_cons.2 ⟨(speciGraph_from N), fun k hk => absurd hk List.not_mem_nil⟩⟩⟩, mixed⟩
theorem lpiPathShared_2 (N : Nat) : LoopOk Try.prog { hd := diPathShared_2, outs := oiPathShared_2, run := fun v => liPathShared_2 N N v } biPathShared_2 :=
  loop_fuel (d := diPathShared_2) (os := oiPathShared_2) (cxiPathShared N) (loops_at (ids := []) (by kernel_rfl) (trivial)) (liPathShared_2 N) (fun _ => rfl) (fun n v => liPathShared_2_eq N n v) (fun _ => N)
theorem lpiPathShared_0 (N : Nat) : LoopOk Try.prog { hd := diPathShared_0, outs := oiPathShared_0, run := fun v => liPathShared_0 N N v } biPathShared_0 :=
  loop_fuel (d := diPathShared_0) (os := oiPathShared_0) (cxiPathShared N) (loops_at (ids := [2]) (by kernel_rfl) ⟨lp_of (lpiPathShared_2 N), trivial⟩) (liPathShared_0 N) (fun _ => rfl) (fun n v => liPathShared_0_eq N n v) (fun _ => N)
theorem lpiPathShared_4 (N : Nat) : LoopOk Try.prog { hd := diPathShared_4, outs := oiPathShared_4, run := fun v => liPathShared_4 N N v } biPathShared_4 :=
  loop_fuel (d := diPathShared_4) (os := oiPathShared_4) (cxiPathShared N) (loops_at (ids := []) (by kernel_rfl) (trivial)) (liPathShared_4 N) (fun _ => rfl) (fun n v => liPathShared_4_eq N n v) (fun _ => N)
theorem speciPathShared (N : Nat) : Spec Try.prog (coniPathShared N) :=
  Spec.of_eq (fn_spec (cxiPathShared N) (f := 18) (fn := Try.f18) (c := codeOf Try.f18) (by kernel_rfl) (by kernel_rfl) (by kernel_rfl) (loops_at (ids := [0, 4]) (by kernel_rfl) ⟨lp_of (lpiPathShared_0 N), ⟨lp_of (lpiPathShared_4 N), trivial⟩⟩) (by kernel_rfl)) (fun x r h => (FiPathShared_eq N x).trans h)

/-! ### 19: laws.eqIntS -/

noncomputable def dinveqIntS : Desc := { n := 2, regs := [.one (.val (.sl (.int .i64))), .one (.val (.sl (.int .i64)))], bx := [], pins := [] }
noncomputable def outveqIntS : Outs := [(.ret, { n := 1, regs := [.one (.val .bool)], bx := [], pins := [] })]
noncomputable def HveqIntS : Hints := []
noncomputable def EveqIntS (_N : Nat) : Env := { te := TE, cs := [] }
noncomputable def dveqIntS_0 : Desc := { n := 26, regs := [.one (.val (.sl (.int .i64))), .one (.val (.sl (.int .i64))), u, u, u, .one (.val (.int .i64))], bx := [], pins := [] }
noncomputable def oveqIntS_0 : Outs := [(.exit 0, { n := 26, regs := [], bx := [], pins := [] }), (.ret, { n := 26, regs := [u, u, u, u, .one (.val .bool)], bx := [], pins := [] })]
noncomputable def lveqIntS_0 (N : Nat) : Nat → ((List Int) × ((List Int) × (Int × Unit))) → Option (Unit ⊕ (Bool × Unit))
  | 0, _ => none
  | n + 1, v =>
    let y2 := decide (v.2.2.1 < (v.1.length : Int))
    bif y2 then
     bif decide (0 ≤ v.2.2.1) then
     bif decide (v.2.2.1.toNat < v.1.length) then
     bif decide (0 ≤ v.2.2.1) then
     bif decide (v.2.2.1.toNat < v.2.1.length) then
     let y3 := (v.1.getD v.2.2.1.toNat (0 : Int)) != (v.2.1.getD v.2.2.1.toNat (0 : Int))
     bif y3 then
      some (.inr ((false, ())))
     else
     lveqIntS_0 N n (v.1, v.2.1, w64 (v.2.2.1 + (1 : Int)), ())
     else none
     else none
     else none
     else none
    else
    some (.inl ())
noncomputable def FveqIntS (N : Nat) (x : ((List Int) × ((List Int) × Unit))) : Option (Bool × Unit) :=
  let y1 := (x.1.length : Int) != (x.2.1.length : Int)
  bif y1 then
   some (false, ())
  else
  (lveqIntS_0 N N (x.1, x.2.1, (0 : Int), ())).bind fun o4 =>
  Sum.elim (fun o5 =>
   some (true, ())) (fun o6 =>
   some (o6.1, ())) o4
noncomputable def conveqIntS (N : Nat) : Con := { f := 19, din := dinveqIntS, outs := outveqIntS, F := FveqIntS N }
noncomputable def XveqIntS (N : Nat) : Ctx := { E := EveqIntS N, H := HveqIntS, lp := [(0, { hd := dveqIntS_0, outs := oveqIntS_0, run := fun v => lveqIntS_0 N N v })], jn := [] }
noncomputable def bveqIntS_0 : Code := loopBody (codeOf Try.f19) 0
theorem FveqIntS_eq (N : Nat) (x : ((List Int) × ((List Int) × Unit))) : evFn (XveqIntS N) Try.f19 dinveqIntS outveqIntS x = FveqIntS N x := by kernel_rfl
theorem lveqIntS_0_eq (N n : Nat) (v : ((List Int) × ((List Int) × (Int × Unit)))) : lveqIntS_0 N (n + 1) v = ev (XveqIntS N) bveqIntS_0 (roundK dveqIntS_0 oveqIntS_0 (lveqIntS_0 N n)) (dveqIntS_0.mk' v) := by kernel_rfl
theorem cxveqIntS (N : Nat) : CtxOk Try.prog (XveqIntS N) := ⟨⟨TE_ok, fun k hk => absurd hk List.not_mem_nil⟩, mixed⟩
theorem lpveqIntS_0 (N : Nat) : LoopOk Try.prog { hd := dveqIntS_0, outs := oveqIntS_0, run := fun v => lveqIntS_0 N N v } bveqIntS_0 :=
  loop_fuel (d := dveqIntS_0) (os := oveqIntS_0) (cxveqIntS N) (loops_at (ids := []) (by kernel_rfl) (trivial)) (lveqIntS_0 N) (fun _ => rfl) (fun n v => lveqIntS_0_eq N n v) (fun _ => N)
theorem specveqIntS (N : Nat) : Spec Try.prog (conveqIntS N) :=
  Spec.of_eq (fn_spec (cxveqIntS N) (f := 19) (fn := Try.f19) (c := codeOf Try.f19) (by kernel_rfl) (by kernel_rfl) (by kernel_rfl) (loops_at (ids := [0]) (by kernel_rfl) ⟨lp_of (lpveqIntS_0 N), trivial⟩) (by kernel_rfl)) (fun x r h => (FveqIntS_eq N x).trans h)

/-! ### 128: laws.eqNode -/

noncomputable def dinveqNode : Desc := { n := 2, regs := [.one (.val (.pair (.sl (.int .i64)) (.pair (.sl (.int .i64)) .unit))), .one (.val (.pair (.sl (.int .i64)) (.pair (.sl (.int .i64)) .unit)))], bx := [], pins := [] }
noncomputable def outveqNode : Outs := [(.ret, { n := 1, regs := [.one (.val .bool)], bx := [], pins := [] })]
noncomputable def HveqNode : Hints := [(0, [(0, { fz := true }), (1, { fz := true })])]
noncomputable def EveqNode (N : Nat) : Env := { te := TE, cs := [conveqIntS N] }
noncomputable def FveqNode (N : Nat) (x : (((List Int) × ((List Int) × Unit)) × (((List Int) × ((List Int) × Unit)) × Unit))) : Option (Bool × Unit) :=
  (FveqIntS N (x.1.1, x.2.1.1, ())).bind fun r1 =>
  bif !r1.1 then
   some (false, ())
  else
  (FveqIntS N (x.1.2.1, x.2.1.2.1, ())).bind fun r2 =>
  bif !r2.1 then
   some (false, ())
  else
  some (true, ())
noncomputable def conveqNode (N : Nat) : Con := { f := 128, din := dinveqNode, outs := outveqNode, F := FveqNode N }
noncomputable def XveqNode (N : Nat) : Ctx := { E := EveqNode N, H := HveqNode, lp := [], jn := [] }
theorem FveqNode_eq (N : Nat) (x : (((List Int) × ((List Int) × Unit)) × (((List Int) × ((List Int) × Unit)) × Unit))) : evFn (XveqNode N) Try.f128 dinveqNode outveqNode x = FveqNode N x := by kernel_rfl
theorem cxveqNode (N : Nat) : CtxOk Try.prog (XveqNode N) := ⟨⟨TE_ok, List.forall_mem_cons.2 ⟨(specveqIntS N), fun k hk => absurd hk List.not_mem_nil⟩⟩, mixed⟩
theorem specveqNode (N : Nat) : Spec Try.prog (conveqNode N) :=
  Spec.of_eq (fn_spec (cxveqNode N) (f := 128) (fn := Try.f128) (c := codeOf Try.f128) (by kernel_rfl) (by kernel_rfl) (by kernel_rfl) (loops_at (ids := []) (by kernel_rfl) (trivial)) (by kernel_rfl)) (fun x r h => (FveqNode_eq N x).trans h)

/-! ### 68: laws.eqNodeS -/

noncomputable def dinveqNodeS : Desc := { n := 2, regs := [.one (.val (.sl (.pair (.sl (.int .i64)) (.pair (.sl (.int .i64)) .unit)))), .one (.val (.sl (.pair (.sl (.int .i64)) (.pair (.sl (.int .i64)) .unit))))], bx := [], pins := [] }
noncomputable def outveqNodeS : Outs := [(.ret, { n := 1, regs := [.one (.val .bool)], bx := [], pins := [] })]
noncomputable def HveqNodeS : Hints := []
noncomputable def EveqNodeS (N : Nat) : Env := { te := TE, cs := [conveqNode N] }
noncomputable def dveqNodeS_0 : Desc := { n := 27, regs := [.one (.val (.sl (.pair (.sl (.int .i64)) (.pair (.sl (.int .i64)) .unit)))), .one (.val (.sl (.pair (.sl (.int .i64)) (.pair (.sl (.int .i64)) .unit)))), u, u, u, .one (.val (.int .i64))], bx := [], pins := [] }
noncomputable def oveqNodeS_0 : Outs := [(.exit 0, { n := 27, regs := [], bx := [], pins := [] }), (.ret, { n := 27, regs := [u, u, u, u, .one (.val .bool)], bx := [], pins := [] })]
noncomputable def lveqNodeS_0 (N : Nat) : Nat → ((List ((List Int) × ((List Int) × Unit))) × ((List ((List Int) × ((List Int) × Unit))) × (Int × Unit))) → Option (Unit ⊕ (Bool × Unit))
  | 0, _ => none
  | n + 1, v =>
    let y2 := decide (v.2.2.1 < (v.1.length : Int))
    bif y2 then
     bif decide (0 ≤ v.2.2.1) then
     bif decide (v.2.2.1.toNat < v.1.length) then
     let y3 := v.1.getD v.2.2.1.toNat (([] : (List Int)), ([] : (List Int)), ())
     bif decide (0 ≤ v.2.2.1) then
     bif decide (v.2.2.1.toNat < v.2.1.length) then
     let y4 := v.2.1.getD v.2.2.1.toNat (([] : (List Int)), ([] : (List Int)), ())
     (FveqNode N (y3, y4, ())).bind fun r5 =>
     bif !r5.1 then
      some (.inr ((false, ())))
     else
     lveqNodeS_0 N n (v.1, v.2.1, w64 (v.2.2.1 + (1 : Int)), ())
     else none
     else none
     else none
     else none
    else
    some (.inl ())
noncomputable def FveqNodeS (N : Nat) (x : ((List ((List Int) × ((List Int) × Unit))) × ((List ((List Int) × ((List Int) × Unit))) × Unit))) : Option (Bool × Unit) :=
  let y1 := (x.1.length : Int) != (x.2.1.length : Int)
  bif y1 then
   some (false, ())
  else
  (lveqNodeS_0 N N (x.1, x.2.1, (0 : Int), ())).bind fun o6 =>
  Sum.elim (fun o7 =>
   some (true, ())) (fun o8 =>
   some (o8.1, ())) o6
noncomputable def conveqNodeS (N : Nat) : Con := { f := 68, din := dinveqNodeS, outs := outveqNodeS, F := FveqNodeS N }
noncomputable def XveqNodeS (N : Nat) : Ctx := { E := EveqNodeS N, H := HveqNodeS, lp := [(0, { hd := dveqNodeS_0, outs := oveqNodeS_0, run := fun v => lveqNodeS_0 N N v })], jn := [] }
noncomputable def bveqNodeS_0 : Code := loopBody (codeOf Try.f68) 0
theorem FveqNodeS_eq (N : Nat) (x : ((List ((List Int) × ((List Int) × Unit))) × ((List ((List Int) × ((List Int) × Unit))) × Unit))) : evFn (XveqNodeS N) Try.f68 dinveqNodeS outveqNodeS x = FveqNodeS N x := by kernel_rfl
theorem lveqNodeS_0_eq (N n : Nat) (v : ((List ((List Int) × ((List Int) × Unit))) × ((List ((List Int) × ((List Int) × Unit))) × (Int × Unit)))) : lveqNodeS_0 N (n + 1) v = ev (XveqNodeS N) bveqNodeS_0 (roundK dveqNodeS_0 oveqNodeS_0 (lveqNodeS_0 N n)) (dveqNodeS_0.mk' v) := by kernel_rfl
theorem cxveqNodeS (N : Nat) : CtxOk Try.prog (XveqNodeS N) := ⟨⟨TE_ok, List.forall_mem_cons.2 ⟨(specveqNode N), fun k hk => absurd hk List.not_mem_nil⟩⟩, mixed⟩
theorem lpveqNodeS_0 (N : Nat) : LoopOk Try.prog { hd := dveqNodeS_0, outs := oveqNodeS_0, run := fun v => lveqNodeS_0 N N v } bveqNodeS_0 :=
  loop_fuel (d := dveqNodeS_0) (os := oveqNodeS_0) (cxveqNodeS N) (loops_at (ids := []) (by kernel_rfl) (trivial)) (lveqNodeS_0 N) (fun _ => rfl) (fun n v => lveqNodeS_0_eq N n v) (fun _ => N)
theorem specveqNodeS (N : Nat) : Spec Try.prog (conveqNodeS N) :=
  Spec.of_eq (fn_spec (cxveqNodeS N) (f := 68) (fn := Try.f68) (c := codeOf Try.f68) (by kernel_rfl) (by kernel_rfl) (by kernel_rfl) (loops_at (ids := [0]) (by kernel_rfl) ⟨lp_of (lpveqNodeS_0 N), trivial⟩) (by kernel_rfl)) (fun x r h => (FveqNodeS_eq N x).trans h)

/-! ### 69: laws.eqIntSS -/

noncomputable def dinveqIntSS : Desc := { n := 2, regs := [.one (.val (.sl (.sl (.int .i64)))), .one (.val (.sl (.sl (.int .i64))))], bx := [], pins := [] }
noncomputable def outveqIntSS : Outs := [(.ret, { n := 1, regs := [.one (.val .bool)], bx := [], pins := [] })]
noncomputable def HveqIntSS : Hints := []
noncomputable def EveqIntSS (N : Nat) : Env := { te := TE, cs := [conveqIntS N] }
noncomputable def dveqIntSS_0 : Desc := { n := 27, regs := [.one (.val (.sl (.sl (.int .i64)))), .one (.val (.sl (.sl (.int .i64)))), u, u, u, .one (.val (.int .i64))], bx := [], pins := [] }
noncomputable def oveqIntSS_0 : Outs := [(.exit 0, { n := 27, regs := [], bx := [], pins := [] }), (.ret, { n := 27, regs := [u, u, u, u, .one (.val .bool)], bx := [], pins := [] })]
noncomputable def lveqIntSS_0 (N : Nat) : Nat → ((List (List Int)) × ((List (List Int)) × (Int × Unit))) → Option (Unit ⊕ (Bool × Unit))
  | 0, _ => none
  | n + 1, v =>
    let y2 := decide (v.2.2.1 < (v.1.length : Int))
    bif y2 then
     bif decide (0 ≤ v.2.2.1) then
     bif decide (v.2.2.1.toNat < v.1.length) then
     let y3 := v.1.getD v.2.2.1.toNat ([] : (List Int))
     bif decide (0 ≤ v.2.2.1) then
     bif decide (v.2.2.1.toNat < v.2.1.length) then
     let y4 := v.2.1.getD v.2.2.1.toNat ([] : (List Int))
     (FveqIntS N (y3, y4, ())).bind fun r5 =>
     bif !r5.1 then
      some (.inr ((false, ())))
     else
     lveqIntSS_0 N n (v.1, v.2.1, w64 (v.2.2.1 + (1 : Int)), ())
     else none
     else none
     else none
     else none
    else
    some (.inl ())
noncomputable def FveqIntSS (N : Nat) (x : ((List (List Int)) × ((List (List Int)) × Unit))) : Option (Bool × Unit) :=
  let y1 := (x.1.length : Int) != (x.2.1.length : Int)
  bif y1 then
   some (false, ())
  else
  (lveqIntSS_0 N N (x.1, x.2.1, (0 : Int), ())).bind fun o6 =>
  Sum.elim (fun o7 =>
   some (true, ())) (fun o8 =>
   some (o8.1, ())) o6
noncomputable def conveqIntSS (N : Nat) : Con := { f := 69, din := dinveqIntSS, outs := outveqIntSS, F := FveqIntSS N }
noncomputable def XveqIntSS (N : Nat) : Ctx := { E := EveqIntSS N, H := HveqIntSS, lp := [(0, { hd := dveqIntSS_0, outs := oveqIntSS_0, run := fun v => lveqIntSS_0 N N v })], jn := [] }
noncomputable def bveqIntSS_0 : Code := loopBody (codeOf Try.f69) 0
theorem FveqIntSS_eq (N : Nat) (x : ((List (List Int)) × ((List (List Int)) × Unit))) : evFn (XveqIntSS N) Try.f69 dinveqIntSS outveqIntSS x = FveqIntSS N x := by kernel_rfl
theorem lveqIntSS_0_eq (N n : Nat) (v : ((List (List Int)) × ((List (List Int)) × (Int × Unit)))) : lveqIntSS_0 N (n + 1) v = ev (XveqIntSS N) bveqIntSS_0 (roundK dveqIntSS_0 oveqIntSS_0 (lveqIntSS_0 N n)) (dveqIntSS_0.mk' v) := by kernel_rfl
theorem cxveqIntSS (N : Nat) : CtxOk Try.prog (XveqIntSS N) := ⟨⟨TE_ok, List.forall_mem_cons.2 ⟨(specveqIntS N), fun k hk => absurd hk List.not_mem_nil⟩⟩, mixed⟩
theorem lpveqIntSS_0 (N : Nat) : LoopOk Try.prog { hd := dveqIntSS_0, outs := oveqIntSS_0, run := fun v => lveqIntSS_0 N N v } bveqIntSS_0 :=
  loop_fuel (d := dveqIntSS_0) (os := oveqIntSS_0) (cxveqIntSS N) (loops_at (ids := []) (by kernel_rfl) (trivial)) (lveqIntSS_0 N) (fun _ => rfl) (fun n v => lveqIntSS_0_eq N n v) (fun _ => N)
theorem specveqIntSS (N : Nat) : Spec Try.prog (conveqIntSS N) :=
  Spec.of_eq (fn_spec (cxveqIntSS N) (f := 69) (fn := Try.f69) (c := codeOf Try.f69) (by kernel_rfl) (by kernel_rfl) (by kernel_rfl) (loops_at (ids := [0]) (by kernel_rfl) ⟨lp_of (lpveqIntSS_0 N), trivial⟩) (by kernel_rfl)) (fun x r h => (FveqIntSS_eq N x).trans h)

/-! ### 20: laws.eqGraph -/

noncomputable def dinveqGraph : Desc := { n := 2, regs := [.one (.val (.pair (.sl (.pair (.sl (.int .i64)) (.pair (.sl (.int .i64)) .unit))) (.pair (.sl (.sl (.int .i64))) (.pair (.sl (.int .i64)) .unit)))), .one (.val (.pair (.sl (.pair (.sl (.int .i64)) (.pair (.sl (.int .i64)) .unit))) (.pair (.sl (.sl (.int .i64))) (.pair (.sl (.int .i64)) .unit))))], bx := [], pins := [] }
noncomputable def outveqGraph : Outs := [(.ret, { n := 1, regs := [.one (.val .bool)], bx := [], pins := [] })]
noncomputable def HveqGraph : Hints := [(0, [(0, { fz := true }), (1, { fz := true })]),
  (3, [(4, { con := 1 })]),
  (5, [(4, { con := 2 })])]
noncomputable def EveqGraph (N : Nat) : Env := { te := TE, cs := [conveqNodeS N, conveqIntSS N, conveqIntS N] }
noncomputable def FveqGraph (N : Nat) (x : (((List ((List Int) × ((List Int) × Unit))) × ((List (List Int)) × ((List Int) × Unit))) × (((List ((List Int) × ((List Int) × Unit))) × ((List (List Int)) × ((List Int) × Unit))) × Unit))) : Option (Bool × Unit) :=
  (FveqNodeS N (x.1.1, x.2.1.1, ())).bind fun r1 =>
  bif !r1.1 then
   some (false, ())
  else
  (FveqIntSS N (x.1.2.1, x.2.1.2.1, ())).bind fun r2 =>
  bif !r2.1 then
   some (false, ())
  else
  (FveqIntS N (x.1.2.2.1, x.2.1.2.2.1, ())).bind fun r3 =>
  bif !r3.1 then
   some (false, ())
  else
  some (true, ())
noncomputable def conveqGraph (N : Nat) : Con := { f := 20, din := dinveqGraph, outs := outveqGraph, F := FveqGraph N }
noncomputable def XveqGraph (N : Nat) : Ctx := { E := EveqGraph N, H := HveqGraph, lp := [], jn := [] }
theorem FveqGraph_eq (N : Nat) (x : (((List ((List Int) × ((List Int) × Unit))) × ((List (List Int)) × ((List Int) × Unit))) × (((List ((List Int) × ((List Int) × Unit))) × ((List (List Int)) × ((List Int) × Unit))) × Unit))) : evFn (XveqGraph N) Try.f20 dinveqGraph outveqGraph x = FveqGraph N x := by kernel_rfl
theorem cxveqGraph (N : Nat) : CtxOk Try.prog (XveqGraph N) := ⟨⟨TE_ok, List.forall_mem_cons.2 ⟨(specveqNodeS N), List.forall_mem_cons.2 ⟨(specveqIntSS N), List.forall_mem_cons.2 ⟨(specveqIntS N), fun k hk => absurd hk List.not_mem_nil⟩⟩⟩⟩, mixed⟩
theorem specveqGraph (N : Nat) : Spec Try.prog (conveqGraph N) :=
  Spec.of_eq (fn_spec (cxveqGraph N) (f := 20) (fn := Try.f20) (c := codeOf Try.f20) (by kernel_rfl) (by kernel_rfl) (by kernel_rfl) (loops_at (ids := []) (by kernel_rfl) (trivial)) (by kernel_rfl)) (fun x r h => (FveqGraph_eq N x).trans h)

/-! ### 22: laws.markIntS -/

noncomputable def dinvmarkIntS : Desc := { n := 2, regs := [.one (.lit (.row 0)), .one (.val (.int .i64))], bx := [(0, .row (.int .i64))], pins := [] }
noncomputable def outvmarkIntS : Outs := [(.ret, { n := 1, regs := [.one (.val (.int .i64))], bx := [(0, .row (.int .i64))], pins := [.one (.lit (.row 0))] })]
noncomputable def HvmarkIntS : Hints := []
noncomputable def EvmarkIntS (_N : Nat) : Env := { te := TE, cs := [] }
noncomputable def dvmarkIntS_0 : Desc := { n := 19, regs := [.one (.lit (.row 0)), .one (.val (.int .i64)), u, u, u, .one (.val (.int .i64))], bx := [(0, .row (.int .i64))], pins := [.one (.lit (.row 0))] }
noncomputable def ovmarkIntS_0 : Outs := [(.exit 0, { n := 19, regs := [u, .one (.val (.int .i64))], bx := [(0, .row (.int .i64))], pins := [.one (.lit (.row 0))] })]
noncomputable def lvmarkIntS_0 (N : Nat) : Nat → (Int × (Int × ((List Int) × Unit))) → Option (Int × ((List Int) × Unit))
  | 0, _ => none
  | n + 1, v =>
    let y1 := decide (v.2.1 < (v.2.2.1.length : Int))
    bif y1 then
     bif decide (0 ≤ v.2.1) then
     bif decide (v.2.1.toNat < v.2.2.1.length) then
     lvmarkIntS_0 N n (w64 (v.1 + (1 : Int)), w64 (v.2.1 + (1 : Int)), v.2.2.1.set v.2.1.toNat v.1, ())
     else none
     else none
    else
    some (v.1, v.2.2.1, ())
noncomputable def FvmarkIntS (N : Nat) (x : (Int × ((List Int) × Unit))) : Option (Int × ((List Int) × Unit)) :=
  (lvmarkIntS_0 N N (x.1, (0 : Int), x.2.1, ())).bind fun o2 =>
  some (o2.1, o2.2.1, ())
noncomputable def convmarkIntS (N : Nat) : Con := { f := 22, din := dinvmarkIntS, outs := outvmarkIntS, F := FvmarkIntS N }
noncomputable def XvmarkIntS (N : Nat) : Ctx := { E := EvmarkIntS N, H := HvmarkIntS, lp := [(0, { hd := dvmarkIntS_0, outs := ovmarkIntS_0, run := fun v => lvmarkIntS_0 N N v })], jn := [] }
noncomputable def bvmarkIntS_0 : Code := loopBody (codeOf Try.f22) 0
theorem FvmarkIntS_eq (N : Nat) (x : (Int × ((List Int) × Unit))) : evFn (XvmarkIntS N) Try.f22 dinvmarkIntS outvmarkIntS x = FvmarkIntS N x := by kernel_rfl
theorem lvmarkIntS_0_eq (N n : Nat) (v : (Int × (Int × ((List Int) × Unit)))) : lvmarkIntS_0 N (n + 1) v = ev (XvmarkIntS N) bvmarkIntS_0 (roundK dvmarkIntS_0 ovmarkIntS_0 (lvmarkIntS_0 N n)) (dvmarkIntS_0.mk' v) := by kernel_rfl
theorem cxvmarkIntS (N : Nat) : CtxOk Try.prog (XvmarkIntS N) := ⟨⟨TE_ok, fun k hk => absurd hk List.not_mem_nil⟩, mixed⟩
theorem lpvmarkIntS_0 (N : Nat) : LoopOk Try.prog { hd := dvmarkIntS_0, outs := ovmarkIntS_0, run := fun v => lvmarkIntS_0 N N v } bvmarkIntS_0 :=
  loop_fuel (d := dvmarkIntS_0) (os := ovmarkIntS_0) (cxvmarkIntS N) (loops_at (ids := []) (by kernel_rfl) (trivial)) (lvmarkIntS_0 N) (fun _ => rfl) (fun n v => lvmarkIntS_0_eq N n v) (fun _ => N)
theorem specvmarkIntS (N : Nat) : Spec Try.prog (convmarkIntS N) :=
  Spec.of_eq (fn_spec (cxvmarkIntS N) (f := 22) (fn := Try.f22) (c := codeOf Try.f22) (by kernel_rfl) (by kernel_rfl) (by kernel_rfl) (loops_at (ids := [0]) (by kernel_rfl) ⟨lp_of (lpvmarkIntS_0 N), trivial⟩) (by kernel_rfl)) (fun x r h => (FvmarkIntS_eq N x).trans h)

/-! ### 70: laws.markNodeS -/

noncomputable def dinvmarkNodeS : Desc := { n := 2, regs := [.one (.lit (.row 0)), .one (.val (.int .i64))], bx := [(0, .row (.pair (.sl (.int .i64)) (.pair (.sl (.int .i64)) .unit)))], pins := [] }
noncomputable def outvmarkNodeS : Outs := [(.ret, { n := 1, regs := [.one (.val (.int .i64))], bx := [(0, .row (.pair (.sl (.int .i64)) (.pair (.sl (.int .i64)) .unit)))], pins := [.one (.lit (.row 0))] })]
noncomputable def HvmarkNodeS : Hints := [(4, [(6, { sg := [(0, 1051624)], pre := [.take 16 1051624], post := [.give 1051624 0] })]),
  (5, [(6, { sg := [(0, 1064424)], pre := [.take 23 1064424], post := [.give 1064424 0] })])]
noncomputable def EvmarkNodeS (N : Nat) : Env := { te := TE, cs := [convmarkIntS N] }
noncomputable def dvmarkNodeS_0 : Desc := { n := 27, regs := [.one (.lit (.row 0)), .one (.val (.int .i64)), u, u, u, .one (.val (.int .i64))], bx := [(0, .row (.pair (.sl (.int .i64)) (.pair (.sl (.int .i64)) .unit)))], pins := [.one (.lit (.row 0))] }
noncomputable def ovmarkNodeS_0 : Outs := [(.exit 0, { n := 27, regs := [u, .one (.val (.int .i64))], bx := [(0, .row (.pair (.sl (.int .i64)) (.pair (.sl (.int .i64)) .unit)))], pins := [.one (.lit (.row 0))] })]
noncomputable def lvmarkNodeS_0 (N : Nat) : Nat → (Int × (Int × ((List ((List Int) × ((List Int) × Unit))) × Unit))) → Option (Int × ((List ((List Int) × ((List Int) × Unit))) × Unit))
  | 0, _ => none
  | n + 1, v =>
    let y1 := decide (v.2.1 < (v.2.2.1.length : Int))
    bif y1 then
     bif decide (0 ≤ v.2.1) then
     bif decide (v.2.1.toNat < v.2.2.1.length) then
     (FvmarkIntS N (v.1, (v.2.2.1.getD v.2.1.toNat (([] : (List Int)), ([] : (List Int)), ())).1, ())).bind fun r2 =>
     bif decide (0 ≤ v.2.1) then
     bif decide (v.2.1.toNat < (v.2.2.1.set v.2.1.toNat (r2.2.1, (v.2.2.1.getD v.2.1.toNat (([] : (List Int)), ([] : (List Int)), ())).2)).length) then
     (FvmarkIntS N (r2.1, (((v.2.2.1.set v.2.1.toNat (r2.2.1, (v.2.2.1.getD v.2.1.toNat (([] : (List Int)), ([] : (List Int)), ())).2)).getD v.2.1.toNat (([] : (List Int)), ([] : (List Int)), ())).2).1, ())).bind fun r3 =>
     lvmarkNodeS_0 N n (r3.1, w64 (v.2.1 + (1 : Int)), (v.2.2.1.set v.2.1.toNat (r2.2.1, (v.2.2.1.getD v.2.1.toNat (([] : (List Int)), ([] : (List Int)), ())).2)).set v.2.1.toNat (((v.2.2.1.set v.2.1.toNat (r2.2.1, (v.2.2.1.getD v.2.1.toNat (([] : (List Int)), ([] : (List Int)), ())).2)).getD v.2.1.toNat (([] : (List Int)), ([] : (List Int)), ())).1, r3.2.1, (((v.2.2.1.set v.2.1.toNat (r2.2.1, (v.2.2.1.getD v.2.1.toNat (([] : (List Int)), ([] : (List Int)), ())).2)).getD v.2.1.toNat (([] : (List Int)), ([] : (List Int)), ())).2).2), ())
     else none
     else none
     else none
     else none
    else
    some (v.1, v.2.2.1, ())
noncomputable def FvmarkNodeS (N : Nat) (x : (Int × ((List ((List Int) × ((List Int) × Unit))) × Unit))) : Option (Int × ((List ((List Int) × ((List Int) × Unit))) × Unit)) :=
  (lvmarkNodeS_0 N N (x.1, (0 : Int), x.2.1, ())).bind fun o4 =>
  some (o4.1, o4.2.1, ())
noncomputable def convmarkNodeS (N : Nat) : Con := { f := 70, din := dinvmarkNodeS, outs := outvmarkNodeS, F := FvmarkNodeS N }
noncomputable def XvmarkNodeS (N : Nat) : Ctx := { E := EvmarkNodeS N, H := HvmarkNodeS, lp := [(0, { hd := dvmarkNodeS_0, outs := ovmarkNodeS_0, run := fun v => lvmarkNodeS_0 N N v })], jn := [] }
noncomputable def bvmarkNodeS_0 : Code := loopBody (codeOf Try.f70) 0
theorem FvmarkNodeS_eq (N : Nat) (x : (Int × ((List ((List Int) × ((List Int) × Unit))) × Unit))) : evFn (XvmarkNodeS N) Try.f70 dinvmarkNodeS outvmarkNodeS x = FvmarkNodeS N x := by kernel_rfl
theorem lvmarkNodeS_0_eq (N n : Nat) (v : (Int × (Int × ((List ((List Int) × ((List Int) × Unit))) × Unit)))) : lvmarkNodeS_0 N (n + 1) v = ev (XvmarkNodeS N) bvmarkNodeS_0 (roundK dvmarkNodeS_0 ovmarkNodeS_0 (lvmarkNodeS_0 N n)) (dvmarkNodeS_0.mk' v) := by kernel_rfl
theorem cxvmarkNodeS (N : Nat) : CtxOk Try.prog (XvmarkNodeS N) := ⟨⟨TE_ok, List.forall_mem_cons.2 ⟨(specvmarkIntS N), fun k hk => absurd hk List.not_mem_nil⟩⟩, mixed⟩
theorem lpvmarkNodeS_0 (N : Nat) : LoopOk Try.prog { hd := dvmarkNodeS_0, outs := ovmarkNodeS_0, run := fun v => lvmarkNodeS_0 N N v } bvmarkNodeS_0 :=
  loop_fuel (d := dvmarkNodeS_0) (os := ovmarkNodeS_0) (cxvmarkNodeS N) (loops_at (ids := []) (by kernel_rfl) (trivial)) (lvmarkNodeS_0 N) (fun _ => rfl) (fun n v => lvmarkNodeS_0_eq N n v) (fun _ => N)
theorem specvmarkNodeS (N : Nat) : Spec Try.prog (convmarkNodeS N) :=
  Spec.of_eq (fn_spec (cxvmarkNodeS N) (f := 70) (fn := Try.f70) (c := codeOf Try.f70) (by kernel_rfl) (by kernel_rfl) (by kernel_rfl) (loops_at (ids := [0]) (by kernel_rfl) ⟨lp_of (lpvmarkNodeS_0 N), trivial⟩) (by kernel_rfl)) (fun x r h => (FvmarkNodeS_eq N x).trans h)

/-! ### 71: laws.markIntSS -/

noncomputable def dinvmarkIntSS : Desc := { n := 2, regs := [.one (.lit (.row 0)), .one (.val (.int .i64))], bx := [(0, .row (.sl (.int .i64)))], pins := [] }
noncomputable def outvmarkIntSS : Outs := [(.ret, { n := 1, regs := [.one (.val (.int .i64))], bx := [(0, .row (.sl (.int .i64)))], pins := [.one (.lit (.row 0))] })]
noncomputable def HvmarkIntSS : Hints := [(4, [(5, { sg := [(0, 1051560)], pre := [.take 15 1051560], post := [.give 1051560 0] })])]
noncomputable def EvmarkIntSS (N : Nat) : Env := { te := TE, cs := [convmarkIntS N] }
noncomputable def dvmarkIntSS_0 : Desc := { n := 19, regs := [.one (.lit (.row 0)), .one (.val (.int .i64)), u, u, u, .one (.val (.int .i64))], bx := [(0, .row (.sl (.int .i64)))], pins := [.one (.lit (.row 0))] }
noncomputable def ovmarkIntSS_0 : Outs := [(.exit 0, { n := 19, regs := [u, .one (.val (.int .i64))], bx := [(0, .row (.sl (.int .i64)))], pins := [.one (.lit (.row 0))] })]
noncomputable def lvmarkIntSS_0 (N : Nat) : Nat → (Int × (Int × ((List (List Int)) × Unit))) → Option (Int × ((List (List Int)) × Unit))
  | 0, _ => none
  | n + 1, v =>
    let y1 := decide (v.2.1 < (v.2.2.1.length : Int))
    bif y1 then
     bif decide (0 ≤ v.2.1) then
     bif decide (v.2.1.toNat < v.2.2.1.length) then
     (FvmarkIntS N (v.1, v.2.2.1.getD v.2.1.toNat ([] : (List Int)), ())).bind fun r2 =>
     lvmarkIntSS_0 N n (r2.1, w64 (v.2.1 + (1 : Int)), v.2.2.1.set v.2.1.toNat r2.2.1, ())
     else none
     else none
    else
    some (v.1, v.2.2.1, ())
noncomputable def FvmarkIntSS (N : Nat) (x : (Int × ((List (List Int)) × Unit))) : Option (Int × ((List (List Int)) × Unit)) :=
  (lvmarkIntSS_0 N N (x.1, (0 : Int), x.2.1, ())).bind fun o3 =>
  some (o3.1, o3.2.1, ())
noncomputable def convmarkIntSS (N : Nat) : Con := { f := 71, din := dinvmarkIntSS, outs := outvmarkIntSS, F := FvmarkIntSS N }
noncomputable def XvmarkIntSS (N : Nat) : Ctx := { E := EvmarkIntSS N, H := HvmarkIntSS, lp := [(0, { hd := dvmarkIntSS_0, outs := ovmarkIntSS_0, run := fun v => lvmarkIntSS_0 N N v })], jn := [] }
noncomputable def bvmarkIntSS_0 : Code := loopBody (codeOf Try.f71) 0
theorem FvmarkIntSS_eq (N : Nat) (x : (Int × ((List (List Int)) × Unit))) : evFn (XvmarkIntSS N) Try.f71 dinvmarkIntSS outvmarkIntSS x = FvmarkIntSS N x := by kernel_rfl
theorem lvmarkIntSS_0_eq (N n : Nat) (v : (Int × (Int × ((List (List Int)) × Unit)))) : lvmarkIntSS_0 N (n + 1) v = ev (XvmarkIntSS N) bvmarkIntSS_0 (roundK dvmarkIntSS_0 ovmarkIntSS_0 (lvmarkIntSS_0 N n)) (dvmarkIntSS_0.mk' v) := by kernel_rfl
theorem cxvmarkIntSS (N : Nat) : CtxOk Try.prog (XvmarkIntSS N) := ⟨⟨TE_ok, List.forall_mem_cons.2 ⟨(specvmarkIntS N), fun k hk => absurd hk List.not_mem_nil⟩⟩, mixed⟩
theorem lpvmarkIntSS_0 (N : Nat) : LoopOk Try.prog { hd := dvmarkIntSS_0, outs := ovmarkIntSS_0, run := fun v => lvmarkIntSS_0 N N v } bvmarkIntSS_0 :=
  loop_fuel (d := dvmarkIntSS_0) (os := ovmarkIntSS_0) (cxvmarkIntSS N) (loops_at (ids := []) (by kernel_rfl) (trivial)) (lvmarkIntSS_0 N) (fun _ => rfl) (fun n v => lvmarkIntSS_0_eq N n v) (fun _ => N)
theorem specvmarkIntSS (N : Nat) : Spec Try.prog (convmarkIntSS N) :=
  Spec.of_eq (fn_spec (cxvmarkIntSS N) (f := 71) (fn := Try.f71) (c := codeOf Try.f71) (by kernel_rfl) (by kernel_rfl) (by kernel_rfl) (loops_at (ids := [0]) (by kernel_rfl) ⟨lp_of (lpvmarkIntSS_0 N), trivial⟩) (by kernel_rfl)) (fun x r h => (FvmarkIntSS_eq N x).trans h)

/-! ### 21: laws.markGraph -/

noncomputable def dinvmarkGraph : Desc := { n := 2, regs := [.agg [.lit (.row 0), .lit (.row 1), .lit (.row 2)], .one (.val (.int .i64))], bx := [(0, .row (.pair (.sl (.int .i64)) (.pair (.sl (.int .i64)) .unit))), (1, .row (.sl (.int .i64))), (2, .row (.int .i64))], pins := [] }
noncomputable def outvmarkGraph : Outs := [(.ret, { n := 1, regs := [.one (.val (.int .i64))], bx := [(0, .row (.pair (.sl (.int .i64)) (.pair (.sl (.int .i64)) .unit))), (1, .row (.sl (.int .i64))), (2, .row (.int .i64))], pins := [.agg [.lit (.row 0), .lit (.row 1), .lit (.row 2)]] })]
noncomputable def HvmarkGraph : Hints := [(2, [(3, { con := 1, sg := [(0, 1)] })]),
  (3, [(3, { con := 2, sg := [(0, 2)] })])]
noncomputable def EvmarkGraph (N : Nat) : Env := { te := TE, cs := [convmarkNodeS N, convmarkIntSS N, convmarkIntS N] }
noncomputable def FvmarkGraph (N : Nat) (x : (Int × ((List ((List Int) × ((List Int) × Unit))) × ((List (List Int)) × ((List Int) × Unit))))) : Option (Int × ((List ((List Int) × ((List Int) × Unit))) × ((List (List Int)) × ((List Int) × Unit)))) :=
  (FvmarkNodeS N (x.1, x.2.1, ())).bind fun r1 =>
  (FvmarkIntSS N (r1.1, x.2.2.1, ())).bind fun r2 =>
  (FvmarkIntS N (r2.1, x.2.2.2.1, ())).bind fun r3 =>
  some (r3.1, r1.2.1, r2.2.1, r3.2.1, ())
noncomputable def convmarkGraph (N : Nat) : Con := { f := 21, din := dinvmarkGraph, outs := outvmarkGraph, F := FvmarkGraph N }
noncomputable def XvmarkGraph (N : Nat) : Ctx := { E := EvmarkGraph N, H := HvmarkGraph, lp := [], jn := [] }
theorem FvmarkGraph_eq (N : Nat) (x : (Int × ((List ((List Int) × ((List Int) × Unit))) × ((List (List Int)) × ((List Int) × Unit))))) : evFn (XvmarkGraph N) Try.f21 dinvmarkGraph outvmarkGraph x = FvmarkGraph N x := by kernel_rfl
theorem cxvmarkGraph (N : Nat) : CtxOk Try.prog (XvmarkGraph N) := ⟨⟨TE_ok, List.forall_mem_cons.2 ⟨(specvmarkNodeS N), List.forall_mem_cons.2 ⟨(specvmarkIntSS N), List.forall_mem_cons.2 ⟨(specvmarkIntS N), fun k hk => absurd hk List.not_mem_nil⟩⟩⟩⟩, mixed⟩
theorem specvmarkGraph (N : Nat) : Spec Try.prog (convmarkGraph N) :=
  Spec.of_eq (fn_spec (cxvmarkGraph N) (f := 21) (fn := Try.f21) (c := codeOf Try.f21) (by kernel_rfl) (by kernel_rfl) (by kernel_rfl) (loops_at (ids := []) (by kernel_rfl) (trivial)) (by kernel_rfl)) (fun x r h => (FvmarkGraph_eq N x).trans h)

/-! ### 23: laws.heldIntS -/

noncomputable def dinvheldIntS : Desc := { n := 2, regs := [.one (.val (.sl (.int .i64))), .one (.val (.int .i64))], bx := [], pins := [] }
noncomputable def outvheldIntS : Outs := [(.ret, { n := 1, regs := [.one (.val (.int .i64))], bx := [], pins := [] })]
noncomputable def HvheldIntS : Hints := []
noncomputable def EvheldIntS (_N : Nat) : Env := { te := TE, cs := [] }
noncomputable def dvheldIntS_0 : Desc := { n := 21, regs := [.one (.val (.sl (.int .i64))), .one (.val (.int .i64)), u, u, u, .one (.val (.int .i64))], bx := [], pins := [] }
noncomputable def ovheldIntS_0 : Outs := [(.exit 0, { n := 21, regs := [u, .one (.val (.int .i64))], bx := [], pins := [] }), (.ret, { n := 21, regs := [u, u, u, u, .one (.val (.int .i64))], bx := [], pins := [] })]
noncomputable def lvheldIntS_0 (N : Nat) : Nat → ((List Int) × (Int × (Int × Unit))) → Option ((Int × Unit) ⊕ (Int × Unit))
  | 0, _ => none
  | n + 1, v =>
    let y1 := decide (v.2.2.1 < (v.1.length : Int))
    bif y1 then
     bif decide (0 ≤ v.2.2.1) then
     bif decide (v.2.2.1.toNat < v.1.length) then
     let y2 := (v.1.getD v.2.2.1.toNat (0 : Int)) != v.2.1
     bif y2 then
      some (.inr (((-1 : Int), ())))
     else
     lvheldIntS_0 N n (v.1, w64 (v.2.1 + (1 : Int)), w64 (v.2.2.1 + (1 : Int)), ())
     else none
     else none
    else
    some (.inl (v.2.1, ()))
noncomputable def FvheldIntS (N : Nat) (x : ((List Int) × (Int × Unit))) : Option (Int × Unit) :=
  (lvheldIntS_0 N N (x.1, x.2.1, (0 : Int), ())).bind fun o3 =>
  Sum.elim (fun o4 =>
   some (o4.1, ())) (fun o5 =>
   some (o5.1, ())) o3
noncomputable def convheldIntS (N : Nat) : Con := { f := 23, din := dinvheldIntS, outs := outvheldIntS, F := FvheldIntS N }
noncomputable def XvheldIntS (N : Nat) : Ctx := { E := EvheldIntS N, H := HvheldIntS, lp := [(0, { hd := dvheldIntS_0, outs := ovheldIntS_0, run := fun v => lvheldIntS_0 N N v })], jn := [] }
noncomputable def bvheldIntS_0 : Code := loopBody (codeOf Try.f23) 0
theorem FvheldIntS_eq (N : Nat) (x : ((List Int) × (Int × Unit))) : evFn (XvheldIntS N) Try.f23 dinvheldIntS outvheldIntS x = FvheldIntS N x := by kernel_rfl
theorem lvheldIntS_0_eq (N n : Nat) (v : ((List Int) × (Int × (Int × Unit)))) : lvheldIntS_0 N (n + 1) v = ev (XvheldIntS N) bvheldIntS_0 (roundK dvheldIntS_0 ovheldIntS_0 (lvheldIntS_0 N n)) (dvheldIntS_0.mk' v) := by kernel_rfl
theorem cxvheldIntS (N : Nat) : CtxOk Try.prog (XvheldIntS N) := ⟨⟨TE_ok, fun k hk => absurd hk List.not_mem_nil⟩, mixed⟩
theorem lpvheldIntS_0 (N : Nat) : LoopOk Try.prog { hd := dvheldIntS_0, outs := ovheldIntS_0, run := fun v => lvheldIntS_0 N N v } bvheldIntS_0 :=
  loop_fuel (d := dvheldIntS_0) (os := ovheldIntS_0) (cxvheldIntS N) (loops_at (ids := []) (by kernel_rfl) (trivial)) (lvheldIntS_0 N) (fun _ => rfl) (fun n v => lvheldIntS_0_eq N n v) (fun _ => N)
theorem specvheldIntS (N : Nat) : Spec Try.prog (convheldIntS N) :=
  Spec.of_eq (fn_spec (cxvheldIntS N) (f := 23) (fn := Try.f23) (c := codeOf Try.f23) (by kernel_rfl) (by kernel_rfl) (by kernel_rfl) (loops_at (ids := [0]) (by kernel_rfl) ⟨lp_of (lpvheldIntS_0 N), trivial⟩) (by kernel_rfl)) (fun x r h => (FvheldIntS_eq N x).trans h)

/-! ### 3: laws.FnExactPathShared -/

noncomputable def dinvFnExactPathShared : Desc := { n := 1, regs := [.one (.val (.pair (.sl (.pair (.sl (.int .i64)) (.pair (.sl (.int .i64)) .unit))) (.pair (.sl (.sl (.int .i64))) (.pair (.sl (.int .i64)) .unit))))], bx := [], pins := [] }
noncomputable def outvFnExactPathShared : Outs := [(.ret, { n := 1, regs := [.one (.val .bool)], bx := [], pins := [] })]
noncomputable def HvFnExactPathShared : Hints := [(0, [(0, { fz := true })]),
  (5, [(1, { con := 1 }), (2, { con := 2 })]),
  (6, [(1, { con := 1 })]),
  (7, [(1, { con := 3 })]),
  (8, [(2, { con := 4 })]),
  (10, [(2, { con := 1 }), (3, { con := 5 })]),
  (13, [(2, { con := 6, sg := [(0, 1076865), (1, 1076866), (2, 1076867)] })]),
  (14, [(5, { con := 4 })]),
  (17, [(2, { con := 7, sg := [(0, 1089665)] })]),
  (19, [(2, { con := 8 })]),
  (24, [(1, { con := 1 }), (2, { con := 3 })]),
  (25, [(2, { con := 4 })]),
  (28, [(2, { con := 8 })])]
noncomputable def EvFnExactPathShared (N : Nat) : Env := { te := TE, cs := [convszGraph N, convtoGraph N, consPathShared N, coniPathShared N, conveqIntS N, conveqGraph N, convmarkGraph N, convmarkIntS N, convheldIntS N] }
noncomputable def jvFnExactPathShared_16 : Outs := [(.normal, { n := 69, regs := [u, .one (.fpt (.pair (.sl (.pair (.sl (.int .i64)) (.pair (.sl (.int .i64)) .unit))) (.pair (.sl (.sl (.int .i64))) (.pair (.sl (.int .i64)) .unit)))), u, u, .one (.lit (.row 1064129)), u, .one (.lit (.row 1089665))], bx := [(1064129, .row (.int .i64)), (1089665, .row (.int .i64))], pins := [] }), (.ret, { n := 69, regs := [u, u, .one (.val .bool)], bx := [], pins := [] })]
noncomputable def FvFnExactPathShared (N : Nat) (x : (((List ((List Int) × ((List Int) × Unit))) × ((List (List Int)) × ((List Int) × Unit))) × Unit)) : Option (Bool × Unit) :=
  (FvszGraph N (x.1, (1048576 : Int), ())).bind fun r1 =>
  bif decide (r1.1 < (0 : Int)) then
   some (true, ())
  else
  (FvtoGraph N (x.1, ())).bind fun r2 =>
  (FsPathShared N ((r2.1, r2.2.1, r2.2.2.1, ()), ())).bind fun r3 =>
  (FvtoGraph N (x.1, ())).bind fun r4 =>
  (FiPathShared N ((r4.1, r4.2.1, r4.2.2.1, ()), ())).bind fun r5 =>
  (FveqIntS N (r5.1, r3.1, ())).bind fun r6 =>
  bif !r6.1 then
   some (false, ())
  else
  (FvtoGraph N (x.1, ())).bind fun r7 =>
  (FveqGraph N ((r4.1, r4.2.1, r4.2.2.1, ()), (r7.1, r7.2.1, r7.2.2.1, ()), ())).bind fun r8 =>
  bif !r8.1 then
   some (false, ())
  else
  (FvmarkGraph N ((1 : Int), r4.1, r4.2.1, r4.2.2.1, ())).bind fun r9 =>
  Option.bind (
   bif decide (r9.1 < (0 : Int)) then
    some (.inr ((false, ())))
   else
   (FveqIntS N (r5.1, r3.1, ())).bind fun r10 =>
   bif !r10.1 then
    some (.inr ((false, ())))
   else
   some (.inl (x.1, r3.1, r5.1, ()))) fun o11 =>
  Sum.elim (fun o12 =>
   (FvmarkIntS N ((1 : Int), o12.2.2.1, ())).bind fun r13 =>
   (FvheldIntS N (r13.2.1, (1 : Int), ())).bind fun r14 =>
   bif decide (r14.1 < (0 : Int)) then
    some (false, ())
   else
   bif r14.1 != r13.1 then
    some (false, ())
   else
   (FvtoGraph N (o12.1, ())).bind fun r15 =>
   (FiPathShared N ((r15.1, r15.2.1, r15.2.2.1, ()), ())).bind fun r16 =>
   (FveqIntS N (r16.1, o12.2.1, ())).bind fun r17 =>
   bif !r17.1 then
    some (false, ())
   else
   (FvheldIntS N (r13.2.1, (1 : Int), ())).bind fun r18 =>
   bif decide (r18.1 < (0 : Int)) then
    some (false, ())
   else
   bif r18.1 != r13.1 then
    some (false, ())
   else
   some (true, ())) (fun o19 =>
   some (o19.1, ())) o11
noncomputable def convFnExactPathShared (N : Nat) : Con := { f := 3, din := dinvFnExactPathShared, outs := outvFnExactPathShared, F := FvFnExactPathShared N }
noncomputable def XvFnExactPathShared (N : Nat) : Ctx := { E := EvFnExactPathShared N, H := HvFnExactPathShared, lp := [], jn := [(16, jvFnExactPathShared_16)] }
theorem FvFnExactPathShared_eq (N : Nat) (x : (((List ((List Int) × ((List Int) × Unit))) × ((List (List Int)) × ((List Int) × Unit))) × Unit)) : evFn (XvFnExactPathShared N) Try.f3 dinvFnExactPathShared outvFnExactPathShared x = FvFnExactPathShared N x := by kernel_rfl
theorem cxvFnExactPathShared (N : Nat) : CtxOk Try.prog (XvFnExactPathShared N) := ⟨⟨TE_ok, List.forall_mem_cons.2 ⟨(specvszGraph N), List.forall_mem_cons.2 ⟨(specvtoGraph N), List.forall_mem_cons.2 ⟨(specsPathShared N), List.forall_mem_cons.2 ⟨(speciPathShared N), List.forall_mem_cons.2 ⟨(specveqIntS N), List.forall_mem_cons.2 ⟨(specveqGraph N), List.forall_mem_cons.2 ⟨(specvmarkGraph N), List.forall_mem_cons.2 ⟨(specvmarkIntS N), List.forall_mem_cons.2 ⟨(specvheldIntS N), fun k hk => absurd hk List.not_mem_nil⟩⟩⟩⟩⟩⟩⟩⟩⟩⟩, mixed⟩
theorem specvFnExactPathShared (N : Nat) : Spec Try.prog (convFnExactPathShared N) :=
  Spec.of_eq (fn_spec (cxvFnExactPathShared N) (f := 3) (fn := Try.f3) (c := codeOf Try.f3) (by kernel_rfl) (by kernel_rfl) (by kernel_rfl) (loops_at (ids := []) (by kernel_rfl) (trivial)) (by kernel_rfl)) (fun x r h => (FvFnExactPathShared_eq N x).trans h)

end Go.Fl
set_option linter.all false
set_option maxRecDepth 10000
namespace Go.Fl
open Go

/-- A law's inputs are at most so large. -/
abbrev sm (n : Nat) : Prop := n ≤ 1048576

abbrev Nd := List Int × List Int × Unit

abbrev Gr := List Nd × List (List Int) × List Int × Unit

def smN (x : Nd) : Prop := sm x.1.length ∧ sm x.2.1.length

def smG (g : Gr) : Prop := sm g.1.length ∧ (∀ x ∈ g.1, smN x) ∧ sm g.2.1.length ∧ (∀ x ∈ g.2.1, sm x.length) ∧ sm g.2.2.1.length

abbrev ml (n : Nat) : Prop := n ≤ 9223372036854775807

def mlN (x : Nd) : Prop := ml x.1.length ∧ ml x.2.1.length

def mlG (g : Gr) : Prop := ml g.1.length ∧ (∀ x ∈ g.1, mlN x) ∧ ml g.2.1.length ∧ (∀ x ∈ g.2.1, ml x.length) ∧ ml g.2.2.1.length

/-- A loop that tells what is left, or stops. -/
theorem size_loop {α : Type} {xs : List α} (P : α → Prop) {L : Nat → Nat → Int → Option ((Int × Unit) ⊕ (Int × Unit))} (hl : xs.length ≤ lim)
    (h1 : ∀ n i (h : i < xs.length) (left : Int), 0 ≤ left → left ≤ 1048576 → w64 ((i : Int) + 1) = ((i + 1 : Nat) : Int) →
      L (n + 1) i left = some (.inr (-1, ())) ∨ ∃ r, 0 ≤ r ∧ r ≤ left ∧ P xs[i] ∧ L (n + 1) i left = L n (i + 1) r)
    (h3 : ∀ n left, L (n + 1) xs.length left = some (.inl (left, ()))) {n : Nat} (hn : xs.length < n) {left : Int} (h0 : 0 ≤ left) (h1' : left ≤ 1048576) :
    L n 0 left = some (.inr (-1, ())) ∨ ∃ r, 0 ≤ r ∧ r ≤ left ∧ (∀ x ∈ xs, P x) ∧ L n 0 left = some (.inl (r, ())) := by
  have key : ∀ n i left, 0 ≤ left → left ≤ 1048576 → i ≤ xs.length → xs.length - i < n → L n i left = some (.inr (-1, ())) ∨ ∃ r, 0 ≤ r ∧ r ≤ left ∧ (∀ x ∈ xs.drop i, P x) ∧ L n i left = some (.inl (r, ())) := by
    intro n
    induction n with
    | zero => intro i left _ _ _ h; exact absurd h (Nat.not_lt_zero _)
    | succ n ih =>
      intro i left h0 h2 hi hn
      by_cases h : i < xs.length
      · rcases h1 n i h left h0 h2 (w64_succ (by have : lim = 2147483648 := rfl; omega)) with h4 | ⟨r, h4, h5, h6, h7⟩
        · exact .inl h4
        · rw [h7]
          rcases ih (i + 1) r h4 (by omega) (by omega) (by omega) with h8 | ⟨q, h8, h9, h10, h11⟩
          · exact .inl h8
          · refine .inr ⟨q, h8, by omega, ?_, h11⟩
            rw [drop_at h]
            exact List.forall_mem_cons.2 ⟨h6, h10⟩
      · have : i = xs.length := by omega
        subst this
        exact .inr ⟨left, h0, Int.le_refl _, by simp, h3 _ _⟩
  simpa using key n 0 left h0 h1' (by omega) (by omega)

theorem sm_lim {n : Nat} (h : sm n) : n ≤ lim := by simp only [sm] at h; rw [lim_eq]; omega


section
variable {N : Nat}

theorem vszIntS_ok {xs : List Int} {left : Int} (hx : ml xs.length) (h0 : 0 ≤ left) (h1 : left ≤ 1048576) :
    ∃ r, FvszIntS N (xs, left, ()) = some (r, ()) ∧ (r < 0 ∨ (0 ≤ r ∧ r ≤ left ∧ sm xs.length)) := by
  simp only [ml] at hx
  simp only [FvszIntS]
  rw [w64_id (by omega) (by omega)]
  by_cases h : left - (xs.length : Int) < 0
  · simp [h]
  · simp [h, sm]; omega

end

section
variable {N : Nat}

theorem vszNode_ok {x : Nd} {left : Int} (hx : mlN x) (h0 : 0 ≤ left) (h1 : left ≤ 1048576) :
    ∃ r, FvszNode N (x, left, ()) = some (r, ()) ∧ (r < 0 ∨ (0 ≤ r ∧ r ≤ left ∧ smN x)) := by
  obtain ⟨r1, e1, h2⟩ := vszIntS_ok (N := N) hx.1 h0 h1
  simp only [FvszNode, e1, Option.bind_some]
  rcases h2 with h2 | ⟨h2, h3, h4⟩
  · simp [h2]
  · obtain ⟨r2, e2, h5⟩ := vszIntS_ok (N := N) hx.2 h2 (by omega)
    simp only [e2, Option.bind_some]
    rcases h5 with h5 | ⟨h5, h6, h7⟩
    · simp [h5, Int.not_lt.2 h2]
    · simp [Int.not_lt.2 h2, Int.not_lt.2 h5, smN, h4, h7]; omega

end

section
variable {N : Nat} (hN : lim < N)
include hN

theorem vszNodeS_ok {xs : List Nd} {left : Int} (hx : ml xs.length) (hx' : ∀ x ∈ xs, mlN x) (h0 : 0 ≤ left) (h1 : left ≤ 1048576) :
    ∃ r, FvszNodeS N (xs, left, ()) = some (r, ()) ∧ (r < 0 ∨ (0 ≤ r ∧ r ≤ left ∧ sm xs.length ∧ ∀ x ∈ xs, smN x)) := by
  simp only [ml] at hx
  simp only [FvszNodeS]
  rw [w64_id (by omega) (by omega)]
  by_cases h : left - (xs.length : Int) < 0
  · simp [h]
  · simp only [h, decide_false, cond_false]
    have hs : sm xs.length := by simp only [sm]; omega
    have hL := size_loop (xs := xs) (n := N) smN (L := fun n i l => lvszNodeS_0 N n (xs, l, (i : Int), ())) (sm_lim hs)
      (fun n i h left h0 h1 hw => by
        obtain ⟨r1, e1, h2⟩ := vszNode_ok (N := N) (hx' xs[i] (by simp)) h0 h1
        simp only [lvszNodeS_0, Int.ofNat_lt, h, decide_true, cond_true, Int.natCast_nonneg, Int.toNat_natCast, getD_lt h, e1, Option.bind_some, hw]
        rcases h2 with h2 | ⟨h2, h3, h4⟩
        · left; simp [h2]
        · right; refine ⟨r1, h2, h3, h4, ?_⟩; simp [Int.not_lt.2 h2])
      (fun n left => by simp [lvszNodeS_0]) (by have := sm_lim hs; omega) (left := left - xs.length) (by omega) (by omega)
    simp only [Int.natCast_zero] at hL
    rcases hL with hL | ⟨r, h2, h3, h4, hL⟩
    · rw [hL]; simp
    · rw [hL]; simp only [Option.bind_some, Sum.elim_inl]; exact ⟨r, rfl, .inr ⟨h2, by omega, hs, h4⟩⟩

theorem vszIntSS_ok {xs : List (List Int)} {left : Int} (hx : ml xs.length) (hx' : ∀ x ∈ xs, ml x.length) (h0 : 0 ≤ left) (h1 : left ≤ 1048576) :
    ∃ r, FvszIntSS N (xs, left, ()) = some (r, ()) ∧ (r < 0 ∨ (0 ≤ r ∧ r ≤ left ∧ sm xs.length ∧ ∀ x ∈ xs, sm x.length)) := by
  simp only [ml] at hx
  simp only [FvszIntSS]
  rw [w64_id (by omega) (by omega)]
  by_cases h : left - (xs.length : Int) < 0
  · simp [h]
  · simp only [h, decide_false, cond_false]
    have hs : sm xs.length := by simp only [sm]; omega
    have hL := size_loop (xs := xs) (n := N) (fun x => sm x.length) (L := fun n i l => lvszIntSS_0 N n (xs, l, (i : Int), ())) (sm_lim hs)
      (fun n i h left h0 h1 hw => by
        obtain ⟨r1, e1, h2⟩ := vszIntS_ok (N := N) (hx' xs[i] (by simp)) h0 h1
        simp only [lvszIntSS_0, Int.ofNat_lt, h, decide_true, cond_true, Int.natCast_nonneg, Int.toNat_natCast, getD_lt h, e1, Option.bind_some, hw]
        rcases h2 with h2 | ⟨h2, h3, h4⟩
        · left; simp [h2]
        · right; refine ⟨r1, h2, h3, h4, ?_⟩; simp [Int.not_lt.2 h2])
      (fun n left => by simp [lvszIntSS_0]) (by have := sm_lim hs; omega) (left := left - xs.length) (by omega) (by omega)
    simp only [Int.natCast_zero] at hL
    rcases hL with hL | ⟨r, h2, h3, h4, hL⟩
    · rw [hL]; simp
    · rw [hL]; simp only [Option.bind_some, Sum.elim_inl]; exact ⟨r, rfl, .inr ⟨h2, by omega, hs, h4⟩⟩

theorem vszGraph_ok {g : Gr} {left : Int} (hx : mlG g) (h0 : 0 ≤ left) (h1 : left ≤ 1048576) :
    ∃ r, FvszGraph N (g, left, ()) = some (r, ()) ∧ (r < 0 ∨ (0 ≤ r ∧ r ≤ left ∧ smG g)) := by
  obtain ⟨a1, a2, a3, a4, a5⟩ := hx
  obtain ⟨r1, e1, h2⟩ := vszNodeS_ok hN a1 a2 h0 h1
  simp only [FvszGraph, e1, Option.bind_some]
  rcases h2 with h2 | ⟨h2, h3, h4, h4'⟩
  · simp [h2]
  · obtain ⟨r2, e2, h5⟩ := vszIntSS_ok hN a3 a4 h2 (by omega)
    simp only [e2, Option.bind_some, Int.not_lt.2 h2, decide_false, cond_false]
    rcases h5 with h5 | ⟨h5, h6, h7, h7'⟩
    · simp [h5]
    · obtain ⟨r3, e3, h8⟩ := vszIntS_ok (N := N) a5 h5 (by omega)
      simp only [e3, Option.bind_some, Int.not_lt.2 h5, decide_false, cond_false]
      rcases h8 with h8 | ⟨h8, h9, h10⟩
      · simp [h8]
      · simp only [Int.not_lt.2 h8, decide_false, cond_false]
        exact ⟨r3, rfl, .inr ⟨h8, by omega, h4, h4', h7, h7', h10⟩⟩

end

section
variable {N : Nat} (hN : lim < N)
include hN

theorem vtoIntS_ok {xs : List Int} (hx : sm xs.length) : FvtoIntS N (xs, ()) = some (xs, ()) := by
  have hl := sm_lim hx
  have hL := fill_loop (xs := xs) (n := N) id (L := fun n i s => lvtoIntS_0 N n (xs, (i : Int), s, ())) (fin := fun s => (s, ())) hl
    (fun n i s h hw hs => by
      have hs' : i < s.length := by omega
      simp [lvtoIntS_0, h, hs', hw])
    (fun n s hs => by simp [lvtoIntS_0]) (by omega) (s := List.replicate xs.length 0) (by simp)
  simp only [Int.natCast_zero] at hL
  simp [FvtoIntS, hL, hl]

end

section
variable {N : Nat} (hN : lim < N)
include hN

theorem vtoNode_ok {x : Nd} (hx : smN x) : FvtoNode N (x, ()) = some x := by
  simp [FvtoNode, vtoIntS_ok hN hx.1, vtoIntS_ok hN hx.2]

theorem vtoNodeS_ok {xs : List Nd} (hx : sm xs.length) (hx' : ∀ x ∈ xs, smN x) : FvtoNodeS N (xs, ()) = some (xs, ()) := by
  have hl := sm_lim hx
  have hL := fill_loop (xs := xs) (n := N) id (L := fun n i s => lvtoNodeS_0 N n (xs, (i : Int), s, ())) (fin := fun s => (s, ())) hl
    (fun n i s h hw hs => by
      have hs' : i < s.length := by omega
      simp [lvtoNodeS_0, h, hs', hw, vtoNode_ok hN (hx' xs[i] (by simp))])
    (fun n s hs => by simp [lvtoNodeS_0]) (by omega) (s := List.replicate xs.length ([], [], ())) (by simp)
  simp only [Int.natCast_zero] at hL
  simp [FvtoNodeS, hL, hl]

theorem vtoIntSS_ok {xs : List (List Int)} (hx : sm xs.length) (hx' : ∀ x ∈ xs, sm x.length) : FvtoIntSS N (xs, ()) = some (xs, ()) := by
  have hl := sm_lim hx
  have hL := fill_loop (xs := xs) (n := N) id (L := fun n i s => lvtoIntSS_0 N n (xs, (i : Int), s, ())) (fin := fun s => (s, ())) hl
    (fun n i s h hw hs => by
      have hs' : i < s.length := by omega
      simp [lvtoIntSS_0, h, hs', hw, vtoIntS_ok hN (hx' xs[i] (by simp))])
    (fun n s hs => by simp [lvtoIntSS_0]) (by omega) (s := List.replicate xs.length []) (by simp)
  simp only [Int.natCast_zero] at hL
  simp [FvtoIntSS, hL, hl]

theorem vtoGraph_ok {g : Gr} (hx : smG g) : FvtoGraph N (g, ()) = some g := by
  obtain ⟨a1, a2, a3, a4, a5⟩ := hx
  simp [FvtoGraph, vtoNodeS_ok hN a1 a2, vtoIntSS_ok hN a3 a4, vtoIntS_ok hN a5]

end

section
variable {N : Nat} (hN : lim < N)
include hN

theorem veqIntS_ok {xs ys : List Int} (hx : sm xs.length) : FveqIntS N (xs, ys, ()) = some (decide (xs = ys), ()) := by
  have hl := sm_lim hx
  by_cases hlen : xs.length = ys.length
  · have hL := eq_loop (xs := xs) (ys := ys) (n := N) (L := fun n i => lveqIntS_0 N n (xs, ys, (i : Int), ())) (yes := .inl ()) (no := .inr (false, ())) hl hlen
      (fun n i h1 h2 hw hq => by simp [lveqIntS_0, h1, h2, hw, hq])
      (fun n i h1 h2 hq => by simp [lveqIntS_0, h1, h2, hq])
      (fun n => by simp [lveqIntS_0, hlen]) (by omega)
    simp only [Int.natCast_zero] at hL
    rcases Decidable.em (xs = ys) with rfl | h
    · simp [FveqIntS, hL]
    · simp [FveqIntS, hL, h, hlen]
  · have h : xs ≠ ys := fun h => hlen (by rw [h])
    have h2 : (xs.length : Int) ≠ ys.length := by omega
    simp [FveqIntS, h, h2]

end

section
variable {N : Nat} (hN : lim < N)
include hN

theorem veqNode_ok {x y : Nd} (hx : smN x) : FveqNode N (x, y, ()) = some (decide (x = y), ()) := by
  obtain ⟨a, b, ⟨⟩⟩ := x
  obtain ⟨c, d, ⟨⟩⟩ := y
  simp only [FveqNode, veqIntS_ok hN hx.1, veqIntS_ok hN hx.2]
  by_cases h1 : a = c <;> by_cases h2 : b = d <;> simp [h1, h2]

theorem veqNodeS_ok {xs ys : List Nd} (hx : sm xs.length) (hx' : ∀ x ∈ xs, smN x) : FveqNodeS N (xs, ys, ()) = some (decide (xs = ys), ()) := by
  have hl := sm_lim hx
  by_cases hlen : xs.length = ys.length
  · have hL := eq_loop (xs := xs) (ys := ys) (n := N) (L := fun n i => lveqNodeS_0 N n (xs, ys, (i : Int), ())) (yes := .inl ()) (no := .inr (false, ())) hl hlen
      (fun n i h1 h2 hw hq => by
        have e := veqNode_ok hN (y := ys[i]) (hx' _ (List.getElem_mem h1))
        rw [decide_eq_true hq] at e
        simp [lveqNodeS_0, h1, h2, hw, e])
      (fun n i h1 h2 hq => by simp [lveqNodeS_0, h1, h2, hq, veqNode_ok hN (y := ys[i]) (hx' _ (List.getElem_mem h1))])
      (fun n => by simp [lveqNodeS_0, hlen]) (by omega)
    simp only [Int.natCast_zero] at hL
    rcases Decidable.em (xs = ys) with rfl | h
    · simp [FveqNodeS, hL]
    · simp [FveqNodeS, hL, h, hlen]
  · have h : xs ≠ ys := fun h => hlen (by rw [h])
    have h2 : (xs.length : Int) ≠ ys.length := by omega
    simp [FveqNodeS, h, h2]

theorem veqIntSS_ok {xs ys : List (List Int)} (hx : sm xs.length) (hx' : ∀ x ∈ xs, sm x.length) : FveqIntSS N (xs, ys, ()) = some (decide (xs = ys), ()) := by
  have hl := sm_lim hx
  by_cases hlen : xs.length = ys.length
  · have hL := eq_loop (xs := xs) (ys := ys) (n := N) (L := fun n i => lveqIntSS_0 N n (xs, ys, (i : Int), ())) (yes := .inl ()) (no := .inr (false, ())) hl hlen
      (fun n i h1 h2 hw hq => by
        have e := veqIntS_ok hN (ys := ys[i]) (hx' _ (List.getElem_mem h1))
        rw [decide_eq_true hq] at e
        simp [lveqIntSS_0, h1, h2, hw, e])
      (fun n i h1 h2 hq => by simp [lveqIntSS_0, h1, h2, hq, veqIntS_ok hN (ys := ys[i]) (hx' _ (List.getElem_mem h1))])
      (fun n => by simp [lveqIntSS_0, hlen]) (by omega)
    simp only [Int.natCast_zero] at hL
    rcases Decidable.em (xs = ys) with rfl | h
    · simp [FveqIntSS, hL]
    · simp [FveqIntSS, hL, h, hlen]
  · have h : xs ≠ ys := fun h => hlen (by rw [h])
    have h2 : (xs.length : Int) ≠ ys.length := by omega
    simp [FveqIntSS, h, h2]

theorem veqGraph_ok {g h : Gr} (hx : smG g) : FveqGraph N (g, h, ()) = some (decide (g = h), ()) := by
  obtain ⟨a1, a2, a3, a4, a5⟩ := hx
  obtain ⟨p, q, r, ⟨⟩⟩ := g
  obtain ⟨p', q', r', ⟨⟩⟩ := h
  simp only at a1 a2 a3 a4 a5
  simp only [FveqGraph, veqNodeS_ok hN a1 a2, veqIntSS_ok hN a3 a4, veqIntS_ok hN a5]
  by_cases h1 : p = p' <;> by_cases h2 : q = q' <;> by_cases h3 : r = r' <;> simp [h1, h2, h3]

end

def okR (m : Nat) (l : List Int) : Bool := l.all fun x => decide (-1 ≤ x) && decide (x < (m : Int))

def okN (m : Nat) (x : Nd) : Bool := decide (x.1.length ≤ 4) && (decide (x.2.1.length ≤ 4) && okR m x.1)

def okG (g : Gr) : Bool :=
  decide (g.1.length ≤ 200) && (decide (1 ≤ g.2.1.length) && (decide (g.2.1.length ≤ 3) && (g.1.all (okN g.1.length) && (g.2.1.all (fun r => decide (r.length ≤ 8) && okR g.1.length r) &&
    (decide (g.2.2.1.length ≤ 8) && (g.2.2.1.all (fun x => decide (0 ≤ x)) && okR g.1.length g.2.2.1))))))

theorem okG_iff {g : Gr} : okG g = true ↔ g.1.length ≤ 200 ∧ 1 ≤ g.2.1.length ∧ g.2.1.length ≤ 3 ∧ (∀ x ∈ g.1, x.1.length ≤ 4 ∧ x.2.1.length ≤ 4 ∧ okR g.1.length x.1 = true) ∧
    (∀ r ∈ g.2.1, r.length ≤ 8 ∧ okR g.1.length r = true) ∧ g.2.2.1.length ≤ 8 ∧ (∀ x ∈ g.2.2.1, 0 ≤ x) ∧ okR g.1.length g.2.2.1 = true := by
  simp only [okG, okN, Bool.and_eq_true, decide_eq_true_eq, List.all_eq_true]

theorem okR_iff {m : Nat} {l : List Int} : okR m l = true ↔ ∀ x ∈ l, -1 ≤ x ∧ x < (m : Int) := by
  simp only [okR, List.all_eq_true, Bool.and_eq_true, decide_eq_true_eq]


abbrev Mst := List Int × List Bool

/-- A reference is met. -/
def meet (st : Mst) (r : Int) : Mst := if 0 ≤ r ∧ st.2.getD r.toNat false = false then (st.1 ++ [r], st.2.set r.toNat true) else st

structure Met (m : Nat) (st : Mst) : Prop where
  len : st.2.length = m
  cnt : st.1.length + st.2.count false = m
  rng : ∀ r ∈ st.1, 0 ≤ r ∧ r < (m : Int)
  had : ∀ r : Int, 0 ≤ r → (st.2.getD r.toNat false = true ↔ r ∈ st.1)
  nd : st.1.Nodup

theorem count_set_true : ∀ {l : List Bool} {i : Nat}, i < l.length → l.getD i false = false → (l.set i true).count false + 1 = l.count false
  | [], _, h, _ => by simp at h
  | b :: l, 0, _, h => by simp at h; subst h; simp
  | b :: l, i + 1, h, h2 => by
    have ih := count_set_true (l := l) (i := i) (by simpa using h) (by simpa using h2)
    simp only [List.set_cons_succ, List.count_cons]
    omega

theorem Met.le {m : Nat} {st : Mst} (h : Met m st) : st.1.length ≤ m := by have := h.cnt; omega

theorem Met.meet {m : Nat} {st : Mst} (h : Met m st) {r : Int} (hr : r < (m : Int)) : Met m (meet st r) := by
  unfold Fl.meet
  split
  · rename_i hc
    have hl : r.toNat < st.2.length := by rw [h.len]; omega
    have hn : ¬ r ∈ st.1 := fun hm => by
      have := (h.had r hc.1).2 hm
      rw [hc.2] at this
      cases this
    refine ⟨by simp [h.len], ?_, ?_, ?_, ?_⟩
    · have := count_set_true hl hc.2
      have := h.cnt
      simp only [List.length_append, List.length_singleton]
      omega
    · intro x hx
      simp only [List.mem_append, List.mem_singleton] at hx
      rcases hx with hx | rfl
      · exact h.rng x hx
      · exact ⟨hc.1, hr⟩
    · intro x hx
      simp only [List.mem_append, List.mem_singleton]
      rw [← h.had x hx]
      simp only [List.getD_eq_getElem?_getD, List.getElem?_set]
      by_cases e : r.toNat = x.toNat
      · have : x = r := by omega
        subst this
        simp [hl]
      · have : ¬ x = r := fun e' => e (by rw [e'])
        simp [e, this]
    · rw [List.nodup_append]
      refine ⟨h.nd, by simp, ?_⟩
      intro a ha b hb e
      simp at hb
      subst hb
      subst e
      exact hn ha
  · exact h

theorem Met.meets {m : Nat} {l : List Int} : ∀ {st : Mst}, Met m st → (∀ r ∈ l, r < (m : Int)) → Met m (l.foldl Fl.meet st) := by
  induction l with
  | nil => intro st h _; exact h
  | cons r l ih => intro st h hl; exact ih (h.meet (hl r (by simp))) fun x hx => hl x (by simp [hx])

/-- Met is only more and more. -/
theorem meet_pre (st : Mst) (r : Int) : st.1 <+: (meet st r).1 := by
  unfold meet
  split
  · exact List.prefix_append _ _
  · exact List.prefix_refl _

theorem meets_pre {l : List Int} : ∀ {st : Mst}, st.1 <+: (l.foldl meet st).1 := by
  induction l with
  | nil => intro st; exact List.prefix_refl _
  | cons r l ih => intro st; exact (meet_pre st r).trans ih

theorem meet_mem {m : Nat} {st : Mst} (h : Met m st) {r : Int} (h0 : 0 ≤ r) : r ∈ (meet st r).1 := by
  unfold meet
  split
  · simp
  · rename_i hc
    exact (h.had r h0).1 (by
      cases hb : st.2.getD r.toNat false with
      | true => rfl
      | false => exact absurd ⟨h0, hb⟩ hc)

theorem meets_mem {m : Nat} {l : List Int} : ∀ {st : Mst}, Met m st → (∀ r ∈ l, r < (m : Int)) → ∀ r ∈ l, 0 ≤ r → r ∈ (l.foldl meet st).1 := by
  induction l with
  | nil => intro st _ _ r hr; simp at hr
  | cons x l ih =>
    intro st h hl r hr h0
    have h1 := h.meet (hl x (by simp))
    simp only [List.mem_cons] at hr
    rcases hr with rfl | hr
    · exact (meets_pre (l := l)).subset (meet_mem h h0)
    · exact ih h1 (fun y hy => hl y (by simp [hy])) r hr h0

theorem meet_sub {st : Mst} {r x : Int} (hx : x ∈ (meet st r).1) : x ∈ st.1 ∨ (x = r ∧ 0 ≤ r) := by
  unfold meet at hx
  split at hx
  · rename_i hc
    simp only [List.mem_append, List.mem_singleton] at hx
    rcases hx with hx | hx
    · exact .inl hx
    · exact .inr ⟨hx, hc.1⟩
  · exact .inl hx

theorem meets_sub {l : List Int} : ∀ {st : Mst} {x : Int}, x ∈ (l.foldl meet st).1 → x ∈ st.1 ∨ (x ∈ l ∧ 0 ≤ x) := by
  induction l with
  | nil => intro st x hx; exact .inl hx
  | cons r l ih =>
    intro st x hx
    rcases ih hx with h | ⟨h, h0⟩
    · rcases meet_sub h with h | ⟨rfl, h0⟩
      · exact .inl h
      · exact .inr ⟨by simp, h0⟩
    · exact .inr ⟨by simp [h], h0⟩

/-- What a node leads to. -/
def refsOf (g : Gr) (r : Int) : List Int := (g.1.getD r.toNat ([], [], ())).1

/-- The met are gone through. -/
def walk (R : Int → List Int) : Nat → Nat → Mst → Mst
  | 0, _, st => st
  | n + 1, i, st => if i < st.1.length then walk R n (i + 1) ((R (st.1.getD i 0)).foldl meet st) else st

def met0 (m : Nat) : Mst := ([], List.replicate m false)

theorem met0_ok (m : Nat) : Met m (met0 m) := by
  refine ⟨by simp [met0], by simp [met0], by simp [met0], ?_, by simp [met0]⟩
  intro r _
  simp only [met0, List.getD_eq_getElem?_getD, List.getElem?_replicate]
  split <;> simp

theorem walk_met {m : Nat} {R : Int → List Int} (hR : ∀ r, 0 ≤ r → r < (m : Int) → ∀ x ∈ R r, x < (m : Int)) : ∀ (n i : Nat) {st : Mst}, Met m st → Met m (walk R n i st)
  | 0, _, _, h => h
  | n + 1, i, st, h => by
    unfold walk
    split
    · rename_i hi
      refine walk_met hR n (i + 1) (h.meets ?_)
      rw [getD_lt hi]
      exact hR _ (h.rng _ (List.getElem_mem hi)).1 (h.rng _ (List.getElem_mem hi)).2
    · exact h

theorem walk_pre {R : Int → List Int} : ∀ (n i : Nat) {st : Mst}, st.1 <+: (walk R n i st).1
  | 0, _, st => List.prefix_refl _
  | n + 1, i, st => by
    unfold walk
    split
    · exact (meets_pre (l := R (st.1.getD i 0))).trans (walk_pre n (i + 1))
    · exact List.prefix_refl _

/-- What is behind the places that were gone through, was met. -/
theorem walk_closed {m : Nat} {R : Int → List Int} (hR : ∀ r, 0 ≤ r → r < (m : Int) → ∀ x ∈ R r, x < (m : Int)) : ∀ (n i : Nat) {st : Mst}, Met m st → m - i < n →
    (∀ j (hj : j < st.1.length), j < i → ∀ x ∈ R st.1[j], 0 ≤ x → x ∈ st.1) → ∀ r ∈ (walk R n i st).1, ∀ x ∈ R r, 0 ≤ x → x ∈ (walk R n i st).1
  | 0, _, _, _, h, _ => absurd h (Nat.not_lt_zero _)
  | n + 1, i, st, h, hn, hc => by
    unfold walk
    split
    · rename_i hi
      have hb : ∀ x ∈ R (st.1.getD i 0), x < (m : Int) := by
        rw [getD_lt hi]
        exact hR _ (h.rng _ (List.getElem_mem hi)).1 (h.rng _ (List.getElem_mem hi)).2
      have hle := h.le
      refine walk_closed hR n (i + 1) (h.meets hb) (by omega) ?_
      intro j hj hji x hx h0
      have hp := meets_pre (l := R (st.1.getD i 0)) (st := st)
      rcases Nat.lt_or_ge j i with hlt | hge
      · have hj' : j < st.1.length := by omega
        have e : ((R (st.1.getD i 0)).foldl meet st).1[j] = st.1[j] := (hp.getElem hj').symm
        rw [e] at hx
        exact hp.subset (hc j hj' hlt x hx h0)
      · have : j = i := by omega
        subst this
        have e : ((R (st.1.getD j 0)).foldl meet st).1[j] = st.1[j] := (hp.getElem hi).symm
        rw [e] at hx
        exact meets_mem h hb x (by rw [getD_lt hi]; exact hx) h0
    · rename_i hi
      intro r hr x hx h0
      obtain ⟨j, hj, rfl⟩ := List.getElem_of_mem hr
      exact hc j hj (by omega) x hx h0

/-- Whatever holds of the first ones and is handed on, holds of all. -/
theorem walk_ind {R : Int → List Int} {P : Int → Prop} (hP : ∀ r, P r → ∀ x ∈ R r, 0 ≤ x → P x) : ∀ (n i : Nat) {st : Mst}, (∀ r ∈ st.1, P r) → ∀ r ∈ (walk R n i st).1, P r
  | 0, _, _, h => h
  | n + 1, i, st, h => by
    unfold walk
    split
    · rename_i hi
      refine walk_ind hP n (i + 1) fun r hr => ?_
      rcases meets_sub hr with h1 | ⟨h1, h0⟩
      · exact h r h1
      · rw [getD_lt hi] at h1
        exact hP _ (h _ (List.getElem_mem hi)) r h1 h0
    · exact h

def begin0 (g : Gr) : Mst := g.2.2.1.foldl meet (g.2.1.foldl (fun s l => l.foldl meet s) (met0 g.1.length))

/-- The nodes that are reached, as they are met. -/
def order (g : Gr) : List Int := (walk (refsOf g) (g.1.length + 1) 0 (begin0 g)).1

theorem refs_rng {g : Gr} (h : okG g = true) (r : Int) : ∀ x ∈ refsOf g r, x < (g.1.length : Int) := by
  obtain ⟨_, _, _, h4, _⟩ := okG_iff.1 h
  intro x hx
  unfold refsOf at hx
  by_cases hr : r.toNat < g.1.length
  · rw [getD_lt hr] at hx
    exact (okR_iff.1 (h4 _ (List.getElem_mem hr)).2.2 x hx).2
  · rw [List.getD_eq_getElem?_getD, List.getElem?_eq_none (by omega)] at hx
    simp at hx

theorem roots_met {m : Nat} {ls : List (List Int)} : ∀ {st : Mst}, Met m st → (∀ l ∈ ls, ∀ x ∈ l, x < (m : Int)) → Met m (ls.foldl (fun s l => l.foldl meet s) st) := by
  induction ls with
  | nil => intro st h _; exact h
  | cons l ls ih => intro st h hl; exact ih (h.meets (hl l (by simp))) fun x hx => hl x (by simp [hx])

theorem roots_pre {ls : List (List Int)} : ∀ {st : Mst}, st.1 <+: (ls.foldl (fun s l => l.foldl meet s) st).1 := by
  induction ls with
  | nil => intro st; exact List.prefix_refl _
  | cons r l ih => intro st; exact meets_pre.trans ih

theorem roots_mem {m : Nat} {ls : List (List Int)} : ∀ {st : Mst}, Met m st → (∀ l ∈ ls, ∀ x ∈ l, x < (m : Int)) → ∀ l ∈ ls, ∀ r ∈ l, 0 ≤ r → r ∈ (ls.foldl (fun s l => l.foldl meet s) st).1 := by
  induction ls with
  | nil => intro st _ _ r hr; simp at hr
  | cons x ls ih =>
    intro st h hl l hm r hr h0
    have h1 := h.meets (hl x (by simp))
    simp only [List.mem_cons] at hm
    rcases hm with rfl | hm
    · exact (roots_pre (ls := ls)).subset (meets_mem h (hl l (by simp)) r hr h0)
    · exact ih h1 (fun y hy => hl y (by simp [hy])) l hm r hr h0

theorem roots_sub {ls : List (List Int)} : ∀ {st : Mst} {x : Int}, x ∈ (ls.foldl (fun s l => l.foldl meet s) st).1 → x ∈ st.1 ∨ ∃ l ∈ ls, x ∈ l ∧ 0 ≤ x := by
  induction ls with
  | nil => intro st x hx; exact .inl hx
  | cons r l ih =>
    intro st x hx
    rcases ih hx with h | ⟨l', h, h0⟩
    · rcases meets_sub h with h | h
      · exact .inl h
      · exact .inr ⟨r, by simp, h⟩
    · exact .inr ⟨l', by simp [h], h0⟩

theorem rootsrng {g : Gr} (h : okG g = true) : ∀ l ∈ g.2.1, ∀ x ∈ l, x < (g.1.length : Int) := fun l hl x hx => by
  obtain ⟨_, _, _, _, h5, _⟩ := okG_iff.1 h
  exact (okR_iff.1 (h5 l hl).2 x hx).2

theorem pinsrng {g : Gr} (h : okG g = true) : ∀ x ∈ g.2.2.1, x < (g.1.length : Int) := fun x hx => by
  obtain ⟨_, _, _, _, _, _, _, h8⟩ := okG_iff.1 h
  exact (okR_iff.1 h8 x hx).2

theorem begin0_ok {g : Gr} (h : okG g = true) : Met g.1.length (begin0 g) :=
  (roots_met (met0_ok _) (rootsrng h)).meets (pinsrng h)

theorem order_met {g : Gr} (h : okG g = true) : Met g.1.length (walk (refsOf g) (g.1.length + 1) 0 (begin0 g)) :=
  walk_met (fun r _ _ => refs_rng h r) _ _ (begin0_ok h)

theorem order_rng {g : Gr} (h : okG g = true) : ∀ r ∈ order g, 0 ≤ r ∧ r < (g.1.length : Int) := (order_met h).rng

theorem order_nodup {g : Gr} (h : okG g = true) : (order g).Nodup := (order_met h).nd

theorem order_le {g : Gr} (h : okG g = true) : (order g).length ≤ g.1.length := (order_met h).le

theorem order_closed {g : Gr} (h : okG g = true) : ∀ r ∈ order g, ∀ x ∈ refsOf g r, 0 ≤ x → x ∈ order g :=
  walk_closed (fun r _ _ => refs_rng h r) _ _ (begin0_ok h) (by omega) fun j _ hj => absurd hj (Nat.not_lt_zero _)

theorem order_roots {g : Gr} (h : okG g = true) : ∀ l ∈ g.2.1, ∀ x ∈ l, 0 ≤ x → x ∈ order g := fun l hl x hx h0 =>
  (walk_pre _ _).subset (meets_pre.subset (roots_mem (met0_ok _) (rootsrng h) l hl x hx h0))

theorem order_pins {g : Gr} (h : okG g = true) : ∀ x ∈ g.2.2.1, x ∈ order g := fun x hx => by
  obtain ⟨_, _, _, _, _, _, h7, _⟩ := okG_iff.1 h
  exact (walk_pre _ _).subset (meets_mem (roots_met (met0_ok _) (rootsrng h)) (pinsrng h) x hx (h7 x hx))

/-- The reached are the least that holds what is begun with and is closed. -/
theorem order_ind {g : Gr} {P : Int → Prop} (hr : ∀ l ∈ g.2.1, ∀ x ∈ l, 0 ≤ x → P x) (hp : ∀ x ∈ g.2.2.1, 0 ≤ x → P x) (hP : ∀ r, P r → ∀ x ∈ refsOf g r, 0 ≤ x → P x) : ∀ r ∈ order g, P r :=
  walk_ind hP _ _ fun r h => by
    rcases meets_sub h with h | ⟨h, h0⟩
    · rcases roots_sub h with h | ⟨l, hl, h, h0⟩
      · simp [met0] at h
      · exact hr l hl r h h0
    · exact hp r h h0


section
variable {N : Nat} (hN : lim < N)
include hN

theorem okG_small {g : Gr} (h : okG g = true) : smG g := by
  obtain ⟨h1, h2, h3, h4, h5, h6, h7, h8⟩ := okG_iff.1 h
  simp only [smG, smN, sm]
  refine ⟨by omega, fun x hx => ?_, by omega, fun x hx => ?_, by omega⟩
  · have := h4 x hx; omega
  · have := h5 x hx; omega

/-- One list of references, by the places. -/
theorem meets_loop {m : Nat} {xs : List Int} (hx : ∀ x ∈ xs, x < (m : Int)) (hm : m ≤ 200) (hl : xs.length ≤ lim) {ρ : Type} {L : Nat → Nat → Mst → Option ρ} {fin : Mst → ρ}
    (h1 : ∀ n i st (h : i < xs.length), w64 ((i : Int) + 1) = ((i + 1 : Nat) : Int) → Met m st → (0 ≤ xs[i] → xs[i].toNat < st.2.length) → st.1.length + 1 ≤ lim → L (n + 1) i st = L n (i + 1) (meet st xs[i]))
    (h3 : ∀ n st, Met m st → L (n + 1) xs.length st = some (fin st)) {st : Mst} (hst : Met m st) : L N 0 st = some (fin (xs.foldl meet st)) :=
  (fold_loop (xs := xs) (n := N) meet (fun _ st => Met m st) (L := L) (fin := fin) hl
    (fun n i st h hw hI => by
      have hr := hx _ (List.getElem_mem h)
      refine ⟨h1 n i st h hw hI (fun h0 => by have := hI.len; omega) ?_, hI.meet hr⟩
      have := hI.le; rw [lim_eq]; omega)
    (fun n st hI => h3 n st hI) (by omega) hst).1

theorem roots_loop {m : Nat} {ls : List (List Int)} (hx : ∀ l ∈ ls, ∀ x ∈ l, x < (m : Int)) (hl : ls.length ≤ lim) {ρ : Type} {L : Nat → Nat → Mst → Option ρ} {fin : Mst → ρ}
    (h1 : ∀ n i st (h : i < ls.length), w64 ((i : Int) + 1) = ((i + 1 : Nat) : Int) → Met m st → L (n + 1) i st = L n (i + 1) (ls[i].foldl meet st))
    (h3 : ∀ n st, Met m st → L (n + 1) ls.length st = some (fin st)) {st : Mst} (hst : Met m st) : L N 0 st = some (fin (ls.foldl (fun s l => l.foldl meet s) st)) :=
  (fold_loop (xs := ls) (n := N) (fun s l => l.foldl meet s) (fun _ st => Met m st) (L := L) (fin := fin) hl
    (fun n i st h hw hI => ⟨h1 n i st h hw hI, hI.meets (hx _ (List.getElem_mem h))⟩)
    (fun n st hI => h3 n st hI) (by omega) hst).1

theorem walk_loop {m : Nat} {R : Int → List Int} (hR : ∀ r, 0 ≤ r → r < (m : Int) → ∀ x ∈ R r, x < (m : Int)) (hm : m ≤ 200) {ρ : Type} {L : Nat → Nat → Mst → Option ρ} {fin : Mst → ρ}
    (h1 : ∀ n (i : Nat) st (h : i < st.1.length), w64 ((i : Int) + 1) = ((i + 1 : Nat) : Int) → Met m st → L (n + 1) i st = L n (i + 1) ((R st.1[i]).foldl meet st))
    (h3 : ∀ n i st, ¬ i < st.1.length → Met m st → L (n + 1) i st = some (fin st)) {st : Mst} (hst : Met m st) : L N 0 st = some (fin (walk R (m + 1) 0 st)) := by
  have key : ∀ n i st, Met m st → i ≤ st.1.length → m - i < n → L n i st = some (fin (walk R (m + 1 - i) i st)) := by
    intro n
    induction n with
    | zero => intro i st _ _ h; exact absurd h (Nat.not_lt_zero _)
    | succ n ih =>
      intro i st hI hi hn
      have hle := hI.le
      by_cases h : i < st.1.length
      · have e : m + 1 - i = (m + 1 - (i + 1)) + 1 := by omega
        rw [h1 n i st h (w64_succ (by omega)) hI, e]
        have hb := hI.meets (hR _ (hI.rng _ (List.getElem_mem h)).1 (hI.rng _ (List.getElem_mem h)).2)
        have hp := (meets_pre (l := R st.1[i]) (st := st)).length_le
        rw [ih (i + 1) _ hb (by omega) (by omega)]
        simp only [walk, h, if_true, getD_lt h]
      · rw [h3 n i st h hI]
        cases hk : m + 1 - i with
        | zero => rfl
        | succ k => simp only [walk, h, if_false]
  have := key N 0 st hst (by omega) (by rw [lim_eq] at hN; omega)
  simpa using this

end

/-- What a list of references leads to, not through one node. -/
inductive Rch (R : Int → List Int) (skip : Int) (l : List Int) : Int → Prop
  | root {r : Int} : r ∈ l → 0 ≤ r → r ≠ skip → Rch R skip l r
  | step {a r : Int} : Rch R skip l a → r ∈ R a → 0 ≤ r → r ≠ skip → Rch R skip l r

theorem Rch.mono {R : Int → List Int} {skip : Int} {l l' : List Int} (h : ∀ x ∈ l, x ∈ l') {k : Int} (hk : Rch R skip l k) : Rch R skip l' k := by
  induction hk with
  | root h1 h2 h3 => exact .root (h _ h1) h2 h3
  | step _ h1 h2 h3 ih => exact .step ih h1 h2 h3

theorem Rch.trans {R : Int → List Int} {skip : Int} {l : List Int} {r k : Int} (hr : Rch R skip l r) (hk : Rch R skip (R r) k) : Rch R skip l k := by
  induction hk with
  | root h1 h2 h3 => exact .step hr h1 h2 h3
  | step _ h1 h2 h3 ih => exact .step ih h1 h2 h3

abbrev Sn := List (Int × Bool)
abbrev keys (s : Sn) : List Int := s.map Prod.fst

structure Seen (m : Nat) (s : Sn) : Prop where
  nd : (keys s).Nodup
  tr : ∀ p ∈ s, p.2 = true
  rng : ∀ k ∈ keys s, 0 ≤ k ∧ k < (m : Int)

theorem pigeon : ∀ {m : Nat} {l : List Int}, l.Nodup → (∀ k ∈ l, 0 ≤ k ∧ k < (m : Int)) → l.length ≤ m
  | 0, [], _, _ => Nat.le_refl _
  | 0, x :: l, _, h => by have := h x (by simp); omega
  | m + 1, l, hn, h => by
    by_cases hm : (m : Int) ∈ l
    · have h1 := pigeon (m := m) (l := l.erase (m : Int)) (hn.erase _) (fun k hk => by
        have h2 := (hn.mem_erase_iff).1 hk
        have := h k h2.2
        have := h2.1
        omega)
      rw [List.length_erase_of_mem hm] at h1
      omega
    · have h1 := pigeon (m := m) hn (fun k hk => by
        have := h k hk
        have : k ≠ m := fun e => hm (e ▸ hk)
        omega)
      omega

theorem Seen.le {m : Nat} {s : Sn} (h : Seen m s) : s.length ≤ m := by
  have := pigeon h.nd h.rng
  simpa using this

theorem mget_keys : ∀ {s : Sn} {k : Int}, (∀ p ∈ s, p.2 = true) → ((mget s k).getD false = true ↔ k ∈ keys s)
  | [], k, _ => by simp [mget]
  | (q, b) :: s, k, h => by
    have hb : b = true := h (q, b) (by simp)
    subst hb
    have ih := mget_keys (s := s) (k := k) (fun p hp => h p (by simp [hp]))
    by_cases e : k = q
    · simp [mget, e]
    · simp only [mget, e, decide_false, cond_false, ih]
      simp [e]

theorem mset_fresh : ∀ {s : Sn} {k : Int} {b : Bool}, k ∉ keys s → mset s k b = s ++ [(k, b)]
  | [], _, _, _ => rfl
  | (q, c) :: s, k, b, h => by
    have h1 : k ≠ q := fun e => h (by simp [e])
    have h2 : k ∉ keys s := fun e => h (by simp only [keys, List.map_cons, List.mem_cons]; exact .inr e)
    simp only [mset, h1, decide_false, cond_false, mset_fresh h2, List.cons_append]

theorem Seen.add {m : Nat} {s : Sn} (h : Seen m s) {k : Int} (h0 : 0 ≤ k) (h1 : k < (m : Int)) (h2 : k ∉ keys s) : Seen m (s ++ [(k, true)]) := by
  refine ⟨?_, ?_, ?_⟩
  · simp only [keys, List.map_append, List.map_cons, List.map_nil]
    rw [List.nodup_append]
    refine ⟨h.nd, by simp, ?_⟩
    intro a ha b hb e
    simp only [List.mem_singleton] at hb
    subst hb; subst e
    exact h2 ha
  · intro p hp
    simp only [List.mem_append, List.mem_singleton] at hp
    rcases hp with hp | rfl
    · exact h.tr p hp
    · rfl
  · intro p hp
    simp only [keys, List.map_append, List.mem_append, List.map_cons, List.map_nil, List.mem_singleton] at hp
    rcases hp with hp | rfl
    · exact h.rng p hp
    · exact ⟨h0, h1⟩

/-- From one seen to the next. -/
structure Dfs (g : Gr) (skip : Int) (l : List Int) (s s' : Sn) : Prop where
  ok : Seen g.1.length s'
  le : s.length ≤ s'.length
  sub : ∀ k ∈ keys s, k ∈ keys s'
  new : ∀ k ∈ keys s', k ∈ keys s ∨ Rch (refsOf g) skip l k
  roots : ∀ r ∈ l, 0 ≤ r → r ≠ skip → r ∈ keys s'
  closed : ∀ k ∈ keys s', k ∉ keys s → ∀ r ∈ refsOf g k, 0 ≤ r → r ≠ skip → r ∈ keys s'

theorem Dfs.nil {g : Gr} {skip : Int} {s : Sn} (h : Seen g.1.length s) : Dfs g skip [] s s :=
  ⟨h, Nat.le_refl _, fun _ h => h, fun _ h => .inl h, fun _ h => by simp at h, fun _ h h' => absurd h h'⟩

theorem Dfs.skip {g : Gr} {skip r : Int} {l : List Int} {s s' : Sn} (h : Dfs g skip l s s') (hr : 0 ≤ r → r ≠ skip → r ∈ keys s') : Dfs g skip (l ++ [r]) s s' :=
  ⟨h.ok, h.le, h.sub, fun k hk => (h.new k hk).imp_right (Rch.mono fun x hx => by simp [hx]), fun x hx h0 h1 => by
    simp only [List.mem_append, List.mem_singleton] at hx
    rcases hx with hx | rfl
    · exact h.roots x hx h0 h1
    · exact hr h0 h1, h.closed⟩

theorem keys_push {s : Sn} {r k : Int} : k ∈ keys (s ++ [(r, true)]) ↔ k ∈ keys s ∨ k = r := by
  simp only [keys, List.map_append, List.mem_append, List.map_cons, List.map_nil, List.mem_singleton]

theorem Dfs.go {g : Gr} {skip r : Int} {l : List Int} {s s1 s2 : Sn} (h : Dfs g skip l s s1) (h0 : 0 ≤ r) (hs : r ≠ skip) (hn : r ∉ keys s1)
    (h2 : Dfs g skip (refsOf g r) (s1 ++ [(r, true)]) s2) : Dfs g skip (l ++ [r]) s s2 := by
  have hr : Rch (refsOf g) skip (l ++ [r]) r := .root (by simp) h0 hs
  have hsub : ∀ k ∈ keys s1, k ∈ keys s2 := fun k hk => h2.sub k (keys_push.2 (.inl hk))
  have hrm : r ∈ keys s2 := h2.sub r (keys_push.2 (.inr rfl))
  refine ⟨h2.ok, ?_, fun k hk => hsub k (h.sub k hk), ?_, ?_, ?_⟩
  · have := h2.le; have := h.le; simp only [List.length_append, List.length_singleton] at *; omega
  · intro k hk
    rcases h2.new k hk with h3 | h3
    · rcases keys_push.1 h3 with h4 | rfl
      · exact (h.new k h4).imp_right (Rch.mono fun x hx => by simp [hx])
      · exact .inr hr
    · exact .inr (hr.trans h3)
  · intro x hx h3 h4
    simp only [List.mem_append, List.mem_singleton] at hx
    rcases hx with hx | rfl
    · exact hsub x (h.roots x hx h3 h4)
    · exact hrm
  · intro k hk hks x hx h3 h4
    by_cases hk2 : k ∈ keys (s1 ++ [(r, true)])
    · rcases keys_push.1 hk2 with h5 | rfl
      · exact hsub x (h.closed k h5 hks x hx h3 h4)
      · exact h2.roots x hx h3 h4
    · exact h2.closed k hk hk2 x hx h3 h4

/-- From nothing: just what is reached. -/
theorem Dfs.all {g : Gr} {skip : Int} {l : List Int} {s : Sn} (h : Dfs g skip l [] s) (k : Int) : k ∈ keys s ↔ Rch (refsOf g) skip l k := by
  constructor
  · intro hk
    rcases h.new k hk with h1 | h1
    · simp at h1
    · exact h1
  · intro hk
    induction hk with
    | root h1 h2 h3 => exact h.roots _ h1 h2 h3
    | step _ h1 h2 h3 ih => exact h.closed _ ih (by simp) _ h1 h2 h3

/-- The order's members. -/
theorem order_rch {g : Gr} {l : List Int} (h : okG (g.1, [l], [], ()) = true) (k : Int) : k ∈ order (g.1, [l], [], ()) ↔ Rch (refsOf g) (-1) l k := by
  constructor
  · intro hk
    refine order_ind (g := (g.1, [l], [], ())) (P := fun k => Rch (refsOf g) (-1) l k) ?_ ?_ ?_ k hk
    · intro l' hl x hx h0
      simp only [List.mem_singleton] at hl
      subst hl
      exact .root hx h0 (by omega)
    · intro x hx; simp at hx
    · intro r hr x hx h0
      exact .step hr hx h0 (by omega)
  · intro hk
    induction hk with
    | root h1 h2 h3 => exact order_roots h _ (by simp) _ h1 h2
    | step _ h1 h2 h3 ih => exact order_closed h _ ih _ h1 h2

def mark (out : List Bool) (l : List Int) : List Bool := l.foldl (fun o r => o.set r.toNat true) out
def reachL (g : Gr) : List Bool := mark (List.replicate g.1.length false) (order g)

theorem mark_len {l : List Int} : ∀ {out : List Bool}, (mark out l).length = out.length := by
  induction l with
  | nil => intro out; rfl
  | cons r l ih => intro out; simp only [mark, List.foldl_cons]; exact (ih (out := out.set r.toNat true)).trans (by simp)

theorem mark_get {l : List Int} : ∀ {out : List Bool} {k : Nat}, (∀ r ∈ l, 0 ≤ r ∧ r < (out.length : Int)) → ((mark out l).getD k false = true ↔ out.getD k false = true ∨ (k : Int) ∈ l) := by
  induction l with
  | nil => intro out k _; simp [mark]
  | cons r l ih =>
    intro out k h
    have hr := h r (by simp)
    have := ih (out := out.set r.toNat true) (k := k) (fun x hx => by simpa using h x (by simp [hx]))
    simp only [mark, List.foldl_cons] at this ⊢
    rw [this]
    simp only [List.getD_eq_getElem?_getD, List.getElem?_set, List.mem_cons]
    by_cases e : r.toNat = k
    · have e' : (k : Int) = r := by omega
      have hlt : r.toNat < out.length := by omega
      simp only [e, if_true, e', true_or, or_true, iff_true]
      rw [if_pos (by omega)]
      simp
    · have e' : ¬ (k : Int) = r := by omega
      simp only [e, if_false, e', false_or]

theorem count_mark : ∀ {l : List Bool} {i : Nat}, i < l.length → l.getD i false = false → (l.set i true).count true = l.count true + 1
  | [], _, h, _ => by simp at h
  | b :: l, 0, _, h => by simp at h; subst h; simp
  | b :: l, i + 1, h, h2 => by
    have ih := count_mark (l := l) (i := i) (by simpa using h) (by simpa using h2)
    simp only [List.set_cons_succ, List.count_cons]
    omega

theorem mark_count {l : List Int} : ∀ {out : List Bool}, l.Nodup → (∀ r ∈ l, 0 ≤ r ∧ r < (out.length : Int)) → (∀ r ∈ l, out.getD r.toNat false = false) → (mark out l).count true = out.count true + l.length := by
  induction l with
  | nil => intro out _ _ _; simp [mark]
  | cons r l ih =>
    intro out hn h hf
    have hr := h r (by simp)
    have hn' := List.nodup_cons.1 hn
    have := ih (out := out.set r.toNat true) hn'.2 (fun x hx => by simpa using h x (by simp [hx])) (fun x hx => by
      have hx0 := h x (by simp [hx])
      have : r.toNat ≠ x.toNat := fun e => hn'.1 (by have : r = x := by omega
                                                     rw [this]; exact hx)
      simp only [List.getD_eq_getElem?_getD, List.getElem?_set, this, if_false]
      simpa using hf x (by simp [hx]))
    simp only [mark, List.foldl_cons] at this ⊢
    rw [this, count_mark (by omega) (hf r (by simp)), List.length_cons]
    omega

theorem reachL_len (g : Gr) : (reachL g).length = g.1.length := by simp [reachL, mark_len]

theorem reachL_get {g : Gr} (h : okG g = true) {k : Nat} : (reachL g).getD k false = true ↔ (k : Int) ∈ order g := by
  unfold reachL
  rw [mark_get (fun r hr => by simpa using order_rng h r hr)]
  simp only [List.getD_eq_getElem?_getD, List.getElem?_replicate]
  constructor
  · rintro (h | h)
    · split at h <;> simp at h
    · exact h
  · exact .inr

theorem reachL_count {g : Gr} (h : okG g = true) : (reachL g).count true = (order g).length := by
  unfold reachL
  rw [mark_count (order_nodup h) (fun r hr => by simpa using order_rng h r hr)]
  · simp [List.count_replicate]
  · intro r hr
    simp only [List.getD_eq_getElem?_getD, List.getElem?_replicate]
    split <;> rfl

def bump (c : List Int) (p : Nat → Bool) : List Int := (List.range c.length).map fun k => c.getD k 0 + if p k = true then 1 else 0

theorem bump_len {c : List Int} {p : Nat → Bool} : (bump c p).length = c.length := by simp [bump]

theorem bump_get {c : List Int} {p : Nat → Bool} {k : Nat} (h : k < (bump c p).length) : (bump c p)[k] = c.getD k 0 + if p k = true then 1 else 0 := by
  simp [bump]

theorem bump_congr {c : List Int} {p q : Nat → Bool} (h : ∀ k, k < c.length → p k = q k) : bump c p = bump c q := by
  apply List.ext_getElem (by simp [bump_len])
  intro k h1 h2
  rw [bump_get, bump_get, h k (by simpa [bump_len] using h1)]

theorem bump_none {c : List Int} {p : Nat → Bool} (h : ∀ k, k < c.length → p k = false) : bump c p = c := by
  apply List.ext_getElem (by simp [bump_len])
  intro k h1 h2
  rw [bump_get, h k h2, getD_lt h2]
  simp

theorem bump_set {c : List Int} {p q : Nat → Bool} {k : Nat} (hk : k < c.length) (hp : p k = true) (hq : q k = false) (h : ∀ j, j ≠ k → p j = q j) : bump (c.set k (c.getD k 0 + 1)) q = bump c p := by
  apply List.ext_getElem (by simp [bump_len])
  intro j h1 h2
  rw [bump_get, bump_get]
  simp only [bump_len, List.length_set] at h1
  by_cases e : j = k
  · subst e
    rw [getD_lt (by simpa using h1), List.getElem_set_self, hp, hq]; simp
  · rw [getD_lt (by simpa using h1), List.getElem_set_ne (by omega), h j e, getD_lt h1]

/-- The nodes that the list leads to. -/
def isRch (g : Gr) (l : List Int) (k : Nat) : Bool := (reachL (g.1, [l], [], ())).getD k false

def counts (g : Gr) : List Int := g.2.1.foldl (fun c l => bump c (isRch g l)) (List.replicate g.1.length 0)

def pushIf (c : List Int) (s : List Int) (k : Int) : List Int := if c.getD k.toNat 0 > 1 then s ++ [k] else s

def upto (n : Nat) : List Int := (List.range n).map fun k : Nat => (k : Int)

def shared (g : Gr) : List Int := (upto g.1.length).foldl (pushIf (counts g)) []

theorem upto_len {n : Nat} : (upto n).length = n := by simp [upto]
theorem upto_get {n i : Nat} (h : i < (upto n).length) : (upto n)[i] = (i : Int) := by simp [upto]

theorem okG_one {g : Gr} (h : okG g = true) {l : List Int} (hl : l.length ≤ 8) (hr : okR g.1.length l = true) : okG (g.1, [l], [], ()) = true := by
  have := okG_iff.1 h
  refine okG_iff.2 ⟨this.1, by simp, by simp, this.2.2.2.1, ?_, by simp, by simp, by simp [okR]⟩
  intro r hm
  simp only [List.mem_singleton] at hm
  subst hm
  exact ⟨hl, hr⟩

theorem okG_root {g : Gr} (h : okG g = true) {l : List Int} (hl : l ∈ g.2.1) : okG (g.1, [l], [], ()) = true := by
  have := (okG_iff.1 h).2.2.2.2.1 l hl
  exact okG_one h this.1 this.2

theorem isRch_iff {g : Gr} {l : List Int} (h : okG (g.1, [l], [], ()) = true) {k : Nat} : isRch g l k = true ↔ Rch (refsOf g) (-1) l k := by
  rw [isRch, reachL_get h, order_rch h]

/-- What is counted stays small. -/
structure Cnt (m i : Nat) (c : List Int) : Prop where
  len : c.length = m
  lo : ∀ k, 0 ≤ c.getD k 0
  hi : ∀ k, c.getD k 0 ≤ (i : Int)

theorem Cnt.zero (m : Nat) : Cnt m 0 (List.replicate m 0) := by
  refine ⟨by simp, ?_, ?_⟩ <;> intro k <;> simp only [List.getD_eq_getElem?_getD, List.getElem?_replicate] <;> split <;> simp

theorem Cnt.bump {m i : Nat} {c : List Int} (h : Cnt m i c) (p : Nat → Bool) : Cnt m (i + 1) (bump c p) := by
  have hg : ∀ k, (Fl.bump c p).getD k 0 = if k < m then c.getD k 0 + (if p k = true then 1 else 0) else 0 := by
    intro k
    by_cases hk : k < m
    · rw [getD_lt (by rw [bump_len, h.len]; exact hk), bump_get]; simp [hk]
    · rw [List.getD_eq_getElem?_getD, List.getElem?_eq_none (by rw [bump_len, h.len]; omega)]; simp [hk]
  refine ⟨by rw [bump_len, h.len], ?_, ?_⟩ <;> intro k <;> rw [hg k] <;> have := h.lo k <;> have := h.hi k <;> split <;> (try split) <;> omega

theorem counts_cnt {g : Gr} (h : okG g = true) : Cnt g.1.length g.2.1.length (counts g) := by
  have key : ∀ (ls : List (List Int)) (i : Nat) (c : List Int), Cnt g.1.length i c → Cnt g.1.length (i + ls.length) (ls.foldl (fun c l => bump c (isRch g l)) c) := by
    intro ls
    induction ls with
    | nil => intro i c hc; simpa using hc
    | cons l ls ih =>
      intro i c hc
      have := ih (i + 1) _ (hc.bump (isRch g l))
      simp only [List.foldl_cons, List.length_cons]
      rw [show i + (ls.length + 1) = i + 1 + ls.length by omega]
      exact this
  have := key g.2.1 0 _ (Cnt.zero g.1.length)
  simpa [counts] using this

theorem pushIf_one {c s : List Int} {x : Int} : (pushIf c s x).length ≤ s.length + 1 := by unfold pushIf; split <;> simp

theorem pushIf_len {c : List Int} : ∀ {xs : List Int} {s : List Int}, (xs.foldl (pushIf c) s).length ≤ s.length + xs.length
  | [], s => by simp
  | x :: xs, s => by
    have := pushIf_len (c := c) (xs := xs) (s := pushIf c s x)
    simp only [List.foldl_cons, List.length_cons]
    have h2 : (pushIf c s x).length ≤ s.length + 1 := by unfold pushIf; split <;> simp
    omega

theorem shared_len (g : Gr) : (shared g).length ≤ g.1.length := by
  have := pushIf_len (c := counts g) (xs := upto g.1.length) (s := [])
  simpa [shared, upto_len] using this

section
variable {N : Nat} (hN : lim < N)
include hN

theorem dfs_ok {g : Gr} (hg : okG g = true) {skip : Int} : ∀ (m : Nat) {l : List Int} {s : Sn}, (∀ x ∈ l, x < (g.1.length : Int)) → l.length ≤ lim → Seen g.1.length s → g.1.length - s.length < m →
    ∃ s', FiGraph_from_1_iGraph_from_1 N m (l, skip, g, s, skip, g, ()) = some (s', skip, g, ()) ∧ Dfs g skip l s s'
  | 0, _, _, _, _, _, h => absurd h (Nat.not_lt_zero _)
  | m + 1, l, s, hl, hlen, hs, hm => by
    have key : ∀ (d n i : Nat) (s1 : Sn), i + d = l.length → d < n → Dfs g skip (l.take i) s s1 →
        ∃ s', liGraph_from_1_iGraph_from_1_0 N (fun x_ => FiGraph_from_1_iGraph_from_1 N m x_) n (skip, g, l, (l.length : Int), (i : Int), s1, skip, g, ()) = some (s', skip, g, ()) ∧ Dfs g skip l s s' := by
      intro d
      induction d with
      | zero =>
        intro n i s1 hi hn hD
        obtain ⟨n, rfl⟩ : ∃ k, n = k + 1 := ⟨n - 1, by omega⟩
        have : i = l.length := by omega
        subst this
        rw [List.take_length] at hD
        exact ⟨s1, by simp [liGraph_from_1_iGraph_from_1_0], hD⟩
      | succ d ih =>
        intro n i s1 hi hn hD
        obtain ⟨n, rfl⟩ : ∃ k, n = k + 1 := ⟨n - 1, by omega⟩
        have hlt : i < l.length := by omega
        have hw : w64 ((i : Int) + 1) = ((i + 1 : Nat) : Int) := w64_succ (by rw [lim_eq] at hlen; omega)
        have ht : l.take (i + 1) = l.take i ++ [l[i]] := by rw [List.take_succ_eq_append_getElem hlt]
        have go := fun s2 (h : Dfs g skip (l.take i ++ [l[i]]) s s2) => ih n (i + 1) s2 (by omega) (by omega) (by rw [ht]; exact h)
        simp only [liGraph_from_1_iGraph_from_1_0, Int.ofNat_lt, hlt, decide_true, cond_true, Int.natCast_nonneg, Int.toNat_natCast, getD_lt hlt, hw]
        by_cases h0 : 0 ≤ l[i]
        · by_cases h1 : l[i] = skip
          · have e : (l[i] != skip) = false := by simp [h1]
            simp only [ge_iff_le, h0, decide_true, cond_true, e, cond_false]
            exact go s1 (hD.skip fun _ h => absurd h1 h)
          · have e : (l[i] != skip) = true := by simp [h1]
            simp only [ge_iff_le, h0, decide_true, cond_true, e]
            by_cases h2 : l[i] ∈ keys s1
            · have e2 := (mget_keys (k := l[i]) hD.ok.tr).2 h2
              simp only [e2, Bool.not_true, cond_false]
              exact go s1 (hD.skip fun _ _ => h2)
            · have e2 : (mget s1 l[i]).getD false = false := by
                cases hb : (mget s1 l[i]).getD false with
                | false => rfl
                | true => exact absurd ((mget_keys hD.ok.tr).1 hb) h2
              have hr := hl _ (List.getElem_mem hlt)
              have hr' : l[i].toNat < g.1.length := by omega
              have hs2 := hD.ok.add h0 hr h2
              have hsm := (okG_iff.1 hg).2.2.2.1 _ (List.getElem_mem hr')
              have hle := hD.le
              obtain ⟨s3, e3, h3⟩ := dfs_ok hg (skip := skip) m (l := refsOf g l[i]) (s := s1 ++ [(l[i], true)]) (refs_rng hg _)
                (by simp only [refsOf, getD_lt hr']; rw [lim_eq]; omega) hs2 (by simp only [List.length_append, List.length_singleton]; have := hs2.le; simp only [List.length_append, List.length_singleton] at this; omega)
              simp only [e2, Bool.not_false, cond_true, hr', decide_true, mset_fresh h2]
              simp only [refsOf] at e3
              rw [e3]
              exact go s3 (hD.go h0 h1 h2 h3)
        · simp only [ge_iff_le, h0, decide_false, cond_false]
          exact go s1 (hD.skip fun h => absurd h h0)
    obtain ⟨s', e, h⟩ := key l.length N 0 s (by omega) (by omega) (by simpa using Dfs.nil hs)
    simp only [Int.natCast_zero] at e
    exact ⟨s', by simp [FiGraph_from_1_iGraph_from_1, e], h⟩

theorem iGraph_from_ok {g : Gr} (hg : okG g = true) {l : List Int} (hl : ∀ x ∈ l, x < (g.1.length : Int)) (hlen : l.length ≤ lim) (skip : Int) :
    ∃ s, FiGraph_from N (g, l, skip, ()) = some (s, ()) ∧ Seen g.1.length s ∧ ∀ k, k ∈ keys s ↔ Rch (refsOf g) skip l k := by
  have h0 : Seen g.1.length [] := ⟨by simp, by simp, by simp⟩
  have := (okG_iff.1 hg).1
  obtain ⟨s, e, h⟩ := dfs_ok hN hg (skip := skip) N hl hlen h0 (by rw [lim_eq] at hN; simp; omega)
  exact ⟨s, by simp [FiGraph_from, e], h.ok, h.all⟩
end

section
variable {N : Nat} (hN : lim < N)
include hN

theorem leads_ok {g : Gr} {xs : List Int} {low : Int} (hl : xs.length ≤ lim) :
    FiGraph_leads N (g, xs, low, ()) = some (xs.all fun x => decide (low ≤ x) && decide (x < (g.1.length : Int)), ()) := by
  have hL := find_loop (xs := xs) (n := N) (fun x => decide (x < low) || decide (x ≥ (g.1.length : Int))) (L := fun n i => lkIndexFunc_Sint_int_iGraph_leads_1_0 N n (xs, low, g, (xs.length : Int), (i : Int), ()))
    (yes := fun i => .inr ((i : Int), ())) (no := .inl ()) hl
    (fun n i h hw hq => by
      simp at hq
      simp [lkIndexFunc_Sint_int_iGraph_leads_1_0, FiGraph_leads_1, h, hw, Int.not_lt.2 hq.1, Int.not_le.2 hq.2])
    (fun n i h hq => by
      by_cases h1 : xs[i] < low
      · simp [lkIndexFunc_Sint_int_iGraph_leads_1_0, FiGraph_leads_1, h, h1]
      · simp [h1] at hq
        simp [lkIndexFunc_Sint_int_iGraph_leads_1_0, FiGraph_leads_1, h, h1, hq])
    (fun n => by simp [lkIndexFunc_Sint_int_iGraph_leads_1_0]) (by omega)
  simp only [Int.natCast_zero] at hL
  simp only [FiGraph_leads, FkContainsFunc_Sint_int_iGraph_leads_1, FkIndexFunc_Sint_int_iGraph_leads_1, hL]
  cases hf : xs.findIdx? (fun x => decide (x < low) || decide (x ≥ (g.1.length : Int))) with
  | none =>
    have : (xs.all fun x => decide (low ≤ x) && decide (x < (g.1.length : Int))) = true := by
      rw [List.findIdx?_eq_none_iff] at hf
      rw [List.all_eq_true]
      intro x hx
      have := hf x hx
      simp at this ⊢
      omega
    simp [this]
  | some i =>
    have : (xs.all fun x => decide (low ≤ x) && decide (x < (g.1.length : Int))) = false := by
      rw [List.findIdx?_eq_some_iff_getElem] at hf
      obtain ⟨h, h1, _⟩ := hf
      rw [List.all_eq_false]
      refine ⟨_, List.getElem_mem h, ?_⟩
      simp at h1 ⊢
      omega
    simp [this]

theorem leads1_ok {g : Gr} {xs : List Int} (hl : xs.length ≤ lim) : FiGraph_leads N (g, xs, -1, ()) = some (okR g.1.length xs, ()) := leads_ok hN hl

theorem iGraphOk_ok {g : Gr} (hs : smG g) : FiGraphOk N (g, ()) = some (okG g, ()) := by
  obtain ⟨a1, a2, a3, a4, a5⟩ := hs
  have h1 := all_loop (xs := g.1) (n := N) (okN g.1.length) (L := fun n i => liGraphOk_0 N n (g, g.1, (g.1.length : Int), (i : Int), ())) (yes := .inl (g, ())) (no := .inr (false, ())) (sm_lim a1)
    (fun n i h hw hq => by
      simp [okN] at hq
      simp [liGraphOk_0, h, hw, leads1_ok hN (sm_lim (a2 _ (List.getElem_mem h)).1), hq, Nat.not_lt.2 hq.1, Nat.not_lt.2 hq.2.1]
      )
    (fun n i h hq => by
      simp only [liGraphOk_0, leads1_ok hN (sm_lim (a2 _ (List.getElem_mem h)).1), getD_lt h, Int.toNat_natCast]
      simp only [okN] at hq
      by_cases h1 : g.1[i].1.length ≤ 4 <;> by_cases h2 : g.1[i].2.1.length ≤ 4 <;> simp_all)
    (fun n => by simp [liGraphOk_0]) (by have := sm_lim a1; omega)
  have h2 := all_loop (xs := g.2.1) (n := N) (fun r => decide (r.length ≤ 8) && okR g.1.length r) (L := fun n i => liGraphOk_2 N n (g, g.2.1, (g.2.1.length : Int), (i : Int), ())) (yes := .inl ()) (no := .inr (false, ())) (sm_lim a3)
    (fun n i h hw hq => by
      simp at hq
      simp [liGraphOk_2, h, hw, leads1_ok hN (sm_lim (a4 _ (List.getElem_mem h))), hq, Nat.not_lt.2 hq.1])
    (fun n i h hq => by
      simp only [liGraphOk_2, leads1_ok hN (sm_lim (a4 _ (List.getElem_mem h))), getD_lt h, Int.toNat_natCast]
      by_cases h1 : g.2.1[i].length ≤ 8 <;> simp_all)
    (fun n => by simp [liGraphOk_2]) (by have := sm_lim a3; omega)
  simp only [Int.natCast_zero] at h1 h2
  simp only [FiGraphOk, okG]
  have hp : (g.2.2.1.all (fun x => decide (0 ≤ x)) && okR g.1.length g.2.2.1) = g.2.2.1.all fun x => decide (0 ≤ x) && decide (x < (g.1.length : Int)) := by
    rw [Bool.eq_iff_iff]
    simp only [okR, Bool.and_eq_true, List.all_eq_true, decide_eq_true_eq]
    constructor
    · rintro ⟨h1, h2⟩ x hx; exact ⟨h1 x hx, (h2 x hx).2⟩
    · intro h; exact ⟨fun x hx => (h x hx).1, fun x hx => ⟨by have := (h x hx).1; omega, (h x hx).2⟩⟩
  rw [hp]
  by_cases b1 : g.1.length ≤ 200
  · by_cases b2 : 1 ≤ g.2.1.length
    · by_cases b3 : g.2.1.length ≤ 3
      · by_cases b4 : g.2.2.1.length ≤ 8
        · simp only [gt_iff_lt, lit_lt200, lt_lit1, lit_lt3, lit_lt8, Nat.not_lt.2 b1, Nat.not_lt.2 b2, Nat.not_lt.2 b3, Nat.not_lt.2 b4, b1, b2, b3, b4, decide_true, decide_false, cond_false, Option.bind_some, leads_ok hN (sm_lim a5), bif_neg]
          cases g.2.2.1.all fun x => decide (0 ≤ x) && decide (x < (g.1.length : Int))
          · simp
          · simp only [cond_true, Option.bind_some, Sum.elim_inl, h1]
            cases g.1.all (okN g.1.length)
            · simp
            · simp only [cond_true, Option.bind_some, Sum.elim_inl, h2]
              cases g.2.1.all fun r => decide (r.length ≤ 8) && okR g.1.length r <;> simp
        · simp [Nat.not_lt.2 b1, Nat.not_lt.2 b2, Nat.not_lt.2 b3, Nat.not_le.1 b4, b4]
      · simp [Nat.not_lt.2 b1, Nat.not_lt.2 b2, Nat.not_le.1 b3, b3]
    · simp [Nat.not_lt.2 b1, Nat.not_le.1 b2, b2]
  · simp [Nat.not_le.1 b1, b1]

end

/-- It comes to an end, and what it comes to is so. -/
def Ret {α : Type} (o : Option α) (P : α → Prop) : Prop := ∃ r, o = some r ∧ P r

theorem Ret.pure {α : Type} {a : α} {P : α → Prop} (h : P a) : Ret (some a) P := ⟨a, rfl, h⟩
theorem Ret.bind {α β : Type} {o : Option α} {k : α → Option β} {P : β → Prop} (Q : α → Prop) (h : Ret o Q) (hk : ∀ r, Q r → Ret (k r) P) : Ret (o.bind k) P := by
  obtain ⟨r, e, hr⟩ := h
  rw [e]
  exact hk r hr
theorem Ret.bindE {α β : Type} {o : Option α} {k : α → Option β} {P : β → Prop} {r : α} (e : o = some r) (hk : Ret (k r) P) : Ret (o.bind k) P := by
  rw [e]; exact hk
theorem Ret.mono {α : Type} {o : Option α} {P Q : α → Prop} (h : Ret o P) (hm : ∀ r, P r → Q r) : Ret o Q := by
  obtain ⟨r, e, hr⟩ := h; exact ⟨r, e, hm r hr⟩
theorem Ret.bif {α : Type} {c : Bool} {a b : Option α} {P : α → Prop} (h1 : c = true → Ret a P) (h2 : c = false → Ret b P) : Ret (bif c then a else b) P := by
  cases c with
  | true => exact h1 rfl
  | false => exact h2 rfl
theorem Ret.dec {α : Type} {p : Prop} [Decidable p] {a b : Option α} {P : α → Prop} (h1 : p → Ret a P) (h2 : ¬ p → Ret b P) : Ret (_root_.cond (decide p) a b) P := by
  by_cases h : p
  · simpa [h] using h1 h
  · simpa [h] using h2 h
theorem Ret.guard {α : Type} {p : Prop} [Decidable p] {a : Option α} {P : α → Prop} (hp : p) (h : Ret a P) : Ret (_root_.cond (decide p) a none) P := by
  simpa [hp] using h
theorem Ret.guardN {α : Type} {p : Prop} [Decidable p] {a : Option α} {P : α → Prop} (hp : ¬ p) (h : Ret a P) : Ret (_root_.cond (decide p) none a) P := by
  simpa [hp] using h
theorem Ret.beq {α β : Type} [DecidableEq β] {x y : β} {a b : Option α} {P : α → Prop} (h1 : x = y → Ret a P) (h2 : ¬ x = y → Ret b P) : Ret (_root_.cond (x == y) a b) P := by
  rw [bif_beq]
  by_cases h : x = y
  · simpa [h] using h1 h
  · simpa [h] using h2 h
theorem obind_eq {α β : Type} {o : Option α} {r : α} {k : α → Option β} {z : Option β} (e : o = some r) (h : k r = z) : o.bind k = z := by
  rw [e]; exact h

theorem all_erase {α : Type} {q : α → Bool} : ∀ {l : List α} {i : Nat} (h : i < l.length), l.all q = (q l[i] && (l.eraseIdx i).all q)
  | [], _, h => absurd h (Nat.not_lt_zero _)
  | x :: l, 0, _ => by simp
  | x :: l, i + 1, h => by
    have hi : i < l.length := by simpa using h
    have := all_erase (q := q) (l := l) (i := i) hi
    simp only [List.all_cons, List.getElem_cons_succ, List.eraseIdx_cons_succ, this]
    cases q x <;> cases q l[i] <;> rfl
/-- Going over a map, in whatever order. -/
theorem anyall_loop {α ρ : Type} {P : α → Prop} (q : α → Bool) {L : Nat → List α → Option ρ} {yes no : ρ} (h0 : ∀ n, L (n + 1) [] = some yes)
    (h1 : ∀ n rest, rest ≠ [] → (∀ x ∈ rest, P x) → ∃ f, L (n + 1) rest = anyOf rest.length f ∧ ∀ i (h : i < rest.length), (q rest[i] = true → f i = L n (rest.eraseIdx i)) ∧ (q rest[i] = false → f i = some no)) :
    ∀ (n : Nat) (rest : List α), rest.length < n → (∀ x ∈ rest, P x) → L n rest = some (if rest.all q = true then yes else no)
  | 0, _, h, _ => absurd h (Nat.not_lt_zero _)
  | n + 1, rest, h, hP => by
    by_cases he : rest = []
    · subst he; rw [h0]; simp
    · obtain ⟨f, e, hf⟩ := h1 n rest he hP
      rw [e]
      have hpos : 0 < rest.length := List.length_pos_iff.2 he
      refine anyOf_eq hpos fun i hi => ?_
      obtain ⟨f1, f2⟩ := hf i hi
      rw [all_erase hi]
      cases hq : q rest[i] with
      | false => rw [f2 hq]; simp
      | true =>
        rw [f1 hq, anyall_loop q h0 h1 n (rest.eraseIdx i) (by rw [List.length_eraseIdx_of_lt hi]; omega) (fun x hx => hP x (List.mem_of_mem_eraseIdx hx))]
        simp
theorem find_of_idx {α : Type} {p : α → Bool} : ∀ {l : List α}, l.find? p = (l.findIdx? p).bind fun i => l[i]?
  | [] => by simp
  | x :: l => by
    have ih := find_of_idx (p := p) (l := l)
    simp only [List.find?_cons, List.findIdx?_cons]
    cases hx : p x with
    | true => simp
    | false =>
      simp only [ih]
      cases l.findIdx? p <;> simp

section
variable {N : Nat} (hN : lim < N)
include hN

omit hN in
theorem keys_eraseIdx : ∀ {s : Sn} {i : Nat}, keys (s.eraseIdx i) = (keys s).eraseIdx i
  | [], _ => rfl
  | _ :: _, 0 => rfl
  | x :: s, i + 1 => by
    have := keys_eraseIdx (s := s) (i := i)
    simp only [keys, List.eraseIdx_cons_succ, List.map_cons] at this ⊢
    rw [this]

omit hN in
theorem mem_erase_nd {α : Type} {k : α} : ∀ {l : List α} {i : Nat}, l.Nodup → (h : i < l.length) → (k ∈ l.eraseIdx i ↔ k ∈ l ∧ k ≠ l[i])
  | [], _, _, h => absurd h (Nat.not_lt_zero _)
  | x :: l, 0, hn, _ => by
    have := (List.nodup_cons.1 hn).1
    simp only [List.eraseIdx_cons_zero, List.mem_cons, List.getElem_cons_zero]
    constructor
    · intro h; exact ⟨.inr h, fun e => this (e ▸ h)⟩
    · rintro ⟨h | h, h2⟩
      · exact absurd h h2
      · exact h
  | x :: l, i + 1, hn, h => by
    have h1 := List.nodup_cons.1 hn
    have hi : i < l.length := by simpa using h
    have ih := mem_erase_nd (k := k) h1.2 hi
    simp only [List.eraseIdx_cons_succ, List.mem_cons, List.getElem_cons_succ, ih]
    constructor
    · rintro (rfl | h2)
      · exact ⟨.inl rfl, fun e => h1.1 (by rw [e]; exact List.getElem_mem hi)⟩
      · exact ⟨.inr h2.1, h2.2⟩
    · rintro ⟨h2 | h2, h3⟩
      · exact .inl h2
      · exact .inr ⟨h2, h3⟩

omit hN in
theorem keys_erase {s : Sn} (hn : (keys s).Nodup) {i : Nat} (h : i < s.length) (k : Int) : k ∈ keys (s.eraseIdx i) ↔ k ∈ keys s ∧ k ≠ s[i].1 := by
  rw [keys_eraseIdx, mem_erase_nd hn (by simpa using h)]
  simp

omit hN in
theorem shared_i2 {g : Gr} {R : List (List Int)} {j k : Int} : ∀ (n : Nat) (s : Sn) {c : List Int}, (keys s).Nodup → (∀ x ∈ keys s, 0 ≤ x ∧ x < (c.length : Int)) → (∀ x : Nat, (x : Int) ∈ keys s → 0 ≤ c.getD x 0 ∧ c.getD x 0 ≤ 1000) → s.length < n →
    liPathShared_2 N n (g, R, j, k, c, s, ()) = some (g, R, j, k, bump c (fun x => decide ((x : Int) ∈ keys s)), ())
  | 0, _, _, _, _, _, h => absurd h (Nat.not_lt_zero _)
  | n + 1, s, c, hn, hr, hb, hlen => by
    by_cases he : s = []
    · subst he
      rw [bump_none (by simp)]
      simp [liPathShared_2]
    · have hpos : 0 < s.length := List.length_pos_iff.2 he
      have he' : s.isEmpty = false := by simp [he]
      simp only [liPathShared_2, he', cond_false]
      refine anyOf_eq hpos fun i hi => ?_
      have hm : s[i].1 ∈ keys s := List.mem_map.2 ⟨_, List.getElem_mem hi, rfl⟩
      have h1 := hr _ hm
      have h2 : s[i].1.toNat < c.length := by omega
      have h3 : ((s[i].1.toNat : Nat) : Int) = s[i].1 := by omega
      have h4 := hb s[i].1.toNat (by rw [h3]; exact hm)
      have hw2 : w64 (c.getD s[i].1.toNat 0 + 1) = c.getD s[i].1.toNat 0 + 1 := w64_id (by omega) (by omega)
      have ih := shared_i2 (g := g) (R := R) (j := j) (k := k) n (s.eraseIdx i) (c := c.set s[i].1.toNat (c.getD s[i].1.toNat 0 + 1)) (by rw [keys_eraseIdx]; exact hn.eraseIdx i) (fun x hx => by simpa using hr x ((keys_erase hn hi x).1 hx).1)
        (fun x hx => by
          have h5 := (keys_erase hn hi _).1 hx
          have h6 : s[i].1.toNat ≠ x := fun e => h5.2 (by omega)
          have : (c.set s[i].1.toNat (c.getD s[i].1.toNat 0 + 1)).getD x 0 = c.getD x 0 := by
            simp only [List.getD_eq_getElem?_getD, List.getElem?_set, if_neg h6]
          rw [this]; exact hb x h5.1) (by rw [List.length_eraseIdx_of_lt hi]; omega)
      rw [bump_set (p := fun x => decide ((x : Int) ∈ keys s)) h2 (by simp only [h3]; simpa using hm) (by
          simp only [h3, decide_eq_false_iff_not]
          exact fun h => ((keys_erase hn hi _).1 h).2 rfl) (fun x hx => by
          simp only [decide_eq_decide]
          rw [keys_erase hn hi]
          exact ⟨fun h => ⟨h, fun e => hx (by omega)⟩, fun h => h.1⟩)] at ih
      simp only [getD_lt hi, h1.1, h2, decide_true, cond_true, hw2]
      exact ih

theorem shared_ifold {g : Gr} (h : okG g = true) : liPathShared_0 N N (g, g.2.1, (g.2.1.length : Int), 0, List.replicate g.1.length 0, ()) = some (counts g, ()) := by
  have hg := okG_iff.1 h
  have e := (fold_loop (xs := g.2.1) (n := N) (fun c l => bump c (isRch g l)) (fun i c => Cnt g.1.length i c) (L := fun n i c => liPathShared_0 N n (g, g.2.1, (g.2.1.length : Int), (i : Int), c, ())) (fin := fun c => (c, ()))
    (by rw [lim_eq]; omega)
    (fun n i c hi hw hI => by
      have hone := okG_root h (List.getElem_mem hi)
      have hroot := (okG_iff.1 h).2.2.2.2.1 _ (List.getElem_mem hi)
      obtain ⟨s, e, h1, h2⟩ := iGraph_from_ok hN h (l := g.2.1[i]) (fun x hx => (okR_iff.1 hroot.2 x hx).2) (by rw [lim_eq]; omega) (-1)
      have hin := shared_i2 (N := N) (g := g) (R := g.2.1) (j := (g.2.1.length : Int)) (k := (i : Int)) N s (c := c) h1.nd (fun x hx => by rw [hI.len]; exact h1.rng x hx)
        (fun x _ => ⟨hI.lo x, by have := hI.hi x; omega⟩) (by have := h1.le; rw [lim_eq] at hN; omega)
      rw [bump_congr (q := isRch g g.2.1[i])] at hin
      · refine ⟨?_, hI.bump _⟩
        simp [liPathShared_0, hi, hw, e, hin]
      · intro k _
        rw [Bool.eq_iff_iff, isRch_iff hone, decide_eq_true_eq, h2])
    (fun n c hI => by simp [liPathShared_0]) (by rw [lim_eq] at hN; omega) (Cnt.zero _)).1
  simpa [counts] using e

theorem shared_ilast {g : Gr} (h : okG g = true) : liPathShared_4 N N (((counts g).length : Int), 0, [], counts g, ()) = some (shared g, ()) := by
  have hg := okG_iff.1 h
  have hc := counts_cnt h
  have e := (fold_loop (xs := upto g.1.length) (n := N) (pushIf (counts g)) (fun i s => s.length ≤ i) (L := fun n i s => liPathShared_4 N n (((counts g).length : Int), (i : Int), s, counts g, ())) (fin := fun s => (s, ()))
    (by rw [lim_eq, upto_len]; omega)
    (fun n i s hi hw hI => by
      have hi' : i < (counts g).length := by rw [hc.len]; simpa [upto_len] using hi
      have hlim : s.length + 1 ≤ lim := by rw [lim_eq]; rw [upto_len] at hi; omega
      rw [upto_get hi]
      by_cases hq : (counts g)[i] > 1
      · refine ⟨by simp [liPathShared_4, hi', hw, hq, hlim, pushIf], by have := pushIf_one (c := counts g) (s := s) (x := (i : Int)); omega⟩
      · refine ⟨by simp [liPathShared_4, hi', hw, hq, pushIf], by have := pushIf_one (c := counts g) (s := s) (x := (i : Int)); omega⟩)
    (fun n s hI => by simp [liPathShared_4, upto_len, hc.len]) (by rw [lim_eq] at hN; rw [upto_len]; omega) (s := []) (by simp)).1
  simpa [shared] using e

theorem iPathShared_ok {g : Gr} (hs : smG g) : FiPathShared N (g, ()) = some (if okG g = true then shared g else [], ()) := by
  cases h : okG g with
  | false => simp [FiPathShared, iGraphOk_ok hN hs, h]
  | true =>
    have hl := sm_lim hs.1
    simp [FiPathShared, iGraphOk_ok hN hs, h, hl, shared_ifold hN h, shared_ilast hN h]
end

section
variable {N : Nat} (hN : lim < N)
include hN

theorem sl5Refs_ok {xs : List Int} {m : Nat} (hx : sm xs.length) : Fsl5Refs N (xs, (m : Int), ()) = some (okR m xs, ()) := by
  have hl := sm_lim hx
  have hL := all_loop (xs := xs) (n := N) (fun x => decide (-1 ≤ x) && decide (x < (m : Int))) (L := fun n i => lsl5Refs_0 N n (xs, (m : Int), (i : Int), ())) (yes := .inl ()) (no := .inr (false, ())) hl
    (fun n i h hw hq => by
      simp at hq
      simp [lsl5Refs_0, h, hw, Int.not_lt.2 hq.1, Int.not_le.2 hq.2])
    (fun n i h hq => by
      simp at hq
      by_cases h1 : xs[i] < -1
      · simp [lsl5Refs_0, h, h1]
      · simp [lsl5Refs_0, h, h1, hq (by omega)])
    (fun n => by simp [lsl5Refs_0]) (by omega)
  simp only [Int.natCast_zero] at hL
  simp only [Fsl5Refs, hL, okR]
  cases xs.all (fun x => decide (-1 ≤ x) && decide (x < (m : Int))) <;> simp

theorem sGraphOk_ok {g : Gr} (hx : smG g) : FsGraphOk N (g, ()) = some (okG g, ()) := by
  obtain ⟨a1, a2, a3, a4, a5⟩ := hx
  have h1 := all_loop (xs := g.1) (n := N) (okN g.1.length) (L := fun n i => lsGraphOk_0 N n (g, (i : Int), ())) (yes := .inl (g, ())) (no := .inr (false, ())) (sm_lim a1)
    (fun n i h hw hq => by
      simp [okN] at hq
      simp [lsGraphOk_0, h, hw, sl5Refs_ok hN (a2 _ (List.getElem_mem h)).1, hq, Nat.not_lt.2 hq.1, Nat.not_lt.2 hq.2.1])
    (fun n i h hq => by
      simp [lsGraphOk_0, h, sl5Refs_ok hN (a2 _ (List.getElem_mem h)).1]
      simp [okN] at hq
      by_cases h1 : g.1[i].1.length ≤ 4 <;> by_cases h2 : g.1[i].2.1.length ≤ 4 <;> simp_all)
    (fun n => by simp [lsGraphOk_0]) (by have := sm_lim a1; omega)
  have h2 := all_loop (xs := g.2.1) (n := N) (fun r => decide (r.length ≤ 8) && okR g.1.length r) (L := fun n i => lsGraphOk_2 N n (g, (i : Int), ())) (yes := .inl (g, ())) (no := .inr (false, ())) (sm_lim a3)
    (fun n i h hw hq => by
      simp at hq
      simp [lsGraphOk_2, h, hw, sl5Refs_ok hN (a4 _ (List.getElem_mem h)), hq, Nat.not_lt.2 hq.1])
    (fun n i h hq => by
      simp [lsGraphOk_2, h, sl5Refs_ok hN (a4 _ (List.getElem_mem h))]
      simp at hq
      by_cases h1 : g.2.1[i].length ≤ 8 <;> simp_all)
    (fun n => by simp [lsGraphOk_2]) (by have := sm_lim a3; omega)
  have h3 := all_loop (xs := g.2.2.1) (n := N) (fun x => decide (0 ≤ x)) (L := fun n i => lsGraphOk_4 N n (g, (i : Int), ())) (yes := .inl (g, ())) (no := .inr (false, ())) (sm_lim a5)
    (fun n i h hw hq => by
      simp at hq
      simp [lsGraphOk_4, h, hw, Int.not_lt.2 hq])
    (fun n i h hq => by
      simp at hq
      simp [lsGraphOk_4, h, hq])
    (fun n => by simp [lsGraphOk_4]) (by have := sm_lim a5; omega)
  simp only [Int.natCast_zero] at h1 h2 h3
  simp only [FsGraphOk, okG]
  by_cases b1 : g.1.length ≤ 200
  · by_cases b2 : 1 ≤ g.2.1.length
    · by_cases b3 : g.2.1.length ≤ 3
      · have c1 : ¬ ((g.1.length : Int) > 200) := by omega
        have c2 : ¬ ((g.2.1.length : Int) < 1) := by omega
        have c3 : ¬ ((g.2.1.length : Int) > 3) := by omega
        simp only [c1, c2, c3, b1, b2, b3, decide_true, decide_false, cond_false, Option.bind_some, Sum.elim_inl, h1, Bool.true_and]
        cases g.1.all (okN g.1.length)
        · simp
        · simp only [cond_true, Option.bind_some, Sum.elim_inl, h2, Bool.true_and]
          cases g.2.1.all (fun r => decide (r.length ≤ 8) && okR g.1.length r)
          · simp
          · simp only [cond_true, Option.bind_some, Sum.elim_inl, h3, Bool.true_and, sl5Refs_ok hN a5]
            by_cases b4 : g.2.2.1.length ≤ 8
            · have c4 : ((g.2.2.1.length : Int) ≤ 8) := by omega
              cases g.2.2.1.all (fun x => decide (0 ≤ x)) <;> simp [b4, c4, sl5Refs_ok hN a5]
            · have c4 : ¬ ((g.2.2.1.length : Int) ≤ 8) := by omega
              cases g.2.2.1.all (fun x => decide (0 ≤ x)) <;> simp [b4, c4, sl5Refs_ok hN a5]
      · have c1 : ¬ ((g.1.length : Int) > 200) := by omega
        have c2 : ¬ ((g.2.1.length : Int) < 1) := by omega
        have c3 : ((g.2.1.length : Int) > 3) := by omega
        simp [c1, c2, c3, b3]
    · have c1 : ¬ ((g.1.length : Int) > 200) := by omega
      have c2 : ((g.2.1.length : Int) < 1) := by omega
      simp [c1, c2, b2]
  · have c1 : ((g.1.length : Int) > 200) := by omega
    simp [c1, b1]

end

section
variable {N : Nat} (hN : lim < N)
include hN

theorem sl5Order_roots {g : Gr} (h : okG g = true) {k : Nat} (hk : k < g.2.1.length) {st : Mst} (hst : Met g.1.length st) :
    lsl5Order_2 N N (g, (k : Int), 0, st.1, st.2, ()) = some (g, (k : Int), (g.2.1[k].foldl meet st).1, (g.2.1[k].foldl meet st).2, ()) := by
  have hg := okG_iff.1 h
  have hs := okG_small hN h
  have := meets_loop hN (xs := g.2.1[k]) (m := g.1.length) (rootsrng h _ (List.getElem_mem hk)) hg.1 (sm_lim (hs.2.2.2.1 _ (List.getElem_mem hk)))
    (L := fun n i st => lsl5Order_2 N n (g, (k : Int), (i : Int), st.1, st.2, ())) (fin := fun st => (g, (k : Int), st.1, st.2, ()))
    (fun n i st hi hw hI hb hlim => by
      by_cases h0 : 0 ≤ g.2.1[k][i]
      · have hb := hb h0
        cases hh : st.2.getD g.2.1[k][i].toNat false with
        | false => 
          have hh' := hh
          rw [getD_lt hb] at hh'
          simp [lsl5Order_2, hk, hi, hw, h0, hb, hlim, meet, hh']
        | true =>
          have hh' := hh
          rw [getD_lt hb] at hh'
          simp [lsl5Order_2, hk, hi, hw, h0, hb, hlim, meet, hh']
      · simp [lsl5Order_2, hk, hi, hw, h0, meet])
    (fun n st hI => by simp [lsl5Order_2, hk]) hst
  simpa using this

theorem sl5Order_ok {g : Gr} (h : okG g = true) : Fsl5Order N (g, ()) = some (order g, ()) := by
  have hg := okG_iff.1 h
  have hs := okG_small hN h
  have e1 := roots_loop hN (ls := g.2.1) (m := g.1.length) (rootsrng h) (sm_lim hs.2.2.1) (L := fun n i st => lsl5Order_0 N n (g, (i : Int), st.1, st.2, ())) (fin := fun st => (g, st.1, st.2, ()))
    (fun n i st hi hw hI => by simp [lsl5Order_0, hi, hw, sl5Order_roots hN h hi hI])
    (fun n st hI => by simp [lsl5Order_0]) (met0_ok _)
  have hb := roots_met (met0_ok g.1.length) (rootsrng h)
  have e2 := meets_loop hN (xs := g.2.2.1) (m := g.1.length) (pinsrng h) hg.1 (sm_lim hs.2.2.2.2)
    (L := fun n i st => lsl5Order_4 N n (g, (i : Int), st.1, st.2, ())) (fin := fun st => (g, st.1, st.2, ()))
    (fun n i st hi hw hI hb hlim => by
      have h0 := hg.2.2.2.2.2.2.1 _ (List.getElem_mem hi)
      have hb := hb h0
      cases hh : st.2.getD g.2.2.1[i].toNat false with
      | false => 
        have hh' := hh
        rw [getD_lt hb] at hh'
        simp [lsl5Order_4, hi, hw, h0, hb, hlim, meet, hh']
      | true =>
        have hh' := hh
        rw [getD_lt hb] at hh'
        simp [lsl5Order_4, hi, hw, h0, hb, hlim, meet, hh'])
    (fun n st hI => by simp [lsl5Order_4]) hb
  have e3 : ∀ k st, Met g.1.length st → ∀ (r : Int) (hr : r.toNat < g.1.length), lsl5Order_8 N N (g, k, refsOf g r, (0 : Int), st.1, st.2, ()) = some (g, k, ((refsOf g r).foldl meet st).1, ((refsOf g r).foldl meet st).2, ()) := by
    intro k st hst r hr
    have hsm : (refsOf g r).length ≤ lim := by
      unfold refsOf; rw [getD_lt hr]; exact sm_lim (hs.2.1 _ (List.getElem_mem hr)).1
    have := meets_loop hN (xs := refsOf g r) (m := g.1.length) (refs_rng h r) hg.1 hsm
      (L := fun n i st => lsl5Order_8 N n (g, k, refsOf g r, (i : Int), st.1, st.2, ())) (fin := fun st => (g, k, st.1, st.2, ()))
      (fun n i st hi hw hI hb hlim => by
        by_cases h0 : 0 ≤ (refsOf g r)[i]
        · have hb := hb h0
          cases hh : st.2.getD (refsOf g r)[i].toNat false with
          | false => 
            have hh' := hh
            rw [getD_lt hb] at hh'
            simp [lsl5Order_8, hi, hw, h0, hb, hlim, meet, hh']
          | true =>
            have hh' := hh
            rw [getD_lt hb] at hh'
            simp [lsl5Order_8, hi, hw, h0, hb, hlim, meet, hh']
        · simp [lsl5Order_8, hi, hw, h0, meet])
      (fun n st hI => by simp [lsl5Order_8]) hst
    simpa using this
  have hb2 : Met g.1.length (begin0 g) := begin0_ok h
  have e4 := walk_loop hN (R := refsOf g) (m := g.1.length) (fun r _ _ => refs_rng h r) hg.1 (L := fun n i st => lsl5Order_6 N n (g, (i : Int), st.1, st.2, ())) (fin := fun st => (st.1, ()))
    (fun n i st hi hw hI => by
      have hr := hI.rng _ (List.getElem_mem hi)
      have hr' : st.1[i].toNat < g.1.length := by omega
      have e := e3 (i : Int) st hI st.1[i] hr'
      simp only [refsOf, getD_lt hr'] at e ⊢
      simp [lsl5Order_6, hi, hw, hr.1, hr', e])
    (fun n i st hi hI => by simp [lsl5Order_6, hi]) hb2
  simp only [Int.natCast_zero] at e1 e2 e4
  have hl := sm_lim hs.1
  simp only [met0] at e1
  simp only [Fsl5Order, Int.natCast_nonneg, decide_true, cond_true, Int.toNat_natCast, hl, e1, Option.bind_some]
  simp only [met0] at e2
  rw [e2]
  simp only [Option.bind_some]
  have e5 : begin0 g = (g.2.2.1.foldl meet (g.2.1.foldl (fun s l => l.foldl meet s) ([], List.replicate g.1.length false))) := rfl
  rw [← e5, e4]
  rfl

end

section
variable {N : Nat} (hN : lim < N)
include hN

theorem sGraphReach_ok {g : Gr} (hs : smG g) : FsGraphReach N (g, ()) = some (if okG g = true then reachL g else [], ()) := by
  cases h : okG g with
  | false => simp [FsGraphReach, sGraphOk_ok hN hs, h]
  | true =>
    have hg := okG_iff.1 h
    have ho : (order g).length ≤ lim := by have := order_le h; rw [lim_eq]; omega
    have hl := sm_lim hs.1
    have e := (fold_loop (xs := order g) (n := N) (fun o r => o.set r.toNat true) (fun _ s => s.length = g.1.length)
      (L := fun n i s => lsGraphReach_0 N n ((i : Int), s, order g, ())) (fin := fun s => (s, ())) ho
      (fun n i s hi hw hI => by
        have hr := order_rng h _ (List.getElem_mem hi)
        have hr' : (order g)[i].toNat < s.length := by omega
        refine ⟨?_, by simpa using hI⟩
        simp [lsGraphReach_0, hi, hw, hr.1, hr'])
      (fun n s hI => by simp [lsGraphReach_0]) (by omega) (s := List.replicate g.1.length false) (by simp)).1
    simp only [Int.natCast_zero] at e
    simp [FsGraphReach, sGraphOk_ok hN hs, h, hl, sl5Order_ok hN h, e, reachL, mark]
end

section
variable {N : Nat} (hN : lim < N)
include hN

theorem sl5Ints_ok {xs : List Int} (hl : xs.length ≤ lim) : Fsl5Ints N (xs, ()) = some (xs, ()) := by
  simp [Fsl5Ints, hl]

end

section
variable {N : Nat} (hN : lim < N)
include hN

theorem sl5Copy_ok {g : Gr} (hs : smG g) : Fsl5Copy N (g, ()) = some g := by
  obtain ⟨a1, a2, a3, a4, a5⟩ := hs
  have l1 := sm_lim a1
  have l3 := sm_lim a3
  have e1 := fun Q => (fold_loop (xs := g.1) (n := N) (fun s x => s ++ [x]) (fun i s => s.length = i)
    (L := fun n i s => lsl5Copy_0 N n (g, (i : Int), s, ([] : List (List Int)), Q, ())) (fin := fun s => (g, s, ([] : List (List Int)), Q, ())) l1
    (fun n i s h hw hI => by
      subst hI
      have hlim : s.length + 1 ≤ lim := by omega
      have hx := a2 _ (List.getElem_mem h)
      simp [lsl5Copy_0, h, hw, sl5Ints_ok hN (sm_lim hx.1), sl5Ints_ok hN (sm_lim hx.2), hlim])
    (fun n s hI => by simp [lsl5Copy_0]) (by omega) (s := []) rfl).1
  have e2 := fun S Q => (fold_loop (xs := g.2.1) (n := N) (fun s x => s ++ [x]) (fun i s => s.length = i)
    (L := fun n i s => lsl5Copy_2 N n (g, (i : Int), S, s, Q, ())) (fin := fun s => (S, s, Q, ())) l3
    (fun n i s h hw hI => by
      subst hI
      have hlim : s.length + 1 ≤ lim := by omega
      have hx := a4 _ (List.getElem_mem h)
      simp [lsl5Copy_2, h, hw, sl5Ints_ok hN (sm_lim hx), hlim])
    (fun n s hI => by simp [lsl5Copy_2]) (by omega) (s := []) rfl).1
  have f1 := foldl_push (fun x : Nd => x) g.1 []
  have f2 := foldl_push (fun x : List Int => x) g.2.1 []
  simp only [Int.natCast_zero, f1, f2, List.nil_append, List.map_id'] at e1 e2
  simp [Fsl5Copy, sl5Ints_ok hN (sm_lim a5), e1, e2]
end

section
variable {N : Nat} (hN : lim < N)
include hN

omit hN in
theorem shared_s2 {g : Gr} {j : Int} {o : List Bool} (ho : o.length ≤ 200) : ∀ (d n i : Nat) {c : List Int}, c.length = o.length → (∀ k, i ≤ k → 0 ≤ c.getD k 0 ∧ c.getD k 0 ≤ 1000) → i + d = o.length → d < n →
    lsPathShared_2 N n (g, j, (i : Int), c, o, ()) = some (g, j, bump c (fun k => decide (i ≤ k) && o.getD k false), ())
  | 0, n, i, c, hc, hb, hi, hn => by
    obtain ⟨n, rfl⟩ : ∃ k, n = k + 1 := ⟨n - 1, by omega⟩
    have : ¬ (i : Int) < o.length := by omega
    have e : bump c (fun k => decide (i ≤ k) && o.getD k false) = c := bump_none fun k hk => by
      have : ¬ i ≤ k := by omega
      simp [this]
    rw [e]
    simp [lsPathShared_2, this]
  | d + 1, n, i, c, hc, hb, hi, hn => by
    obtain ⟨n, rfl⟩ : ∃ k, n = k + 1 := ⟨n - 1, by omega⟩
    have h1 : i < o.length := by omega
    have h2 : i < c.length := by omega
    have hw : w64 ((i : Int) + 1) = ((i + 1 : Nat) : Int) := w64_succ (by omega)
    simp only [lsPathShared_2, Int.ofNat_lt, h1, h2, decide_true, cond_true, Int.natCast_nonneg, Int.toNat_natCast, hw]
    cases ho' : o.getD i false with
    | false =>
      simp only [cond_false]
      rw [shared_s2 ho d n (i + 1) hc (fun k hk => hb k (by omega)) (by omega) (by omega), bump_congr (q := fun k => decide (i ≤ k) && o.getD k false)]
      intro k _
      by_cases e : k = i
      · subst e; simp only [ho', Bool.and_false]
      · have : (decide (i + 1 ≤ k)) = decide (i ≤ k) := by simp only [decide_eq_decide]; omega
        simp only [this]
    | true =>
      have h3 := hb i (Nat.le_refl _)
      have hw2 : w64 (c.getD i 0 + 1) = c.getD i 0 + 1 := w64_id (by omega) (by omega)
      simp only [cond_true, hw2]
      rw [shared_s2 ho d n (i + 1) (by simpa using hc) (fun k hk => by
        have : (c.set i (c.getD i 0 + 1)).getD k 0 = c.getD k 0 := by
          simp only [List.getD_eq_getElem?_getD, List.getElem?_set]
          rw [if_neg (by omega)]
        rw [this]; exact hb k (by omega)) (by omega) (by omega)]
      rw [bump_set (p := fun k => decide (i ≤ k) && o.getD k false) h2 (by simp only [ho', Nat.le_refl, decide_true, Bool.true_and]) (by simp only [Nat.not_succ_le_self, decide_false, Bool.false_and]) (fun j hj => by
        have : (decide (i + 1 ≤ j)) = decide (i ≤ j) := by simp only [decide_eq_decide]; omega
        simp only [this])]

theorem shared_fold {g : Gr} (h : okG g = true) : lsPathShared_0 N N (g, 0, List.replicate g.1.length 0, ()) = some (counts g, ()) := by
  have hg := okG_iff.1 h
  have e := (fold_loop (xs := g.2.1) (n := N) (fun c l => bump c (isRch g l)) (fun i c => Cnt g.1.length i c) (L := fun n i c => lsPathShared_0 N n (g, (i : Int), c, ())) (fin := fun c => (c, ()))
    (by rw [lim_eq]; omega)
    (fun n i c hi hw hI => by
      have hone := okG_root h (List.getElem_mem hi)
      have hs := okG_small hN hone
      have ho : (reachL (g.1, [g.2.1[i]], [], ())).length = g.1.length := reachL_len _
      have hin := shared_s2 (N := N) (g := g) (j := (i : Int)) (o := reachL (g.1, [g.2.1[i]], [], ())) (by omega) g.1.length N 0 (c := c) (by rw [hI.len, ho])
        (fun k _ => ⟨hI.lo k, by have := hI.hi k; omega⟩) (by omega) (by rw [lim_eq] at hN; omega)
      simp only [Int.natCast_zero, Nat.zero_le, decide_true, Bool.true_and] at hin
      have hin' : lsPathShared_2 N N (g, (i : Int), 0, c, reachL (g.1, [g.2.1[i]], [], ()), ()) = some (g, (i : Int), bump c (isRch g g.2.1[i]), ()) := hin
      refine ⟨?_, hI.bump _⟩
      simp [lsPathShared_0, hi, hw, sl5Copy_ok hN (okG_small hN h), sGraphReach_ok hN hs, hone, hin'])
    (fun n c hI => by simp [lsPathShared_0]) (by rw [lim_eq] at hN; omega) (Cnt.zero _)).1
  simpa [counts] using e

theorem shared_last {g : Gr} (h : okG g = true) : lsPathShared_4 N N (0, counts g, [], ()) = some (shared g, ()) := by
  have hg := okG_iff.1 h
  have hc := counts_cnt h
  have e := (fold_loop (xs := upto g.1.length) (n := N) (pushIf (counts g)) (fun i s => s.length ≤ i) (L := fun n i s => lsPathShared_4 N n ((i : Int), counts g, s, ())) (fin := fun s => (s, ()))
    (by rw [lim_eq, upto_len]; omega)
    (fun n i s hi hw hI => by
      have hi' : i < (counts g).length := by rw [hc.len]; simpa [upto_len] using hi
      have hlim : s.length + 1 ≤ lim := by rw [lim_eq]; rw [upto_len] at hi; omega
      rw [upto_get hi]
      by_cases hq : (counts g)[i] > 1
      · refine ⟨by simp [lsPathShared_4, hi', hw, hq, hlim, pushIf], by have := pushIf_one (c := counts g) (s := s) (x := (i : Int)); omega⟩
      · refine ⟨by simp [lsPathShared_4, hi', hw, hq, pushIf], by have := pushIf_one (c := counts g) (s := s) (x := (i : Int)); omega⟩)
    (fun n s hI => by simp [lsPathShared_4, upto_len, hc.len]) (by rw [lim_eq] at hN; rw [upto_len]; omega) (s := []) (by simp)).1
  simpa [shared] using e

theorem sPathShared_ok {g : Gr} (hs : smG g) : FsPathShared N (g, ()) = some (if okG g = true then shared g else [], ()) := by
  cases h : okG g with
  | false => simp [FsPathShared, sGraphOk_ok hN hs, h]
  | true =>
    have hl := sm_lim hs.1
    simp [FsPathShared, sGraphOk_ok hN hs, h, hl, shared_fold hN h, shared_last hN h]
end

/-- Numbers one behind the other. -/
def markI (k : Int) : Nat → List Int
  | 0 => []
  | n + 1 => k :: markI (k + 1) n

theorem markI_len : ∀ (n : Nat) (k : Int), (markI k n).length = n
  | 0, _ => rfl
  | n + 1, k => by simp [markI, markI_len n]

theorem markI_get : ∀ (n : Nat) (k : Int) (i : Nat) (h : i < (markI k n).length), (markI k n)[i] = k + i
  | 0, _, _, h => absurd h (Nat.not_lt_zero _)
  | n + 1, k, 0, _ => by simp [markI]
  | n + 1, k, i + 1, h => by
    simp only [markI, List.getElem_cons_succ]
    rw [markI_get n (k + 1) i]
    omega

theorem set_take {α : Type} {s : List α} {i : Nat} {x : α} (h : i < s.length) : (s.set i x).take (i + 1) = s.take i ++ [x] := by
  rw [List.take_succ_eq_append_getElem (by simpa using h)]
  simp [List.take_set_of_le]

section
variable {N : Nat} (hN : lim < N)
include hN

theorem vmarkIntS_ok {k : Int} {xs : List Int} (hl : xs.length ≤ lim) (h0 : 0 ≤ k) (h1 : k < 2305843009213693952) : FvmarkIntS N (k, xs, ()) = some (k + xs.length, markI k xs.length, ()) := by
  have hlim : lim = 2147483648 := rfl
  have key : ∀ (n i : Nat) (k : Int) (s : List Int), i ≤ s.length → s.length - i < n → s.length ≤ lim → 0 ≤ k → k < 2305843009213693952 + i → lvmarkIntS_0 N n (k, (i : Int), s, ()) = some (k + (s.length - i : Nat), s.take i ++ markI k (s.length - i), ()) := by
    intro n
    induction n with
    | zero => intro i k s _ h; exact absurd h (Nat.not_lt_zero _)
    | succ n ih =>
      intro i k s hi hn hs hk hk'
      by_cases h : i < s.length
      · have w1 : w64 ((i : Int) + 1) = ((i + 1 : Nat) : Int) := w64_succ (by omega)
        have w2 : w64 (k + 1) = k + 1 := w64_id (by omega) (by omega)
        have := ih (i + 1) (k + 1) (s.set i k) (by simp; omega) (by simp; omega) (by simpa using hs) (by omega) (by omega)
        simp only [lvmarkIntS_0, w1, w2]
        simp only [Int.ofNat_lt, h, decide_true, cond_true, Int.natCast_nonneg, Int.toNat_natCast, this, List.length_set, set_take h]
        have e : s.length - i = (s.length - (i + 1)) + 1 := by omega
        rw [e]
        simp only [markI, List.append_assoc, List.cons_append, List.nil_append]
        congr 2
        omega
      · have : i = s.length := by omega
        subst this
        simp [lvmarkIntS_0, markI]
  have := key N 0 k xs (by omega) (by omega) hl h0 (by omega)
  simp only [Int.natCast_zero, Nat.sub_zero, List.take_zero, List.nil_append] at this
  simp [FvmarkIntS, this]
end

def markNs : Int → List Nd → Int × List Nd
  | k, [] => (k, [])
  | k, x :: r => ((markNs (k + x.1.length + x.2.1.length) r).1, (markI k x.1.length, markI (k + x.1.length) x.2.1.length, ()) :: (markNs (k + x.1.length + x.2.1.length) r).2)
def markIs : Int → List (List Int) → Int × List (List Int)
  | k, [] => (k, [])
  | k, x :: r => ((markIs (k + x.length) r).1, markI k x.length :: (markIs (k + x.length) r).2)
def markGr (k : Int) (g : Gr) : Int × Gr :=
  ((markIs (markNs k g.1).1 g.2.1).1 + g.2.2.1.length, (markNs k g.1).2, (markIs (markNs k g.1).1 g.2.1).2, markI (markIs (markNs k g.1).1 g.2.1).1 g.2.2.1.length, ())

theorem markNs_rng : ∀ {xs : List Nd} (k : Int), (∀ x ∈ xs, smN x) → k ≤ (markNs k xs).1 ∧ (markNs k xs).1 ≤ k + 2097152 * xs.length
  | [], k, _ => by simp [markNs]
  | x :: r, k, h => by
    have hx := h x (by simp)
    simp only [smN, sm] at hx
    have := markNs_rng (xs := r) (k + x.1.length + x.2.1.length) (fun y hy => h y (by simp [hy]))
    simp only [markNs, List.length_cons]
    omega

theorem markIs_rng : ∀ {xs : List (List Int)} (k : Int), (∀ x ∈ xs, sm x.length) → k ≤ (markIs k xs).1 ∧ (markIs k xs).1 ≤ k + 1048576 * xs.length
  | [], k, _ => by simp [markIs]
  | x :: r, k, h => by
    have hx := h x (by simp)
    simp only [sm] at hx
    have := markIs_rng (xs := r) (k + x.length) (fun y hy => h y (by simp [hy]))
    simp only [markIs, List.length_cons]
    omega

theorem markNs_len : ∀ {xs : List Nd} (k : Int), (markNs k xs).2.length = xs.length
  | [], _ => rfl
  | x :: r, k => by simp [markNs, markNs_len]
theorem markIs_len : ∀ {xs : List (List Int)} (k : Int), (markIs k xs).2.length = xs.length
  | [], _ => rfl
  | x :: r, k => by simp [markIs, markIs_len]

section
variable {N : Nat} (hN : lim < N)
include hN

theorem vmarkNodeS_ok {k : Int} {xs : List Nd} (hl : xs.length ≤ 1048576) (hx : ∀ x ∈ xs, smN x) (h0 : 0 ≤ k) (h1 : k < 1000000000000) : FvmarkNodeS N (k, xs, ()) = some ((markNs k xs).1, (markNs k xs).2, ()) := by
  have hlim : lim = 2147483648 := rfl
  have key : ∀ (n i : Nat) (k : Int) (s : List Nd), i ≤ s.length → s.length - i < n → s.length ≤ 1048576 → (∀ x ∈ s.drop i, smN x) → 0 ≤ k → k < 1000000000000 + 2097152 * i →
      lvmarkNodeS_0 N n (k, (i : Int), s, ()) = some ((markNs k (s.drop i)).1, s.take i ++ (markNs k (s.drop i)).2, ()) := by
    intro n
    induction n with
    | zero => intro i k s _ h; exact absurd h (Nat.not_lt_zero _)
    | succ n ih =>
      intro i k s hi hn hs hx hk hk'
      by_cases h : i < s.length
      · have w1 : w64 ((i : Int) + 1) = ((i + 1 : Nat) : Int) := w64_succ (by omega)
        rw [drop_at h] at hx
        have hxi := hx s[i] List.mem_cons_self
        simp only [smN, sm] at hxi
        have e1 := vmarkIntS_ok hN (k := k) (xs := s[i].1) (by omega) hk (by omega)
        have e2 := vmarkIntS_ok hN (k := k + s[i].1.length) (xs := s[i].2.1) (by omega) (by omega) (by omega)
        have := ih (i + 1) (k + s[i].1.length + s[i].2.1.length) ((s.set i (markI k s[i].1.length, s[i].2)).set i (markI k s[i].1.length, markI (k + s[i].1.length) s[i].2.1.length, ())) (by simp; omega) (by simp; omega) (by simpa using hs)
          (by
            rw [List.drop_set_of_lt (by omega), List.drop_set_of_lt (by omega)]
            exact fun x hx' => hx x (List.mem_cons_of_mem _ hx')) (by omega) (by omega)
        have hset : i < (s.set i (markI k s[i].1.length, s[i].2)).length := by simpa using h
        rw [List.drop_set_of_lt (by omega), List.drop_set_of_lt (by omega), set_take hset, List.take_set_of_le (Nat.le_refl _)] at this
        rw [drop_at h]
        simp only [markNs]
        simp only [lvmarkNodeS_0, w1]
        simp only [Int.ofNat_lt, h, decide_true, cond_true, Int.natCast_nonneg, Int.toNat_natCast, getD_lt h, e1, Option.bind_some, hset, getD_lt hset, List.getElem_set_self, e2, this]
        simp
      · have : i = s.length := by omega
        subst this
        simp [lvmarkNodeS_0, markNs]
  have := key N 0 k xs (by omega) (by omega) hl (by simpa using hx) h0 (by omega)
  simp only [Int.natCast_zero, List.drop_zero, List.take_zero, List.nil_append] at this
  simp [FvmarkNodeS, this]

theorem vmarkIntSS_ok {k : Int} {xs : List (List Int)} (hl : xs.length ≤ 1048576) (hx : ∀ x ∈ xs, sm x.length) (h0 : 0 ≤ k) (h1 : k < 10000000000000) : FvmarkIntSS N (k, xs, ()) = some ((markIs k xs).1, (markIs k xs).2, ()) := by
  have hlim : lim = 2147483648 := rfl
  have key : ∀ (n i : Nat) (k : Int) (s : List (List Int)), i ≤ s.length → s.length - i < n → s.length ≤ 1048576 → (∀ x ∈ s.drop i, sm x.length) → 0 ≤ k → k < 10000000000000 + 1048576 * i →
      lvmarkIntSS_0 N n (k, (i : Int), s, ()) = some ((markIs k (s.drop i)).1, s.take i ++ (markIs k (s.drop i)).2, ()) := by
    intro n
    induction n with
    | zero => intro i k s _ h; exact absurd h (Nat.not_lt_zero _)
    | succ n ih =>
      intro i k s hi hn hs hx hk hk'
      by_cases h : i < s.length
      · have w1 : w64 ((i : Int) + 1) = ((i + 1 : Nat) : Int) := w64_succ (by omega)
        rw [drop_at h] at hx
        have hxi := hx s[i] List.mem_cons_self
        simp only [sm] at hxi
        have e1 := vmarkIntS_ok hN (k := k) (xs := s[i]) (by omega) hk (by omega)
        have := ih (i + 1) (k + s[i].length) (s.set i (markI k s[i].length)) (by simp; omega) (by simp; omega) (by simpa using hs)
          (by
            rw [List.drop_set_of_lt (by omega)]
            exact fun x hx' => hx x (List.mem_cons_of_mem _ hx')) (by omega) (by omega)
        rw [List.drop_set_of_lt (by omega), set_take h] at this
        rw [drop_at h]
        simp only [markIs]
        simp only [lvmarkIntSS_0, w1]
        simp only [Int.ofNat_lt, h, decide_true, cond_true, Int.natCast_nonneg, Int.toNat_natCast, getD_lt h, e1, Option.bind_some, this]
        simp
      · have : i = s.length := by omega
        subst this
        simp [lvmarkIntSS_0, markIs]
  have := key N 0 k xs (by omega) (by omega) hl (by simpa using hx) h0 (by omega)
  simp only [Int.natCast_zero, List.drop_zero, List.take_zero, List.nil_append] at this
  simp [FvmarkIntSS, this]

theorem vmarkGraph_ok {k : Int} {g : Gr} (hs : smG g) (h0 : 0 ≤ k) (h1 : k < 1000) : FvmarkGraph N (k, g.1, g.2.1, g.2.2.1, ()) = some ((markGr k g).1, (markGr k g).2) := by
  obtain ⟨a1, a2, a3, a4, a5⟩ := hs
  have b1 := markNs_rng (xs := g.1) k a2
  simp only [sm] at a1 a3 a5
  have b2 := markIs_rng (xs := g.2.1) (markNs k g.1).1 a4
  have c1 : (2097152 : Int) * g.1.length ≤ 2097152 * 1048576 := by omega
  have c2 : (1048576 : Int) * g.2.1.length ≤ 1048576 * 1048576 := by omega
  simp [FvmarkGraph, markGr, vmarkNodeS_ok hN a1 a2 h0 (by omega), vmarkIntSS_ok hN a3 a4 (k := (markNs k g.1).1) (by omega) (by omega), vmarkIntS_ok hN (k := (markIs (markNs k g.1).1 g.2.1).1) (xs := g.2.2.1) (by rw [lim_eq]; omega) (by omega) (by omega)]
end

section
variable {N : Nat} (hN : lim < N)
include hN

theorem vheldIntS_ok {k : Int} {n : Nat} (hl : n ≤ lim) (h0 : 0 ≤ k) (h1 : k < 2305843009213693952) : FvheldIntS N (markI k n, k, ()) = some (k + n, ()) := by
  have hlim : lim = 2147483648 := rfl
  have hlen := markI_len n k
  have key : ∀ (m i : Nat), i ≤ n → n - i < m → lvheldIntS_0 N m (markI k n, k + i, (i : Int), ()) = some (.inl (k + n, ())) := by
    intro m
    induction m with
    | zero => intro i _ h; exact absurd h (Nat.not_lt_zero _)
    | succ m ih =>
      intro i hi hm
      by_cases h : i < n
      · have w1 : w64 ((i : Int) + 1) = ((i + 1 : Nat) : Int) := w64_succ (by omega)
        have w2 : w64 (k + i + 1) = k + ((i + 1 : Nat) : Int) := by rw [w64_id (by omega) (by omega)]; omega
        have h' : i < (markI k n).length := by omega
        have := ih (i + 1) (by omega) (by omega)
        simp only [lvheldIntS_0, w1, w2]
        simp only [Int.ofNat_lt, h', decide_true, cond_true, Int.natCast_nonneg, Int.toNat_natCast, getD_lt h', markI_get n k i h', bif_bne, if_true, this]
      · have : i = n := by omega
        subst this
        simp [lvheldIntS_0, hlen]
  have := key N 0 (by omega) (by omega)
  simp only [Int.natCast_zero, Int.add_zero] at this
  simp [FvheldIntS, this]
end

section
variable {N : Nat} (hN : lim < N)
include hN

omit hN in
theorem markGr_pos {k : Int} {g : Gr} (hs : smG g) (h0 : 0 ≤ k) : 0 ≤ (markGr k g).1 := by
  obtain ⟨a1, a2, a3, a4, a5⟩ := hs
  have b1 := markNs_rng (xs := g.1) k a2
  have b2 := markIs_rng (xs := g.2.1) (markNs k g.1).1 a4
  simp only [markGr]; omega

theorem shared_sm {g : Gr} : sm (if okG g = true then shared g else []).length := by
  split
  · rename_i h
    have := shared_len g
    have := (okG_iff.1 h).1
    simp only [sm]; omega
  · simp [sm]

theorem FnExactPathShared_ok {a : Gr} (ha : mlG a) : FvFnExactPathShared N (a, ()) = some (true, ()) := by
  obtain ⟨r1, e1, h1⟩ := vszGraph_ok hN (left := 1048576) ha (by omega) (by omega)
  simp only [FvFnExactPathShared, e1, Option.bind_some]
  rcases h1 with h1 | ⟨h1, h2, sa⟩
  · simp [h1]
  · have et := shared_sm hN (g := a)
    have es := sPathShared_ok hN sa
    have ei := iPathShared_ok hN sa
    generalize (if okG a = true then shared a else []) = t at et es ei
    have em1 := vmarkGraph_ok hN (k := 1) sa (by omega) (by omega)
    have hh0 := markGr_pos (k := 1) sa (by omega)
    have em2 := vmarkIntS_ok hN (k := 1) (xs := t) (sm_lim et) (by omega) (by omega)
    have eh := vheldIntS_ok hN (k := 1) (n := t.length) (sm_lim et) (by omega) (by omega)
    generalize markGr 1 a = m1 at em1 hh0
    obtain ⟨k1, g1⟩ := m1
    dsimp only at em1 hh0
    obtain ⟨p, q, r, ⟨⟩⟩ := a
    dsimp only at em1
    have n1 : ¬ k1 < 0 := by omega
    have n2 : ¬ (1 + (t.length : Int)) < 0 := by omega
    simp only [Int.not_lt.2 h1, decide_false, cond_false, vtoGraph_ok hN sa, Option.bind_some, es, ei, veqIntS_ok hN et, veqGraph_ok hN sa, decide_true, Bool.not_true, em1, n1, Sum.elim_inl, em2, eh, n2, bif_bne, if_true]
end
end Go.Fl

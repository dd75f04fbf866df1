/- Proved: for every input the law FnExactPathHolds returns true and leaves its arguments as they were. Part 1: the functions that the law reaches, as plain functions, and plain laws about them; no conditions. -/
import Derived.Test.YtjlcdaggbpgpjaaK3
import Derived.Test.YtjlcdaggbpgpjaaProg
set_option linter.all false
-- FUNCS vszIntS vszNode vszNodeS vszIntSS vszGraph vtoIntS vtoNode vtoNodeS vtoIntSS vtoGraph sl5Refs sGraphOk sl5Order sGraphReach sl5Ints sl5Copy sl17Less sPathHolds iGraph_leads_1 kIndexFunc_Sint_int_iGraph_leads_1 kContainsFunc_Sint_int_iGraph_leads_1 iGraph_leads iGraphOk iGraph_hasNode kGrow_Sint_int kConcat_Sint_int iGraph_from_1_iGraph_from_1 iGraph_from iPathHolds veqIntS veqNode veqNodeS veqIntSS veqGraph vmarkIntS vmarkNodeS vmarkIntSS vmarkGraph vheldIntS vFnExactPathHolds
set_option maxRecDepth 100000
set_option linter.all false
namespace Go.Fl
open Go Go.Proofs
noncomputable def TE : List (Nat × Ty) := [(3, (.int .i64)),
  (4, .bool),
  (22, (.sl (.pair (.sl (.int .i64)) (.pair (.sl (.int .i64)) .unit)))),
  (23, (.sl (.sl (.int .i64)))),
  (24, (.sl (.int .i64))),
  (26, (.pair (.sl (.pair (.sl (.int .i64)) (.pair (.sl (.int .i64)) .unit))) (.pair (.sl (.sl (.int .i64))) (.pair (.sl (.int .i64)) .unit)))),
  (29, (.sl (.pair (.sl (.int .i64)) (.pair (.sl (.int .i64)) .unit)))),
  (31, (.pair (.sl (.pair (.sl (.int .i64)) (.pair (.sl (.int .i64)) .unit))) (.pair (.sl (.sl (.int .i64))) (.pair (.sl (.int .i64)) .unit)))),
  (44, (.sl .bool)),
  (47, (.pair (.sl (.int .i64)) (.pair (.sl (.int .i64)) .unit))),
  (91, (.mp .bool)),
  (97, (.hnd true)),
  (109, (.hnd true)),
  (144, (.pair (.sl (.int .i64)) (.pair (.sl (.int .i64)) .unit)))]
theorem TE_ok : TyOk Try.prog TE := tysB_spec (by kernel_rfl)
theorem mixed : Try.prog.follows .mixedOrders = true := by kernel_rfl

/-! ### 61: laws.szIntS -/

noncomputable def dinvszIntS : Desc := { n := 2, regs := [.one (.val (.sl (.int .i64))), .one (.val (.int .i64))], bx := [], pins := [] }
noncomputable def outvszIntS : Outs := [(.ret, { n := 1, regs := [.one (.val (.int .i64))], bx := [], pins := [] })]
noncomputable def HvszIntS : Hints := []
noncomputable def EvszIntS (_N : Nat) : Env := { te := TE, cs := [] }
noncomputable def FvszIntS (N : Nat) (x : ((List Int) × (Int × Unit))) : Option (Int × Unit) :=
  let y1 := decide ((w64 (x.2.1 - (x.1.length : Int))) < (0 : Int))
  bif y1 then
   some ((-1 : Int), ())
  else
  some (w64 (x.2.1 - (x.1.length : Int)), ())
noncomputable def convszIntS (N : Nat) : Con := { f := 61, din := dinvszIntS, outs := outvszIntS, F := FvszIntS N }
noncomputable def XvszIntS (N : Nat) : Ctx := { E := EvszIntS N, H := HvszIntS, lp := [], jn := [] }
theorem FvszIntS_eq (N : Nat) (x : ((List Int) × (Int × Unit))) : evFn (XvszIntS N) Try.f61 dinvszIntS outvszIntS x = FvszIntS N x := by kernel_rfl
theorem cxvszIntS (N : Nat) : CtxOk Try.prog (XvszIntS N) := ⟨⟨TE_ok, fun k hk => absurd hk List.not_mem_nil⟩, mixed⟩
theorem specvszIntS (N : Nat) : Spec Try.prog (convszIntS N) :=
  Spec.of_eq (fn_spec (cxvszIntS N) (f := 61) (fn := Try.f61) (c := codeOf Try.f61) (by kernel_rfl) (by kernel_rfl) (by kernel_rfl) (loops_at (ids := []) (by kernel_rfl) (trivial)) (by kernel_rfl)) (fun x r h => (FvszIntS_eq N x).trans h)

/-! ### 124: laws.szNode -/

noncomputable def dinvszNode : Desc := { n := 2, regs := [.one (.val (.pair (.sl (.int .i64)) (.pair (.sl (.int .i64)) .unit))), .one (.val (.int .i64))], bx := [], pins := [] }
noncomputable def outvszNode : Outs := [(.ret, { n := 1, regs := [.one (.val (.int .i64))], bx := [], pins := [] })]
noncomputable def HvszNode : Hints := [(0, [(0, { fz := true })])]
noncomputable def EvszNode (N : Nat) : Env := { te := TE, cs := [convszIntS N] }
noncomputable def FvszNode (N : Nat) (x : (((List Int) × ((List Int) × Unit)) × (Int × Unit))) : Option (Int × Unit) :=
  (FvszIntS N (x.1.1, x.2.1, ())).bind fun r1 =>
  bif decide (r1.1 < (0 : Int)) then
   some ((-1 : Int), ())
  else
  (FvszIntS N (x.1.2.1, r1.1, ())).bind fun r2 =>
  bif decide (r2.1 < (0 : Int)) then
   some ((-1 : Int), ())
  else
  some (r2.1, ())
noncomputable def convszNode (N : Nat) : Con := { f := 124, din := dinvszNode, outs := outvszNode, F := FvszNode N }
noncomputable def XvszNode (N : Nat) : Ctx := { E := EvszNode N, H := HvszNode, lp := [], jn := [] }
theorem FvszNode_eq (N : Nat) (x : (((List Int) × ((List Int) × Unit)) × (Int × Unit))) : evFn (XvszNode N) Try.f124 dinvszNode outvszNode x = FvszNode N x := by kernel_rfl
theorem cxvszNode (N : Nat) : CtxOk Try.prog (XvszNode N) := ⟨⟨TE_ok, List.forall_mem_cons.2 ⟨(specvszIntS N), fun k hk => absurd hk List.not_mem_nil⟩⟩, mixed⟩
theorem specvszNode (N : Nat) : Spec Try.prog (convszNode N) :=
  Spec.of_eq (fn_spec (cxvszNode N) (f := 124) (fn := Try.f124) (c := codeOf Try.f124) (by kernel_rfl) (by kernel_rfl) (by kernel_rfl) (loops_at (ids := []) (by kernel_rfl) (trivial)) (by kernel_rfl)) (fun x r h => (FvszNode_eq N x).trans h)

/-! ### 59: laws.szNodeS -/

noncomputable def dinvszNodeS : Desc := { n := 2, regs := [.one (.val (.sl (.pair (.sl (.int .i64)) (.pair (.sl (.int .i64)) .unit)))), .one (.val (.int .i64))], bx := [], pins := [] }
noncomputable def outvszNodeS : Outs := [(.ret, { n := 1, regs := [.one (.val (.int .i64))], bx := [], pins := [] })]
noncomputable def HvszNodeS : Hints := []
noncomputable def EvszNodeS (N : Nat) : Env := { te := TE, cs := [convszNode N] }
noncomputable def dvszNodeS_0 : Desc := { n := 27, regs := [.one (.val (.sl (.pair (.sl (.int .i64)) (.pair (.sl (.int .i64)) .unit)))), .one (.val (.int .i64)), u, u, u, .one (.val (.int .i64))], bx := [], pins := [] }
noncomputable def ovszNodeS_0 : Outs := [(.exit 0, { n := 27, regs := [u, .one (.val (.int .i64))], bx := [], pins := [] }), (.ret, { n := 27, regs := [u, u, u, u, .one (.val (.int .i64))], bx := [], pins := [] })]
noncomputable def lvszNodeS_0 (N : Nat) : Nat → ((List ((List Int) × ((List Int) × Unit))) × (Int × (Int × Unit))) → Option ((Int × Unit) ⊕ (Int × Unit))
  | 0, _ => none
  | n + 1, v =>
    let y2 := decide (v.2.2.1 < (v.1.length : Int))
    bif y2 then
     bif decide (0 ≤ v.2.2.1) then
     bif decide (v.2.2.1.toNat < v.1.length) then
     let y3 := v.1.getD v.2.2.1.toNat (([] : (List Int)), ([] : (List Int)), ())
     (FvszNode N (y3, v.2.1, ())).bind fun r4 =>
     bif decide (r4.1 < (0 : Int)) then
      some (.inr (((-1 : Int), ())))
     else
     lvszNodeS_0 N n (v.1, r4.1, w64 (v.2.2.1 + (1 : Int)), ())
     else none
     else none
    else
    some (.inl (v.2.1, ()))
noncomputable def FvszNodeS (N : Nat) (x : ((List ((List Int) × ((List Int) × Unit))) × (Int × Unit))) : Option (Int × Unit) :=
  let y1 := decide ((w64 (x.2.1 - (x.1.length : Int))) < (0 : Int))
  bif y1 then
   some ((-1 : Int), ())
  else
  (lvszNodeS_0 N N (x.1, w64 (x.2.1 - (x.1.length : Int)), (0 : Int), ())).bind fun o5 =>
  Sum.elim (fun o6 =>
   some (o6.1, ())) (fun o7 =>
   some (o7.1, ())) o5
noncomputable def convszNodeS (N : Nat) : Con := { f := 59, din := dinvszNodeS, outs := outvszNodeS, F := FvszNodeS N }
noncomputable def XvszNodeS (N : Nat) : Ctx := { E := EvszNodeS N, H := HvszNodeS, lp := [(0, { hd := dvszNodeS_0, outs := ovszNodeS_0, run := fun v => lvszNodeS_0 N N v })], jn := [] }
noncomputable def bvszNodeS_0 : Code := loopBody (codeOf Try.f59) 0
theorem FvszNodeS_eq (N : Nat) (x : ((List ((List Int) × ((List Int) × Unit))) × (Int × Unit))) : evFn (XvszNodeS N) Try.f59 dinvszNodeS outvszNodeS x = FvszNodeS N x := by kernel_rfl
theorem lvszNodeS_0_eq (N n : Nat) (v : ((List ((List Int) × ((List Int) × Unit))) × (Int × (Int × Unit)))) : lvszNodeS_0 N (n + 1) v = ev (XvszNodeS N) bvszNodeS_0 (roundK dvszNodeS_0 ovszNodeS_0 (lvszNodeS_0 N n)) (dvszNodeS_0.mk' v) := by kernel_rfl
theorem cxvszNodeS (N : Nat) : CtxOk Try.prog (XvszNodeS N) := ⟨⟨TE_ok, List.forall_mem_cons.2 ⟨(specvszNode N), fun k hk => absurd hk List.not_mem_nil⟩⟩, mixed⟩
theorem lpvszNodeS_0 (N : Nat) : LoopOk Try.prog { hd := dvszNodeS_0, outs := ovszNodeS_0, run := fun v => lvszNodeS_0 N N v } bvszNodeS_0 :=
  loop_fuel (d := dvszNodeS_0) (os := ovszNodeS_0) (cxvszNodeS N) (loops_at (ids := []) (by kernel_rfl) (trivial)) (lvszNodeS_0 N) (fun _ => rfl) (fun n v => lvszNodeS_0_eq N n v) (fun _ => N)
theorem specvszNodeS (N : Nat) : Spec Try.prog (convszNodeS N) :=
  Spec.of_eq (fn_spec (cxvszNodeS N) (f := 59) (fn := Try.f59) (c := codeOf Try.f59) (by kernel_rfl) (by kernel_rfl) (by kernel_rfl) (loops_at (ids := [0]) (by kernel_rfl) ⟨lp_of (lpvszNodeS_0 N), trivial⟩) (by kernel_rfl)) (fun x r h => (FvszNodeS_eq N x).trans h)

/-! ### 60: laws.szIntSS -/

noncomputable def dinvszIntSS : Desc := { n := 2, regs := [.one (.val (.sl (.sl (.int .i64)))), .one (.val (.int .i64))], bx := [], pins := [] }
noncomputable def outvszIntSS : Outs := [(.ret, { n := 1, regs := [.one (.val (.int .i64))], bx := [], pins := [] })]
noncomputable def HvszIntSS : Hints := []
noncomputable def EvszIntSS (N : Nat) : Env := { te := TE, cs := [convszIntS N] }
noncomputable def dvszIntSS_0 : Desc := { n := 27, regs := [.one (.val (.sl (.sl (.int .i64)))), .one (.val (.int .i64)), u, u, u, .one (.val (.int .i64))], bx := [], pins := [] }
noncomputable def ovszIntSS_0 : Outs := [(.exit 0, { n := 27, regs := [u, .one (.val (.int .i64))], bx := [], pins := [] }), (.ret, { n := 27, regs := [u, u, u, u, .one (.val (.int .i64))], bx := [], pins := [] })]
noncomputable def lvszIntSS_0 (N : Nat) : Nat → ((List (List Int)) × (Int × (Int × Unit))) → Option ((Int × Unit) ⊕ (Int × Unit))
  | 0, _ => none
  | n + 1, v =>
    let y2 := decide (v.2.2.1 < (v.1.length : Int))
    bif y2 then
     bif decide (0 ≤ v.2.2.1) then
     bif decide (v.2.2.1.toNat < v.1.length) then
     let y3 := v.1.getD v.2.2.1.toNat ([] : (List Int))
     (FvszIntS N (y3, v.2.1, ())).bind fun r4 =>
     bif decide (r4.1 < (0 : Int)) then
      some (.inr (((-1 : Int), ())))
     else
     lvszIntSS_0 N n (v.1, r4.1, w64 (v.2.2.1 + (1 : Int)), ())
     else none
     else none
    else
    some (.inl (v.2.1, ()))
noncomputable def FvszIntSS (N : Nat) (x : ((List (List Int)) × (Int × Unit))) : Option (Int × Unit) :=
  let y1 := decide ((w64 (x.2.1 - (x.1.length : Int))) < (0 : Int))
  bif y1 then
   some ((-1 : Int), ())
  else
  (lvszIntSS_0 N N (x.1, w64 (x.2.1 - (x.1.length : Int)), (0 : Int), ())).bind fun o5 =>
  Sum.elim (fun o6 =>
   some (o6.1, ())) (fun o7 =>
   some (o7.1, ())) o5
noncomputable def convszIntSS (N : Nat) : Con := { f := 60, din := dinvszIntSS, outs := outvszIntSS, F := FvszIntSS N }
noncomputable def XvszIntSS (N : Nat) : Ctx := { E := EvszIntSS N, H := HvszIntSS, lp := [(0, { hd := dvszIntSS_0, outs := ovszIntSS_0, run := fun v => lvszIntSS_0 N N v })], jn := [] }
noncomputable def bvszIntSS_0 : Code := loopBody (codeOf Try.f60) 0
theorem FvszIntSS_eq (N : Nat) (x : ((List (List Int)) × (Int × Unit))) : evFn (XvszIntSS N) Try.f60 dinvszIntSS outvszIntSS x = FvszIntSS N x := by kernel_rfl
theorem lvszIntSS_0_eq (N n : Nat) (v : ((List (List Int)) × (Int × (Int × Unit)))) : lvszIntSS_0 N (n + 1) v = ev (XvszIntSS N) bvszIntSS_0 (roundK dvszIntSS_0 ovszIntSS_0 (lvszIntSS_0 N n)) (dvszIntSS_0.mk' v) := by kernel_rfl
theorem cxvszIntSS (N : Nat) : CtxOk Try.prog (XvszIntSS N) := ⟨⟨TE_ok, List.forall_mem_cons.2 ⟨(specvszIntS N), fun k hk => absurd hk List.not_mem_nil⟩⟩, mixed⟩
theorem lpvszIntSS_0 (N : Nat) : LoopOk Try.prog { hd := dvszIntSS_0, outs := ovszIntSS_0, run := fun v => lvszIntSS_0 N N v } bvszIntSS_0 :=
  loop_fuel (d := dvszIntSS_0) (os := ovszIntSS_0) (cxvszIntSS N) (loops_at (ids := []) (by kernel_rfl) (trivial)) (lvszIntSS_0 N) (fun _ => rfl) (fun n v => lvszIntSS_0_eq N n v) (fun _ => N)
theorem specvszIntSS (N : Nat) : Spec Try.prog (convszIntSS N) :=
  Spec.of_eq (fn_spec (cxvszIntSS N) (f := 60) (fn := Try.f60) (c := codeOf Try.f60) (by kernel_rfl) (by kernel_rfl) (by kernel_rfl) (loops_at (ids := [0]) (by kernel_rfl) ⟨lp_of (lpvszIntSS_0 N), trivial⟩) (by kernel_rfl)) (fun x r h => (FvszIntSS_eq N x).trans h)

/-! ### 15: laws.szGraph -/

noncomputable def dinvszGraph : Desc := { n := 2, regs := [.one (.val (.pair (.sl (.pair (.sl (.int .i64)) (.pair (.sl (.int .i64)) .unit))) (.pair (.sl (.sl (.int .i64))) (.pair (.sl (.int .i64)) .unit)))), .one (.val (.int .i64))], bx := [], pins := [] }
noncomputable def outvszGraph : Outs := [(.ret, { n := 1, regs := [.one (.val (.int .i64))], bx := [], pins := [] })]
noncomputable def HvszGraph : Hints := [(0, [(0, { fz := true })]),
  (4, [(3, { con := 1 })]),
  (7, [(3, { con := 2 })])]
noncomputable def EvszGraph (N : Nat) : Env := { te := TE, cs := [convszNodeS N, convszIntSS N, convszIntS N] }
noncomputable def FvszGraph (N : Nat) (x : (((List ((List Int) × ((List Int) × Unit))) × ((List (List Int)) × ((List Int) × Unit))) × (Int × Unit))) : Option (Int × Unit) :=
  (FvszNodeS N (x.1.1, x.2.1, ())).bind fun r1 =>
  bif decide (r1.1 < (0 : Int)) then
   some ((-1 : Int), ())
  else
  (FvszIntSS N (x.1.2.1, r1.1, ())).bind fun r2 =>
  bif decide (r2.1 < (0 : Int)) then
   some ((-1 : Int), ())
  else
  (FvszIntS N (x.1.2.2.1, r2.1, ())).bind fun r3 =>
  bif decide (r3.1 < (0 : Int)) then
   some ((-1 : Int), ())
  else
  some (r3.1, ())
noncomputable def convszGraph (N : Nat) : Con := { f := 15, din := dinvszGraph, outs := outvszGraph, F := FvszGraph N }
noncomputable def XvszGraph (N : Nat) : Ctx := { E := EvszGraph N, H := HvszGraph, lp := [], jn := [] }
theorem FvszGraph_eq (N : Nat) (x : (((List ((List Int) × ((List Int) × Unit))) × ((List (List Int)) × ((List Int) × Unit))) × (Int × Unit))) : evFn (XvszGraph N) Try.f15 dinvszGraph outvszGraph x = FvszGraph N x := by kernel_rfl
theorem cxvszGraph (N : Nat) : CtxOk Try.prog (XvszGraph N) := ⟨⟨TE_ok, List.forall_mem_cons.2 ⟨(specvszNodeS N), List.forall_mem_cons.2 ⟨(specvszIntSS N), List.forall_mem_cons.2 ⟨(specvszIntS N), fun k hk => absurd hk List.not_mem_nil⟩⟩⟩⟩, mixed⟩
theorem specvszGraph (N : Nat) : Spec Try.prog (convszGraph N) :=
  Spec.of_eq (fn_spec (cxvszGraph N) (f := 15) (fn := Try.f15) (c := codeOf Try.f15) (by kernel_rfl) (by kernel_rfl) (by kernel_rfl) (loops_at (ids := []) (by kernel_rfl) (trivial)) (by kernel_rfl)) (fun x r h => (FvszGraph_eq N x).trans h)

/-! ### 65: laws.toIntS -/

noncomputable def dinvtoIntS : Desc := { n := 1, regs := [.one (.val (.sl (.int .i64)))], bx := [], pins := [] }
noncomputable def outvtoIntS : Outs := [(.ret, { n := 1, regs := [.one (.lit (.row 1012928))], bx := [(1012928, .row (.int .i64))], pins := [] })]
noncomputable def HvtoIntS : Hints := []
noncomputable def EvtoIntS (_N : Nat) : Env := { te := TE, cs := [] }
noncomputable def dvtoIntS_0 : Desc := { n := 22, regs := [.one (.val (.sl (.int .i64))), u, u, .one (.lit (.row 1012928)), .one (.val (.int .i64))], bx := [(1012928, .row (.int .i64))], pins := [] }
noncomputable def ovtoIntS_0 : Outs := [(.exit 0, { n := 22, regs := [u, u, u, .one (.lit (.row 1012928))], bx := [(1012928, .row (.int .i64))], pins := [] })]
noncomputable def lvtoIntS_0 (N : Nat) : Nat → ((List Int) × (Int × ((List Int) × Unit))) → Option ((List Int) × Unit)
  | 0, _ => none
  | n + 1, v =>
    bif decide (v.2.1 < (v.1.length : Int)) then
     bif decide (0 ≤ v.2.1) then
     bif decide (v.2.1.toNat < v.1.length) then
     bif decide (0 ≤ v.2.1) then
     bif decide (v.2.1.toNat < v.2.2.1.length) then
     let y2 := v.2.2.1.set v.2.1.toNat (v.1.getD v.2.1.toNat (0 : Int))
     lvtoIntS_0 N n (v.1, w64 (v.2.1 + (1 : Int)), y2, ())
     else none
     else none
     else none
     else none
    else
    some (v.2.2.1, ())
noncomputable def FvtoIntS (N : Nat) (x : ((List Int) × Unit)) : Option ((List Int) × Unit) :=
  bif decide (0 ≤ (x.1.length : Int)) then
  bif decide ((x.1.length : Int).toNat ≤ lim) then
  let y1 := List.replicate (x.1.length : Int).toNat (0 : Int)
  (lvtoIntS_0 N N (x.1, (0 : Int), y1, ())).bind fun o3 =>
  some (o3.1, ())
  else none
  else none
noncomputable def convtoIntS (N : Nat) : Con := { f := 65, din := dinvtoIntS, outs := outvtoIntS, F := FvtoIntS N }
noncomputable def XvtoIntS (N : Nat) : Ctx := { E := EvtoIntS N, H := HvtoIntS, lp := [(0, { hd := dvtoIntS_0, outs := ovtoIntS_0, run := fun v => lvtoIntS_0 N N v })], jn := [] }
noncomputable def bvtoIntS_0 : Code := loopBody (codeOf Try.f65) 0
theorem FvtoIntS_eq (N : Nat) (x : ((List Int) × Unit)) : evFn (XvtoIntS N) Try.f65 dinvtoIntS outvtoIntS x = FvtoIntS N x := by kernel_rfl
theorem lvtoIntS_0_eq (N n : Nat) (v : ((List Int) × (Int × ((List Int) × Unit)))) : lvtoIntS_0 N (n + 1) v = ev (XvtoIntS N) bvtoIntS_0 (roundK dvtoIntS_0 ovtoIntS_0 (lvtoIntS_0 N n)) (dvtoIntS_0.mk' v) := by kernel_rfl
theorem cxvtoIntS (N : Nat) : CtxOk Try.prog (XvtoIntS N) := ⟨⟨TE_ok, fun k hk => absurd hk List.not_mem_nil⟩, mixed⟩
theorem lpvtoIntS_0 (N : Nat) : LoopOk Try.prog { hd := dvtoIntS_0, outs := ovtoIntS_0, run := fun v => lvtoIntS_0 N N v } bvtoIntS_0 :=
  loop_fuel (d := dvtoIntS_0) (os := ovtoIntS_0) (cxvtoIntS N) (loops_at (ids := []) (by kernel_rfl) (trivial)) (lvtoIntS_0 N) (fun _ => rfl) (fun n v => lvtoIntS_0_eq N n v) (fun _ => N)
theorem specvtoIntS (N : Nat) : Spec Try.prog (convtoIntS N) :=
  Spec.of_eq (fn_spec (cxvtoIntS N) (f := 65) (fn := Try.f65) (c := codeOf Try.f65) (by kernel_rfl) (by kernel_rfl) (by kernel_rfl) (loops_at (ids := [0]) (by kernel_rfl) ⟨lp_of (lpvtoIntS_0 N), trivial⟩) (by kernel_rfl)) (fun x r h => (FvtoIntS_eq N x).trans h)

/-! ### 125: laws.toNode -/

noncomputable def dinvtoNode : Desc := { n := 1, regs := [.one (.val (.pair (.sl (.int .i64)) (.pair (.sl (.int .i64)) .unit)))], bx := [], pins := [] }
noncomputable def outvtoNode : Outs := [(.ret, { n := 1, regs := [.agg [.lit (.row 1025729), .lit (.row 1038529)]], bx := [(1025729, .row (.int .i64)), (1038529, .row (.int .i64))], pins := [] })]
noncomputable def HvtoNode : Hints := [(0, [(0, { fz := true })])]
noncomputable def EvtoNode (N : Nat) : Env := { te := TE, cs := [convtoIntS N] }
noncomputable def FvtoNode (N : Nat) (x : (((List Int) × ((List Int) × Unit)) × Unit)) : Option ((List Int) × ((List Int) × Unit)) :=
  (FvtoIntS N (x.1.1, ())).bind fun r1 =>
  (FvtoIntS N (x.1.2.1, ())).bind fun r2 =>
  some (r1.1, r2.1, ())
noncomputable def convtoNode (N : Nat) : Con := { f := 125, din := dinvtoNode, outs := outvtoNode, F := FvtoNode N }
noncomputable def XvtoNode (N : Nat) : Ctx := { E := EvtoNode N, H := HvtoNode, lp := [], jn := [] }
theorem FvtoNode_eq (N : Nat) (x : (((List Int) × ((List Int) × Unit)) × Unit)) : evFn (XvtoNode N) Try.f125 dinvtoNode outvtoNode x = FvtoNode N x := by kernel_rfl
theorem cxvtoNode (N : Nat) : CtxOk Try.prog (XvtoNode N) := ⟨⟨TE_ok, List.forall_mem_cons.2 ⟨(specvtoIntS N), fun k hk => absurd hk List.not_mem_nil⟩⟩, mixed⟩
theorem specvtoNode (N : Nat) : Spec Try.prog (convtoNode N) :=
  Spec.of_eq (fn_spec (cxvtoNode N) (f := 125) (fn := Try.f125) (c := codeOf Try.f125) (by kernel_rfl) (by kernel_rfl) (by kernel_rfl) (loops_at (ids := []) (by kernel_rfl) (trivial)) (by kernel_rfl)) (fun x r h => (FvtoNode_eq N x).trans h)

/-! ### 63: laws.toNodeS -/

noncomputable def dinvtoNodeS : Desc := { n := 1, regs := [.one (.val (.sl (.pair (.sl (.int .i64)) (.pair (.sl (.int .i64)) .unit))))], bx := [], pins := [] }
noncomputable def outvtoNodeS : Outs := [(.ret, { n := 1, regs := [.one (.lit (.row 1012928))], bx := [(1012928, .row (.pair (.sl (.int .i64)) (.pair (.sl (.int .i64)) .unit)))], pins := [] })]
noncomputable def HvtoNodeS : Hints := [(1, [(2, { dp := true })])]
noncomputable def EvtoNodeS (N : Nat) : Env := { te := TE, cs := [convtoNode N] }
noncomputable def dvtoNodeS_0 : Desc := { n := 23, regs := [.one (.val (.sl (.pair (.sl (.int .i64)) (.pair (.sl (.int .i64)) .unit)))), u, u, .one (.lit (.row 1012928)), .one (.val (.int .i64))], bx := [(1012928, .row (.pair (.sl (.int .i64)) (.pair (.sl (.int .i64)) .unit)))], pins := [] }
noncomputable def ovtoNodeS_0 : Outs := [(.exit 0, { n := 23, regs := [u, u, u, .one (.lit (.row 1012928))], bx := [(1012928, .row (.pair (.sl (.int .i64)) (.pair (.sl (.int .i64)) .unit)))], pins := [] })]
noncomputable def lvtoNodeS_0 (N : Nat) : Nat → ((List ((List Int) × ((List Int) × Unit))) × (Int × ((List ((List Int) × ((List Int) × Unit))) × Unit))) → Option ((List ((List Int) × ((List Int) × Unit))) × Unit)
  | 0, _ => none
  | n + 1, v =>
    bif decide (v.2.1 < (v.1.length : Int)) then
     bif decide (0 ≤ v.2.1) then
     bif decide (v.2.1.toNat < v.1.length) then
     let y2 := v.1.getD v.2.1.toNat (([] : (List Int)), ([] : (List Int)), ())
     (FvtoNode N (y2, ())).bind fun r3 =>
     bif decide (0 ≤ v.2.1) then
     bif decide (v.2.1.toNat < v.2.2.1.length) then
     let y4 := v.2.2.1.set v.2.1.toNat (r3.1, r3.2.1, ())
     lvtoNodeS_0 N n (v.1, w64 (v.2.1 + (1 : Int)), y4, ())
     else none
     else none
     else none
     else none
    else
    some (v.2.2.1, ())
noncomputable def FvtoNodeS (N : Nat) (x : ((List ((List Int) × ((List Int) × Unit))) × Unit)) : Option ((List ((List Int) × ((List Int) × Unit))) × Unit) :=
  bif decide (0 ≤ (x.1.length : Int)) then
  bif decide ((x.1.length : Int).toNat ≤ lim) then
  let y1 := List.replicate (x.1.length : Int).toNat (([] : (List Int)), ([] : (List Int)), ())
  (lvtoNodeS_0 N N (x.1, (0 : Int), y1, ())).bind fun o5 =>
  some (o5.1, ())
  else none
  else none
noncomputable def convtoNodeS (N : Nat) : Con := { f := 63, din := dinvtoNodeS, outs := outvtoNodeS, F := FvtoNodeS N }
noncomputable def XvtoNodeS (N : Nat) : Ctx := { E := EvtoNodeS N, H := HvtoNodeS, lp := [(0, { hd := dvtoNodeS_0, outs := ovtoNodeS_0, run := fun v => lvtoNodeS_0 N N v })], jn := [] }
noncomputable def bvtoNodeS_0 : Code := loopBody (codeOf Try.f63) 0
theorem FvtoNodeS_eq (N : Nat) (x : ((List ((List Int) × ((List Int) × Unit))) × Unit)) : evFn (XvtoNodeS N) Try.f63 dinvtoNodeS outvtoNodeS x = FvtoNodeS N x := by kernel_rfl
theorem lvtoNodeS_0_eq (N n : Nat) (v : ((List ((List Int) × ((List Int) × Unit))) × (Int × ((List ((List Int) × ((List Int) × Unit))) × Unit)))) : lvtoNodeS_0 N (n + 1) v = ev (XvtoNodeS N) bvtoNodeS_0 (roundK dvtoNodeS_0 ovtoNodeS_0 (lvtoNodeS_0 N n)) (dvtoNodeS_0.mk' v) := by kernel_rfl
theorem cxvtoNodeS (N : Nat) : CtxOk Try.prog (XvtoNodeS N) := ⟨⟨TE_ok, List.forall_mem_cons.2 ⟨(specvtoNode N), fun k hk => absurd hk List.not_mem_nil⟩⟩, mixed⟩
theorem lpvtoNodeS_0 (N : Nat) : LoopOk Try.prog { hd := dvtoNodeS_0, outs := ovtoNodeS_0, run := fun v => lvtoNodeS_0 N N v } bvtoNodeS_0 :=
  loop_fuel (d := dvtoNodeS_0) (os := ovtoNodeS_0) (cxvtoNodeS N) (loops_at (ids := []) (by kernel_rfl) (trivial)) (lvtoNodeS_0 N) (fun _ => rfl) (fun n v => lvtoNodeS_0_eq N n v) (fun _ => N)
theorem specvtoNodeS (N : Nat) : Spec Try.prog (convtoNodeS N) :=
  Spec.of_eq (fn_spec (cxvtoNodeS N) (f := 63) (fn := Try.f63) (c := codeOf Try.f63) (by kernel_rfl) (by kernel_rfl) (by kernel_rfl) (loops_at (ids := [0]) (by kernel_rfl) ⟨lp_of (lpvtoNodeS_0 N), trivial⟩) (by kernel_rfl)) (fun x r h => (FvtoNodeS_eq N x).trans h)

/-! ### 64: laws.toIntSS -/

noncomputable def dinvtoIntSS : Desc := { n := 1, regs := [.one (.val (.sl (.sl (.int .i64))))], bx := [], pins := [] }
noncomputable def outvtoIntSS : Outs := [(.ret, { n := 1, regs := [.one (.lit (.row 1012928))], bx := [(1012928, .row (.sl (.int .i64)))], pins := [] })]
noncomputable def HvtoIntSS : Hints := [(1, [(2, { dp := true })])]
noncomputable def EvtoIntSS (N : Nat) : Env := { te := TE, cs := [convtoIntS N] }
noncomputable def dvtoIntSS_0 : Desc := { n := 23, regs := [.one (.val (.sl (.sl (.int .i64)))), u, u, .one (.lit (.row 1012928)), .one (.val (.int .i64))], bx := [(1012928, .row (.sl (.int .i64)))], pins := [] }
noncomputable def ovtoIntSS_0 : Outs := [(.exit 0, { n := 23, regs := [u, u, u, .one (.lit (.row 1012928))], bx := [(1012928, .row (.sl (.int .i64)))], pins := [] })]
noncomputable def lvtoIntSS_0 (N : Nat) : Nat → ((List (List Int)) × (Int × ((List (List Int)) × Unit))) → Option ((List (List Int)) × Unit)
  | 0, _ => none
  | n + 1, v =>
    bif decide (v.2.1 < (v.1.length : Int)) then
     bif decide (0 ≤ v.2.1) then
     bif decide (v.2.1.toNat < v.1.length) then
     let y2 := v.1.getD v.2.1.toNat ([] : (List Int))
     (FvtoIntS N (y2, ())).bind fun r3 =>
     bif decide (0 ≤ v.2.1) then
     bif decide (v.2.1.toNat < v.2.2.1.length) then
     lvtoIntSS_0 N n (v.1, w64 (v.2.1 + (1 : Int)), v.2.2.1.set v.2.1.toNat r3.1, ())
     else none
     else none
     else none
     else none
    else
    some (v.2.2.1, ())
noncomputable def FvtoIntSS (N : Nat) (x : ((List (List Int)) × Unit)) : Option ((List (List Int)) × Unit) :=
  bif decide (0 ≤ (x.1.length : Int)) then
  bif decide ((x.1.length : Int).toNat ≤ lim) then
  let y1 := List.replicate (x.1.length : Int).toNat ([] : (List Int))
  (lvtoIntSS_0 N N (x.1, (0 : Int), y1, ())).bind fun o4 =>
  some (o4.1, ())
  else none
  else none
noncomputable def convtoIntSS (N : Nat) : Con := { f := 64, din := dinvtoIntSS, outs := outvtoIntSS, F := FvtoIntSS N }
noncomputable def XvtoIntSS (N : Nat) : Ctx := { E := EvtoIntSS N, H := HvtoIntSS, lp := [(0, { hd := dvtoIntSS_0, outs := ovtoIntSS_0, run := fun v => lvtoIntSS_0 N N v })], jn := [] }
noncomputable def bvtoIntSS_0 : Code := loopBody (codeOf Try.f64) 0
theorem FvtoIntSS_eq (N : Nat) (x : ((List (List Int)) × Unit)) : evFn (XvtoIntSS N) Try.f64 dinvtoIntSS outvtoIntSS x = FvtoIntSS N x := by kernel_rfl
theorem lvtoIntSS_0_eq (N n : Nat) (v : ((List (List Int)) × (Int × ((List (List Int)) × Unit)))) : lvtoIntSS_0 N (n + 1) v = ev (XvtoIntSS N) bvtoIntSS_0 (roundK dvtoIntSS_0 ovtoIntSS_0 (lvtoIntSS_0 N n)) (dvtoIntSS_0.mk' v) := by kernel_rfl
theorem cxvtoIntSS (N : Nat) : CtxOk Try.prog (XvtoIntSS N) := ⟨⟨TE_ok, List.forall_mem_cons.2 ⟨(specvtoIntS N), fun k hk => absurd hk List.not_mem_nil⟩⟩, mixed⟩
theorem lpvtoIntSS_0 (N : Nat) : LoopOk Try.prog { hd := dvtoIntSS_0, outs := ovtoIntSS_0, run := fun v => lvtoIntSS_0 N N v } bvtoIntSS_0 :=
  loop_fuel (d := dvtoIntSS_0) (os := ovtoIntSS_0) (cxvtoIntSS N) (loops_at (ids := []) (by kernel_rfl) (trivial)) (lvtoIntSS_0 N) (fun _ => rfl) (fun n v => lvtoIntSS_0_eq N n v) (fun _ => N)
theorem specvtoIntSS (N : Nat) : Spec Try.prog (convtoIntSS N) :=
  Spec.of_eq (fn_spec (cxvtoIntSS N) (f := 64) (fn := Try.f64) (c := codeOf Try.f64) (by kernel_rfl) (by kernel_rfl) (by kernel_rfl) (loops_at (ids := [0]) (by kernel_rfl) ⟨lp_of (lpvtoIntSS_0 N), trivial⟩) (by kernel_rfl)) (fun x r h => (FvtoIntSS_eq N x).trans h)

/-! ### 17: laws.toGraph -/

noncomputable def dinvtoGraph : Desc := { n := 1, regs := [.one (.val (.pair (.sl (.pair (.sl (.int .i64)) (.pair (.sl (.int .i64)) .unit))) (.pair (.sl (.sl (.int .i64))) (.pair (.sl (.int .i64)) .unit))))], bx := [], pins := [] }
noncomputable def outvtoGraph : Outs := [(.ret, { n := 1, regs := [.agg [.lit (.row 1025729), .lit (.row 1038529), .lit (.row 1051329)]], bx := [(1025729, .row (.pair (.sl (.int .i64)) (.pair (.sl (.int .i64)) .unit))), (1038529, .row (.sl (.int .i64))), (1051329, .row (.int .i64))], pins := [] })]
noncomputable def HvtoGraph : Hints := [(0, [(0, { fz := true })]),
  (3, [(2, { con := 1 })]),
  (4, [(2, { con := 2 })])]
noncomputable def EvtoGraph (N : Nat) : Env := { te := TE, cs := [convtoNodeS N, convtoIntSS N, convtoIntS N] }
noncomputable def FvtoGraph (N : Nat) (x : (((List ((List Int) × ((List Int) × Unit))) × ((List (List Int)) × ((List Int) × Unit))) × Unit)) : Option ((List ((List Int) × ((List Int) × Unit))) × ((List (List Int)) × ((List Int) × Unit))) :=
  (FvtoNodeS N (x.1.1, ())).bind fun r1 =>
  (FvtoIntSS N (x.1.2.1, ())).bind fun r2 =>
  (FvtoIntS N (x.1.2.2.1, ())).bind fun r3 =>
  some (r1.1, r2.1, r3.1, ())
noncomputable def convtoGraph (N : Nat) : Con := { f := 17, din := dinvtoGraph, outs := outvtoGraph, F := FvtoGraph N }
noncomputable def XvtoGraph (N : Nat) : Ctx := { E := EvtoGraph N, H := HvtoGraph, lp := [], jn := [] }
theorem FvtoGraph_eq (N : Nat) (x : (((List ((List Int) × ((List Int) × Unit))) × ((List (List Int)) × ((List Int) × Unit))) × Unit)) : evFn (XvtoGraph N) Try.f17 dinvtoGraph outvtoGraph x = FvtoGraph N x := by kernel_rfl
theorem cxvtoGraph (N : Nat) : CtxOk Try.prog (XvtoGraph N) := ⟨⟨TE_ok, List.forall_mem_cons.2 ⟨(specvtoNodeS N), List.forall_mem_cons.2 ⟨(specvtoIntSS N), List.forall_mem_cons.2 ⟨(specvtoIntS N), fun k hk => absurd hk List.not_mem_nil⟩⟩⟩⟩, mixed⟩
theorem specvtoGraph (N : Nat) : Spec Try.prog (convtoGraph N) :=
  Spec.of_eq (fn_spec (cxvtoGraph N) (f := 17) (fn := Try.f17) (c := codeOf Try.f17) (by kernel_rfl) (by kernel_rfl) (by kernel_rfl) (loops_at (ids := []) (by kernel_rfl) (trivial)) (by kernel_rfl)) (fun x r h => (FvtoGraph_eq N x).trans h)

/-! ### 91: spec.l5Refs -/

noncomputable def dinsl5Refs : Desc := { n := 2, regs := [.one (.val (.sl (.int .i64))), .one (.val (.int .i64))], bx := [], pins := [] }
noncomputable def outsl5Refs : Outs := [(.ret, { n := 1, regs := [.one (.val .bool)], bx := [], pins := [] })]
noncomputable def Hsl5Refs : Hints := []
noncomputable def Esl5Refs (_N : Nat) : Env := { te := TE, cs := [] }
noncomputable def dsl5Refs_0 : Desc := { n := 25, regs := [.one (.val (.sl (.int .i64))), .one (.val (.int .i64)), u, u, u, .one (.val (.int .i64))], bx := [], pins := [] }
noncomputable def osl5Refs_0 : Outs := [(.exit 0, { n := 25, regs := [], bx := [], pins := [] }), (.ret, { n := 25, regs := [u, u, u, u, .one (.val .bool)], bx := [], pins := [] })]
noncomputable def lsl5Refs_0 (N : Nat) : Nat → ((List Int) × (Int × (Int × Unit))) → Option (Unit ⊕ (Bool × Unit))
  | 0, _ => none
  | n + 1, v =>
    let y1 := decide (v.2.2.1 < (v.1.length : Int))
    bif y1 then
     bif decide (0 ≤ v.2.2.1) then
     bif decide (v.2.2.1.toNat < v.1.length) then
     let y2 := decide ((v.1.getD v.2.2.1.toNat (0 : Int)) < (-1 : Int))
     bif y2 then
      some (.inr ((false, ())))
     else
     bif decide (0 ≤ v.2.2.1) then
     bif decide (v.2.2.1.toNat < v.1.length) then
     let y3 := decide ((v.1.getD v.2.2.1.toNat (0 : Int)) ≥ v.2.1)
     bif y3 then
      some (.inr ((false, ())))
     else
     lsl5Refs_0 N n (v.1, v.2.1, w64 (v.2.2.1 + (1 : Int)), ())
     else none
     else none
     else none
     else none
    else
    some (.inl ())
noncomputable def Fsl5Refs (N : Nat) (x : ((List Int) × (Int × Unit))) : Option (Bool × Unit) :=
  (lsl5Refs_0 N N (x.1, x.2.1, (0 : Int), ())).bind fun o4 =>
  Sum.elim (fun o5 =>
   some (true, ())) (fun o6 =>
   some (o6.1, ())) o4
noncomputable def consl5Refs (N : Nat) : Con := { f := 91, din := dinsl5Refs, outs := outsl5Refs, F := Fsl5Refs N }
noncomputable def Xsl5Refs (N : Nat) : Ctx := { E := Esl5Refs N, H := Hsl5Refs, lp := [(0, { hd := dsl5Refs_0, outs := osl5Refs_0, run := fun v => lsl5Refs_0 N N v })], jn := [] }
noncomputable def bsl5Refs_0 : Code := loopBody (codeOf Try.f91) 0
theorem Fsl5Refs_eq (N : Nat) (x : ((List Int) × (Int × Unit))) : evFn (Xsl5Refs N) Try.f91 dinsl5Refs outsl5Refs x = Fsl5Refs N x := by kernel_rfl
theorem lsl5Refs_0_eq (N n : Nat) (v : ((List Int) × (Int × (Int × Unit)))) : lsl5Refs_0 N (n + 1) v = ev (Xsl5Refs N) bsl5Refs_0 (roundK dsl5Refs_0 osl5Refs_0 (lsl5Refs_0 N n)) (dsl5Refs_0.mk' v) := by kernel_rfl
theorem cxsl5Refs (N : Nat) : CtxOk Try.prog (Xsl5Refs N) := ⟨⟨TE_ok, fun k hk => absurd hk List.not_mem_nil⟩, mixed⟩
theorem lpsl5Refs_0 (N : Nat) : LoopOk Try.prog { hd := dsl5Refs_0, outs := osl5Refs_0, run := fun v => lsl5Refs_0 N N v } bsl5Refs_0 :=
  loop_fuel (d := dsl5Refs_0) (os := osl5Refs_0) (cxsl5Refs N) (loops_at (ids := []) (by kernel_rfl) (trivial)) (lsl5Refs_0 N) (fun _ => rfl) (fun n v => lsl5Refs_0_eq N n v) (fun _ => N)
theorem specsl5Refs (N : Nat) : Spec Try.prog (consl5Refs N) :=
  Spec.of_eq (fn_spec (cxsl5Refs N) (f := 91) (fn := Try.f91) (c := codeOf Try.f91) (by kernel_rfl) (by kernel_rfl) (by kernel_rfl) (loops_at (ids := [0]) (by kernel_rfl) ⟨lp_of (lpsl5Refs_0 N), trivial⟩) (by kernel_rfl)) (fun x r h => (Fsl5Refs_eq N x).trans h)

/-! ### 42: spec.GraphOk -/

noncomputable def dinsGraphOk : Desc := { n := 1, regs := [.one (.val (.pair (.sl (.pair (.sl (.int .i64)) (.pair (.sl (.int .i64)) .unit))) (.pair (.sl (.sl (.int .i64))) (.pair (.sl (.int .i64)) .unit))))], bx := [], pins := [] }
noncomputable def outsGraphOk : Outs := [(.ret, { n := 1, regs := [.one (.val .bool)], bx := [], pins := [] })]
noncomputable def HsGraphOk : Hints := [(0, [(0, { fz := true })])]
noncomputable def EsGraphOk (N : Nat) : Env := { te := TE, cs := [consl5Refs N] }
noncomputable def dsGraphOk_0 : Desc := { n := 105, regs := [u, .one (.fpt (.pair (.sl (.pair (.sl (.int .i64)) (.pair (.sl (.int .i64)) .unit))) (.pair (.sl (.sl (.int .i64))) (.pair (.sl (.int .i64)) .unit)))), u, .one (.val (.int .i64))], bx := [], pins := [] }
noncomputable def osGraphOk_0 : Outs := [(.exit 0, { n := 105, regs := [u, .one (.fpt (.pair (.sl (.pair (.sl (.int .i64)) (.pair (.sl (.int .i64)) .unit))) (.pair (.sl (.sl (.int .i64))) (.pair (.sl (.int .i64)) .unit))))], bx := [], pins := [] }), (.ret, { n := 105, regs := [u, u, .one (.val .bool)], bx := [], pins := [] })]
noncomputable def dsGraphOk_2 : Desc := { n := 105, regs := [u, .one (.fpt (.pair (.sl (.pair (.sl (.int .i64)) (.pair (.sl (.int .i64)) .unit))) (.pair (.sl (.sl (.int .i64))) (.pair (.sl (.int .i64)) .unit)))), u, u, u, .one (.val (.int .i64))], bx := [], pins := [] }
noncomputable def osGraphOk_2 : Outs := [(.exit 2, { n := 105, regs := [u, .one (.fpt (.pair (.sl (.pair (.sl (.int .i64)) (.pair (.sl (.int .i64)) .unit))) (.pair (.sl (.sl (.int .i64))) (.pair (.sl (.int .i64)) .unit))))], bx := [], pins := [] }), (.ret, { n := 105, regs := [u, u, .one (.val .bool)], bx := [], pins := [] })]
noncomputable def dsGraphOk_4 : Desc := { n := 105, regs := [u, .one (.fpt (.pair (.sl (.pair (.sl (.int .i64)) (.pair (.sl (.int .i64)) .unit))) (.pair (.sl (.sl (.int .i64))) (.pair (.sl (.int .i64)) .unit)))), u, u, u, u, .one (.val (.int .i64))], bx := [], pins := [] }
noncomputable def osGraphOk_4 : Outs := [(.exit 4, { n := 105, regs := [u, .one (.fpt (.pair (.sl (.pair (.sl (.int .i64)) (.pair (.sl (.int .i64)) .unit))) (.pair (.sl (.sl (.int .i64))) (.pair (.sl (.int .i64)) .unit))))], bx := [], pins := [] }), (.ret, { n := 105, regs := [u, u, .one (.val .bool)], bx := [], pins := [] })]
noncomputable def jsGraphOk_3 : Outs := [(.normal, { n := 105, regs := [u, .one (.fpt (.pair (.sl (.pair (.sl (.int .i64)) (.pair (.sl (.int .i64)) .unit))) (.pair (.sl (.sl (.int .i64))) (.pair (.sl (.int .i64)) .unit))))], bx := [], pins := [] }), (.ret, { n := 105, regs := [u, u, .one (.val .bool)], bx := [], pins := [] })]
noncomputable def lsGraphOk_0 (N : Nat) : Nat → (((List ((List Int) × ((List Int) × Unit))) × ((List (List Int)) × ((List Int) × Unit))) × (Int × Unit)) → Option ((((List ((List Int) × ((List Int) × Unit))) × ((List (List Int)) × ((List Int) × Unit))) × Unit) ⊕ (Bool × Unit))
  | 0, _ => none
  | n + 1, v =>
    let y6 := decide (v.2.1 < (v.1.1.length : Int))
    bif y6 then
     bif decide (0 ≤ v.2.1) then
     bif decide (v.2.1.toNat < v.1.1.length) then
     let y7 := v.1.1.getD v.2.1.toNat (([] : (List Int)), ([] : (List Int)), ())
     let y8 := decide ((y7.1.length : Int) > (4 : Int))
     bif y8 then
      some (.inr ((false, ())))
     else
     let y9 := decide ((y7.2.1.length : Int) > (4 : Int))
     bif y9 then
      some (.inr ((false, ())))
     else
     (Fsl5Refs N (y7.1, (v.1.1.length : Int), ())).bind fun r10 =>
     bif !r10.1 then
      some (.inr ((false, ())))
     else
     lsGraphOk_0 N n (v.1, w64 (v.2.1 + (1 : Int)), ())
     else none
     else none
    else
    some (.inl (v.1, ()))
noncomputable def lsGraphOk_2 (N : Nat) : Nat → (((List ((List Int) × ((List Int) × Unit))) × ((List (List Int)) × ((List Int) × Unit))) × (Int × Unit)) → Option ((((List ((List Int) × ((List Int) × Unit))) × ((List (List Int)) × ((List Int) × Unit))) × Unit) ⊕ (Bool × Unit))
  | 0, _ => none
  | n + 1, v =>
    let y13 := decide (v.2.1 < (v.1.2.1.length : Int))
    bif y13 then
     bif decide (0 ≤ v.2.1) then
     bif decide (v.2.1.toNat < v.1.2.1.length) then
     let y14 := v.1.2.1.getD v.2.1.toNat ([] : (List Int))
     let y15 := decide ((y14.length : Int) > (8 : Int))
     bif y15 then
      some (.inr ((false, ())))
     else
     bif decide (0 ≤ v.2.1) then
     bif decide (v.2.1.toNat < v.1.2.1.length) then
     let y16 := v.1.2.1.getD v.2.1.toNat ([] : (List Int))
     (Fsl5Refs N (y16, (v.1.1.length : Int), ())).bind fun r17 =>
     bif !r17.1 then
      some (.inr ((false, ())))
     else
     lsGraphOk_2 N n (v.1, w64 (v.2.1 + (1 : Int)), ())
     else none
     else none
     else none
     else none
    else
    some (.inl (v.1, ()))
noncomputable def lsGraphOk_4 (N : Nat) : Nat → (((List ((List Int) × ((List Int) × Unit))) × ((List (List Int)) × ((List Int) × Unit))) × (Int × Unit)) → Option ((((List ((List Int) × ((List Int) × Unit))) × ((List (List Int)) × ((List Int) × Unit))) × Unit) ⊕ (Bool × Unit))
  | 0, _ => none
  | n + 1, v =>
    let y20 := decide (v.2.1 < (v.1.2.2.1.length : Int))
    bif y20 then
     bif decide (0 ≤ v.2.1) then
     bif decide (v.2.1.toNat < v.1.2.2.1.length) then
     let y21 := decide ((v.1.2.2.1.getD v.2.1.toNat (0 : Int)) < (0 : Int))
     bif y21 then
      some (.inr ((false, ())))
     else
     lsGraphOk_4 N n (v.1, w64 (v.2.1 + (1 : Int)), ())
     else none
     else none
    else
    some (.inl (v.1, ()))
noncomputable def FsGraphOk (N : Nat) (x : (((List ((List Int) × ((List Int) × Unit))) × ((List (List Int)) × ((List Int) × Unit))) × Unit)) : Option (Bool × Unit) :=
  Option.bind (
   let y1 := decide ((x.1.1.length : Int) > (200 : Int))
   bif y1 then
    some (.inr ((false, ())))
   else
   let y2 := decide ((x.1.2.1.length : Int) < (1 : Int))
   bif y2 then
    some (.inr ((false, ())))
   else
   let y3 := decide ((x.1.2.1.length : Int) > (3 : Int))
   bif y3 then
    some (.inr ((false, ())))
   else
   some (.inl (x.1, ()))) fun o4 =>
  Sum.elim (fun o5 =>
   (lsGraphOk_0 N N (o5.1, (0 : Int), ())).bind fun o11 =>
   Sum.elim (fun o12 =>
    (lsGraphOk_2 N N (o12.1, (0 : Int), ())).bind fun o18 =>
    Sum.elim (fun o19 =>
     (lsGraphOk_4 N N (o19.1, (0 : Int), ())).bind fun o22 =>
     Sum.elim (fun o23 =>
      let y24 := decide ((o23.1.2.2.1.length : Int) ≤ (8 : Int))
      bif y24 then
       (Fsl5Refs N (o23.1.2.2.1, (o23.1.1.length : Int), ())).bind fun r25 =>
       some (r25.1, ())
      else
      some (false, ())) (fun o26 =>
      some (o26.1, ())) o22) (fun o27 =>
     some (o27.1, ())) o18) (fun o28 =>
    some (o28.1, ())) o11) (fun o29 =>
   some (o29.1, ())) o4
noncomputable def consGraphOk (N : Nat) : Con := { f := 42, din := dinsGraphOk, outs := outsGraphOk, F := FsGraphOk N }
noncomputable def XsGraphOk (N : Nat) : Ctx := { E := EsGraphOk N, H := HsGraphOk, lp := [(0, { hd := dsGraphOk_0, outs := osGraphOk_0, run := fun v => lsGraphOk_0 N N v }), (2, { hd := dsGraphOk_2, outs := osGraphOk_2, run := fun v => lsGraphOk_2 N N v }), (4, { hd := dsGraphOk_4, outs := osGraphOk_4, run := fun v => lsGraphOk_4 N N v })], jn := [(3, jsGraphOk_3)] }
noncomputable def bsGraphOk_4 : Code := loopBody (codeOf Try.f42) 2
noncomputable def bsGraphOk_2 : Code := loopBody (codeOf Try.f42) 1
noncomputable def bsGraphOk_0 : Code := loopBody (codeOf Try.f42) 0
theorem FsGraphOk_eq (N : Nat) (x : (((List ((List Int) × ((List Int) × Unit))) × ((List (List Int)) × ((List Int) × Unit))) × Unit)) : evFn (XsGraphOk N) Try.f42 dinsGraphOk outsGraphOk x = FsGraphOk N x := by kernel_rfl
theorem lsGraphOk_0_eq (N n : Nat) (v : (((List ((List Int) × ((List Int) × Unit))) × ((List (List Int)) × ((List Int) × Unit))) × (Int × Unit))) : lsGraphOk_0 N (n + 1) v = ev (XsGraphOk N) bsGraphOk_0 (roundK dsGraphOk_0 osGraphOk_0 (lsGraphOk_0 N n)) (dsGraphOk_0.mk' v) := by kernel_rfl
theorem lsGraphOk_2_eq (N n : Nat) (v : (((List ((List Int) × ((List Int) × Unit))) × ((List (List Int)) × ((List Int) × Unit))) × (Int × Unit))) : lsGraphOk_2 N (n + 1) v = ev (XsGraphOk N) bsGraphOk_2 (roundK dsGraphOk_2 osGraphOk_2 (lsGraphOk_2 N n)) (dsGraphOk_2.mk' v) := by kernel_rfl
theorem lsGraphOk_4_eq (N n : Nat) (v : (((List ((List Int) × ((List Int) × Unit))) × ((List (List Int)) × ((List Int) × Unit))) × (Int × Unit))) : lsGraphOk_4 N (n + 1) v = ev (XsGraphOk N) bsGraphOk_4 (roundK dsGraphOk_4 osGraphOk_4 (lsGraphOk_4 N n)) (dsGraphOk_4.mk' v) := by kernel_rfl
theorem cxsGraphOk (N : Nat) : CtxOk Try.prog (XsGraphOk N) := ⟨⟨TE_ok, List.forall_mem_cons.2 ⟨(specsl5Refs N), fun k hk => absurd hk List.not_mem_nil⟩⟩, mixed⟩
theorem lpsGraphOk_0 (N : Nat) : LoopOk Try.prog { hd := dsGraphOk_0, outs := osGraphOk_0, run := fun v => lsGraphOk_0 N N v } bsGraphOk_0 :=
  loop_fuel (d := dsGraphOk_0) (os := osGraphOk_0) (cxsGraphOk N) (loops_at (ids := []) (by kernel_rfl) (trivial)) (lsGraphOk_0 N) (fun _ => rfl) (fun n v => lsGraphOk_0_eq N n v) (fun _ => N)
theorem lpsGraphOk_2 (N : Nat) : LoopOk Try.prog { hd := dsGraphOk_2, outs := osGraphOk_2, run := fun v => lsGraphOk_2 N N v } bsGraphOk_2 :=
  loop_fuel (d := dsGraphOk_2) (os := osGraphOk_2) (cxsGraphOk N) (loops_at (ids := []) (by kernel_rfl) (trivial)) (lsGraphOk_2 N) (fun _ => rfl) (fun n v => lsGraphOk_2_eq N n v) (fun _ => N)
theorem lpsGraphOk_4 (N : Nat) : LoopOk Try.prog { hd := dsGraphOk_4, outs := osGraphOk_4, run := fun v => lsGraphOk_4 N N v } bsGraphOk_4 :=
  loop_fuel (d := dsGraphOk_4) (os := osGraphOk_4) (cxsGraphOk N) (loops_at (ids := []) (by kernel_rfl) (trivial)) (lsGraphOk_4 N) (fun _ => rfl) (fun n v => lsGraphOk_4_eq N n v) (fun _ => N)
theorem specsGraphOk (N : Nat) : Spec Try.prog (consGraphOk N) :=
  Spec.of_eq (fn_spec (cxsGraphOk N) (f := 42) (fn := Try.f42) (c := codeOf Try.f42) (by kernel_rfl) (by kernel_rfl) (by kernel_rfl) (loops_at (ids := [0, 2, 4]) (by kernel_rfl) ⟨lp_of (lpsGraphOk_0 N), ⟨lp_of (lpsGraphOk_2 N), ⟨lp_of (lpsGraphOk_4 N), trivial⟩⟩⟩) (by kernel_rfl)) (fun x r h => (FsGraphOk_eq N x).trans h)

/-! ### 77: spec.l5Order -/

noncomputable def dinsl5Order : Desc := { n := 1, regs := [.one (.val (.pair (.sl (.pair (.sl (.int .i64)) (.pair (.sl (.int .i64)) .unit))) (.pair (.sl (.sl (.int .i64))) (.pair (.sl (.int .i64)) .unit))))], bx := [], pins := [] }
noncomputable def outsl5Order : Outs := [(.ret, { n := 1, regs := [.one (.lit (.row 1012800))], bx := [(1012800, .row (.int .i64))], pins := [] })]
noncomputable def Hsl5Order : Hints := [(0, [(0, { fz := true })]),
  (1, [(0, { nl := [(0, (.int .i64))] })])]
noncomputable def Esl5Order (_N : Nat) : Env := { te := TE, cs := [] }
noncomputable def dsl5Order_2 : Desc := { n := 138, regs := [u, .one (.fpt (.pair (.sl (.pair (.sl (.int .i64)) (.pair (.sl (.int .i64)) .unit))) (.pair (.sl (.sl (.int .i64))) (.pair (.sl (.int .i64)) .unit)))), u, .one (.lit (.row 1012800)), .one (.lit (.row 1025792)), .one (.val (.int .i64)), .one (.val (.int .i64))], bx := [(1012800, .row (.int .i64)), (1025792, .row .bool)], pins := [] }
noncomputable def osl5Order_2 : Outs := [(.exit 2, { n := 138, regs := [u, .one (.fpt (.pair (.sl (.pair (.sl (.int .i64)) (.pair (.sl (.int .i64)) .unit))) (.pair (.sl (.sl (.int .i64))) (.pair (.sl (.int .i64)) .unit)))), u, .one (.lit (.row 1012800)), .one (.lit (.row 1025792)), .one (.val (.int .i64))], bx := [(1012800, .row (.int .i64)), (1025792, .row .bool)], pins := [] })]
noncomputable def dsl5Order_0 : Desc := { n := 138, regs := [u, .one (.fpt (.pair (.sl (.pair (.sl (.int .i64)) (.pair (.sl (.int .i64)) .unit))) (.pair (.sl (.sl (.int .i64))) (.pair (.sl (.int .i64)) .unit)))), u, .one (.lit (.row 1012800)), .one (.lit (.row 1025792)), .one (.val (.int .i64))], bx := [(1012800, .row (.int .i64)), (1025792, .row .bool)], pins := [] }
noncomputable def osl5Order_0 : Outs := [(.exit 0, { n := 138, regs := [u, .one (.fpt (.pair (.sl (.pair (.sl (.int .i64)) (.pair (.sl (.int .i64)) .unit))) (.pair (.sl (.sl (.int .i64))) (.pair (.sl (.int .i64)) .unit)))), u, .one (.lit (.row 1012800)), .one (.lit (.row 1025792))], bx := [(1012800, .row (.int .i64)), (1025792, .row .bool)], pins := [] })]
noncomputable def dsl5Order_4 : Desc := { n := 138, regs := [u, .one (.fpt (.pair (.sl (.pair (.sl (.int .i64)) (.pair (.sl (.int .i64)) .unit))) (.pair (.sl (.sl (.int .i64))) (.pair (.sl (.int .i64)) .unit)))), u, .one (.lit (.row 1012800)), .one (.lit (.row 1025792)), u, u, u, .one (.val (.int .i64))], bx := [(1012800, .row (.int .i64)), (1025792, .row .bool)], pins := [] }
noncomputable def osl5Order_4 : Outs := [(.exit 4, { n := 138, regs := [u, .one (.fpt (.pair (.sl (.pair (.sl (.int .i64)) (.pair (.sl (.int .i64)) .unit))) (.pair (.sl (.sl (.int .i64))) (.pair (.sl (.int .i64)) .unit)))), u, .one (.lit (.row 1012800)), .one (.lit (.row 1025792))], bx := [(1012800, .row (.int .i64)), (1025792, .row .bool)], pins := [] })]
noncomputable def dsl5Order_8 : Desc := { n := 138, regs := [u, .one (.fpt (.pair (.sl (.pair (.sl (.int .i64)) (.pair (.sl (.int .i64)) .unit))) (.pair (.sl (.sl (.int .i64))) (.pair (.sl (.int .i64)) .unit)))), u, .one (.lit (.row 1012800)), .one (.lit (.row 1025792)), u, u, u, u, .one (.val (.int .i64)), .one (.val (.sl (.int .i64))), .one (.val (.int .i64))], bx := [(1012800, .row (.int .i64)), (1025792, .row .bool)], pins := [] }
noncomputable def osl5Order_8 : Outs := [(.exit 8, { n := 138, regs := [u, .one (.fpt (.pair (.sl (.pair (.sl (.int .i64)) (.pair (.sl (.int .i64)) .unit))) (.pair (.sl (.sl (.int .i64))) (.pair (.sl (.int .i64)) .unit)))), u, .one (.lit (.row 1012800)), .one (.lit (.row 1025792)), u, u, u, u, .one (.val (.int .i64))], bx := [(1012800, .row (.int .i64)), (1025792, .row .bool)], pins := [] })]
noncomputable def dsl5Order_6 : Desc := { n := 138, regs := [u, .one (.fpt (.pair (.sl (.pair (.sl (.int .i64)) (.pair (.sl (.int .i64)) .unit))) (.pair (.sl (.sl (.int .i64))) (.pair (.sl (.int .i64)) .unit)))), u, .one (.lit (.row 1012800)), .one (.lit (.row 1025792)), u, u, u, u, .one (.val (.int .i64))], bx := [(1012800, .row (.int .i64)), (1025792, .row .bool)], pins := [] }
noncomputable def osl5Order_6 : Outs := [(.exit 6, { n := 138, regs := [u, u, u, .one (.lit (.row 1012800))], bx := [(1012800, .row (.int .i64))], pins := [] })]
noncomputable def lsl5Order_2 (N : Nat) : Nat → (((List ((List Int) × ((List Int) × Unit))) × ((List (List Int)) × ((List Int) × Unit))) × (Int × (Int × ((List Int) × ((List Bool) × Unit))))) → Option (((List ((List Int) × ((List Int) × Unit))) × ((List (List Int)) × ((List Int) × Unit))) × (Int × ((List Int) × ((List Bool) × Unit))))
  | 0, _ => none
  | n + 1, v =>
    bif decide (0 ≤ v.2.1) then
    bif decide (v.2.1.toNat < v.1.2.1.length) then
    let y3 := v.1.2.1.getD v.2.1.toNat ([] : (List Int))
    bif decide (v.2.2.1 < (y3.length : Int)) then
     bif decide (0 ≤ v.2.1) then
     bif decide (v.2.1.toNat < v.1.2.1.length) then
     let y4 := v.1.2.1.getD v.2.1.toNat ([] : (List Int))
     bif decide (0 ≤ v.2.2.1) then
     bif decide (v.2.2.1.toNat < y4.length) then
     let y5 := decide ((y4.getD v.2.2.1.toNat (0 : Int)) ≥ (0 : Int))
     bif y5 then
      bif decide (0 ≤ (y4.getD v.2.2.1.toNat (0 : Int))) then
      bif decide ((y4.getD v.2.2.1.toNat (0 : Int)).toNat < v.2.2.2.2.1.length) then
      let y6 := (y4.getD v.2.2.1.toNat (0 : Int)).toNat
      bif !(v.2.2.2.2.1.getD y6 false) then
       bif decide (0 ≤ (y4.getD v.2.2.1.toNat (0 : Int))) then
       bif decide ((y4.getD v.2.2.1.toNat (0 : Int)).toNat < v.2.2.2.2.1.length) then
       let y7 := (y4.getD v.2.2.1.toNat (0 : Int)).toNat
       bif decide (v.2.2.2.1.length + [y4.getD v.2.2.1.toNat (0 : Int)].length ≤ lim) then
       let y8 := v.2.2.2.1 ++ [y4.getD v.2.2.1.toNat (0 : Int)]
       lsl5Order_2 N n (v.1, v.2.1, w64 (v.2.2.1 + (1 : Int)), y8, v.2.2.2.2.1.set y7 true, ())
       else none
       else none
       else none
      else
      lsl5Order_2 N n (v.1, v.2.1, w64 (v.2.2.1 + (1 : Int)), v.2.2.2.1, v.2.2.2.2.1, ())
      else none
      else none
     else
     lsl5Order_2 N n (v.1, v.2.1, w64 (v.2.2.1 + (1 : Int)), v.2.2.2.1, v.2.2.2.2.1, ())
     else none
     else none
     else none
     else none
    else
    some (v.1, v.2.1, v.2.2.2.1, v.2.2.2.2.1, ())
    else none
    else none
noncomputable def lsl5Order_0 (N : Nat) : Nat → (((List ((List Int) × ((List Int) × Unit))) × ((List (List Int)) × ((List Int) × Unit))) × (Int × ((List Int) × ((List Bool) × Unit)))) → Option (((List ((List Int) × ((List Int) × Unit))) × ((List (List Int)) × ((List Int) × Unit))) × ((List Int) × ((List Bool) × Unit)))
  | 0, _ => none
  | n + 1, v =>
    let y2 := decide (v.2.1 < (v.1.2.1.length : Int))
    bif y2 then
     (lsl5Order_2 N N (v.1, v.2.1, (0 : Int), v.2.2.1, v.2.2.2.1, ())).bind fun o9 =>
     lsl5Order_0 N n (o9.1, w64 (o9.2.1 + (1 : Int)), o9.2.2.1, o9.2.2.2.1, ())
    else
    some (v.1, v.2.2.1, v.2.2.2.1, ())
noncomputable def lsl5Order_4 (N : Nat) : Nat → (((List ((List Int) × ((List Int) × Unit))) × ((List (List Int)) × ((List Int) × Unit))) × (Int × ((List Int) × ((List Bool) × Unit)))) → Option (((List ((List Int) × ((List Int) × Unit))) × ((List (List Int)) × ((List Int) × Unit))) × ((List Int) × ((List Bool) × Unit)))
  | 0, _ => none
  | n + 1, v =>
    let y11 := decide (v.2.1 < (v.1.2.2.1.length : Int))
    bif y11 then
     bif decide (0 ≤ v.2.1) then
     bif decide (v.2.1.toNat < v.1.2.2.1.length) then
     bif decide (0 ≤ (v.1.2.2.1.getD v.2.1.toNat (0 : Int))) then
     bif decide ((v.1.2.2.1.getD v.2.1.toNat (0 : Int)).toNat < v.2.2.2.1.length) then
     let y12 := (v.1.2.2.1.getD v.2.1.toNat (0 : Int)).toNat
     bif !(v.2.2.2.1.getD y12 false) then
      bif decide (0 ≤ v.2.1) then
      bif decide (v.2.1.toNat < v.1.2.2.1.length) then
      bif decide (0 ≤ (v.1.2.2.1.getD v.2.1.toNat (0 : Int))) then
      bif decide ((v.1.2.2.1.getD v.2.1.toNat (0 : Int)).toNat < v.2.2.2.1.length) then
      let y13 := (v.1.2.2.1.getD v.2.1.toNat (0 : Int)).toNat
      bif decide (0 ≤ v.2.1) then
      bif decide (v.2.1.toNat < v.1.2.2.1.length) then
      let y14 := [v.1.2.2.1.getD v.2.1.toNat (0 : Int)]
      bif decide (v.2.2.1.length + y14.length ≤ lim) then
      lsl5Order_4 N n (v.1, w64 (v.2.1 + (1 : Int)), v.2.2.1 ++ y14, v.2.2.2.1.set y13 true, ())
      else none
      else none
      else none
      else none
      else none
      else none
      else none
     else
     lsl5Order_4 N n (v.1, w64 (v.2.1 + (1 : Int)), v.2.2.1, v.2.2.2.1, ())
     else none
     else none
     else none
     else none
    else
    some (v.1, v.2.2.1, v.2.2.2.1, ())
noncomputable def lsl5Order_8 (N : Nat) : Nat → (((List ((List Int) × ((List Int) × Unit))) × ((List (List Int)) × ((List Int) × Unit))) × (Int × ((List Int) × (Int × ((List Int) × ((List Bool) × Unit)))))) → Option (((List ((List Int) × ((List Int) × Unit))) × ((List (List Int)) × ((List Int) × Unit))) × (Int × ((List Int) × ((List Bool) × Unit))))
  | 0, _ => none
  | n + 1, v =>
    let y18 := decide (v.2.2.2.1 < (v.2.2.1.length : Int))
    bif y18 then
     bif decide (0 ≤ v.2.2.2.1) then
     bif decide (v.2.2.2.1.toNat < v.2.2.1.length) then
     let y19 := v.2.2.1.getD v.2.2.2.1.toNat (0 : Int)
     bif decide (y19 ≥ (0 : Int)) then
      bif decide (0 ≤ v.2.2.2.1) then
      bif decide (v.2.2.2.1.toNat < v.2.2.1.length) then
      let y20 := v.2.2.1.getD v.2.2.2.1.toNat (0 : Int)
      bif decide (0 ≤ y20) then
      bif decide (y20.toNat < v.2.2.2.2.2.1.length) then
      let y21 := !(v.2.2.2.2.2.1.getD y20.toNat false)
      bif y21 then
       bif decide (0 ≤ v.2.2.2.1) then
       bif decide (v.2.2.2.1.toNat < v.2.2.1.length) then
       let y22 := v.2.2.1.getD v.2.2.2.1.toNat (0 : Int)
       bif decide (0 ≤ y22) then
       bif decide (y22.toNat < v.2.2.2.2.2.1.length) then
       bif decide (0 ≤ v.2.2.2.1) then
       bif decide (v.2.2.2.1.toNat < v.2.2.1.length) then
       let y23 := v.2.2.1.getD v.2.2.2.1.toNat (0 : Int)
       bif decide (v.2.2.2.2.1.length + [y23].length ≤ lim) then
       lsl5Order_8 N n (v.1, v.2.1, v.2.2.1, w64 (v.2.2.2.1 + (1 : Int)), v.2.2.2.2.1 ++ [y23], v.2.2.2.2.2.1.set y22.toNat true, ())
       else none
       else none
       else none
       else none
       else none
       else none
       else none
      else
      lsl5Order_8 N n (v.1, v.2.1, v.2.2.1, w64 (v.2.2.2.1 + (1 : Int)), v.2.2.2.2.1, v.2.2.2.2.2.1, ())
      else none
      else none
      else none
      else none
     else
     lsl5Order_8 N n (v.1, v.2.1, v.2.2.1, w64 (v.2.2.2.1 + (1 : Int)), v.2.2.2.2.1, v.2.2.2.2.2.1, ())
     else none
     else none
    else
    some (v.1, v.2.1, v.2.2.2.2.1, v.2.2.2.2.2.1, ())
noncomputable def lsl5Order_6 (N : Nat) : Nat → (((List ((List Int) × ((List Int) × Unit))) × ((List (List Int)) × ((List Int) × Unit))) × (Int × ((List Int) × ((List Bool) × Unit)))) → Option ((List Int) × Unit)
  | 0, _ => none
  | n + 1, v =>
    let y16 := decide (v.2.1 < (v.2.2.1.length : Int))
    bif y16 then
     bif decide (0 ≤ v.2.1) then
     bif decide (v.2.1.toNat < v.2.2.1.length) then
     bif decide (0 ≤ (v.2.2.1.getD v.2.1.toNat (0 : Int))) then
     bif decide ((v.2.2.1.getD v.2.1.toNat (0 : Int)).toNat < v.1.1.length) then
     let y17 := v.1.1.getD ((v.2.2.1.getD v.2.1.toNat (0 : Int)).toNat) (([] : (List Int)), ([] : (List Int)), ())
     (lsl5Order_8 N N (v.1, v.2.1, y17.1, (0 : Int), v.2.2.1, v.2.2.2.1, ())).bind fun o24 =>
     lsl5Order_6 N n (o24.1, w64 (o24.2.1 + (1 : Int)), o24.2.2.1, o24.2.2.2.1, ())
     else none
     else none
     else none
     else none
    else
    some (v.2.2.1, ())
noncomputable def Fsl5Order (N : Nat) (x : (((List ((List Int) × ((List Int) × Unit))) × ((List (List Int)) × ((List Int) × Unit))) × Unit)) : Option ((List Int) × Unit) :=
  bif decide (0 ≤ (x.1.1.length : Int)) then
  bif decide ((x.1.1.length : Int).toNat ≤ lim) then
  let y1 := List.replicate (x.1.1.length : Int).toNat false
  (lsl5Order_0 N N (x.1, (0 : Int), ([] : (List Int)), y1, ())).bind fun o10 =>
  (lsl5Order_4 N N (o10.1, (0 : Int), o10.2.1, o10.2.2.1, ())).bind fun o15 =>
  (lsl5Order_6 N N (o15.1, (0 : Int), o15.2.1, o15.2.2.1, ())).bind fun o25 =>
  some (o25.1, ())
  else none
  else none
noncomputable def consl5Order (N : Nat) : Con := { f := 77, din := dinsl5Order, outs := outsl5Order, F := Fsl5Order N }
noncomputable def Xsl5Order (N : Nat) : Ctx := { E := Esl5Order N, H := Hsl5Order, lp := [(2, { hd := dsl5Order_2, outs := osl5Order_2, run := fun v => lsl5Order_2 N N v }), (0, { hd := dsl5Order_0, outs := osl5Order_0, run := fun v => lsl5Order_0 N N v }), (4, { hd := dsl5Order_4, outs := osl5Order_4, run := fun v => lsl5Order_4 N N v }), (8, { hd := dsl5Order_8, outs := osl5Order_8, run := fun v => lsl5Order_8 N N v }), (6, { hd := dsl5Order_6, outs := osl5Order_6, run := fun v => lsl5Order_6 N N v })], jn := [] }
noncomputable def bsl5Order_6 : Code := loopBody (codeOf Try.f77) 2
noncomputable def bsl5Order_8 : Code := loopBody bsl5Order_6 0
noncomputable def bsl5Order_4 : Code := loopBody (codeOf Try.f77) 1
noncomputable def bsl5Order_0 : Code := loopBody (codeOf Try.f77) 0
noncomputable def bsl5Order_2 : Code := loopBody bsl5Order_0 0
theorem Fsl5Order_eq (N : Nat) (x : (((List ((List Int) × ((List Int) × Unit))) × ((List (List Int)) × ((List Int) × Unit))) × Unit)) : evFn (Xsl5Order N) Try.f77 dinsl5Order outsl5Order x = Fsl5Order N x := by kernel_rfl
theorem lsl5Order_2_eq (N n : Nat) (v : (((List ((List Int) × ((List Int) × Unit))) × ((List (List Int)) × ((List Int) × Unit))) × (Int × (Int × ((List Int) × ((List Bool) × Unit)))))) : lsl5Order_2 N (n + 1) v = ev (Xsl5Order N) bsl5Order_2 (roundK dsl5Order_2 osl5Order_2 (lsl5Order_2 N n)) (dsl5Order_2.mk' v) := by kernel_rfl
theorem lsl5Order_0_eq (N n : Nat) (v : (((List ((List Int) × ((List Int) × Unit))) × ((List (List Int)) × ((List Int) × Unit))) × (Int × ((List Int) × ((List Bool) × Unit))))) : lsl5Order_0 N (n + 1) v = ev (Xsl5Order N) bsl5Order_0 (roundK dsl5Order_0 osl5Order_0 (lsl5Order_0 N n)) (dsl5Order_0.mk' v) := by kernel_rfl
theorem lsl5Order_4_eq (N n : Nat) (v : (((List ((List Int) × ((List Int) × Unit))) × ((List (List Int)) × ((List Int) × Unit))) × (Int × ((List Int) × ((List Bool) × Unit))))) : lsl5Order_4 N (n + 1) v = ev (Xsl5Order N) bsl5Order_4 (roundK dsl5Order_4 osl5Order_4 (lsl5Order_4 N n)) (dsl5Order_4.mk' v) := by kernel_rfl
theorem lsl5Order_8_eq (N n : Nat) (v : (((List ((List Int) × ((List Int) × Unit))) × ((List (List Int)) × ((List Int) × Unit))) × (Int × ((List Int) × (Int × ((List Int) × ((List Bool) × Unit))))))) : lsl5Order_8 N (n + 1) v = ev (Xsl5Order N) bsl5Order_8 (roundK dsl5Order_8 osl5Order_8 (lsl5Order_8 N n)) (dsl5Order_8.mk' v) := by kernel_rfl
theorem lsl5Order_6_eq (N n : Nat) (v : (((List ((List Int) × ((List Int) × Unit))) × ((List (List Int)) × ((List Int) × Unit))) × (Int × ((List Int) × ((List Bool) × Unit))))) : lsl5Order_6 N (n + 1) v = ev (Xsl5Order N) bsl5Order_6 (roundK dsl5Order_6 osl5Order_6 (lsl5Order_6 N n)) (dsl5Order_6.mk' v) := by kernel_rfl
theorem cxsl5Order (N : Nat) : CtxOk Try.prog (Xsl5Order N) := ⟨⟨TE_ok, fun k hk => absurd hk List.not_mem_nil⟩, mixed⟩
theorem lpsl5Order_2 (N : Nat) : LoopOk Try.prog { hd := dsl5Order_2, outs := osl5Order_2, run := fun v => lsl5Order_2 N N v } bsl5Order_2 :=
  loop_fuel (d := dsl5Order_2) (os := osl5Order_2) (cxsl5Order N) (loops_at (ids := []) (by kernel_rfl) (trivial)) (lsl5Order_2 N) (fun _ => rfl) (fun n v => lsl5Order_2_eq N n v) (fun _ => N)
theorem lpsl5Order_0 (N : Nat) : LoopOk Try.prog { hd := dsl5Order_0, outs := osl5Order_0, run := fun v => lsl5Order_0 N N v } bsl5Order_0 :=
  loop_fuel (d := dsl5Order_0) (os := osl5Order_0) (cxsl5Order N) (loops_at (ids := [2]) (by kernel_rfl) ⟨lp_of (lpsl5Order_2 N), trivial⟩) (lsl5Order_0 N) (fun _ => rfl) (fun n v => lsl5Order_0_eq N n v) (fun _ => N)
theorem lpsl5Order_4 (N : Nat) : LoopOk Try.prog { hd := dsl5Order_4, outs := osl5Order_4, run := fun v => lsl5Order_4 N N v } bsl5Order_4 :=
  loop_fuel (d := dsl5Order_4) (os := osl5Order_4) (cxsl5Order N) (loops_at (ids := []) (by kernel_rfl) (trivial)) (lsl5Order_4 N) (fun _ => rfl) (fun n v => lsl5Order_4_eq N n v) (fun _ => N)
theorem lpsl5Order_8 (N : Nat) : LoopOk Try.prog { hd := dsl5Order_8, outs := osl5Order_8, run := fun v => lsl5Order_8 N N v } bsl5Order_8 :=
  loop_fuel (d := dsl5Order_8) (os := osl5Order_8) (cxsl5Order N) (loops_at (ids := []) (by kernel_rfl) (trivial)) (lsl5Order_8 N) (fun _ => rfl) (fun n v => lsl5Order_8_eq N n v) (fun _ => N)
theorem lpsl5Order_6 (N : Nat) : LoopOk Try.prog { hd := dsl5Order_6, outs := osl5Order_6, run := fun v => lsl5Order_6 N N v } bsl5Order_6 :=
  loop_fuel (d := dsl5Order_6) (os := osl5Order_6) (cxsl5Order N) (loops_at (ids := [8]) (by kernel_rfl) ⟨lp_of (lpsl5Order_8 N), trivial⟩) (lsl5Order_6 N) (fun _ => rfl) (fun n v => lsl5Order_6_eq N n v) (fun _ => N)
theorem specsl5Order (N : Nat) : Spec Try.prog (consl5Order N) :=
  Spec.of_eq (fn_spec (cxsl5Order N) (f := 77) (fn := Try.f77) (c := codeOf Try.f77) (by kernel_rfl) (by kernel_rfl) (by kernel_rfl) (loops_at (ids := [0, 4, 6]) (by kernel_rfl) ⟨lp_of (lpsl5Order_0 N), ⟨lp_of (lpsl5Order_4 N), ⟨lp_of (lpsl5Order_6 N), trivial⟩⟩⟩) (by kernel_rfl)) (fun x r h => (Fsl5Order_eq N x).trans h)

/-! ### 33: spec.GraphReach -/

noncomputable def dinsGraphReach : Desc := { n := 1, regs := [.one (.val (.pair (.sl (.pair (.sl (.int .i64)) (.pair (.sl (.int .i64)) .unit))) (.pair (.sl (.sl (.int .i64))) (.pair (.sl (.int .i64)) .unit))))], bx := [], pins := [] }
noncomputable def outsGraphReach : Outs := [(.ret, { n := 1, regs := [.one (.lit (.row 1025600))], bx := [(1025600, .row .bool)], pins := [] })]
noncomputable def HsGraphReach : Hints := [(0, [(0, { fz := true })]),
  (2, [(0, { nl := [(0, .bool)] })]),
  (4, [(1, { con := 1 })])]
noncomputable def EsGraphReach (N : Nat) : Env := { te := TE, cs := [consGraphOk N, consl5Order N] }
noncomputable def dsGraphReach_0 : Desc := { n := 28, regs := [u, u, u, .one (.lit (.row 1038592)), .one (.lit (.row 1051265)), .one (.val (.int .i64))], bx := [(1038592, .row .bool), (1051265, .row (.int .i64))], pins := [] }
noncomputable def osGraphReach_0 : Outs := [(.exit 0, { n := 28, regs := [u, u, u, .one (.lit (.row 1038592))], bx := [(1038592, .row .bool)], pins := [] })]
noncomputable def lsGraphReach_0 (N : Nat) : Nat → (Int × ((List Bool) × ((List Int) × Unit))) → Option ((List Bool) × Unit)
  | 0, _ => none
  | n + 1, v =>
    let y4 := decide (v.1 < (v.2.2.1.length : Int))
    bif y4 then
     bif decide (0 ≤ v.1) then
     bif decide (v.1.toNat < v.2.2.1.length) then
     bif decide (0 ≤ (v.2.2.1.getD v.1.toNat (0 : Int))) then
     bif decide ((v.2.2.1.getD v.1.toNat (0 : Int)).toNat < v.2.1.length) then
     let y5 := (v.2.2.1.getD v.1.toNat (0 : Int)).toNat
     lsGraphReach_0 N n (w64 (v.1 + (1 : Int)), v.2.1.set y5 true, v.2.2.1, ())
     else none
     else none
     else none
     else none
    else
    some (v.2.1, ())
noncomputable def FsGraphReach (N : Nat) (x : (((List ((List Int) × ((List Int) × Unit))) × ((List (List Int)) × ((List Int) × Unit))) × Unit)) : Option ((List Bool) × Unit) :=
  (FsGraphOk N (x.1, ())).bind fun r1 =>
  bif !r1.1 then
   some (([] : (List Bool)), ())
  else
  bif decide (0 ≤ (x.1.1.length : Int)) then
  bif decide ((x.1.1.length : Int).toNat ≤ lim) then
  let y2 := List.replicate (x.1.1.length : Int).toNat false
  (Fsl5Order N (x.1, ())).bind fun r3 =>
  (lsGraphReach_0 N N ((0 : Int), y2, r3.1, ())).bind fun o6 =>
  some (o6.1, ())
  else none
  else none
noncomputable def consGraphReach (N : Nat) : Con := { f := 33, din := dinsGraphReach, outs := outsGraphReach, F := FsGraphReach N }
noncomputable def XsGraphReach (N : Nat) : Ctx := { E := EsGraphReach N, H := HsGraphReach, lp := [(0, { hd := dsGraphReach_0, outs := osGraphReach_0, run := fun v => lsGraphReach_0 N N v })], jn := [] }
noncomputable def bsGraphReach_0 : Code := loopBody (codeOf Try.f33) 0
theorem FsGraphReach_eq (N : Nat) (x : (((List ((List Int) × ((List Int) × Unit))) × ((List (List Int)) × ((List Int) × Unit))) × Unit)) : evFn (XsGraphReach N) Try.f33 dinsGraphReach outsGraphReach x = FsGraphReach N x := by kernel_rfl
theorem lsGraphReach_0_eq (N n : Nat) (v : (Int × ((List Bool) × ((List Int) × Unit)))) : lsGraphReach_0 N (n + 1) v = ev (XsGraphReach N) bsGraphReach_0 (roundK dsGraphReach_0 osGraphReach_0 (lsGraphReach_0 N n)) (dsGraphReach_0.mk' v) := by kernel_rfl
theorem cxsGraphReach (N : Nat) : CtxOk Try.prog (XsGraphReach N) := ⟨⟨TE_ok, List.forall_mem_cons.2 ⟨(specsGraphOk N), List.forall_mem_cons.2 ⟨(specsl5Order N), fun k hk => absurd hk List.not_mem_nil⟩⟩⟩, mixed⟩
theorem lpsGraphReach_0 (N : Nat) : LoopOk Try.prog { hd := dsGraphReach_0, outs := osGraphReach_0, run := fun v => lsGraphReach_0 N N v } bsGraphReach_0 :=
  loop_fuel (d := dsGraphReach_0) (os := osGraphReach_0) (cxsGraphReach N) (loops_at (ids := []) (by kernel_rfl) (trivial)) (lsGraphReach_0 N) (fun _ => rfl) (fun n v => lsGraphReach_0_eq N n v) (fun _ => N)
theorem specsGraphReach (N : Nat) : Spec Try.prog (consGraphReach N) :=
  Spec.of_eq (fn_spec (cxsGraphReach N) (f := 33) (fn := Try.f33) (c := codeOf Try.f33) (by kernel_rfl) (by kernel_rfl) (by kernel_rfl) (loops_at (ids := [0]) (by kernel_rfl) ⟨lp_of (lpsGraphReach_0 N), trivial⟩) (by kernel_rfl)) (fun x r h => (FsGraphReach_eq N x).trans h)

/-! ### 79: spec.l5Ints -/

noncomputable def dinsl5Ints : Desc := { n := 1, regs := [.one (.val (.sl (.int .i64)))], bx := [], pins := [] }
noncomputable def outsl5Ints : Outs := [(.ret, { n := 1, regs := [.one (.lit (.row 1012800))], bx := [(1012800, .row (.int .i64))], pins := [] })]
noncomputable def Hsl5Ints : Hints := []
noncomputable def Esl5Ints (_N : Nat) : Env := { te := TE, cs := [] }
noncomputable def Fsl5Ints (N : Nat) (x : ((List Int) × Unit)) : Option ((List Int) × Unit) :=
  bif decide (([] : (List Int)).length + x.1.length ≤ lim) then
  some (([] : (List Int)) ++ x.1, ())
  else none
noncomputable def consl5Ints (N : Nat) : Con := { f := 79, din := dinsl5Ints, outs := outsl5Ints, F := Fsl5Ints N }
noncomputable def Xsl5Ints (N : Nat) : Ctx := { E := Esl5Ints N, H := Hsl5Ints, lp := [], jn := [] }
theorem Fsl5Ints_eq (N : Nat) (x : ((List Int) × Unit)) : evFn (Xsl5Ints N) Try.f79 dinsl5Ints outsl5Ints x = Fsl5Ints N x := by kernel_rfl
theorem cxsl5Ints (N : Nat) : CtxOk Try.prog (Xsl5Ints N) := ⟨⟨TE_ok, fun k hk => absurd hk List.not_mem_nil⟩, mixed⟩
theorem specsl5Ints (N : Nat) : Spec Try.prog (consl5Ints N) :=
  Spec.of_eq (fn_spec (cxsl5Ints N) (f := 79) (fn := Try.f79) (c := codeOf Try.f79) (by kernel_rfl) (by kernel_rfl) (by kernel_rfl) (loops_at (ids := []) (by kernel_rfl) (trivial)) (by kernel_rfl)) (fun x r h => (Fsl5Ints_eq N x).trans h)

/-! ### 62: spec.l5Copy -/

noncomputable def dinsl5Copy : Desc := { n := 1, regs := [.one (.val (.pair (.sl (.pair (.sl (.int .i64)) (.pair (.sl (.int .i64)) .unit))) (.pair (.sl (.sl (.int .i64))) (.pair (.sl (.int .i64)) .unit))))], bx := [], pins := [] }
noncomputable def outsl5Copy : Outs := [(.ret, { n := 1, regs := [.agg [.lit (.row 1012993), .lit (.row 1012994), .lit (.row 1012929)]], bx := [(1012993, .row (.pair (.sl (.int .i64)) (.pair (.sl (.int .i64)) .unit))), (1012994, .row (.sl (.int .i64))), (1012929, .row (.int .i64))], pins := [] })]
noncomputable def Hsl5Copy : Hints := [(0, [(0, { fz := true })]),
  (1, [(3, { nl := [(0, (.pair (.sl (.int .i64)) (.pair (.sl (.int .i64)) .unit))), (1, (.sl (.int .i64)))] })]),
  (5, [(17, { dp := true }), (18, { dp := true })]),
  (9, [(8, { dp := true }), (9, { dp := true })])]
noncomputable def Esl5Copy (N : Nat) : Env := { te := TE, cs := [consl5Ints N] }
noncomputable def dsl5Copy_0 : Desc := { n := 56, regs := [u, .one (.fpt (.pair (.sl (.pair (.sl (.int .i64)) (.pair (.sl (.int .i64)) .unit))) (.pair (.sl (.sl (.int .i64))) (.pair (.sl (.int .i64)) .unit)))), .one (.lit (.ptr 1000064 0)), .one (.lit (.ptr 1013056 0)), .one (.val (.int .i64))], bx := [(1000064, .var [.lit .nil, .lit .nil, .lit .nil]), (1013056, .var [.lit (.row 1012993), .lit (.row 1012994), .lit (.row 1012929)]), (1012993, .row (.pair (.sl (.int .i64)) (.pair (.sl (.int .i64)) .unit))), (1012994, .row (.sl (.int .i64))), (1012929, .row (.int .i64))], pins := [] }
noncomputable def osl5Copy_0 : Outs := [(.exit 0, { n := 56, regs := [u, .one (.fpt (.pair (.sl (.pair (.sl (.int .i64)) (.pair (.sl (.int .i64)) .unit))) (.pair (.sl (.sl (.int .i64))) (.pair (.sl (.int .i64)) .unit)))), .one (.lit (.ptr 1000064 0)), .one (.lit (.ptr 1013056 0))], bx := [(1000064, .var [.lit .nil, .lit .nil, .lit .nil]), (1013056, .var [.lit (.row 1012993), .lit (.row 1012994), .lit (.row 1012929)]), (1012993, .row (.pair (.sl (.int .i64)) (.pair (.sl (.int .i64)) .unit))), (1012994, .row (.sl (.int .i64))), (1012929, .row (.int .i64))], pins := [] })]
noncomputable def dsl5Copy_2 : Desc := { n := 56, regs := [u, .one (.fpt (.pair (.sl (.pair (.sl (.int .i64)) (.pair (.sl (.int .i64)) .unit))) (.pair (.sl (.sl (.int .i64))) (.pair (.sl (.int .i64)) .unit)))), .one (.lit (.ptr 1000064 0)), .one (.lit (.ptr 1013056 0)), u, .one (.val (.int .i64))], bx := [(1000064, .var [.lit .nil, .lit .nil, .lit .nil]), (1013056, .var [.lit (.row 1012993), .lit (.row 1012994), .lit (.row 1012929)]), (1012993, .row (.pair (.sl (.int .i64)) (.pair (.sl (.int .i64)) .unit))), (1012994, .row (.sl (.int .i64))), (1012929, .row (.int .i64))], pins := [] }
noncomputable def osl5Copy_2 : Outs := [(.exit 2, { n := 56, regs := [u, u, .one (.lit (.ptr 1000064 0)), .one (.lit (.ptr 1013056 0))], bx := [(1000064, .var [.lit .nil, .lit .nil, .lit .nil]), (1013056, .var [.lit (.row 1012993), .lit (.row 1012994), .lit (.row 1012929)]), (1012993, .row (.pair (.sl (.int .i64)) (.pair (.sl (.int .i64)) .unit))), (1012994, .row (.sl (.int .i64))), (1012929, .row (.int .i64))], pins := [] })]
noncomputable def lsl5Copy_0 (N : Nat) : Nat → (((List ((List Int) × ((List Int) × Unit))) × ((List (List Int)) × ((List Int) × Unit))) × (Int × ((List ((List Int) × ((List Int) × Unit))) × ((List (List Int)) × ((List Int) × Unit))))) → Option (((List ((List Int) × ((List Int) × Unit))) × ((List (List Int)) × ((List Int) × Unit))) × ((List ((List Int) × ((List Int) × Unit))) × ((List (List Int)) × ((List Int) × Unit))))
  | 0, _ => none
  | n + 1, v =>
    let y3 := decide (v.2.1 < (v.1.1.length : Int))
    bif y3 then
     bif decide (0 ≤ v.2.1) then
     bif decide (v.2.1.toNat < v.1.1.length) then
     let y4 := v.1.1.getD v.2.1.toNat (([] : (List Int)), ([] : (List Int)), ())
     (Fsl5Ints N (y4.1, ())).bind fun r5 =>
     bif decide (0 ≤ v.2.1) then
     bif decide (v.2.1.toNat < v.1.1.length) then
     let y6 := v.1.1.getD v.2.1.toNat (([] : (List Int)), ([] : (List Int)), ())
     (Fsl5Ints N (y6.2.1, ())).bind fun r7 =>
     bif decide (v.2.2.1.length + [(r5.1, r7.1, ())].length ≤ lim) then
     lsl5Copy_0 N n (v.1, w64 (v.2.1 + (1 : Int)), v.2.2.1 ++ [(r5.1, r7.1, ())], v.2.2.2.1, v.2.2.2.2.1, ())
     else none
     else none
     else none
     else none
     else none
    else
    some (v.1, v.2.2.1, v.2.2.2.1, v.2.2.2.2.1, ())
noncomputable def lsl5Copy_2 (N : Nat) : Nat → (((List ((List Int) × ((List Int) × Unit))) × ((List (List Int)) × ((List Int) × Unit))) × (Int × ((List ((List Int) × ((List Int) × Unit))) × ((List (List Int)) × ((List Int) × Unit))))) → Option ((List ((List Int) × ((List Int) × Unit))) × ((List (List Int)) × ((List Int) × Unit)))
  | 0, _ => none
  | n + 1, v =>
    let y9 := decide (v.2.1 < (v.1.2.1.length : Int))
    bif y9 then
     bif decide (0 ≤ v.2.1) then
     bif decide (v.2.1.toNat < v.1.2.1.length) then
     let y10 := v.1.2.1.getD v.2.1.toNat ([] : (List Int))
     (Fsl5Ints N (y10, ())).bind fun r11 =>
     bif decide (v.2.2.2.1.length + [r11.1].length ≤ lim) then
     lsl5Copy_2 N n (v.1, w64 (v.2.1 + (1 : Int)), v.2.2.1, v.2.2.2.1 ++ [r11.1], v.2.2.2.2.1, ())
     else none
     else none
     else none
    else
    some (v.2.2.1, v.2.2.2.1, v.2.2.2.2.1, ())
noncomputable def Fsl5Copy (N : Nat) (x : (((List ((List Int) × ((List Int) × Unit))) × ((List (List Int)) × ((List Int) × Unit))) × Unit)) : Option ((List ((List Int) × ((List Int) × Unit))) × ((List (List Int)) × ((List Int) × Unit))) :=
  (Fsl5Ints N (x.1.2.2.1, ())).bind fun r1 =>
  let y2 := ([] : (List ((List Int) × ((List Int) × Unit))))
  (lsl5Copy_0 N N (x.1, (0 : Int), y2, ([] : (List (List Int))), r1.1, ())).bind fun o8 =>
  (lsl5Copy_2 N N (o8.1, (0 : Int), o8.2.1, o8.2.2.1, o8.2.2.2.1, ())).bind fun o12 =>
  some (o12.1, o12.2.1, o12.2.2.1, ())
noncomputable def consl5Copy (N : Nat) : Con := { f := 62, din := dinsl5Copy, outs := outsl5Copy, F := Fsl5Copy N }
noncomputable def Xsl5Copy (N : Nat) : Ctx := { E := Esl5Copy N, H := Hsl5Copy, lp := [(0, { hd := dsl5Copy_0, outs := osl5Copy_0, run := fun v => lsl5Copy_0 N N v }), (2, { hd := dsl5Copy_2, outs := osl5Copy_2, run := fun v => lsl5Copy_2 N N v })], jn := [] }
noncomputable def bsl5Copy_2 : Code := loopBody (codeOf Try.f62) 1
noncomputable def bsl5Copy_0 : Code := loopBody (codeOf Try.f62) 0
theorem Fsl5Copy_eq (N : Nat) (x : (((List ((List Int) × ((List Int) × Unit))) × ((List (List Int)) × ((List Int) × Unit))) × Unit)) : evFn (Xsl5Copy N) Try.f62 dinsl5Copy outsl5Copy x = Fsl5Copy N x := by kernel_rfl
theorem lsl5Copy_0_eq (N n : Nat) (v : (((List ((List Int) × ((List Int) × Unit))) × ((List (List Int)) × ((List Int) × Unit))) × (Int × ((List ((List Int) × ((List Int) × Unit))) × ((List (List Int)) × ((List Int) × Unit)))))) : lsl5Copy_0 N (n + 1) v = ev (Xsl5Copy N) bsl5Copy_0 (roundK dsl5Copy_0 osl5Copy_0 (lsl5Copy_0 N n)) (dsl5Copy_0.mk' v) := by kernel_rfl
theorem lsl5Copy_2_eq (N n : Nat) (v : (((List ((List Int) × ((List Int) × Unit))) × ((List (List Int)) × ((List Int) × Unit))) × (Int × ((List ((List Int) × ((List Int) × Unit))) × ((List (List Int)) × ((List Int) × Unit)))))) : lsl5Copy_2 N (n + 1) v = ev (Xsl5Copy N) bsl5Copy_2 (roundK dsl5Copy_2 osl5Copy_2 (lsl5Copy_2 N n)) (dsl5Copy_2.mk' v) := by kernel_rfl
theorem cxsl5Copy (N : Nat) : CtxOk Try.prog (Xsl5Copy N) := ⟨⟨TE_ok, List.forall_mem_cons.2 ⟨(specsl5Ints N), fun k hk => absurd hk List.not_mem_nil⟩⟩, mixed⟩
theorem lpsl5Copy_0 (N : Nat) : LoopOk Try.prog { hd := dsl5Copy_0, outs := osl5Copy_0, run := fun v => lsl5Copy_0 N N v } bsl5Copy_0 :=
  loop_fuel (d := dsl5Copy_0) (os := osl5Copy_0) (cxsl5Copy N) (loops_at (ids := []) (by kernel_rfl) (trivial)) (lsl5Copy_0 N) (fun _ => rfl) (fun n v => lsl5Copy_0_eq N n v) (fun _ => N)
theorem lpsl5Copy_2 (N : Nat) : LoopOk Try.prog { hd := dsl5Copy_2, outs := osl5Copy_2, run := fun v => lsl5Copy_2 N N v } bsl5Copy_2 :=
  loop_fuel (d := dsl5Copy_2) (os := osl5Copy_2) (cxsl5Copy N) (loops_at (ids := []) (by kernel_rfl) (trivial)) (lsl5Copy_2 N) (fun _ => rfl) (fun n v => lsl5Copy_2_eq N n v) (fun _ => N)
theorem specsl5Copy (N : Nat) : Spec Try.prog (consl5Copy N) :=
  Spec.of_eq (fn_spec (cxsl5Copy N) (f := 62) (fn := Try.f62) (c := codeOf Try.f62) (by kernel_rfl) (by kernel_rfl) (by kernel_rfl) (loops_at (ids := [0, 2]) (by kernel_rfl) ⟨lp_of (lpsl5Copy_0 N), ⟨lp_of (lpsl5Copy_2 N), trivial⟩⟩) (by kernel_rfl)) (fun x r h => (Fsl5Copy_eq N x).trans h)

/-! ### 74: spec.l17Less -/

noncomputable def dinsl17Less : Desc := { n := 2, regs := [.one (.val (.pair (.sl (.pair (.sl (.int .i64)) (.pair (.sl (.int .i64)) .unit))) (.pair (.sl (.sl (.int .i64))) (.pair (.sl (.int .i64)) .unit)))), .one (.val (.int .i64))], bx := [], pins := [] }
noncomputable def outsl17Less : Outs := [(.ret, { n := 1, regs := [.agg [.lit (.row 1012865), .lit (.row 1012866), .lit (.row 1230400)]], bx := [(1012865, .row (.pair (.sl (.int .i64)) (.pair (.sl (.int .i64)) .unit))), (1012866, .row (.sl (.int .i64))), (1230400, .row (.int .i64))], pins := [] })]
noncomputable def Hsl17Less : Hints := [(0, [(0, { fz := true })]),
  (18, [(0, { nl := [(0, (.int .i64))] })])]
noncomputable def Esl17Less (N : Nat) : Env := { te := TE, cs := [consl5Copy N] }
noncomputable def dsl17Less_2 : Desc := { n := 110, regs := [u, .one (.val (.int .i64)), u, u, .one (.lit (.ptr 1000064 0)), .one (.lit (.ptr 1012928 0)), .one (.val (.int .i64)), .one (.val (.int .i64))], bx := [(1000064, .var [.lit .nil, .lit .nil, .lit .nil]), (1012928, .var [.lit (.row 1012865), .lit (.row 1012866), .lit (.row 1012867)]), (1012865, .row (.pair (.sl (.int .i64)) (.pair (.sl (.int .i64)) .unit))), (1012866, .row (.sl (.int .i64))), (1012867, .row (.int .i64))], pins := [] }
noncomputable def osl17Less_2 : Outs := [(.exit 2, { n := 110, regs := [u, .one (.val (.int .i64)), u, u, .one (.lit (.ptr 1000064 0)), .one (.lit (.ptr 1012928 0)), .one (.val (.int .i64))], bx := [(1000064, .var [.lit .nil, .lit .nil, .lit .nil]), (1012928, .var [.lit (.row 1012865), .lit (.row 1012866), .lit (.row 1012867)]), (1012865, .row (.pair (.sl (.int .i64)) (.pair (.sl (.int .i64)) .unit))), (1012866, .row (.sl (.int .i64))), (1012867, .row (.int .i64))], pins := [] })]
noncomputable def dsl17Less_0 : Desc := { n := 110, regs := [u, .one (.val (.int .i64)), u, u, .one (.lit (.ptr 1000064 0)), .one (.lit (.ptr 1012928 0)), .one (.val (.int .i64))], bx := [(1000064, .var [.lit .nil, .lit .nil, .lit .nil]), (1012928, .var [.lit (.row 1012865), .lit (.row 1012866), .lit (.row 1012867)]), (1012865, .row (.pair (.sl (.int .i64)) (.pair (.sl (.int .i64)) .unit))), (1012866, .row (.sl (.int .i64))), (1012867, .row (.int .i64))], pins := [] }
noncomputable def osl17Less_0 : Outs := [(.exit 0, { n := 110, regs := [u, .one (.val (.int .i64)), u, u, .one (.lit (.ptr 1000064 0)), .one (.lit (.ptr 1012928 0))], bx := [(1000064, .var [.lit .nil, .lit .nil, .lit .nil]), (1012928, .var [.lit (.row 1012865), .lit (.row 1012866), .lit (.row 1012867)]), (1012865, .row (.pair (.sl (.int .i64)) (.pair (.sl (.int .i64)) .unit))), (1012866, .row (.sl (.int .i64))), (1012867, .row (.int .i64))], pins := [] })]
noncomputable def dsl17Less_6 : Desc := { n := 110, regs := [u, .one (.val (.int .i64)), u, u, .one (.lit (.ptr 1000064 0)), .one (.lit (.ptr 1012928 0)), u, u, .one (.val (.int .i64)), .one (.val (.int .i64))], bx := [(1000064, .var [.lit .nil, .lit .nil, .lit .nil]), (1012928, .var [.lit (.row 1012865), .lit (.row 1012866), .lit (.row 1012867)]), (1012865, .row (.pair (.sl (.int .i64)) (.pair (.sl (.int .i64)) .unit))), (1012866, .row (.sl (.int .i64))), (1012867, .row (.int .i64))], pins := [] }
noncomputable def osl17Less_6 : Outs := [(.exit 6, { n := 110, regs := [u, .one (.val (.int .i64)), u, u, .one (.lit (.ptr 1000064 0)), .one (.lit (.ptr 1012928 0)), u, u, .one (.val (.int .i64))], bx := [(1000064, .var [.lit .nil, .lit .nil, .lit .nil]), (1012928, .var [.lit (.row 1012865), .lit (.row 1012866), .lit (.row 1012867)]), (1012865, .row (.pair (.sl (.int .i64)) (.pair (.sl (.int .i64)) .unit))), (1012866, .row (.sl (.int .i64))), (1012867, .row (.int .i64))], pins := [] })]
noncomputable def dsl17Less_4 : Desc := { n := 110, regs := [u, .one (.val (.int .i64)), u, u, .one (.lit (.ptr 1000064 0)), .one (.lit (.ptr 1012928 0)), u, u, .one (.val (.int .i64))], bx := [(1000064, .var [.lit .nil, .lit .nil, .lit .nil]), (1012928, .var [.lit (.row 1012865), .lit (.row 1012866), .lit (.row 1012867)]), (1012865, .row (.pair (.sl (.int .i64)) (.pair (.sl (.int .i64)) .unit))), (1012866, .row (.sl (.int .i64))), (1012867, .row (.int .i64))], pins := [] }
noncomputable def osl17Less_4 : Outs := [(.exit 4, { n := 110, regs := [u, .one (.val (.int .i64)), u, u, .one (.lit (.ptr 1000064 0)), .one (.lit (.ptr 1012928 0))], bx := [(1000064, .var [.lit .nil, .lit .nil, .lit .nil]), (1012928, .var [.lit (.row 1012865), .lit (.row 1012866), .lit (.row 1012867)]), (1012865, .row (.pair (.sl (.int .i64)) (.pair (.sl (.int .i64)) .unit))), (1012866, .row (.sl (.int .i64))), (1012867, .row (.int .i64))], pins := [] })]
noncomputable def dsl17Less_8 : Desc := { n := 110, regs := [u, .one (.val (.int .i64)), u, u, .one (.lit (.ptr 1000064 0)), .one (.lit (.ptr 1012928 0)), u, u, u, u, .one (.lit (.row 1230400)), .one (.val (.int .i64))], bx := [(1000064, .var [.lit .nil, .lit .nil, .lit .nil]), (1012928, .var [.lit (.row 1012865), .lit (.row 1012866), .lit (.row 1012867)]), (1012865, .row (.pair (.sl (.int .i64)) (.pair (.sl (.int .i64)) .unit))), (1012866, .row (.sl (.int .i64))), (1012867, .row (.int .i64)), (1230400, .row (.int .i64))], pins := [] }
noncomputable def osl17Less_8 : Outs := [(.exit 8, { n := 110, regs := [u, u, u, u, .one (.lit (.ptr 1000064 0)), .one (.lit (.ptr 1012928 0)), u, u, u, u, .one (.lit (.row 1230400))], bx := [(1000064, .var [.lit .nil, .lit .nil, .lit .nil]), (1012928, .var [.lit (.row 1012865), .lit (.row 1012866), .lit (.row 1012867)]), (1012865, .row (.pair (.sl (.int .i64)) (.pair (.sl (.int .i64)) .unit))), (1012866, .row (.sl (.int .i64))), (1012867, .row (.int .i64)), (1230400, .row (.int .i64))], pins := [] })]
noncomputable def lsl17Less_2 (N : Nat) : Nat → (Int × (Int × (Int × ((List ((List Int) × ((List Int) × Unit))) × ((List (List Int)) × ((List Int) × Unit)))))) → Option (Int × (Int × ((List ((List Int) × ((List Int) × Unit))) × ((List (List Int)) × ((List Int) × Unit)))))
  | 0, _ => none
  | n + 1, v =>
    bif decide (0 ≤ v.2.1) then
    bif decide (v.2.1.toNat < v.2.2.2.1.length) then
    let y3 := (((v.2.2.2.1.getD v.2.1.toNat (([] : (List Int)), ([] : (List Int)), ())).1).length : Int)
    bif decide (v.2.2.1 < y3) then
     bif decide (0 ≤ v.2.1) then
     bif decide (v.2.1.toNat < v.2.2.2.1.length) then
     bif decide (0 ≤ v.2.2.1) then
     bif decide (v.2.2.1.toNat < ((v.2.2.2.1.getD v.2.1.toNat (([] : (List Int)), ([] : (List Int)), ())).1).length) then
     let y4 := ((v.2.2.2.1.getD v.2.1.toNat (([] : (List Int)), ([] : (List Int)), ())).1).getD v.2.2.1.toNat (0 : Int)
     bif y4 == v.1 then
      bif decide (0 ≤ v.2.1) then
      bif decide (v.2.1.toNat < v.2.2.2.1.length) then
      bif decide (0 ≤ v.2.2.1) then
      bif decide (v.2.2.1.toNat < ((v.2.2.2.1.getD v.2.1.toNat (([] : (List Int)), ([] : (List Int)), ())).1).length) then
      let y5 := v.2.2.2.1.set v.2.1.toNat (((v.2.2.2.1.getD v.2.1.toNat (([] : (List Int)), ([] : (List Int)), ())).1).set v.2.2.1.toNat (-1 : Int), (v.2.2.2.1.getD v.2.1.toNat (([] : (List Int)), ([] : (List Int)), ())).2)
      lsl17Less_2 N n (v.1, v.2.1, w64 (v.2.2.1 + (1 : Int)), y5, v.2.2.2.2.1, v.2.2.2.2.2.1, ())
      else none
      else none
      else none
      else none
     else
     lsl17Less_2 N n (v.1, v.2.1, w64 (v.2.2.1 + (1 : Int)), v.2.2.2.1, v.2.2.2.2.1, v.2.2.2.2.2.1, ())
     else none
     else none
     else none
     else none
    else
    some (v.1, v.2.1, v.2.2.2.1, v.2.2.2.2.1, v.2.2.2.2.2.1, ())
    else none
    else none
noncomputable def lsl17Less_0 (N : Nat) : Nat → (Int × (Int × ((List ((List Int) × ((List Int) × Unit))) × ((List (List Int)) × ((List Int) × Unit))))) → Option (Int × ((List ((List Int) × ((List Int) × Unit))) × ((List (List Int)) × ((List Int) × Unit))))
  | 0, _ => none
  | n + 1, v =>
    let y2 := decide (v.2.1 < (v.2.2.1.length : Int))
    bif y2 then
     (lsl17Less_2 N N (v.1, v.2.1, (0 : Int), v.2.2.1, v.2.2.2.1, v.2.2.2.2.1, ())).bind fun o6 =>
     lsl17Less_0 N n (o6.1, w64 (o6.2.1 + (1 : Int)), o6.2.2.1, o6.2.2.2.1, o6.2.2.2.2.1, ())
    else
    some (v.1, v.2.2.1, v.2.2.2.1, v.2.2.2.2.1, ())
noncomputable def lsl17Less_6 (N : Nat) : Nat → (Int × (Int × (Int × ((List ((List Int) × ((List Int) × Unit))) × ((List (List Int)) × ((List Int) × Unit)))))) → Option (Int × (Int × ((List ((List Int) × ((List Int) × Unit))) × ((List (List Int)) × ((List Int) × Unit)))))
  | 0, _ => none
  | n + 1, v =>
    bif decide (0 ≤ v.2.1) then
    bif decide (v.2.1.toNat < v.2.2.2.2.1.length) then
    let y9 := ((v.2.2.2.2.1.getD v.2.1.toNat ([] : (List Int))).length : Int)
    bif decide (v.2.2.1 < y9) then
     bif decide (0 ≤ v.2.1) then
     bif decide (v.2.1.toNat < v.2.2.2.2.1.length) then
     bif decide (0 ≤ v.2.2.1) then
     bif decide (v.2.2.1.toNat < (v.2.2.2.2.1.getD v.2.1.toNat ([] : (List Int))).length) then
     let y10 := (v.2.2.2.2.1.getD v.2.1.toNat ([] : (List Int))).getD v.2.2.1.toNat (0 : Int)
     bif y10 == v.1 then
      bif decide (0 ≤ v.2.1) then
      bif decide (v.2.1.toNat < v.2.2.2.2.1.length) then
      bif decide (0 ≤ v.2.2.1) then
      bif decide (v.2.2.1.toNat < (v.2.2.2.2.1.getD v.2.1.toNat ([] : (List Int))).length) then
      let y11 := v.2.2.2.2.1.set v.2.1.toNat ((v.2.2.2.2.1.getD v.2.1.toNat ([] : (List Int))).set v.2.2.1.toNat (-1 : Int))
      lsl17Less_6 N n (v.1, v.2.1, w64 (v.2.2.1 + (1 : Int)), v.2.2.2.1, y11, v.2.2.2.2.2.1, ())
      else none
      else none
      else none
      else none
     else
     lsl17Less_6 N n (v.1, v.2.1, w64 (v.2.2.1 + (1 : Int)), v.2.2.2.1, v.2.2.2.2.1, v.2.2.2.2.2.1, ())
     else none
     else none
     else none
     else none
    else
    some (v.1, v.2.1, v.2.2.2.1, v.2.2.2.2.1, v.2.2.2.2.2.1, ())
    else none
    else none
noncomputable def lsl17Less_4 (N : Nat) : Nat → (Int × (Int × ((List ((List Int) × ((List Int) × Unit))) × ((List (List Int)) × ((List Int) × Unit))))) → Option (Int × ((List ((List Int) × ((List Int) × Unit))) × ((List (List Int)) × ((List Int) × Unit))))
  | 0, _ => none
  | n + 1, v =>
    let y8 := decide (v.2.1 < (v.2.2.2.1.length : Int))
    bif y8 then
     (lsl17Less_6 N N (v.1, v.2.1, (0 : Int), v.2.2.1, v.2.2.2.1, v.2.2.2.2.1, ())).bind fun o12 =>
     lsl17Less_4 N n (o12.1, w64 (o12.2.1 + (1 : Int)), o12.2.2.1, o12.2.2.2.1, o12.2.2.2.2.1, ())
    else
    some (v.1, v.2.2.1, v.2.2.2.1, v.2.2.2.2.1, ())
noncomputable def lsl17Less_8 (N : Nat) : Nat → (Int × (Int × ((List ((List Int) × ((List Int) × Unit))) × ((List (List Int)) × ((List Int) × ((List Int) × Unit)))))) → Option ((List ((List Int) × ((List Int) × Unit))) × ((List (List Int)) × ((List Int) × ((List Int) × Unit))))
  | 0, _ => none
  | n + 1, v =>
    let y14 := decide (v.2.1 < (v.2.2.2.2.1.length : Int))
    bif y14 then
     bif decide (0 ≤ v.2.1) then
     bif decide (v.2.1.toNat < v.2.2.2.2.1.length) then
     let y15 := v.2.2.2.2.1.getD v.2.1.toNat (0 : Int)
     bif y15 != v.1 then
      bif decide (0 ≤ v.2.1) then
      bif decide (v.2.1.toNat < v.2.2.2.2.1.length) then
      let y16 := v.2.2.2.2.1.getD v.2.1.toNat (0 : Int)
      bif decide (v.2.2.2.2.2.1.length + [y16].length ≤ lim) then
      lsl17Less_8 N n (v.1, w64 (v.2.1 + (1 : Int)), v.2.2.1, v.2.2.2.1, v.2.2.2.2.1, v.2.2.2.2.2.1 ++ [y16], ())
      else none
      else none
      else none
     else
     lsl17Less_8 N n (v.1, w64 (v.2.1 + (1 : Int)), v.2.2.1, v.2.2.2.1, v.2.2.2.2.1, v.2.2.2.2.2.1, ())
     else none
     else none
    else
    some (v.2.2.1, v.2.2.2.1, v.2.2.2.2.1, v.2.2.2.2.2.1, ())
noncomputable def Fsl17Less (N : Nat) (x : (((List ((List Int) × ((List Int) × Unit))) × ((List (List Int)) × ((List Int) × Unit))) × (Int × Unit))) : Option ((List ((List Int) × ((List Int) × Unit))) × ((List (List Int)) × ((List Int) × Unit))) :=
  (Fsl5Copy N (x.1, ())).bind fun r1 =>
  (lsl17Less_0 N N (x.2.1, (0 : Int), r1.1, r1.2.1, r1.2.2.1, ())).bind fun o7 =>
  (lsl17Less_4 N N (o7.1, (0 : Int), o7.2.1, o7.2.2.1, o7.2.2.2.1, ())).bind fun o13 =>
  (lsl17Less_8 N N (o13.1, (0 : Int), o13.2.1, o13.2.2.1, o13.2.2.2.1, ([] : (List Int)), ())).bind fun o17 =>
  some (o17.1, o17.2.1, o17.2.2.2.1, ())
noncomputable def consl17Less (N : Nat) : Con := { f := 74, din := dinsl17Less, outs := outsl17Less, F := Fsl17Less N }
noncomputable def Xsl17Less (N : Nat) : Ctx := { E := Esl17Less N, H := Hsl17Less, lp := [(2, { hd := dsl17Less_2, outs := osl17Less_2, run := fun v => lsl17Less_2 N N v }), (0, { hd := dsl17Less_0, outs := osl17Less_0, run := fun v => lsl17Less_0 N N v }), (6, { hd := dsl17Less_6, outs := osl17Less_6, run := fun v => lsl17Less_6 N N v }), (4, { hd := dsl17Less_4, outs := osl17Less_4, run := fun v => lsl17Less_4 N N v }), (8, { hd := dsl17Less_8, outs := osl17Less_8, run := fun v => lsl17Less_8 N N v })], jn := [] }
noncomputable def bsl17Less_8 : Code := loopBody (codeOf Try.f74) 2
noncomputable def bsl17Less_4 : Code := loopBody (codeOf Try.f74) 1
noncomputable def bsl17Less_6 : Code := loopBody bsl17Less_4 0
noncomputable def bsl17Less_0 : Code := loopBody (codeOf Try.f74) 0
noncomputable def bsl17Less_2 : Code := loopBody bsl17Less_0 0
theorem Fsl17Less_eq (N : Nat) (x : (((List ((List Int) × ((List Int) × Unit))) × ((List (List Int)) × ((List Int) × Unit))) × (Int × Unit))) : evFn (Xsl17Less N) Try.f74 dinsl17Less outsl17Less x = Fsl17Less N x := by kernel_rfl
theorem lsl17Less_2_eq (N n : Nat) (v : (Int × (Int × (Int × ((List ((List Int) × ((List Int) × Unit))) × ((List (List Int)) × ((List Int) × Unit))))))) : lsl17Less_2 N (n + 1) v = ev (Xsl17Less N) bsl17Less_2 (roundK dsl17Less_2 osl17Less_2 (lsl17Less_2 N n)) (dsl17Less_2.mk' v) := by kernel_rfl
theorem lsl17Less_0_eq (N n : Nat) (v : (Int × (Int × ((List ((List Int) × ((List Int) × Unit))) × ((List (List Int)) × ((List Int) × Unit)))))) : lsl17Less_0 N (n + 1) v = ev (Xsl17Less N) bsl17Less_0 (roundK dsl17Less_0 osl17Less_0 (lsl17Less_0 N n)) (dsl17Less_0.mk' v) := by kernel_rfl
theorem lsl17Less_6_eq (N n : Nat) (v : (Int × (Int × (Int × ((List ((List Int) × ((List Int) × Unit))) × ((List (List Int)) × ((List Int) × Unit))))))) : lsl17Less_6 N (n + 1) v = ev (Xsl17Less N) bsl17Less_6 (roundK dsl17Less_6 osl17Less_6 (lsl17Less_6 N n)) (dsl17Less_6.mk' v) := by kernel_rfl
theorem lsl17Less_4_eq (N n : Nat) (v : (Int × (Int × ((List ((List Int) × ((List Int) × Unit))) × ((List (List Int)) × ((List Int) × Unit)))))) : lsl17Less_4 N (n + 1) v = ev (Xsl17Less N) bsl17Less_4 (roundK dsl17Less_4 osl17Less_4 (lsl17Less_4 N n)) (dsl17Less_4.mk' v) := by kernel_rfl
theorem lsl17Less_8_eq (N n : Nat) (v : (Int × (Int × ((List ((List Int) × ((List Int) × Unit))) × ((List (List Int)) × ((List Int) × ((List Int) × Unit))))))) : lsl17Less_8 N (n + 1) v = ev (Xsl17Less N) bsl17Less_8 (roundK dsl17Less_8 osl17Less_8 (lsl17Less_8 N n)) (dsl17Less_8.mk' v) := by kernel_rfl
theorem cxsl17Less (N : Nat) : CtxOk Try.prog (Xsl17Less N) := ⟨⟨TE_ok, List.forall_mem_cons.2 ⟨(specsl5Copy N), fun k hk => absurd hk List.not_mem_nil⟩⟩, mixed⟩
theorem lpsl17Less_2 (N : Nat) : LoopOk Try.prog { hd := dsl17Less_2, outs := osl17Less_2, run := fun v => lsl17Less_2 N N v } bsl17Less_2 :=
  loop_fuel (d := dsl17Less_2) (os := osl17Less_2) (cxsl17Less N) (loops_at (ids := []) (by kernel_rfl) (trivial)) (lsl17Less_2 N) (fun _ => rfl) (fun n v => lsl17Less_2_eq N n v) (fun _ => N)
theorem lpsl17Less_0 (N : Nat) : LoopOk Try.prog { hd := dsl17Less_0, outs := osl17Less_0, run := fun v => lsl17Less_0 N N v } bsl17Less_0 :=
  loop_fuel (d := dsl17Less_0) (os := osl17Less_0) (cxsl17Less N) (loops_at (ids := [2]) (by kernel_rfl) ⟨lp_of (lpsl17Less_2 N), trivial⟩) (lsl17Less_0 N) (fun _ => rfl) (fun n v => lsl17Less_0_eq N n v) (fun _ => N)
theorem lpsl17Less_6 (N : Nat) : LoopOk Try.prog { hd := dsl17Less_6, outs := osl17Less_6, run := fun v => lsl17Less_6 N N v } bsl17Less_6 :=
  loop_fuel (d := dsl17Less_6) (os := osl17Less_6) (cxsl17Less N) (loops_at (ids := []) (by kernel_rfl) (trivial)) (lsl17Less_6 N) (fun _ => rfl) (fun n v => lsl17Less_6_eq N n v) (fun _ => N)
theorem lpsl17Less_4 (N : Nat) : LoopOk Try.prog { hd := dsl17Less_4, outs := osl17Less_4, run := fun v => lsl17Less_4 N N v } bsl17Less_4 :=
  loop_fuel (d := dsl17Less_4) (os := osl17Less_4) (cxsl17Less N) (loops_at (ids := [6]) (by kernel_rfl) ⟨lp_of (lpsl17Less_6 N), trivial⟩) (lsl17Less_4 N) (fun _ => rfl) (fun n v => lsl17Less_4_eq N n v) (fun _ => N)
theorem lpsl17Less_8 (N : Nat) : LoopOk Try.prog { hd := dsl17Less_8, outs := osl17Less_8, run := fun v => lsl17Less_8 N N v } bsl17Less_8 :=
  loop_fuel (d := dsl17Less_8) (os := osl17Less_8) (cxsl17Less N) (loops_at (ids := []) (by kernel_rfl) (trivial)) (lsl17Less_8 N) (fun _ => rfl) (fun n v => lsl17Less_8_eq N n v) (fun _ => N)
theorem specsl17Less (N : Nat) : Spec Try.prog (consl17Less N) :=
  Spec.of_eq (fn_spec (cxsl17Less N) (f := 74) (fn := Try.f74) (c := codeOf Try.f74) (by kernel_rfl) (by kernel_rfl) (by kernel_rfl) (loops_at (ids := [0, 4, 8]) (by kernel_rfl) ⟨lp_of (lpsl17Less_0 N), ⟨lp_of (lpsl17Less_4 N), ⟨lp_of (lpsl17Less_8 N), trivial⟩⟩⟩) (by kernel_rfl)) (fun x r h => (Fsl17Less_eq N x).trans h)

/-! ### 26: spec.PathHolds -/

noncomputable def dinsPathHolds : Desc := { n := 2, regs := [.one (.val (.pair (.sl (.pair (.sl (.int .i64)) (.pair (.sl (.int .i64)) .unit))) (.pair (.sl (.sl (.int .i64))) (.pair (.sl (.int .i64)) .unit)))), .one (.val (.int .i64))], bx := [], pins := [] }
noncomputable def outsPathHolds : Outs := [(.ret, { n := 1, regs := [.one (.lit (.row 1064000))], bx := [(1064000, .row (.int .i64))], pins := [] })]
noncomputable def HsPathHolds : Hints := [(0, [(0, { fz := true })]),
  (2, [(0, { nl := [(0, (.int .i64))] })]),
  (3, [(1, { con := 1 })]),
  (4, [(2, { con := 2 }), (3, { con := 1 })]),
  (5, [(0, { nl := [(0, (.int .i64))] })])]
noncomputable def EsPathHolds (N : Nat) : Env := { te := TE, cs := [consGraphOk N, consGraphReach N, consl17Less N] }
noncomputable def dsPathHolds_0 : Desc := { n := 51, regs := [u, u, u, u, u, .one (.lit (.row 1038465)), .one (.lit (.row 1051393)), .one (.lit (.row 1064000)), .one (.val (.int .i64))], bx := [(1038465, .row .bool), (1051393, .row .bool), (1064000, .row (.int .i64))], pins := [] }
noncomputable def osPathHolds_0 : Outs := [(.exit 0, { n := 51, regs := [u, u, u, u, u, u, u, .one (.lit (.row 1064000))], bx := [(1064000, .row (.int .i64))], pins := [] })]
noncomputable def jsPathHolds_3 : Outs := [(.normal, { n := 51, regs := [u, .one (.val (.int .i64)), .one (.fpt (.pair (.sl (.pair (.sl (.int .i64)) (.pair (.sl (.int .i64)) .unit))) (.pair (.sl (.sl (.int .i64))) (.pair (.sl (.int .i64)) .unit))))], bx := [], pins := [] }), (.ret, { n := 51, regs := [u, u, u, u, .one (.lit (.row 1025600))], bx := [(1025600, .row (.int .i64))], pins := [] })]
noncomputable def lsPathHolds_0 (N : Nat) : Nat → (Int × ((List Bool) × ((List Bool) × ((List Int) × Unit)))) → Option ((List Int) × Unit)
  | 0, _ => none
  | n + 1, v =>
    bif decide (v.1 < (v.2.1.length : Int)) then
     bif decide (0 ≤ v.1) then
     bif decide (v.1.toNat < v.2.1.length) then
     bif v.2.1.getD v.1.toNat false then
      bif decide (0 ≤ v.1) then
      bif decide (v.1.toNat < v.2.2.1.length) then
      bif !(v.2.2.1.getD v.1.toNat false) then
       bif decide (v.2.2.2.1.length + [v.1].length ≤ lim) then
       lsPathHolds_0 N n (w64 (v.1 + (1 : Int)), v.2.1, v.2.2.1, v.2.2.2.1 ++ [v.1], ())
       else none
      else
      lsPathHolds_0 N n (w64 (v.1 + (1 : Int)), v.2.1, v.2.2.1, v.2.2.2.1, ())
      else none
      else none
     else
     lsPathHolds_0 N n (w64 (v.1 + (1 : Int)), v.2.1, v.2.2.1, v.2.2.2.1, ())
     else none
     else none
    else
    some (v.2.2.2.1, ())
noncomputable def FsPathHolds (N : Nat) (x : (((List ((List Int) × ((List Int) × Unit))) × ((List (List Int)) × ((List Int) × Unit))) × (Int × Unit))) : Option ((List Int) × Unit) :=
  Option.bind (
   (FsGraphOk N (x.1, ())).bind fun r1 =>
   bif !r1.1 then
    some (.inr ((([] : (List Int)), ())))
   else
   bif decide (x.2.1 < (0 : Int)) then
    some (.inr ((([] : (List Int)), ())))
   else
   let y2 := decide (x.2.1 ≥ (x.1.1.length : Int))
   bif y2 then
    some (.inr ((([] : (List Int)), ())))
   else
   some (.inl (x.2.1, x.1, ()))) fun o3 =>
  Sum.elim (fun o4 =>
   (FsGraphReach N (o4.2.1, ())).bind fun r5 =>
   (Fsl17Less N (o4.2.1, o4.1, ())).bind fun r6 =>
   (FsGraphReach N ((r6.1, r6.2.1, r6.2.2.1, ()), ())).bind fun r7 =>
   (lsPathHolds_0 N N ((0 : Int), r5.1, r7.1, ([] : (List Int)), ())).bind fun o8 =>
   some (o8.1, ())) (fun o9 =>
   some (o9.1, ())) o3
noncomputable def consPathHolds (N : Nat) : Con := { f := 26, din := dinsPathHolds, outs := outsPathHolds, F := FsPathHolds N }
noncomputable def XsPathHolds (N : Nat) : Ctx := { E := EsPathHolds N, H := HsPathHolds, lp := [(0, { hd := dsPathHolds_0, outs := osPathHolds_0, run := fun v => lsPathHolds_0 N N v })], jn := [(3, jsPathHolds_3)] }
noncomputable def bsPathHolds_0 : Code := loopBody (codeOf Try.f26) 0
theorem FsPathHolds_eq (N : Nat) (x : (((List ((List Int) × ((List Int) × Unit))) × ((List (List Int)) × ((List Int) × Unit))) × (Int × Unit))) : evFn (XsPathHolds N) Try.f26 dinsPathHolds outsPathHolds x = FsPathHolds N x := by kernel_rfl
theorem lsPathHolds_0_eq (N n : Nat) (v : (Int × ((List Bool) × ((List Bool) × ((List Int) × Unit))))) : lsPathHolds_0 N (n + 1) v = ev (XsPathHolds N) bsPathHolds_0 (roundK dsPathHolds_0 osPathHolds_0 (lsPathHolds_0 N n)) (dsPathHolds_0.mk' v) := by kernel_rfl
theorem cxsPathHolds (N : Nat) : CtxOk Try.prog (XsPathHolds N) := ⟨⟨TE_ok, List.forall_mem_cons.2 ⟨(specsGraphOk N), List.forall_mem_cons.2 ⟨(specsGraphReach N), List.forall_mem_cons.2 ⟨(specsl17Less N), fun k hk => absurd hk List.not_mem_nil⟩⟩⟩⟩, mixed⟩
theorem lpsPathHolds_0 (N : Nat) : LoopOk Try.prog { hd := dsPathHolds_0, outs := osPathHolds_0, run := fun v => lsPathHolds_0 N N v } bsPathHolds_0 :=
  loop_fuel (d := dsPathHolds_0) (os := osPathHolds_0) (cxsPathHolds N) (loops_at (ids := []) (by kernel_rfl) (trivial)) (lsPathHolds_0 N) (fun _ => rfl) (fun n v => lsPathHolds_0_eq N n v) (fun _ => N)
theorem specsPathHolds (N : Nat) : Spec Try.prog (consPathHolds N) :=
  Spec.of_eq (fn_spec (cxsPathHolds N) (f := 26) (fn := Try.f26) (c := codeOf Try.f26) (by kernel_rfl) (by kernel_rfl) (by kernel_rfl) (loops_at (ids := [0]) (by kernel_rfl) ⟨lp_of (lpsPathHolds_0 N), trivial⟩) (by kernel_rfl)) (fun x r h => (FsPathHolds_eq N x).trans h)

/-! ### 148: impl.Graph).leads$1 -/

noncomputable def diniGraph_leads_1 : Desc := { n := 3, regs := [.one (.val (.int .i64)), .one (.fpt (.int .i64)), .one (.fpt (.pair (.sl (.pair (.sl (.int .i64)) (.pair (.sl (.int .i64)) .unit))) (.pair (.sl (.sl (.int .i64))) (.pair (.sl (.int .i64)) .unit))))], bx := [], pins := [] }
noncomputable def outiGraph_leads_1 : Outs := [(.ret, { n := 1, regs := [.one (.val .bool)], bx := [], pins := [] })]
noncomputable def HiGraph_leads_1 : Hints := []
noncomputable def EiGraph_leads_1 (_N : Nat) : Env := { te := TE, cs := [] }
noncomputable def FiGraph_leads_1 (N : Nat) (x : (Int × (Int × (((List ((List Int) × ((List Int) × Unit))) × ((List (List Int)) × ((List Int) × Unit))) × Unit)))) : Option (Bool × Unit) :=
  bif decide (x.1 < x.2.1) then
   some (true, ())
  else
  let y1 := decide (x.1 ≥ (x.2.2.1.1.length : Int))
  some (y1, ())
noncomputable def coniGraph_leads_1 (N : Nat) : Con := { f := 148, din := diniGraph_leads_1, outs := outiGraph_leads_1, F := FiGraph_leads_1 N }
noncomputable def XiGraph_leads_1 (N : Nat) : Ctx := { E := EiGraph_leads_1 N, H := HiGraph_leads_1, lp := [], jn := [] }
theorem FiGraph_leads_1_eq (N : Nat) (x : (Int × (Int × (((List ((List Int) × ((List Int) × Unit))) × ((List (List Int)) × ((List Int) × Unit))) × Unit)))) : evFn (XiGraph_leads_1 N) Try.f148 diniGraph_leads_1 outiGraph_leads_1 x = FiGraph_leads_1 N x := by kernel_rfl
theorem cxiGraph_leads_1 (N : Nat) : CtxOk Try.prog (XiGraph_leads_1 N) := ⟨⟨TE_ok, fun k hk => absurd hk List.not_mem_nil⟩, mixed⟩
theorem speciGraph_leads_1 (N : Nat) : Spec Try.prog (coniGraph_leads_1 N) :=
  Spec.of_eq (fn_spec (cxiGraph_leads_1 N) (f := 148) (fn := Try.f148) (c := codeOf Try.f148) (by kernel_rfl) (by kernel_rfl) (by kernel_rfl) (loops_at (ids := []) (by kernel_rfl) (trivial)) (by kernel_rfl)) (fun x r h => (FiGraph_leads_1_eq N x).trans h)

/-! ### 157: slices.IndexFunc[[]int,int] -/

noncomputable def dinkIndexFunc_Sint_int_iGraph_leads_1 : Desc := { n := 2, regs := [.one (.val (.sl (.int .i64))), .one (.clo 148 [.inr (.int .i64), .inr (.pair (.sl (.pair (.sl (.int .i64)) (.pair (.sl (.int .i64)) .unit))) (.pair (.sl (.sl (.int .i64))) (.pair (.sl (.int .i64)) .unit)))])], bx := [], pins := [] }
noncomputable def outkIndexFunc_Sint_int_iGraph_leads_1 : Outs := [(.ret, { n := 1, regs := [.one (.val (.int .i64))], bx := [], pins := [] })]
noncomputable def HkIndexFunc_Sint_int_iGraph_leads_1 : Hints := []
noncomputable def EkIndexFunc_Sint_int_iGraph_leads_1 (N : Nat) : Env := { te := TE, cs := [coniGraph_leads_1 N] }
noncomputable def dkIndexFunc_Sint_int_iGraph_leads_1_0 : Desc := { n := 19, regs := [.one (.val (.sl (.int .i64))), .one (.clo 148 [.inr (.int .i64), .inr (.pair (.sl (.pair (.sl (.int .i64)) (.pair (.sl (.int .i64)) .unit))) (.pair (.sl (.sl (.int .i64))) (.pair (.sl (.int .i64)) .unit)))]), u, u, u, u, u, .one (.val (.int .i64)), .one (.val (.int .i64))], bx := [], pins := [] }
noncomputable def okIndexFunc_Sint_int_iGraph_leads_1_0 : Outs := [(.exit 0, { n := 19, regs := [], bx := [], pins := [] }), (.ret, { n := 19, regs := [u, u, u, u, .one (.val (.int .i64))], bx := [], pins := [] })]
noncomputable def lkIndexFunc_Sint_int_iGraph_leads_1_0 (N : Nat) : Nat → ((List Int) × (Int × (((List ((List Int) × ((List Int) × Unit))) × ((List (List Int)) × ((List Int) × Unit))) × (Int × (Int × Unit))))) → Option (Unit ⊕ (Int × Unit))
  | 0, _ => none
  | n + 1, v =>
    bif decide (v.2.2.2.2.1 < v.2.2.2.1) then
     bif decide (0 ≤ v.2.2.2.2.1) then
     bif decide (v.2.2.2.2.1.toNat < v.1.length) then
     (FiGraph_leads_1 N (v.1.getD v.2.2.2.2.1.toNat (0 : Int), v.2.1, v.2.2.1, ())).bind fun r1 =>
     bif r1.1 then
      some (.inr ((v.2.2.2.2.1, ())))
     else
     lkIndexFunc_Sint_int_iGraph_leads_1_0 N n (v.1, v.2.1, v.2.2.1, v.2.2.2.1, w64 (v.2.2.2.2.1 + (1 : Int)), ())
     else none
     else none
    else
    some (.inl ())
noncomputable def FkIndexFunc_Sint_int_iGraph_leads_1 (N : Nat) (x : ((List Int) × (Int × (((List ((List Int) × ((List Int) × Unit))) × ((List (List Int)) × ((List Int) × Unit))) × Unit)))) : Option (Int × Unit) :=
  (lkIndexFunc_Sint_int_iGraph_leads_1_0 N N (x.1, x.2.1, x.2.2.1, (x.1.length : Int), (0 : Int), ())).bind fun o2 =>
  Sum.elim (fun o3 =>
   some ((-1 : Int), ())) (fun o4 =>
   some (o4.1, ())) o2
noncomputable def conkIndexFunc_Sint_int_iGraph_leads_1 (N : Nat) : Con := { f := 157, din := dinkIndexFunc_Sint_int_iGraph_leads_1, outs := outkIndexFunc_Sint_int_iGraph_leads_1, F := FkIndexFunc_Sint_int_iGraph_leads_1 N }
noncomputable def XkIndexFunc_Sint_int_iGraph_leads_1 (N : Nat) : Ctx := { E := EkIndexFunc_Sint_int_iGraph_leads_1 N, H := HkIndexFunc_Sint_int_iGraph_leads_1, lp := [(0, { hd := dkIndexFunc_Sint_int_iGraph_leads_1_0, outs := okIndexFunc_Sint_int_iGraph_leads_1_0, run := fun v => lkIndexFunc_Sint_int_iGraph_leads_1_0 N N v })], jn := [] }
noncomputable def bkIndexFunc_Sint_int_iGraph_leads_1_0 : Code := loopBody (codeOf Try.f157) 0
theorem FkIndexFunc_Sint_int_iGraph_leads_1_eq (N : Nat) (x : ((List Int) × (Int × (((List ((List Int) × ((List Int) × Unit))) × ((List (List Int)) × ((List Int) × Unit))) × Unit)))) : evFn (XkIndexFunc_Sint_int_iGraph_leads_1 N) Try.f157 dinkIndexFunc_Sint_int_iGraph_leads_1 outkIndexFunc_Sint_int_iGraph_leads_1 x = FkIndexFunc_Sint_int_iGraph_leads_1 N x := by kernel_rfl
theorem lkIndexFunc_Sint_int_iGraph_leads_1_0_eq (N n : Nat) (v : ((List Int) × (Int × (((List ((List Int) × ((List Int) × Unit))) × ((List (List Int)) × ((List Int) × Unit))) × (Int × (Int × Unit)))))) : lkIndexFunc_Sint_int_iGraph_leads_1_0 N (n + 1) v = ev (XkIndexFunc_Sint_int_iGraph_leads_1 N) bkIndexFunc_Sint_int_iGraph_leads_1_0 (roundK dkIndexFunc_Sint_int_iGraph_leads_1_0 okIndexFunc_Sint_int_iGraph_leads_1_0 (lkIndexFunc_Sint_int_iGraph_leads_1_0 N n)) (dkIndexFunc_Sint_int_iGraph_leads_1_0.mk' v) := by kernel_rfl
theorem cxkIndexFunc_Sint_int_iGraph_leads_1 (N : Nat) : CtxOk Try.prog (XkIndexFunc_Sint_int_iGraph_leads_1 N) := ⟨⟨TE_ok, List.forall_mem_cons.2 ⟨(speciGraph_leads_1 N), fun k hk => absurd hk List.not_mem_nil⟩⟩, mixed⟩
theorem lpkIndexFunc_Sint_int_iGraph_leads_1_0 (N : Nat) : LoopOk Try.prog { hd := dkIndexFunc_Sint_int_iGraph_leads_1_0, outs := okIndexFunc_Sint_int_iGraph_leads_1_0, run := fun v => lkIndexFunc_Sint_int_iGraph_leads_1_0 N N v } bkIndexFunc_Sint_int_iGraph_leads_1_0 :=
  loop_fuel (d := dkIndexFunc_Sint_int_iGraph_leads_1_0) (os := okIndexFunc_Sint_int_iGraph_leads_1_0) (cxkIndexFunc_Sint_int_iGraph_leads_1 N) (loops_at (ids := []) (by kernel_rfl) (trivial)) (lkIndexFunc_Sint_int_iGraph_leads_1_0 N) (fun _ => rfl) (fun n v => lkIndexFunc_Sint_int_iGraph_leads_1_0_eq N n v) (fun _ => N)
theorem speckIndexFunc_Sint_int_iGraph_leads_1 (N : Nat) : Spec Try.prog (conkIndexFunc_Sint_int_iGraph_leads_1 N) :=
  Spec.of_eq (fn_spec (cxkIndexFunc_Sint_int_iGraph_leads_1 N) (f := 157) (fn := Try.f157) (c := codeOf Try.f157) (by kernel_rfl) (by kernel_rfl) (by kernel_rfl) (loops_at (ids := [0]) (by kernel_rfl) ⟨lp_of (lpkIndexFunc_Sint_int_iGraph_leads_1_0 N), trivial⟩) (by kernel_rfl)) (fun x r h => (FkIndexFunc_Sint_int_iGraph_leads_1_eq N x).trans h)

/-! ### 147: slices.ContainsFunc[[]int,int] -/

noncomputable def dinkContainsFunc_Sint_int_iGraph_leads_1 : Desc := { n := 2, regs := [.one (.val (.sl (.int .i64))), .one (.clo 148 [.inr (.int .i64), .inr (.pair (.sl (.pair (.sl (.int .i64)) (.pair (.sl (.int .i64)) .unit))) (.pair (.sl (.sl (.int .i64))) (.pair (.sl (.int .i64)) .unit)))])], bx := [], pins := [] }
noncomputable def outkContainsFunc_Sint_int_iGraph_leads_1 : Outs := [(.ret, { n := 1, regs := [.one (.val .bool)], bx := [], pins := [] })]
noncomputable def HkContainsFunc_Sint_int_iGraph_leads_1 : Hints := []
noncomputable def EkContainsFunc_Sint_int_iGraph_leads_1 (N : Nat) : Env := { te := TE, cs := [conkIndexFunc_Sint_int_iGraph_leads_1 N] }
noncomputable def FkContainsFunc_Sint_int_iGraph_leads_1 (N : Nat) (x : ((List Int) × (Int × (((List ((List Int) × ((List Int) × Unit))) × ((List (List Int)) × ((List Int) × Unit))) × Unit)))) : Option (Bool × Unit) :=
  (FkIndexFunc_Sint_int_iGraph_leads_1 N (x.1, x.2.1, x.2.2.1, ())).bind fun r1 =>
  some (decide (r1.1 ≥ (0 : Int)), ())
noncomputable def conkContainsFunc_Sint_int_iGraph_leads_1 (N : Nat) : Con := { f := 147, din := dinkContainsFunc_Sint_int_iGraph_leads_1, outs := outkContainsFunc_Sint_int_iGraph_leads_1, F := FkContainsFunc_Sint_int_iGraph_leads_1 N }
noncomputable def XkContainsFunc_Sint_int_iGraph_leads_1 (N : Nat) : Ctx := { E := EkContainsFunc_Sint_int_iGraph_leads_1 N, H := HkContainsFunc_Sint_int_iGraph_leads_1, lp := [], jn := [] }
theorem FkContainsFunc_Sint_int_iGraph_leads_1_eq (N : Nat) (x : ((List Int) × (Int × (((List ((List Int) × ((List Int) × Unit))) × ((List (List Int)) × ((List Int) × Unit))) × Unit)))) : evFn (XkContainsFunc_Sint_int_iGraph_leads_1 N) Try.f147 dinkContainsFunc_Sint_int_iGraph_leads_1 outkContainsFunc_Sint_int_iGraph_leads_1 x = FkContainsFunc_Sint_int_iGraph_leads_1 N x := by kernel_rfl
theorem cxkContainsFunc_Sint_int_iGraph_leads_1 (N : Nat) : CtxOk Try.prog (XkContainsFunc_Sint_int_iGraph_leads_1 N) := ⟨⟨TE_ok, List.forall_mem_cons.2 ⟨(speckIndexFunc_Sint_int_iGraph_leads_1 N), fun k hk => absurd hk List.not_mem_nil⟩⟩, mixed⟩
theorem speckContainsFunc_Sint_int_iGraph_leads_1 (N : Nat) : Spec Try.prog (conkContainsFunc_Sint_int_iGraph_leads_1 N) :=
  Spec.of_eq (fn_spec (cxkContainsFunc_Sint_int_iGraph_leads_1 N) (f := 147) (fn := Try.f147) (c := codeOf Try.f147) (by kernel_rfl) (by kernel_rfl) (by kernel_rfl) (loops_at (ids := []) (by kernel_rfl) (trivial)) (by kernel_rfl)) (fun x r h => (FkContainsFunc_Sint_int_iGraph_leads_1_eq N x).trans h)

/-! ### 126: impl.Graph).leads -/

noncomputable def diniGraph_leads : Desc := { n := 3, regs := [.one (.val (.pair (.sl (.pair (.sl (.int .i64)) (.pair (.sl (.int .i64)) .unit))) (.pair (.sl (.sl (.int .i64))) (.pair (.sl (.int .i64)) .unit)))), .one (.val (.sl (.int .i64))), .one (.val (.int .i64))], bx := [], pins := [] }
noncomputable def outiGraph_leads : Outs := [(.ret, { n := 1, regs := [.one (.val .bool)], bx := [], pins := [] })]
noncomputable def HiGraph_leads : Hints := [(0, [(0, { fz := true }), (1, { fz := true })])]
noncomputable def EiGraph_leads (N : Nat) : Env := { te := TE, cs := [conkContainsFunc_Sint_int_iGraph_leads_1 N] }
noncomputable def FiGraph_leads (N : Nat) (x : (((List ((List Int) × ((List Int) × Unit))) × ((List (List Int)) × ((List Int) × Unit))) × ((List Int) × (Int × Unit)))) : Option (Bool × Unit) :=
  (FkContainsFunc_Sint_int_iGraph_leads_1 N (x.2.1, x.2.2.1, x.1, ())).bind fun r1 =>
  some (!r1.1, ())
noncomputable def coniGraph_leads (N : Nat) : Con := { f := 126, din := diniGraph_leads, outs := outiGraph_leads, F := FiGraph_leads N }
noncomputable def XiGraph_leads (N : Nat) : Ctx := { E := EiGraph_leads N, H := HiGraph_leads, lp := [], jn := [] }
theorem FiGraph_leads_eq (N : Nat) (x : (((List ((List Int) × ((List Int) × Unit))) × ((List (List Int)) × ((List Int) × Unit))) × ((List Int) × (Int × Unit)))) : evFn (XiGraph_leads N) Try.f126 diniGraph_leads outiGraph_leads x = FiGraph_leads N x := by kernel_rfl
theorem cxiGraph_leads (N : Nat) : CtxOk Try.prog (XiGraph_leads N) := ⟨⟨TE_ok, List.forall_mem_cons.2 ⟨(speckContainsFunc_Sint_int_iGraph_leads_1 N), fun k hk => absurd hk List.not_mem_nil⟩⟩, mixed⟩
theorem speciGraph_leads (N : Nat) : Spec Try.prog (coniGraph_leads N) :=
  Spec.of_eq (fn_spec (cxiGraph_leads N) (f := 126) (fn := Try.f126) (c := codeOf Try.f126) (by kernel_rfl) (by kernel_rfl) (by kernel_rfl) (loops_at (ids := []) (by kernel_rfl) (trivial)) (by kernel_rfl)) (fun x r h => (FiGraph_leads_eq N x).trans h)

/-! ### 66: impl.GraphOk -/

noncomputable def diniGraphOk : Desc := { n := 1, regs := [.one (.val (.pair (.sl (.pair (.sl (.int .i64)) (.pair (.sl (.int .i64)) .unit))) (.pair (.sl (.sl (.int .i64))) (.pair (.sl (.int .i64)) .unit))))], bx := [], pins := [] }
noncomputable def outiGraphOk : Outs := [(.ret, { n := 1, regs := [.one (.val .bool)], bx := [], pins := [] })]
noncomputable def HiGraphOk : Hints := [(0, [(0, { fz := true })])]
noncomputable def EiGraphOk (N : Nat) : Env := { te := TE, cs := [coniGraph_leads N] }
noncomputable def diGraphOk_0 : Desc := { n := 78, regs := [u, .one (.fpt (.pair (.sl (.pair (.sl (.int .i64)) (.pair (.sl (.int .i64)) .unit))) (.pair (.sl (.sl (.int .i64))) (.pair (.sl (.int .i64)) .unit)))), u, u, u, u, u, u, u, u, u, u, u, u, u, u, u, u, u, u, u, u, u, u, u, u, u, u, u, u, u, u, u, u, u, u, u, .one (.val (.sl (.pair (.sl (.int .i64)) (.pair (.sl (.int .i64)) .unit)))), .one (.val (.int .i64)), .one (.val (.int .i64))], bx := [], pins := [] }
noncomputable def oiGraphOk_0 : Outs := [(.exit 0, { n := 78, regs := [u, .one (.fpt (.pair (.sl (.pair (.sl (.int .i64)) (.pair (.sl (.int .i64)) .unit))) (.pair (.sl (.sl (.int .i64))) (.pair (.sl (.int .i64)) .unit))))], bx := [], pins := [] }), (.ret, { n := 78, regs := [u, u, .one (.val .bool)], bx := [], pins := [] })]
noncomputable def diGraphOk_2 : Desc := { n := 78, regs := [u, .one (.fpt (.pair (.sl (.pair (.sl (.int .i64)) (.pair (.sl (.int .i64)) .unit))) (.pair (.sl (.sl (.int .i64))) (.pair (.sl (.int .i64)) .unit)))), u, u, u, u, u, u, u, u, u, u, u, u, u, u, u, u, u, u, u, u, u, u, u, u, u, u, u, u, u, u, u, u, u, u, u, u, u, u, u, u, u, u, u, u, u, u, u, u, u, u, u, u, u, u, u, u, u, u, u, u, .one (.val (.sl (.sl (.int .i64)))), .one (.val (.int .i64)), .one (.val (.int .i64))], bx := [], pins := [] }
noncomputable def oiGraphOk_2 : Outs := [(.exit 2, { n := 78, regs := [], bx := [], pins := [] }), (.ret, { n := 78, regs := [u, u, .one (.val .bool)], bx := [], pins := [] })]
noncomputable def jiGraphOk_3 : Outs := [(.normal, { n := 78, regs := [u, .one (.fpt (.pair (.sl (.pair (.sl (.int .i64)) (.pair (.sl (.int .i64)) .unit))) (.pair (.sl (.sl (.int .i64))) (.pair (.sl (.int .i64)) .unit))))], bx := [], pins := [] }), (.ret, { n := 78, regs := [u, u, .one (.val .bool)], bx := [], pins := [] })]
noncomputable def liGraphOk_0 (N : Nat) : Nat → (((List ((List Int) × ((List Int) × Unit))) × ((List (List Int)) × ((List Int) × Unit))) × ((List ((List Int) × ((List Int) × Unit))) × (Int × (Int × Unit)))) → Option ((((List ((List Int) × ((List Int) × Unit))) × ((List (List Int)) × ((List Int) × Unit))) × Unit) ⊕ (Bool × Unit))
  | 0, _ => none
  | n + 1, v =>
    bif decide (v.2.2.2.1 < v.2.2.1) then
     bif decide (0 ≤ v.2.2.2.1) then
     bif decide (v.2.2.2.1.toNat < v.2.1.length) then
     let y8 := v.2.1.getD v.2.2.2.1.toNat (([] : (List Int)), ([] : (List Int)), ())
     let y9 := decide ((y8.1.length : Int) > (4 : Int))
     bif y9 then
      some (.inr ((false, ())))
     else
     let y10 := decide ((y8.2.1.length : Int) > (4 : Int))
     bif y10 then
      some (.inr ((false, ())))
     else
     (FiGraph_leads N (v.1, y8.1, (-1 : Int), ())).bind fun r11 =>
     bif !r11.1 then
      some (.inr ((false, ())))
     else
     liGraphOk_0 N n (v.1, v.2.1, v.2.2.1, w64 (v.2.2.2.1 + (1 : Int)), ())
     else none
     else none
    else
    some (.inl (v.1, ()))
noncomputable def liGraphOk_2 (N : Nat) : Nat → (((List ((List Int) × ((List Int) × Unit))) × ((List (List Int)) × ((List Int) × Unit))) × ((List (List Int)) × (Int × (Int × Unit)))) → Option (Unit ⊕ (Bool × Unit))
  | 0, _ => none
  | n + 1, v =>
    bif decide (v.2.2.2.1 < v.2.2.1) then
     bif decide (0 ≤ v.2.2.2.1) then
     bif decide (v.2.2.2.1.toNat < v.2.1.length) then
     let y14 := v.2.1.getD v.2.2.2.1.toNat ([] : (List Int))
     let y15 := decide ((y14.length : Int) > (8 : Int))
     bif y15 then
      some (.inr ((false, ())))
     else
     (FiGraph_leads N (v.1, y14, (-1 : Int), ())).bind fun r16 =>
     bif !r16.1 then
      some (.inr ((false, ())))
     else
     liGraphOk_2 N n (v.1, v.2.1, v.2.2.1, w64 (v.2.2.2.1 + (1 : Int)), ())
     else none
     else none
    else
    some (.inl ())
noncomputable def FiGraphOk (N : Nat) (x : (((List ((List Int) × ((List Int) × Unit))) × ((List (List Int)) × ((List Int) × Unit))) × Unit)) : Option (Bool × Unit) :=
  Option.bind (
   let y1 := decide ((x.1.1.length : Int) > (200 : Int))
   bif y1 then
    some (.inr ((false, ())))
   else
   let y2 := decide ((x.1.2.1.length : Int) < (1 : Int))
   bif y2 then
    some (.inr ((false, ())))
   else
   let y3 := decide ((x.1.2.1.length : Int) > (3 : Int))
   bif y3 then
    some (.inr ((false, ())))
   else
   let y4 := decide ((x.1.2.2.1.length : Int) > (8 : Int))
   bif y4 then
    some (.inr ((false, ())))
   else
   (FiGraph_leads N (x.1, x.1.2.2.1, (0 : Int), ())).bind fun r5 =>
   bif !r5.1 then
    some (.inr ((false, ())))
   else
   some (.inl (x.1, ()))) fun o6 =>
  Sum.elim (fun o7 =>
   (liGraphOk_0 N N (o7.1, o7.1.1, (o7.1.1.length : Int), (0 : Int), ())).bind fun o12 =>
   Sum.elim (fun o13 =>
    (liGraphOk_2 N N (o13.1, o13.1.2.1, (o13.1.2.1.length : Int), (0 : Int), ())).bind fun o17 =>
    Sum.elim (fun o18 =>
     some (true, ())) (fun o19 =>
     some (o19.1, ())) o17) (fun o20 =>
    some (o20.1, ())) o12) (fun o21 =>
   some (o21.1, ())) o6
noncomputable def coniGraphOk (N : Nat) : Con := { f := 66, din := diniGraphOk, outs := outiGraphOk, F := FiGraphOk N }
noncomputable def XiGraphOk (N : Nat) : Ctx := { E := EiGraphOk N, H := HiGraphOk, lp := [(0, { hd := diGraphOk_0, outs := oiGraphOk_0, run := fun v => liGraphOk_0 N N v }), (2, { hd := diGraphOk_2, outs := oiGraphOk_2, run := fun v => liGraphOk_2 N N v })], jn := [(3, jiGraphOk_3)] }
noncomputable def biGraphOk_2 : Code := loopBody (codeOf Try.f66) 1
noncomputable def biGraphOk_0 : Code := loopBody (codeOf Try.f66) 0
theorem FiGraphOk_eq (N : Nat) (x : (((List ((List Int) × ((List Int) × Unit))) × ((List (List Int)) × ((List Int) × Unit))) × Unit)) : evFn (XiGraphOk N) Try.f66 diniGraphOk outiGraphOk x = FiGraphOk N x := by kernel_rfl
theorem liGraphOk_0_eq (N n : Nat) (v : (((List ((List Int) × ((List Int) × Unit))) × ((List (List Int)) × ((List Int) × Unit))) × ((List ((List Int) × ((List Int) × Unit))) × (Int × (Int × Unit))))) : liGraphOk_0 N (n + 1) v = ev (XiGraphOk N) biGraphOk_0 (roundK diGraphOk_0 oiGraphOk_0 (liGraphOk_0 N n)) (diGraphOk_0.mk' v) := by kernel_rfl
theorem liGraphOk_2_eq (N n : Nat) (v : (((List ((List Int) × ((List Int) × Unit))) × ((List (List Int)) × ((List Int) × Unit))) × ((List (List Int)) × (Int × (Int × Unit))))) : liGraphOk_2 N (n + 1) v = ev (XiGraphOk N) biGraphOk_2 (roundK diGraphOk_2 oiGraphOk_2 (liGraphOk_2 N n)) (diGraphOk_2.mk' v) := by kernel_rfl
theorem cxiGraphOk (N : Nat) : CtxOk Try.prog (XiGraphOk N) := ⟨⟨TE_ok, List.forall_mem_cons.2 ⟨(speciGraph_leads N), fun k hk => absurd hk List.not_mem_nil⟩⟩, mixed⟩
theorem lpiGraphOk_0 (N : Nat) : LoopOk Try.prog { hd := diGraphOk_0, outs := oiGraphOk_0, run := fun v => liGraphOk_0 N N v } biGraphOk_0 :=
  loop_fuel (d := diGraphOk_0) (os := oiGraphOk_0) (cxiGraphOk N) (loops_at (ids := []) (by kernel_rfl) (trivial)) (liGraphOk_0 N) (fun _ => rfl) (fun n v => liGraphOk_0_eq N n v) (fun _ => N)
theorem lpiGraphOk_2 (N : Nat) : LoopOk Try.prog { hd := diGraphOk_2, outs := oiGraphOk_2, run := fun v => liGraphOk_2 N N v } biGraphOk_2 :=
  loop_fuel (d := diGraphOk_2) (os := oiGraphOk_2) (cxiGraphOk N) (loops_at (ids := []) (by kernel_rfl) (trivial)) (liGraphOk_2 N) (fun _ => rfl) (fun n v => liGraphOk_2_eq N n v) (fun _ => N)
theorem speciGraphOk (N : Nat) : Spec Try.prog (coniGraphOk N) :=
  Spec.of_eq (fn_spec (cxiGraphOk N) (f := 66) (fn := Try.f66) (c := codeOf Try.f66) (by kernel_rfl) (by kernel_rfl) (by kernel_rfl) (loops_at (ids := [0, 2]) (by kernel_rfl) ⟨lp_of (lpiGraphOk_0 N), ⟨lp_of (lpiGraphOk_2 N), trivial⟩⟩) (by kernel_rfl)) (fun x r h => (FiGraphOk_eq N x).trans h)

/-! ### 75: impl.Graph).hasNode -/

noncomputable def diniGraph_hasNode : Desc := { n := 2, regs := [.one (.val (.pair (.sl (.pair (.sl (.int .i64)) (.pair (.sl (.int .i64)) .unit))) (.pair (.sl (.sl (.int .i64))) (.pair (.sl (.int .i64)) .unit)))), .one (.val (.int .i64))], bx := [], pins := [] }
noncomputable def outiGraph_hasNode : Outs := [(.ret, { n := 1, regs := [.one (.val .bool)], bx := [], pins := [] })]
noncomputable def HiGraph_hasNode : Hints := [(0, [(0, { fz := true })])]
noncomputable def EiGraph_hasNode (_N : Nat) : Env := { te := TE, cs := [] }
noncomputable def FiGraph_hasNode (N : Nat) (x : (((List ((List Int) × ((List Int) × Unit))) × ((List (List Int)) × ((List Int) × Unit))) × (Int × Unit))) : Option (Bool × Unit) :=
  bif decide (x.2.1 ≥ (0 : Int)) then
   let y1 := decide (x.2.1 < (x.1.1.length : Int))
   some (y1, ())
  else
  some (false, ())
noncomputable def coniGraph_hasNode (N : Nat) : Con := { f := 75, din := diniGraph_hasNode, outs := outiGraph_hasNode, F := FiGraph_hasNode N }
noncomputable def XiGraph_hasNode (N : Nat) : Ctx := { E := EiGraph_hasNode N, H := HiGraph_hasNode, lp := [], jn := [] }
theorem FiGraph_hasNode_eq (N : Nat) (x : (((List ((List Int) × ((List Int) × Unit))) × ((List (List Int)) × ((List Int) × Unit))) × (Int × Unit))) : evFn (XiGraph_hasNode N) Try.f75 diniGraph_hasNode outiGraph_hasNode x = FiGraph_hasNode N x := by kernel_rfl
theorem cxiGraph_hasNode (N : Nat) : CtxOk Try.prog (XiGraph_hasNode N) := ⟨⟨TE_ok, fun k hk => absurd hk List.not_mem_nil⟩, mixed⟩
theorem speciGraph_hasNode (N : Nat) : Spec Try.prog (coniGraph_hasNode N) :=
  Spec.of_eq (fn_spec (cxiGraph_hasNode N) (f := 75) (fn := Try.f75) (c := codeOf Try.f75) (by kernel_rfl) (by kernel_rfl) (by kernel_rfl) (loops_at (ids := []) (by kernel_rfl) (trivial)) (by kernel_rfl)) (fun x r h => (FiGraph_hasNode_eq N x).trans h)

/-! ### 133: slices.Grow[[]int,int] -/

noncomputable def dinkGrow_Sint_int : Desc := { n := 2, regs := [.one (.lit .nil), .one (.val (.int .i64))], bx := [], pins := [] }
noncomputable def outkGrow_Sint_int : Outs := [(.ret, { n := 1, regs := [.one (.lit (.row 1064320))], bx := [(1064320, .row (.int .i64))], pins := [] })]
noncomputable def HkGrow_Sint_int : Hints := [(5, [(8, { dp := true })]),
  (6, [(0, { nl := [(0, (.int .i64))] })])]
noncomputable def EkGrow_Sint_int (_N : Nat) : Env := { te := TE, cs := [] }
noncomputable def jkGrow_Sint_int_3 : Outs := [(.normal, { n := 27, regs := [.one (.lit .nil), .one (.val (.int .i64))], bx := [], pins := [] })]
noncomputable def FkGrow_Sint_int (N : Nat) (x : (Int × Unit)) : Option ((List Int) × Unit) :=
  Option.bind (
   bif decide (x.1 < (0 : Int)) then
    none
   else
   some (x.1, ())) fun o1 =>
  let y2 := w64 (o1.1 - (w64 ((0 : Int) - (0 : Int))))
  bif decide (y2 > (0 : Int)) then
   bif decide (0 ≤ (0 : Int)) then
   bif decide ((0 : Int) ≤ (0 : Int)) then
   bif decide (0 ≤ (0 : Int)) then
   bif decide ((0 : Int) ≤ (0 : Int)) then
   bif decide (0 ≤ y2) then
   bif decide (y2.toNat ≤ lim) then
   bif decide (0 ≤ (0 : Int)) then
   bif decide ((0 : Int) ≤ ((List.replicate y2.toNat (0 : Int)).length : Int)) then
   bif decide (0 ≤ (0 : Int)) then
   bif decide ((0 : Int) ≤ (0 : Int)) then
   let y3 := ((List.replicate y2.toNat (0 : Int)).drop (0 : Int).toNat).take ((0 : Int).toNat - (0 : Int).toNat)
   some (y3, ())
   else none
   else none
   else none
   else none
   else none
   else none
   else none
   else none
   else none
   else none
  else
  some (([] : (List Int)), ())
noncomputable def conkGrow_Sint_int (N : Nat) : Con := { f := 133, din := dinkGrow_Sint_int, outs := outkGrow_Sint_int, F := FkGrow_Sint_int N }
noncomputable def XkGrow_Sint_int (N : Nat) : Ctx := { E := EkGrow_Sint_int N, H := HkGrow_Sint_int, lp := [], jn := [(3, jkGrow_Sint_int_3)] }
theorem FkGrow_Sint_int_eq (N : Nat) (x : (Int × Unit)) : evFn (XkGrow_Sint_int N) Try.f133 dinkGrow_Sint_int outkGrow_Sint_int x = FkGrow_Sint_int N x := by kernel_rfl
theorem cxkGrow_Sint_int (N : Nat) : CtxOk Try.prog (XkGrow_Sint_int N) := ⟨⟨TE_ok, fun k hk => absurd hk List.not_mem_nil⟩, mixed⟩
theorem speckGrow_Sint_int (N : Nat) : Spec Try.prog (conkGrow_Sint_int N) :=
  Spec.of_eq (fn_spec (cxkGrow_Sint_int N) (f := 133) (fn := Try.f133) (c := codeOf Try.f133) (by kernel_rfl) (by kernel_rfl) (by kernel_rfl) (loops_at (ids := []) (by kernel_rfl) (trivial)) (by kernel_rfl)) (fun x r h => (FkGrow_Sint_int_eq N x).trans h)

/-! ### 76: slices.Concat[[]int,int] -/

noncomputable def dinkConcat_Sint_int : Desc := { n := 1, regs := [.one (.val (.sl (.sl (.int .i64))))], bx := [], pins := [] }
noncomputable def outkConcat_Sint_int : Outs := [(.ret, { n := 1, regs := [.one (.lit (.row 1115265))], bx := [(1115265, .row (.int .i64))], pins := [] })]
noncomputable def HkConcat_Sint_int : Hints := []
noncomputable def EkConcat_Sint_int (N : Nat) : Env := { te := TE, cs := [conkGrow_Sint_int N] }
noncomputable def dkConcat_Sint_int_0 : Desc := { n := 36, regs := [.one (.val (.sl (.sl (.int .i64)))), u, u, .one (.val (.int .i64)), u, u, u, u, u, .one (.val (.sl (.sl (.int .i64)))), .one (.val (.int .i64)), .one (.val (.int .i64))], bx := [], pins := [] }
noncomputable def okConcat_Sint_int_0 : Outs := [(.exit 0, { n := 36, regs := [.one (.val (.sl (.sl (.int .i64)))), u, u, .one (.val (.int .i64))], bx := [], pins := [] })]
noncomputable def dkConcat_Sint_int_2 : Desc := { n := 36, regs := [u, u, u, u, u, u, .one (.lit (.row 1115265)), u, u, u, u, u, u, u, u, u, u, u, u, u, u, u, u, u, u, .one (.val (.sl (.sl (.int .i64)))), .one (.val (.int .i64)), .one (.val (.int .i64))], bx := [(1115265, .row (.int .i64))], pins := [] }
noncomputable def okConcat_Sint_int_2 : Outs := [(.exit 2, { n := 36, regs := [u, u, u, u, u, u, .one (.lit (.row 1115265))], bx := [(1115265, .row (.int .i64))], pins := [] })]
noncomputable def lkConcat_Sint_int_0 (N : Nat) : Nat → ((List (List Int)) × (Int × ((List (List Int)) × (Int × (Int × Unit))))) → Option ((List (List Int)) × (Int × Unit))
  | 0, _ => none
  | n + 1, v =>
    bif decide (v.2.2.2.2.1 < v.2.2.2.1) then
     bif decide (0 ≤ v.2.2.2.2.1) then
     bif decide (v.2.2.2.2.1.toNat < v.2.2.1.length) then
     let y1 := v.2.2.1.getD v.2.2.2.2.1.toNat ([] : (List Int))
     let y2 := decide ((w64 (v.2.1 + (y1.length : Int))) < (0 : Int))
     bif y2 then
      none
     else
     lkConcat_Sint_int_0 N n (v.1, w64 (v.2.1 + (y1.length : Int)), v.2.2.1, v.2.2.2.1, w64 (v.2.2.2.2.1 + (1 : Int)), ())
     else none
     else none
    else
    some (v.1, v.2.1, ())
noncomputable def lkConcat_Sint_int_2 (N : Nat) : Nat → ((List (List Int)) × (Int × (Int × ((List Int) × Unit)))) → Option ((List Int) × Unit)
  | 0, _ => none
  | n + 1, v =>
    bif decide (v.2.2.1 < v.2.1) then
     bif decide (0 ≤ v.2.2.1) then
     bif decide (v.2.2.1.toNat < v.1.length) then
     let y5 := v.1.getD v.2.2.1.toNat ([] : (List Int))
     bif decide (v.2.2.2.1.length + y5.length ≤ lim) then
     lkConcat_Sint_int_2 N n (v.1, v.2.1, w64 (v.2.2.1 + (1 : Int)), v.2.2.2.1 ++ y5, ())
     else none
     else none
     else none
    else
    some (v.2.2.2.1, ())
noncomputable def FkConcat_Sint_int (N : Nat) (x : ((List (List Int)) × Unit)) : Option ((List Int) × Unit) :=
  (lkConcat_Sint_int_0 N N (x.1, (0 : Int), x.1, (x.1.length : Int), (0 : Int), ())).bind fun o3 =>
  (FkGrow_Sint_int N (o3.2.1, ())).bind fun r4 =>
  (lkConcat_Sint_int_2 N N (o3.1, (o3.1.length : Int), (0 : Int), r4.1, ())).bind fun o6 =>
  some (o6.1, ())
noncomputable def conkConcat_Sint_int (N : Nat) : Con := { f := 76, din := dinkConcat_Sint_int, outs := outkConcat_Sint_int, F := FkConcat_Sint_int N }
noncomputable def XkConcat_Sint_int (N : Nat) : Ctx := { E := EkConcat_Sint_int N, H := HkConcat_Sint_int, lp := [(0, { hd := dkConcat_Sint_int_0, outs := okConcat_Sint_int_0, run := fun v => lkConcat_Sint_int_0 N N v }), (2, { hd := dkConcat_Sint_int_2, outs := okConcat_Sint_int_2, run := fun v => lkConcat_Sint_int_2 N N v })], jn := [] }
noncomputable def bkConcat_Sint_int_2 : Code := loopBody (codeOf Try.f76) 1
noncomputable def bkConcat_Sint_int_0 : Code := loopBody (codeOf Try.f76) 0
theorem FkConcat_Sint_int_eq (N : Nat) (x : ((List (List Int)) × Unit)) : evFn (XkConcat_Sint_int N) Try.f76 dinkConcat_Sint_int outkConcat_Sint_int x = FkConcat_Sint_int N x := by kernel_rfl
theorem lkConcat_Sint_int_0_eq (N n : Nat) (v : ((List (List Int)) × (Int × ((List (List Int)) × (Int × (Int × Unit)))))) : lkConcat_Sint_int_0 N (n + 1) v = ev (XkConcat_Sint_int N) bkConcat_Sint_int_0 (roundK dkConcat_Sint_int_0 okConcat_Sint_int_0 (lkConcat_Sint_int_0 N n)) (dkConcat_Sint_int_0.mk' v) := by kernel_rfl
theorem lkConcat_Sint_int_2_eq (N n : Nat) (v : ((List (List Int)) × (Int × (Int × ((List Int) × Unit))))) : lkConcat_Sint_int_2 N (n + 1) v = ev (XkConcat_Sint_int N) bkConcat_Sint_int_2 (roundK dkConcat_Sint_int_2 okConcat_Sint_int_2 (lkConcat_Sint_int_2 N n)) (dkConcat_Sint_int_2.mk' v) := by kernel_rfl
theorem cxkConcat_Sint_int (N : Nat) : CtxOk Try.prog (XkConcat_Sint_int N) := ⟨⟨TE_ok, List.forall_mem_cons.2 ⟨(speckGrow_Sint_int N), fun k hk => absurd hk List.not_mem_nil⟩⟩, mixed⟩
theorem lpkConcat_Sint_int_0 (N : Nat) : LoopOk Try.prog { hd := dkConcat_Sint_int_0, outs := okConcat_Sint_int_0, run := fun v => lkConcat_Sint_int_0 N N v } bkConcat_Sint_int_0 :=
  loop_fuel (d := dkConcat_Sint_int_0) (os := okConcat_Sint_int_0) (cxkConcat_Sint_int N) (loops_at (ids := []) (by kernel_rfl) (trivial)) (lkConcat_Sint_int_0 N) (fun _ => rfl) (fun n v => lkConcat_Sint_int_0_eq N n v) (fun _ => N)
theorem lpkConcat_Sint_int_2 (N : Nat) : LoopOk Try.prog { hd := dkConcat_Sint_int_2, outs := okConcat_Sint_int_2, run := fun v => lkConcat_Sint_int_2 N N v } bkConcat_Sint_int_2 :=
  loop_fuel (d := dkConcat_Sint_int_2) (os := okConcat_Sint_int_2) (cxkConcat_Sint_int N) (loops_at (ids := []) (by kernel_rfl) (trivial)) (lkConcat_Sint_int_2 N) (fun _ => rfl) (fun n v => lkConcat_Sint_int_2_eq N n v) (fun _ => N)
theorem speckConcat_Sint_int (N : Nat) : Spec Try.prog (conkConcat_Sint_int N) :=
  Spec.of_eq (fn_spec (cxkConcat_Sint_int N) (f := 76) (fn := Try.f76) (c := codeOf Try.f76) (by kernel_rfl) (by kernel_rfl) (by kernel_rfl) (loops_at (ids := [0, 2]) (by kernel_rfl) ⟨lp_of (lpkConcat_Sint_int_0 N), ⟨lp_of (lpkConcat_Sint_int_2 N), trivial⟩⟩) (by kernel_rfl)) (fun x r h => (FkConcat_Sint_int_eq N x).trans h)

/-! ### 127: impl.Graph).from$1 -/

noncomputable def diniGraph_from_1_iGraph_from_1 : Desc := { n := 5, regs := [.one (.val (.sl (.int .i64))), .one (.fpt (.int .i64)), .one (.lit (.ptr 128 0)), .one (.lit (.ptr 192 0)), .one (.fpt (.pair (.sl (.pair (.sl (.int .i64)) (.pair (.sl (.int .i64)) .unit))) (.pair (.sl (.sl (.int .i64))) (.pair (.sl (.int .i64)) .unit))))], bx := [(128, .var [.lit (.mrow 129)]), (129, .mp .bool), (192, .var [.clo 127 [.inr (.int .i64), .inl 128, .inl 192, .inr (.pair (.sl (.pair (.sl (.int .i64)) (.pair (.sl (.int .i64)) .unit))) (.pair (.sl (.sl (.int .i64))) (.pair (.sl (.int .i64)) .unit)))]])], pins := [] }
noncomputable def outiGraph_from_1_iGraph_from_1 : Outs := [(.ret, { n := 0, regs := [], bx := [(128, .var [.lit (.mrow 129)]), (129, .mp .bool), (192, .var [.clo 127 [.inr (.int .i64), .inl 128, .inl 192, .inr (.pair (.sl (.pair (.sl (.int .i64)) (.pair (.sl (.int .i64)) .unit))) (.pair (.sl (.sl (.int .i64))) (.pair (.sl (.int .i64)) .unit)))]])], pins := [u, u, .one (.lit (.ptr 128 0)), .one (.lit (.ptr 192 0))] })]
noncomputable def HiGraph_from_1_iGraph_from_1 : Hints := []
noncomputable def diGraph_from_1_iGraph_from_1_0 : Desc := { n := 38, regs := [u, .one (.fpt (.int .i64)), .one (.lit (.ptr 128 0)), .one (.lit (.ptr 192 0)), .one (.fpt (.pair (.sl (.pair (.sl (.int .i64)) (.pair (.sl (.int .i64)) .unit))) (.pair (.sl (.sl (.int .i64))) (.pair (.sl (.int .i64)) .unit)))), u, u, u, .one (.val (.sl (.int .i64))), .one (.val (.int .i64)), .one (.val (.int .i64))], bx := [(128, .var [.lit (.mrow 129)]), (129, .mp .bool), (192, .var [.clo 127 [.inr (.int .i64), .inl 128, .inl 192, .inr (.pair (.sl (.pair (.sl (.int .i64)) (.pair (.sl (.int .i64)) .unit))) (.pair (.sl (.sl (.int .i64))) (.pair (.sl (.int .i64)) .unit)))]])], pins := [u, u, .one (.lit (.ptr 128 0)), .one (.lit (.ptr 192 0))] }
noncomputable def oiGraph_from_1_iGraph_from_1_0 : Outs := [(.exit 0, { n := 38, regs := [], bx := [(128, .var [.lit (.mrow 129)]), (129, .mp .bool), (192, .var [.clo 127 [.inr (.int .i64), .inl 128, .inl 192, .inr (.pair (.sl (.pair (.sl (.int .i64)) (.pair (.sl (.int .i64)) .unit))) (.pair (.sl (.sl (.int .i64))) (.pair (.sl (.int .i64)) .unit)))]])], pins := [u, u, .one (.lit (.ptr 128 0)), .one (.lit (.ptr 192 0))] })]
noncomputable def liGraph_from_1_iGraph_from_1_0 (N : Nat) (f_ : ((List Int) × (Int × (((List ((List Int) × ((List Int) × Unit))) × ((List (List Int)) × ((List Int) × Unit))) × ((List (Int × Bool)) × (Int × (((List ((List Int) × ((List Int) × Unit))) × ((List (List Int)) × ((List Int) × Unit))) × Unit)))))) → Option ((List (Int × Bool)) × (Int × (((List ((List Int) × ((List Int) × Unit))) × ((List (List Int)) × ((List Int) × Unit))) × Unit)))) : Nat → (Int × (((List ((List Int) × ((List Int) × Unit))) × ((List (List Int)) × ((List Int) × Unit))) × ((List Int) × (Int × (Int × ((List (Int × Bool)) × (Int × (((List ((List Int) × ((List Int) × Unit))) × ((List (List Int)) × ((List Int) × Unit))) × Unit)))))))) → Option ((List (Int × Bool)) × (Int × (((List ((List Int) × ((List Int) × Unit))) × ((List (List Int)) × ((List Int) × Unit))) × Unit)))
  | 0, _ => none
  | n + 1, v =>
    bif decide (v.2.2.2.2.1 < v.2.2.2.1) then
     bif decide (0 ≤ v.2.2.2.2.1) then
     bif decide (v.2.2.2.2.1.toNat < v.2.2.1.length) then
     let y1 := v.2.2.1.getD v.2.2.2.2.1.toNat (0 : Int)
     bif decide (y1 ≥ (0 : Int)) then
      bif y1 != v.1 then
       let y2 := !((mget v.2.2.2.2.2.1 y1).getD false)
       bif y2 then
        bif decide (0 ≤ y1) then
        bif decide (y1.toNat < v.2.1.1.length) then
        let y3 := v.2.1.1.getD y1.toNat (([] : (List Int)), ([] : (List Int)), ())
        (f_ (y3.1, v.2.2.2.2.2.2.1, v.2.2.2.2.2.2.2.1, mset v.2.2.2.2.2.1 y1 true, v.2.2.2.2.2.2.1, v.2.2.2.2.2.2.2.1, ())).bind fun r4 =>
        liGraph_from_1_iGraph_from_1_0 N f_ n (v.1, v.2.1, v.2.2.1, v.2.2.2.1, w64 (v.2.2.2.2.1 + (1 : Int)), r4.1, r4.2.1, r4.2.2.1, ())
        else none
        else none
       else
       liGraph_from_1_iGraph_from_1_0 N f_ n (v.1, v.2.1, v.2.2.1, v.2.2.2.1, w64 (v.2.2.2.2.1 + (1 : Int)), v.2.2.2.2.2.1, v.2.2.2.2.2.2.1, v.2.2.2.2.2.2.2.1, ())
      else
      liGraph_from_1_iGraph_from_1_0 N f_ n (v.1, v.2.1, v.2.2.1, v.2.2.2.1, w64 (v.2.2.2.2.1 + (1 : Int)), v.2.2.2.2.2.1, v.2.2.2.2.2.2.1, v.2.2.2.2.2.2.2.1, ())
     else
     liGraph_from_1_iGraph_from_1_0 N f_ n (v.1, v.2.1, v.2.2.1, v.2.2.2.1, w64 (v.2.2.2.2.1 + (1 : Int)), v.2.2.2.2.2.1, v.2.2.2.2.2.2.1, v.2.2.2.2.2.2.2.1, ())
     else none
     else none
    else
    some (v.2.2.2.2.2.1, v.2.2.2.2.2.2.1, v.2.2.2.2.2.2.2.1, ())
noncomputable def FiGraph_from_1_iGraph_from_1 (N : Nat) : Nat → ((List Int) × (Int × (((List ((List Int) × ((List Int) × Unit))) × ((List (List Int)) × ((List Int) × Unit))) × ((List (Int × Bool)) × (Int × (((List ((List Int) × ((List Int) × Unit))) × ((List (List Int)) × ((List Int) × Unit))) × Unit)))))) → Option ((List (Int × Bool)) × (Int × (((List ((List Int) × ((List Int) × Unit))) × ((List (List Int)) × ((List Int) × Unit))) × Unit)))
  | 0, _ => none
  | m_ + 1, x =>
  (liGraph_from_1_iGraph_from_1_0 N (fun x_ => FiGraph_from_1_iGraph_from_1 N m_ x_) N (x.2.1, x.2.2.1, x.1, (x.1.length : Int), (0 : Int), x.2.2.2.1, x.2.2.2.2.1, x.2.2.2.2.2.1, ())).bind fun o5 =>
  some (o5.1, o5.2.1, o5.2.2.1, ())
noncomputable def coniGraph_from_1_iGraph_from_1 (N : Nat) (m_ : Nat) : Con := { f := 127, din := diniGraph_from_1_iGraph_from_1, outs := outiGraph_from_1_iGraph_from_1, F := FiGraph_from_1_iGraph_from_1 N m_ }
noncomputable def EiGraph_from_1_iGraph_from_1 (N : Nat) (m_ : Nat) : Env := { te := TE, cs := [coniGraph_from_1_iGraph_from_1 N m_] }
noncomputable def XiGraph_from_1_iGraph_from_1 (N : Nat) (m_ : Nat) : Ctx := { E := EiGraph_from_1_iGraph_from_1 N m_, H := HiGraph_from_1_iGraph_from_1, lp := [(0, { hd := diGraph_from_1_iGraph_from_1_0, outs := oiGraph_from_1_iGraph_from_1_0, run := fun v => liGraph_from_1_iGraph_from_1_0 N (fun x_ => FiGraph_from_1_iGraph_from_1 N m_ x_) N v })], jn := [] }
noncomputable def biGraph_from_1_iGraph_from_1_0 : Code := loopBody (codeOf Try.f127) 0
theorem FiGraph_from_1_iGraph_from_1_eq (N m_ : Nat) (x : ((List Int) × (Int × (((List ((List Int) × ((List Int) × Unit))) × ((List (List Int)) × ((List Int) × Unit))) × ((List (Int × Bool)) × (Int × (((List ((List Int) × ((List Int) × Unit))) × ((List (List Int)) × ((List Int) × Unit))) × Unit))))))) : evFn (XiGraph_from_1_iGraph_from_1 N m_) Try.f127 diniGraph_from_1_iGraph_from_1 outiGraph_from_1_iGraph_from_1 x = FiGraph_from_1_iGraph_from_1 N (m_ + 1) x := by kernel_rfl
theorem liGraph_from_1_iGraph_from_1_0_eq (N m_ n : Nat) (v : (Int × (((List ((List Int) × ((List Int) × Unit))) × ((List (List Int)) × ((List Int) × Unit))) × ((List Int) × (Int × (Int × ((List (Int × Bool)) × (Int × (((List ((List Int) × ((List Int) × Unit))) × ((List (List Int)) × ((List Int) × Unit))) × Unit))))))))) : liGraph_from_1_iGraph_from_1_0 N (fun x_ => FiGraph_from_1_iGraph_from_1 N m_ x_) (n + 1) v = ev (XiGraph_from_1_iGraph_from_1 N m_) biGraph_from_1_iGraph_from_1_0 (roundK diGraph_from_1_iGraph_from_1_0 oiGraph_from_1_iGraph_from_1_0 (liGraph_from_1_iGraph_from_1_0 N (fun x_ => FiGraph_from_1_iGraph_from_1 N m_ x_) n)) (diGraph_from_1_iGraph_from_1_0.mk' v) := by kernel_rfl
theorem cxiGraph_from_1_iGraph_from_1 (N : Nat) (m_ : Nat) (hs : Spec Try.prog (coniGraph_from_1_iGraph_from_1 N m_)) : CtxOk Try.prog (XiGraph_from_1_iGraph_from_1 N m_) := ⟨⟨TE_ok, List.forall_mem_cons.2 ⟨hs, fun k hk => absurd hk List.not_mem_nil⟩⟩, mixed⟩
theorem lpiGraph_from_1_iGraph_from_1_0 (N : Nat) (m_ : Nat) (hs : Spec Try.prog (coniGraph_from_1_iGraph_from_1 N m_)) : LoopOk Try.prog { hd := diGraph_from_1_iGraph_from_1_0, outs := oiGraph_from_1_iGraph_from_1_0, run := fun v => liGraph_from_1_iGraph_from_1_0 N (fun x_ => FiGraph_from_1_iGraph_from_1 N m_ x_) N v } biGraph_from_1_iGraph_from_1_0 :=
  loop_fuel (d := diGraph_from_1_iGraph_from_1_0) (os := oiGraph_from_1_iGraph_from_1_0) (cxiGraph_from_1_iGraph_from_1 N m_ hs) (loops_at (ids := []) (by kernel_rfl) (trivial)) (liGraph_from_1_iGraph_from_1_0 N (fun x_ => FiGraph_from_1_iGraph_from_1 N m_ x_)) (fun _ => rfl) (fun n v => liGraph_from_1_iGraph_from_1_0_eq N m_ n v) (fun _ => N)
theorem cziGraph_from_1_iGraph_from_1 : CtxOk Try.prog { E := { te := TE, cs := [] }, H := [], lp := [], jn := [] } := ⟨⟨TE_ok, fun k hk => absurd hk List.not_mem_nil⟩, mixed⟩
theorem speciGraph_from_1_iGraph_from_1 (N : Nat) : ∀ m_ : Nat, Spec Try.prog (coniGraph_from_1_iGraph_from_1 N m_)
  | 0 => Spec.of_eq (fn_spec (cziGraph_from_1_iGraph_from_1) (f := 127) (fn := Try.f127) (din := diniGraph_from_1_iGraph_from_1) (os := outiGraph_from_1_iGraph_from_1) (c := codeOf Try.f127) (by kernel_rfl) (by kernel_rfl) (by kernel_rfl) (loops_at (ids := [0]) (by kernel_rfl) ⟨lp_none, trivial⟩) (by kernel_rfl)) (fun x r h => nomatch (show (none : Option _) = some r from h))
  | m_ + 1 => Spec.of_eq (fn_spec (cxiGraph_from_1_iGraph_from_1 N m_ (speciGraph_from_1_iGraph_from_1 N m_)) (f := 127) (fn := Try.f127) (c := codeOf Try.f127) (by kernel_rfl) (by kernel_rfl) (by kernel_rfl) (loops_at (ids := [0]) (by kernel_rfl) ⟨lp_of (lpiGraph_from_1_iGraph_from_1_0 N m_ (speciGraph_from_1_iGraph_from_1 N m_)), trivial⟩) (by kernel_rfl)) (fun x r h => (FiGraph_from_1_iGraph_from_1_eq N m_ x).trans h)

/-! ### 67: impl.Graph).from -/

noncomputable def diniGraph_from : Desc := { n := 3, regs := [.one (.val (.pair (.sl (.pair (.sl (.int .i64)) (.pair (.sl (.int .i64)) .unit))) (.pair (.sl (.sl (.int .i64))) (.pair (.sl (.int .i64)) .unit)))), .one (.val (.sl (.int .i64))), .one (.val (.int .i64))], bx := [], pins := [] }
noncomputable def outiGraph_from : Outs := [(.ret, { n := 1, regs := [.one (.lit (.mrow 1012800))], bx := [(1012800, .mp .bool)], pins := [] })]
noncomputable def HiGraph_from : Hints := [(0, [(0, { fz := true }), (1, { fz := true })]),
  (4, [(2, { sg := [(128, 1012864), (129, 1012800), (192, 1025600)] })])]
noncomputable def EiGraph_from (N : Nat) : Env := { te := TE, cs := [coniGraph_from_1_iGraph_from_1 N N] }
noncomputable def FiGraph_from (N : Nat) (x : (((List ((List Int) × ((List Int) × Unit))) × ((List (List Int)) × ((List Int) × Unit))) × ((List Int) × (Int × Unit)))) : Option ((List (Int × Bool)) × Unit) :=
  (FiGraph_from_1_iGraph_from_1 N N (x.2.1, x.2.2.1, x.1, ([] : (List (Int × Bool))), x.2.2.1, x.1, ())).bind fun r1 =>
  some (r1.1, ())
noncomputable def coniGraph_from (N : Nat) : Con := { f := 67, din := diniGraph_from, outs := outiGraph_from, F := FiGraph_from N }
noncomputable def XiGraph_from (N : Nat) : Ctx := { E := EiGraph_from N, H := HiGraph_from, lp := [], jn := [] }
theorem FiGraph_from_eq (N : Nat) (x : (((List ((List Int) × ((List Int) × Unit))) × ((List (List Int)) × ((List Int) × Unit))) × ((List Int) × (Int × Unit)))) : evFn (XiGraph_from N) Try.f67 diniGraph_from outiGraph_from x = FiGraph_from N x := by kernel_rfl
theorem cxiGraph_from (N : Nat) : CtxOk Try.prog (XiGraph_from N) := ⟨⟨TE_ok, List.forall_mem_cons.2 ⟨(speciGraph_from_1_iGraph_from_1 N N), fun k hk => absurd hk List.not_mem_nil⟩⟩, mixed⟩
theorem speciGraph_from (N : Nat) : Spec Try.prog (coniGraph_from N) :=
  Spec.of_eq (fn_spec (cxiGraph_from N) (f := 67) (fn := Try.f67) (c := codeOf Try.f67) (by kernel_rfl) (by kernel_rfl) (by kernel_rfl) (loops_at (ids := []) (by kernel_rfl) (trivial)) (by kernel_rfl)) (fun x r h => (FiGraph_from_eq N x).trans h)

/-! ### 27: impl.PathHolds -/

noncomputable def diniPathHolds : Desc := { n := 2, regs := [.one (.val (.pair (.sl (.pair (.sl (.int .i64)) (.pair (.sl (.int .i64)) .unit))) (.pair (.sl (.sl (.int .i64))) (.pair (.sl (.int .i64)) .unit)))), .one (.val (.int .i64))], bx := [], pins := [] }
noncomputable def outiPathHolds : Outs := [(.ret, { n := 1, regs := [.one (.lit (.row 1064000))], bx := [(1064000, .row (.int .i64))], pins := [] })]
noncomputable def HiPathHolds : Hints := [(0, [(0, { fz := true })]),
  (1, [(6, { con := 1 })]),
  (2, [(0, { nl := [(0, (.int .i64))] })]),
  (3, [(2, { con := 2 })]),
  (4, [(2, { con := 3 }), (6, { con := 3 })]),
  (5, [(0, { nl := [(0, (.int .i64))] })])]
noncomputable def EiPathHolds (N : Nat) : Env := { te := TE, cs := [coniGraphOk N, coniGraph_hasNode N, conkConcat_Sint_int N, coniGraph_from N] }
noncomputable def diPathHolds_0 : Desc := { n := 53, regs := [u, u, u, u, u, u, .one (.lit (.mrow 1051329)), .one (.lit (.mrow 1051585)), .one (.lit (.row 1064000)), u, u, u, u, u, u, u, u, u, u, u, u, u, u, u, u, u, u, u, u, u, u, u, u, u, .one (.val (.int .i64)), .one (.val (.int .i64))], bx := [(1051329, .mp .bool), (1051585, .mp .bool), (1064000, .row (.int .i64))], pins := [] }
noncomputable def oiPathHolds_0 : Outs := [(.exit 0, { n := 53, regs := [u, u, u, u, u, u, u, u, .one (.lit (.row 1064000))], bx := [(1064000, .row (.int .i64))], pins := [] })]
noncomputable def jiPathHolds_3 : Outs := [(.normal, { n := 53, regs := [u, .one (.val (.int .i64)), .one (.fpt (.pair (.sl (.pair (.sl (.int .i64)) (.pair (.sl (.int .i64)) .unit))) (.pair (.sl (.sl (.int .i64))) (.pair (.sl (.int .i64)) .unit))))], bx := [], pins := [] }), (.ret, { n := 53, regs := [u, u, u, u, .one (.lit (.row 1025600))], bx := [(1025600, .row (.int .i64))], pins := [] })]
noncomputable def liPathHolds_0 (N : Nat) : Nat → (Int × (Int × ((List (Int × Bool)) × ((List (Int × Bool)) × ((List Int) × Unit))))) → Option ((List Int) × Unit)
  | 0, _ => none
  | n + 1, v =>
    bif decide (v.2.1 < v.1) then
     bif (mget v.2.2.1 v.2.1).getD false then
      bif !((mget v.2.2.2.1 v.2.1).getD false) then
       bif decide (v.2.2.2.2.1.length + [v.2.1].length ≤ lim) then
       liPathHolds_0 N n (v.1, w64 (v.2.1 + (1 : Int)), v.2.2.1, v.2.2.2.1, v.2.2.2.2.1 ++ [v.2.1], ())
       else none
      else
      liPathHolds_0 N n (v.1, w64 (v.2.1 + (1 : Int)), v.2.2.1, v.2.2.2.1, v.2.2.2.2.1, ())
     else
     liPathHolds_0 N n (v.1, w64 (v.2.1 + (1 : Int)), v.2.2.1, v.2.2.2.1, v.2.2.2.2.1, ())
    else
    some (v.2.2.2.2.1, ())
noncomputable def FiPathHolds (N : Nat) (x : (((List ((List Int) × ((List Int) × Unit))) × ((List (List Int)) × ((List Int) × Unit))) × (Int × Unit))) : Option ((List Int) × Unit) :=
  Option.bind (
   (FiGraphOk N (x.1, ())).bind fun r1 =>
   bif !r1.1 then
    some (.inr ((([] : (List Int)), ())))
   else
   (FiGraph_hasNode N (x.1, x.2.1, ())).bind fun r2 =>
   bif !r2.1 then
    some (.inr ((([] : (List Int)), ())))
   else
   some (.inl (x.2.1, x.1, ()))) fun o3 =>
  Sum.elim (fun o4 =>
   (FkConcat_Sint_int N (o4.2.1.2.1, ())).bind fun r5 =>
   bif decide (r5.1.length + o4.2.1.2.2.1.length ≤ lim) then
   (FiGraph_from N (o4.2.1, r5.1 ++ o4.2.1.2.2.1, (-1 : Int), ())).bind fun r6 =>
   (FiGraph_from N (o4.2.1, r5.1 ++ o4.2.1.2.2.1, o4.1, ())).bind fun r7 =>
   (liPathHolds_0 N N ((o4.2.1.1.length : Int), (0 : Int), r6.1, r7.1, ([] : (List Int)), ())).bind fun o8 =>
   some (o8.1, ())
   else none) (fun o9 =>
   some (o9.1, ())) o3
noncomputable def coniPathHolds (N : Nat) : Con := { f := 27, din := diniPathHolds, outs := outiPathHolds, F := FiPathHolds N }
noncomputable def XiPathHolds (N : Nat) : Ctx := { E := EiPathHolds N, H := HiPathHolds, lp := [(0, { hd := diPathHolds_0, outs := oiPathHolds_0, run := fun v => liPathHolds_0 N N v })], jn := [(3, jiPathHolds_3)] }
noncomputable def biPathHolds_0 : Code := loopBody (codeOf Try.f27) 0
theorem FiPathHolds_eq (N : Nat) (x : (((List ((List Int) × ((List Int) × Unit))) × ((List (List Int)) × ((List Int) × Unit))) × (Int × Unit))) : evFn (XiPathHolds N) Try.f27 diniPathHolds outiPathHolds x = FiPathHolds N x := by kernel_rfl
theorem liPathHolds_0_eq (N n : Nat) (v : (Int × (Int × ((List (Int × Bool)) × ((List (Int × Bool)) × ((List Int) × Unit)))))) : liPathHolds_0 N (n + 1) v = ev (XiPathHolds N) biPathHolds_0 (roundK diPathHolds_0 oiPathHolds_0 (liPathHolds_0 N n)) (diPathHolds_0.mk' v) := by kernel_rfl
theorem cxiPathHolds (N : Nat) : CtxOk Try.prog (XiPathHolds N) := ⟨⟨TE_ok, List.forall_mem_cons.2 ⟨(speciGraphOk N), List.forall_mem_cons.2 ⟨(speciGraph_hasNode N), List.forall_mem_cons.2 ⟨(speckConcat_Sint_int N), List.forall_mem_cons.2 ⟨(speciGraph_from N), fun k hk => absurd hk List.not_mem_nil⟩⟩⟩⟩⟩, mixed⟩
theorem lpiPathHolds_0 (N : Nat) : LoopOk Try.prog { hd := diPathHolds_0, outs := oiPathHolds_0, run := fun v => liPathHolds_0 N N v } biPathHolds_0 :=
  loop_fuel (d := diPathHolds_0) (os := oiPathHolds_0) (cxiPathHolds N) (loops_at (ids := []) (by kernel_rfl) (trivial)) (liPathHolds_0 N) (fun _ => rfl) (fun n v => liPathHolds_0_eq N n v) (fun _ => N)
theorem speciPathHolds (N : Nat) : Spec Try.prog (coniPathHolds N) :=
  Spec.of_eq (fn_spec (cxiPathHolds N) (f := 27) (fn := Try.f27) (c := codeOf Try.f27) (by kernel_rfl) (by kernel_rfl) (by kernel_rfl) (loops_at (ids := [0]) (by kernel_rfl) ⟨lp_of (lpiPathHolds_0 N), trivial⟩) (by kernel_rfl)) (fun x r h => (FiPathHolds_eq N x).trans h)

/-! ### 19: laws.eqIntS -/

noncomputable def dinveqIntS : Desc := { n := 2, regs := [.one (.val (.sl (.int .i64))), .one (.val (.sl (.int .i64)))], bx := [], pins := [] }
noncomputable def outveqIntS : Outs := [(.ret, { n := 1, regs := [.one (.val .bool)], bx := [], pins := [] })]
noncomputable def HveqIntS : Hints := []
noncomputable def EveqIntS (_N : Nat) : Env := { te := TE, cs := [] }
noncomputable def dveqIntS_0 : Desc := { n := 26, regs := [.one (.val (.sl (.int .i64))), .one (.val (.sl (.int .i64))), u, u, u, .one (.val (.int .i64))], bx := [], pins := [] }
noncomputable def oveqIntS_0 : Outs := [(.exit 0, { n := 26, regs := [], bx := [], pins := [] }), (.ret, { n := 26, regs := [u, u, u, u, .one (.val .bool)], bx := [], pins := [] })]
noncomputable def lveqIntS_0 (N : Nat) : Nat → ((List Int) × ((List Int) × (Int × Unit))) → Option (Unit ⊕ (Bool × Unit))
  | 0, _ => none
  | n + 1, v =>
    let y2 := decide (v.2.2.1 < (v.1.length : Int))
    bif y2 then
     bif decide (0 ≤ v.2.2.1) then
     bif decide (v.2.2.1.toNat < v.1.length) then
     bif decide (0 ≤ v.2.2.1) then
     bif decide (v.2.2.1.toNat < v.2.1.length) then
     let y3 := (v.1.getD v.2.2.1.toNat (0 : Int)) != (v.2.1.getD v.2.2.1.toNat (0 : Int))
     bif y3 then
      some (.inr ((false, ())))
     else
     lveqIntS_0 N n (v.1, v.2.1, w64 (v.2.2.1 + (1 : Int)), ())
     else none
     else none
     else none
     else none
    else
    some (.inl ())
noncomputable def FveqIntS (N : Nat) (x : ((List Int) × ((List Int) × Unit))) : Option (Bool × Unit) :=
  let y1 := (x.1.length : Int) != (x.2.1.length : Int)
  bif y1 then
   some (false, ())
  else
  (lveqIntS_0 N N (x.1, x.2.1, (0 : Int), ())).bind fun o4 =>
  Sum.elim (fun o5 =>
   some (true, ())) (fun o6 =>
   some (o6.1, ())) o4
noncomputable def conveqIntS (N : Nat) : Con := { f := 19, din := dinveqIntS, outs := outveqIntS, F := FveqIntS N }
noncomputable def XveqIntS (N : Nat) : Ctx := { E := EveqIntS N, H := HveqIntS, lp := [(0, { hd := dveqIntS_0, outs := oveqIntS_0, run := fun v => lveqIntS_0 N N v })], jn := [] }
noncomputable def bveqIntS_0 : Code := loopBody (codeOf Try.f19) 0
theorem FveqIntS_eq (N : Nat) (x : ((List Int) × ((List Int) × Unit))) : evFn (XveqIntS N) Try.f19 dinveqIntS outveqIntS x = FveqIntS N x := by kernel_rfl
theorem lveqIntS_0_eq (N n : Nat) (v : ((List Int) × ((List Int) × (Int × Unit)))) : lveqIntS_0 N (n + 1) v = ev (XveqIntS N) bveqIntS_0 (roundK dveqIntS_0 oveqIntS_0 (lveqIntS_0 N n)) (dveqIntS_0.mk' v) := by kernel_rfl
theorem cxveqIntS (N : Nat) : CtxOk Try.prog (XveqIntS N) := ⟨⟨TE_ok, fun k hk => absurd hk List.not_mem_nil⟩, mixed⟩
theorem lpveqIntS_0 (N : Nat) : LoopOk Try.prog { hd := dveqIntS_0, outs := oveqIntS_0, run := fun v => lveqIntS_0 N N v } bveqIntS_0 :=
  loop_fuel (d := dveqIntS_0) (os := oveqIntS_0) (cxveqIntS N) (loops_at (ids := []) (by kernel_rfl) (trivial)) (lveqIntS_0 N) (fun _ => rfl) (fun n v => lveqIntS_0_eq N n v) (fun _ => N)
theorem specveqIntS (N : Nat) : Spec Try.prog (conveqIntS N) :=
  Spec.of_eq (fn_spec (cxveqIntS N) (f := 19) (fn := Try.f19) (c := codeOf Try.f19) (by kernel_rfl) (by kernel_rfl) (by kernel_rfl) (loops_at (ids := [0]) (by kernel_rfl) ⟨lp_of (lpveqIntS_0 N), trivial⟩) (by kernel_rfl)) (fun x r h => (FveqIntS_eq N x).trans h)

/-! ### 128: laws.eqNode -/

noncomputable def dinveqNode : Desc := { n := 2, regs := [.one (.val (.pair (.sl (.int .i64)) (.pair (.sl (.int .i64)) .unit))), .one (.val (.pair (.sl (.int .i64)) (.pair (.sl (.int .i64)) .unit)))], bx := [], pins := [] }
noncomputable def outveqNode : Outs := [(.ret, { n := 1, regs := [.one (.val .bool)], bx := [], pins := [] })]
noncomputable def HveqNode : Hints := [(0, [(0, { fz := true }), (1, { fz := true })])]
noncomputable def EveqNode (N : Nat) : Env := { te := TE, cs := [conveqIntS N] }
noncomputable def FveqNode (N : Nat) (x : (((List Int) × ((List Int) × Unit)) × (((List Int) × ((List Int) × Unit)) × Unit))) : Option (Bool × Unit) :=
  (FveqIntS N (x.1.1, x.2.1.1, ())).bind fun r1 =>
  bif !r1.1 then
   some (false, ())
  else
  (FveqIntS N (x.1.2.1, x.2.1.2.1, ())).bind fun r2 =>
  bif !r2.1 then
   some (false, ())
  else
  some (true, ())
noncomputable def conveqNode (N : Nat) : Con := { f := 128, din := dinveqNode, outs := outveqNode, F := FveqNode N }
noncomputable def XveqNode (N : Nat) : Ctx := { E := EveqNode N, H := HveqNode, lp := [], jn := [] }
theorem FveqNode_eq (N : Nat) (x : (((List Int) × ((List Int) × Unit)) × (((List Int) × ((List Int) × Unit)) × Unit))) : evFn (XveqNode N) Try.f128 dinveqNode outveqNode x = FveqNode N x := by kernel_rfl
theorem cxveqNode (N : Nat) : CtxOk Try.prog (XveqNode N) := ⟨⟨TE_ok, List.forall_mem_cons.2 ⟨(specveqIntS N), fun k hk => absurd hk List.not_mem_nil⟩⟩, mixed⟩
theorem specveqNode (N : Nat) : Spec Try.prog (conveqNode N) :=
  Spec.of_eq (fn_spec (cxveqNode N) (f := 128) (fn := Try.f128) (c := codeOf Try.f128) (by kernel_rfl) (by kernel_rfl) (by kernel_rfl) (loops_at (ids := []) (by kernel_rfl) (trivial)) (by kernel_rfl)) (fun x r h => (FveqNode_eq N x).trans h)

/-! ### 68: laws.eqNodeS -/

noncomputable def dinveqNodeS : Desc := { n := 2, regs := [.one (.val (.sl (.pair (.sl (.int .i64)) (.pair (.sl (.int .i64)) .unit)))), .one (.val (.sl (.pair (.sl (.int .i64)) (.pair (.sl (.int .i64)) .unit))))], bx := [], pins := [] }
noncomputable def outveqNodeS : Outs := [(.ret, { n := 1, regs := [.one (.val .bool)], bx := [], pins := [] })]
noncomputable def HveqNodeS : Hints := []
noncomputable def EveqNodeS (N : Nat) : Env := { te := TE, cs := [conveqNode N] }
noncomputable def dveqNodeS_0 : Desc := { n := 27, regs := [.one (.val (.sl (.pair (.sl (.int .i64)) (.pair (.sl (.int .i64)) .unit)))), .one (.val (.sl (.pair (.sl (.int .i64)) (.pair (.sl (.int .i64)) .unit)))), u, u, u, .one (.val (.int .i64))], bx := [], pins := [] }
noncomputable def oveqNodeS_0 : Outs := [(.exit 0, { n := 27, regs := [], bx := [], pins := [] }), (.ret, { n := 27, regs := [u, u, u, u, .one (.val .bool)], bx := [], pins := [] })]
noncomputable def lveqNodeS_0 (N : Nat) : Nat → ((List ((List Int) × ((List Int) × Unit))) × ((List ((List Int) × ((List Int) × Unit))) × (Int × Unit))) → Option (Unit ⊕ (Bool × Unit))
  | 0, _ => none
  | n + 1, v =>
    let y2 := decide (v.2.2.1 < (v.1.length : Int))
    bif y2 then
     bif decide (0 ≤ v.2.2.1) then
     bif decide (v.2.2.1.toNat < v.1.length) then
     let y3 := v.1.getD v.2.2.1.toNat (([] : (List Int)), ([] : (List Int)), ())
     bif decide (0 ≤ v.2.2.1) then
     bif decide (v.2.2.1.toNat < v.2.1.length) then
     let y4 := v.2.1.getD v.2.2.1.toNat (([] : (List Int)), ([] : (List Int)), ())
     (FveqNode N (y3, y4, ())).bind fun r5 =>
     bif !r5.1 then
      some (.inr ((false, ())))
     else
     lveqNodeS_0 N n (v.1, v.2.1, w64 (v.2.2.1 + (1 : Int)), ())
     else none
     else none
     else none
     else none
    else
    some (.inl ())
noncomputable def FveqNodeS (N : Nat) (x : ((List ((List Int) × ((List Int) × Unit))) × ((List ((List Int) × ((List Int) × Unit))) × Unit))) : Option (Bool × Unit) :=
  let y1 := (x.1.length : Int) != (x.2.1.length : Int)
  bif y1 then
   some (false, ())
  else
  (lveqNodeS_0 N N (x.1, x.2.1, (0 : Int), ())).bind fun o6 =>
  Sum.elim (fun o7 =>
   some (true, ())) (fun o8 =>
   some (o8.1, ())) o6
noncomputable def conveqNodeS (N : Nat) : Con := { f := 68, din := dinveqNodeS, outs := outveqNodeS, F := FveqNodeS N }
noncomputable def XveqNodeS (N : Nat) : Ctx := { E := EveqNodeS N, H := HveqNodeS, lp := [(0, { hd := dveqNodeS_0, outs := oveqNodeS_0, run := fun v => lveqNodeS_0 N N v })], jn := [] }
noncomputable def bveqNodeS_0 : Code := loopBody (codeOf Try.f68) 0
theorem FveqNodeS_eq (N : Nat) (x : ((List ((List Int) × ((List Int) × Unit))) × ((List ((List Int) × ((List Int) × Unit))) × Unit))) : evFn (XveqNodeS N) Try.f68 dinveqNodeS outveqNodeS x = FveqNodeS N x := by kernel_rfl
theorem lveqNodeS_0_eq (N n : Nat) (v : ((List ((List Int) × ((List Int) × Unit))) × ((List ((List Int) × ((List Int) × Unit))) × (Int × Unit)))) : lveqNodeS_0 N (n + 1) v = ev (XveqNodeS N) bveqNodeS_0 (roundK dveqNodeS_0 oveqNodeS_0 (lveqNodeS_0 N n)) (dveqNodeS_0.mk' v) := by kernel_rfl
theorem cxveqNodeS (N : Nat) : CtxOk Try.prog (XveqNodeS N) := ⟨⟨TE_ok, List.forall_mem_cons.2 ⟨(specveqNode N), fun k hk => absurd hk List.not_mem_nil⟩⟩, mixed⟩
theorem lpveqNodeS_0 (N : Nat) : LoopOk Try.prog { hd := dveqNodeS_0, outs := oveqNodeS_0, run := fun v => lveqNodeS_0 N N v } bveqNodeS_0 :=
  loop_fuel (d := dveqNodeS_0) (os := oveqNodeS_0) (cxveqNodeS N) (loops_at (ids := []) (by kernel_rfl) (trivial)) (lveqNodeS_0 N) (fun _ => rfl) (fun n v => lveqNodeS_0_eq N n v) (fun _ => N)
theorem specveqNodeS (N : Nat) : Spec Try.prog (conveqNodeS N) :=
  Spec.of_eq (fn_spec (cxveqNodeS N) (f := 68) (fn := Try.f68) (c := codeOf Try.f68) (by kernel_rfl) (by kernel_rfl) (by kernel_rfl) (loops_at (ids := [0]) (by kernel_rfl) ⟨lp_of (lpveqNodeS_0 N), trivial⟩) (by kernel_rfl)) (fun x r h => (FveqNodeS_eq N x).trans h)

/-! ### 69: laws.eqIntSS -/

noncomputable def dinveqIntSS : Desc := { n := 2, regs := [.one (.val (.sl (.sl (.int .i64)))), .one (.val (.sl (.sl (.int .i64))))], bx := [], pins := [] }
noncomputable def outveqIntSS : Outs := [(.ret, { n := 1, regs := [.one (.val .bool)], bx := [], pins := [] })]
noncomputable def HveqIntSS : Hints := []
noncomputable def EveqIntSS (N : Nat) : Env := { te := TE, cs := [conveqIntS N] }
noncomputable def dveqIntSS_0 : Desc := { n := 27, regs := [.one (.val (.sl (.sl (.int .i64)))), .one (.val (.sl (.sl (.int .i64)))), u, u, u, .one (.val (.int .i64))], bx := [], pins := [] }
noncomputable def oveqIntSS_0 : Outs := [(.exit 0, { n := 27, regs := [], bx := [], pins := [] }), (.ret, { n := 27, regs := [u, u, u, u, .one (.val .bool)], bx := [], pins := [] })]
noncomputable def lveqIntSS_0 (N : Nat) : Nat → ((List (List Int)) × ((List (List Int)) × (Int × Unit))) → Option (Unit ⊕ (Bool × Unit))
  | 0, _ => none
  | n + 1, v =>
    let y2 := decide (v.2.2.1 < (v.1.length : Int))
    bif y2 then
     bif decide (0 ≤ v.2.2.1) then
     bif decide (v.2.2.1.toNat < v.1.length) then
     let y3 := v.1.getD v.2.2.1.toNat ([] : (List Int))
     bif decide (0 ≤ v.2.2.1) then
     bif decide (v.2.2.1.toNat < v.2.1.length) then
     let y4 := v.2.1.getD v.2.2.1.toNat ([] : (List Int))
     (FveqIntS N (y3, y4, ())).bind fun r5 =>
     bif !r5.1 then
      some (.inr ((false, ())))
     else
     lveqIntSS_0 N n (v.1, v.2.1, w64 (v.2.2.1 + (1 : Int)), ())
     else none
     else none
     else none
     else none
    else
    some (.inl ())
noncomputable def FveqIntSS (N : Nat) (x : ((List (List Int)) × ((List (List Int)) × Unit))) : Option (Bool × Unit) :=
  let y1 := (x.1.length : Int) != (x.2.1.length : Int)
  bif y1 then
   some (false, ())
  else
  (lveqIntSS_0 N N (x.1, x.2.1, (0 : Int), ())).bind fun o6 =>
  Sum.elim (fun o7 =>
   some (true, ())) (fun o8 =>
   some (o8.1, ())) o6
noncomputable def conveqIntSS (N : Nat) : Con := { f := 69, din := dinveqIntSS, outs := outveqIntSS, F := FveqIntSS N }
noncomputable def XveqIntSS (N : Nat) : Ctx := { E := EveqIntSS N, H := HveqIntSS, lp := [(0, { hd := dveqIntSS_0, outs := oveqIntSS_0, run := fun v => lveqIntSS_0 N N v })], jn := [] }
noncomputable def bveqIntSS_0 : Code := loopBody (codeOf Try.f69) 0
theorem FveqIntSS_eq (N : Nat) (x : ((List (List Int)) × ((List (List Int)) × Unit))) : evFn (XveqIntSS N) Try.f69 dinveqIntSS outveqIntSS x = FveqIntSS N x := by kernel_rfl
theorem lveqIntSS_0_eq (N n : Nat) (v : ((List (List Int)) × ((List (List Int)) × (Int × Unit)))) : lveqIntSS_0 N (n + 1) v = ev (XveqIntSS N) bveqIntSS_0 (roundK dveqIntSS_0 oveqIntSS_0 (lveqIntSS_0 N n)) (dveqIntSS_0.mk' v) := by kernel_rfl
theorem cxveqIntSS (N : Nat) : CtxOk Try.prog (XveqIntSS N) := ⟨⟨TE_ok, List.forall_mem_cons.2 ⟨(specveqIntS N), fun k hk => absurd hk List.not_mem_nil⟩⟩, mixed⟩
theorem lpveqIntSS_0 (N : Nat) : LoopOk Try.prog { hd := dveqIntSS_0, outs := oveqIntSS_0, run := fun v => lveqIntSS_0 N N v } bveqIntSS_0 :=
  loop_fuel (d := dveqIntSS_0) (os := oveqIntSS_0) (cxveqIntSS N) (loops_at (ids := []) (by kernel_rfl) (trivial)) (lveqIntSS_0 N) (fun _ => rfl) (fun n v => lveqIntSS_0_eq N n v) (fun _ => N)
theorem specveqIntSS (N : Nat) : Spec Try.prog (conveqIntSS N) :=
  Spec.of_eq (fn_spec (cxveqIntSS N) (f := 69) (fn := Try.f69) (c := codeOf Try.f69) (by kernel_rfl) (by kernel_rfl) (by kernel_rfl) (loops_at (ids := [0]) (by kernel_rfl) ⟨lp_of (lpveqIntSS_0 N), trivial⟩) (by kernel_rfl)) (fun x r h => (FveqIntSS_eq N x).trans h)

/-! ### 20: laws.eqGraph -/

noncomputable def dinveqGraph : Desc := { n := 2, regs := [.one (.val (.pair (.sl (.pair (.sl (.int .i64)) (.pair (.sl (.int .i64)) .unit))) (.pair (.sl (.sl (.int .i64))) (.pair (.sl (.int .i64)) .unit)))), .one (.val (.pair (.sl (.pair (.sl (.int .i64)) (.pair (.sl (.int .i64)) .unit))) (.pair (.sl (.sl (.int .i64))) (.pair (.sl (.int .i64)) .unit))))], bx := [], pins := [] }
noncomputable def outveqGraph : Outs := [(.ret, { n := 1, regs := [.one (.val .bool)], bx := [], pins := [] })]
noncomputable def HveqGraph : Hints := [(0, [(0, { fz := true }), (1, { fz := true })]),
  (3, [(4, { con := 1 })]),
  (5, [(4, { con := 2 })])]
noncomputable def EveqGraph (N : Nat) : Env := { te := TE, cs := [conveqNodeS N, conveqIntSS N, conveqIntS N] }
noncomputable def FveqGraph (N : Nat) (x : (((List ((List Int) × ((List Int) × Unit))) × ((List (List Int)) × ((List Int) × Unit))) × (((List ((List Int) × ((List Int) × Unit))) × ((List (List Int)) × ((List Int) × Unit))) × Unit))) : Option (Bool × Unit) :=
  (FveqNodeS N (x.1.1, x.2.1.1, ())).bind fun r1 =>
  bif !r1.1 then
   some (false, ())
  else
  (FveqIntSS N (x.1.2.1, x.2.1.2.1, ())).bind fun r2 =>
  bif !r2.1 then
   some (false, ())
  else
  (FveqIntS N (x.1.2.2.1, x.2.1.2.2.1, ())).bind fun r3 =>
  bif !r3.1 then
   some (false, ())
  else
  some (true, ())
noncomputable def conveqGraph (N : Nat) : Con := { f := 20, din := dinveqGraph, outs := outveqGraph, F := FveqGraph N }
noncomputable def XveqGraph (N : Nat) : Ctx := { E := EveqGraph N, H := HveqGraph, lp := [], jn := [] }
theorem FveqGraph_eq (N : Nat) (x : (((List ((List Int) × ((List Int) × Unit))) × ((List (List Int)) × ((List Int) × Unit))) × (((List ((List Int) × ((List Int) × Unit))) × ((List (List Int)) × ((List Int) × Unit))) × Unit))) : evFn (XveqGraph N) Try.f20 dinveqGraph outveqGraph x = FveqGraph N x := by kernel_rfl
theorem cxveqGraph (N : Nat) : CtxOk Try.prog (XveqGraph N) := ⟨⟨TE_ok, List.forall_mem_cons.2 ⟨(specveqNodeS N), List.forall_mem_cons.2 ⟨(specveqIntSS N), List.forall_mem_cons.2 ⟨(specveqIntS N), fun k hk => absurd hk List.not_mem_nil⟩⟩⟩⟩, mixed⟩
theorem specveqGraph (N : Nat) : Spec Try.prog (conveqGraph N) :=
  Spec.of_eq (fn_spec (cxveqGraph N) (f := 20) (fn := Try.f20) (c := codeOf Try.f20) (by kernel_rfl) (by kernel_rfl) (by kernel_rfl) (loops_at (ids := []) (by kernel_rfl) (trivial)) (by kernel_rfl)) (fun x r h => (FveqGraph_eq N x).trans h)

/-! ### 22: laws.markIntS -/

noncomputable def dinvmarkIntS : Desc := { n := 2, regs := [.one (.lit (.row 0)), .one (.val (.int .i64))], bx := [(0, .row (.int .i64))], pins := [] }
noncomputable def outvmarkIntS : Outs := [(.ret, { n := 1, regs := [.one (.val (.int .i64))], bx := [(0, .row (.int .i64))], pins := [.one (.lit (.row 0))] })]
noncomputable def HvmarkIntS : Hints := []
noncomputable def EvmarkIntS (_N : Nat) : Env := { te := TE, cs := [] }
noncomputable def dvmarkIntS_0 : Desc := { n := 19, regs := [.one (.lit (.row 0)), .one (.val (.int .i64)), u, u, u, .one (.val (.int .i64))], bx := [(0, .row (.int .i64))], pins := [.one (.lit (.row 0))] }
noncomputable def ovmarkIntS_0 : Outs := [(.exit 0, { n := 19, regs := [u, .one (.val (.int .i64))], bx := [(0, .row (.int .i64))], pins := [.one (.lit (.row 0))] })]
noncomputable def lvmarkIntS_0 (N : Nat) : Nat → (Int × (Int × ((List Int) × Unit))) → Option (Int × ((List Int) × Unit))
  | 0, _ => none
  | n + 1, v =>
    let y1 := decide (v.2.1 < (v.2.2.1.length : Int))
    bif y1 then
     bif decide (0 ≤ v.2.1) then
     bif decide (v.2.1.toNat < v.2.2.1.length) then
     lvmarkIntS_0 N n (w64 (v.1 + (1 : Int)), w64 (v.2.1 + (1 : Int)), v.2.2.1.set v.2.1.toNat v.1, ())
     else none
     else none
    else
    some (v.1, v.2.2.1, ())
noncomputable def FvmarkIntS (N : Nat) (x : (Int × ((List Int) × Unit))) : Option (Int × ((List Int) × Unit)) :=
  (lvmarkIntS_0 N N (x.1, (0 : Int), x.2.1, ())).bind fun o2 =>
  some (o2.1, o2.2.1, ())
noncomputable def convmarkIntS (N : Nat) : Con := { f := 22, din := dinvmarkIntS, outs := outvmarkIntS, F := FvmarkIntS N }
noncomputable def XvmarkIntS (N : Nat) : Ctx := { E := EvmarkIntS N, H := HvmarkIntS, lp := [(0, { hd := dvmarkIntS_0, outs := ovmarkIntS_0, run := fun v => lvmarkIntS_0 N N v })], jn := [] }
noncomputable def bvmarkIntS_0 : Code := loopBody (codeOf Try.f22) 0
theorem FvmarkIntS_eq (N : Nat) (x : (Int × ((List Int) × Unit))) : evFn (XvmarkIntS N) Try.f22 dinvmarkIntS outvmarkIntS x = FvmarkIntS N x := by kernel_rfl
theorem lvmarkIntS_0_eq (N n : Nat) (v : (Int × (Int × ((List Int) × Unit)))) : lvmarkIntS_0 N (n + 1) v = ev (XvmarkIntS N) bvmarkIntS_0 (roundK dvmarkIntS_0 ovmarkIntS_0 (lvmarkIntS_0 N n)) (dvmarkIntS_0.mk' v) := by kernel_rfl
theorem cxvmarkIntS (N : Nat) : CtxOk Try.prog (XvmarkIntS N) := ⟨⟨TE_ok, fun k hk => absurd hk List.not_mem_nil⟩, mixed⟩
theorem lpvmarkIntS_0 (N : Nat) : LoopOk Try.prog { hd := dvmarkIntS_0, outs := ovmarkIntS_0, run := fun v => lvmarkIntS_0 N N v } bvmarkIntS_0 :=
  loop_fuel (d := dvmarkIntS_0) (os := ovmarkIntS_0) (cxvmarkIntS N) (loops_at (ids := []) (by kernel_rfl) (trivial)) (lvmarkIntS_0 N) (fun _ => rfl) (fun n v => lvmarkIntS_0_eq N n v) (fun _ => N)
theorem specvmarkIntS (N : Nat) : Spec Try.prog (convmarkIntS N) :=
  Spec.of_eq (fn_spec (cxvmarkIntS N) (f := 22) (fn := Try.f22) (c := codeOf Try.f22) (by kernel_rfl) (by kernel_rfl) (by kernel_rfl) (loops_at (ids := [0]) (by kernel_rfl) ⟨lp_of (lpvmarkIntS_0 N), trivial⟩) (by kernel_rfl)) (fun x r h => (FvmarkIntS_eq N x).trans h)

/-! ### 70: laws.markNodeS -/

noncomputable def dinvmarkNodeS : Desc := { n := 2, regs := [.one (.lit (.row 0)), .one (.val (.int .i64))], bx := [(0, .row (.pair (.sl (.int .i64)) (.pair (.sl (.int .i64)) .unit)))], pins := [] }
noncomputable def outvmarkNodeS : Outs := [(.ret, { n := 1, regs := [.one (.val (.int .i64))], bx := [(0, .row (.pair (.sl (.int .i64)) (.pair (.sl (.int .i64)) .unit)))], pins := [.one (.lit (.row 0))] })]
noncomputable def HvmarkNodeS : Hints := [(4, [(6, { sg := [(0, 1051624)], pre := [.take 16 1051624], post := [.give 1051624 0] })]),
  (5, [(6, { sg := [(0, 1064424)], pre := [.take 23 1064424], post := [.give 1064424 0] })])]
noncomputable def EvmarkNodeS (N : Nat) : Env := { te := TE, cs := [convmarkIntS N] }
noncomputable def dvmarkNodeS_0 : Desc := { n := 27, regs := [.one (.lit (.row 0)), .one (.val (.int .i64)), u, u, u, .one (.val (.int .i64))], bx := [(0, .row (.pair (.sl (.int .i64)) (.pair (.sl (.int .i64)) .unit)))], pins := [.one (.lit (.row 0))] }
noncomputable def ovmarkNodeS_0 : Outs := [(.exit 0, { n := 27, regs := [u, .one (.val (.int .i64))], bx := [(0, .row (.pair (.sl (.int .i64)) (.pair (.sl (.int .i64)) .unit)))], pins := [.one (.lit (.row 0))] })]
noncomputable def lvmarkNodeS_0 (N : Nat) : Nat → (Int × (Int × ((List ((List Int) × ((List Int) × Unit))) × Unit))) → Option (Int × ((List ((List Int) × ((List Int) × Unit))) × Unit))
  | 0, _ => none
  | n + 1, v =>
    let y1 := decide (v.2.1 < (v.2.2.1.length : Int))
    bif y1 then
     bif decide (0 ≤ v.2.1) then
     bif decide (v.2.1.toNat < v.2.2.1.length) then
     (FvmarkIntS N (v.1, (v.2.2.1.getD v.2.1.toNat (([] : (List Int)), ([] : (List Int)), ())).1, ())).bind fun r2 =>
     bif decide (0 ≤ v.2.1) then
     bif decide (v.2.1.toNat < (v.2.2.1.set v.2.1.toNat (r2.2.1, (v.2.2.1.getD v.2.1.toNat (([] : (List Int)), ([] : (List Int)), ())).2)).length) then
     (FvmarkIntS N (r2.1, (((v.2.2.1.set v.2.1.toNat (r2.2.1, (v.2.2.1.getD v.2.1.toNat (([] : (List Int)), ([] : (List Int)), ())).2)).getD v.2.1.toNat (([] : (List Int)), ([] : (List Int)), ())).2).1, ())).bind fun r3 =>
     lvmarkNodeS_0 N n (r3.1, w64 (v.2.1 + (1 : Int)), (v.2.2.1.set v.2.1.toNat (r2.2.1, (v.2.2.1.getD v.2.1.toNat (([] : (List Int)), ([] : (List Int)), ())).2)).set v.2.1.toNat (((v.2.2.1.set v.2.1.toNat (r2.2.1, (v.2.2.1.getD v.2.1.toNat (([] : (List Int)), ([] : (List Int)), ())).2)).getD v.2.1.toNat (([] : (List Int)), ([] : (List Int)), ())).1, r3.2.1, (((v.2.2.1.set v.2.1.toNat (r2.2.1, (v.2.2.1.getD v.2.1.toNat (([] : (List Int)), ([] : (List Int)), ())).2)).getD v.2.1.toNat (([] : (List Int)), ([] : (List Int)), ())).2).2), ())
     else none
     else none
     else none
     else none
    else
    some (v.1, v.2.2.1, ())
noncomputable def FvmarkNodeS (N : Nat) (x : (Int × ((List ((List Int) × ((List Int) × Unit))) × Unit))) : Option (Int × ((List ((List Int) × ((List Int) × Unit))) × Unit)) :=
  (lvmarkNodeS_0 N N (x.1, (0 : Int), x.2.1, ())).bind fun o4 =>
  some (o4.1, o4.2.1, ())
noncomputable def convmarkNodeS (N : Nat) : Con := { f := 70, din := dinvmarkNodeS, outs := outvmarkNodeS, F := FvmarkNodeS N }
noncomputable def XvmarkNodeS (N : Nat) : Ctx := { E := EvmarkNodeS N, H := HvmarkNodeS, lp := [(0, { hd := dvmarkNodeS_0, outs := ovmarkNodeS_0, run := fun v => lvmarkNodeS_0 N N v })], jn := [] }
noncomputable def bvmarkNodeS_0 : Code := loopBody (codeOf Try.f70) 0
theorem FvmarkNodeS_eq (N : Nat) (x : (Int × ((List ((List Int) × ((List Int) × Unit))) × Unit))) : evFn (XvmarkNodeS N) Try.f70 dinvmarkNodeS outvmarkNodeS x = FvmarkNodeS N x := by kernel_rfl
theorem lvmarkNodeS_0_eq (N n : Nat) (v : (Int × (Int × ((List ((List Int) × ((List Int) × Unit))) × Unit)))) : lvmarkNodeS_0 N (n + 1) v = ev (XvmarkNodeS N) bvmarkNodeS_0 (roundK dvmarkNodeS_0 ovmarkNodeS_0 (lvmarkNodeS_0 N n)) (dvmarkNodeS_0.mk' v) := by kernel_rfl
theorem cxvmarkNodeS (N : Nat) : CtxOk Try.prog (XvmarkNodeS N) := ⟨⟨TE_ok, List.forall_mem_cons.2 ⟨(specvmarkIntS N), fun k hk => absurd hk List.not_mem_nil⟩⟩, mixed⟩
theorem lpvmarkNodeS_0 (N : Nat) : LoopOk Try.prog { hd := dvmarkNodeS_0, outs := ovmarkNodeS_0, run := fun v => lvmarkNodeS_0 N N v } bvmarkNodeS_0 :=
  loop_fuel (d := dvmarkNodeS_0) (os := ovmarkNodeS_0) (cxvmarkNodeS N) (loops_at (ids := []) (by kernel_rfl) (trivial)) (lvmarkNodeS_0 N) (fun _ => rfl) (fun n v => lvmarkNodeS_0_eq N n v) (fun _ => N)
theorem specvmarkNodeS (N : Nat) : Spec Try.prog (convmarkNodeS N) :=
  Spec.of_eq (fn_spec (cxvmarkNodeS N) (f := 70) (fn := Try.f70) (c := codeOf Try.f70) (by kernel_rfl) (by kernel_rfl) (by kernel_rfl) (loops_at (ids := [0]) (by kernel_rfl) ⟨lp_of (lpvmarkNodeS_0 N), trivial⟩) (by kernel_rfl)) (fun x r h => (FvmarkNodeS_eq N x).trans h)

/-! ### 71: laws.markIntSS -/

noncomputable def dinvmarkIntSS : Desc := { n := 2, regs := [.one (.lit (.row 0)), .one (.val (.int .i64))], bx := [(0, .row (.sl (.int .i64)))], pins := [] }
noncomputable def outvmarkIntSS : Outs := [(.ret, { n := 1, regs := [.one (.val (.int .i64))], bx := [(0, .row (.sl (.int .i64)))], pins := [.one (.lit (.row 0))] })]
noncomputable def HvmarkIntSS : Hints := [(4, [(5, { sg := [(0, 1051560)], pre := [.take 15 1051560], post := [.give 1051560 0] })])]
noncomputable def EvmarkIntSS (N : Nat) : Env := { te := TE, cs := [convmarkIntS N] }
noncomputable def dvmarkIntSS_0 : Desc := { n := 19, regs := [.one (.lit (.row 0)), .one (.val (.int .i64)), u, u, u, .one (.val (.int .i64))], bx := [(0, .row (.sl (.int .i64)))], pins := [.one (.lit (.row 0))] }
noncomputable def ovmarkIntSS_0 : Outs := [(.exit 0, { n := 19, regs := [u, .one (.val (.int .i64))], bx := [(0, .row (.sl (.int .i64)))], pins := [.one (.lit (.row 0))] })]
noncomputable def lvmarkIntSS_0 (N : Nat) : Nat → (Int × (Int × ((List (List Int)) × Unit))) → Option (Int × ((List (List Int)) × Unit))
  | 0, _ => none
  | n + 1, v =>
    let y1 := decide (v.2.1 < (v.2.2.1.length : Int))
    bif y1 then
     bif decide (0 ≤ v.2.1) then
     bif decide (v.2.1.toNat < v.2.2.1.length) then
     (FvmarkIntS N (v.1, v.2.2.1.getD v.2.1.toNat ([] : (List Int)), ())).bind fun r2 =>
     lvmarkIntSS_0 N n (r2.1, w64 (v.2.1 + (1 : Int)), v.2.2.1.set v.2.1.toNat r2.2.1, ())
     else none
     else none
    else
    some (v.1, v.2.2.1, ())
noncomputable def FvmarkIntSS (N : Nat) (x : (Int × ((List (List Int)) × Unit))) : Option (Int × ((List (List Int)) × Unit)) :=
  (lvmarkIntSS_0 N N (x.1, (0 : Int), x.2.1, ())).bind fun o3 =>
  some (o3.1, o3.2.1, ())
noncomputable def convmarkIntSS (N : Nat) : Con := { f := 71, din := dinvmarkIntSS, outs := outvmarkIntSS, F := FvmarkIntSS N }
noncomputable def XvmarkIntSS (N : Nat) : Ctx := { E := EvmarkIntSS N, H := HvmarkIntSS, lp := [(0, { hd := dvmarkIntSS_0, outs := ovmarkIntSS_0, run := fun v => lvmarkIntSS_0 N N v })], jn := [] }
noncomputable def bvmarkIntSS_0 : Code := loopBody (codeOf Try.f71) 0
theorem FvmarkIntSS_eq (N : Nat) (x : (Int × ((List (List Int)) × Unit))) : evFn (XvmarkIntSS N) Try.f71 dinvmarkIntSS outvmarkIntSS x = FvmarkIntSS N x := by kernel_rfl
theorem lvmarkIntSS_0_eq (N n : Nat) (v : (Int × (Int × ((List (List Int)) × Unit)))) : lvmarkIntSS_0 N (n + 1) v = ev (XvmarkIntSS N) bvmarkIntSS_0 (roundK dvmarkIntSS_0 ovmarkIntSS_0 (lvmarkIntSS_0 N n)) (dvmarkIntSS_0.mk' v) := by kernel_rfl
theorem cxvmarkIntSS (N : Nat) : CtxOk Try.prog (XvmarkIntSS N) := ⟨⟨TE_ok, List.forall_mem_cons.2 ⟨(specvmarkIntS N), fun k hk => absurd hk List.not_mem_nil⟩⟩, mixed⟩
theorem lpvmarkIntSS_0 (N : Nat) : LoopOk Try.prog { hd := dvmarkIntSS_0, outs := ovmarkIntSS_0, run := fun v => lvmarkIntSS_0 N N v } bvmarkIntSS_0 :=
  loop_fuel (d := dvmarkIntSS_0) (os := ovmarkIntSS_0) (cxvmarkIntSS N) (loops_at (ids := []) (by kernel_rfl) (trivial)) (lvmarkIntSS_0 N) (fun _ => rfl) (fun n v => lvmarkIntSS_0_eq N n v) (fun _ => N)
theorem specvmarkIntSS (N : Nat) : Spec Try.prog (convmarkIntSS N) :=
  Spec.of_eq (fn_spec (cxvmarkIntSS N) (f := 71) (fn := Try.f71) (c := codeOf Try.f71) (by kernel_rfl) (by kernel_rfl) (by kernel_rfl) (loops_at (ids := [0]) (by kernel_rfl) ⟨lp_of (lpvmarkIntSS_0 N), trivial⟩) (by kernel_rfl)) (fun x r h => (FvmarkIntSS_eq N x).trans h)

/-! ### 21: laws.markGraph -/

noncomputable def dinvmarkGraph : Desc := { n := 2, regs := [.agg [.lit (.row 0), .lit (.row 1), .lit (.row 2)], .one (.val (.int .i64))], bx := [(0, .row (.pair (.sl (.int .i64)) (.pair (.sl (.int .i64)) .unit))), (1, .row (.sl (.int .i64))), (2, .row (.int .i64))], pins := [] }
noncomputable def outvmarkGraph : Outs := [(.ret, { n := 1, regs := [.one (.val (.int .i64))], bx := [(0, .row (.pair (.sl (.int .i64)) (.pair (.sl (.int .i64)) .unit))), (1, .row (.sl (.int .i64))), (2, .row (.int .i64))], pins := [.agg [.lit (.row 0), .lit (.row 1), .lit (.row 2)]] })]
noncomputable def HvmarkGraph : Hints := [(2, [(3, { con := 1, sg := [(0, 1)] })]),
  (3, [(3, { con := 2, sg := [(0, 2)] })])]
noncomputable def EvmarkGraph (N : Nat) : Env := { te := TE, cs := [convmarkNodeS N, convmarkIntSS N, convmarkIntS N] }
noncomputable def FvmarkGraph (N : Nat) (x : (Int × ((List ((List Int) × ((List Int) × Unit))) × ((List (List Int)) × ((List Int) × Unit))))) : Option (Int × ((List ((List Int) × ((List Int) × Unit))) × ((List (List Int)) × ((List Int) × Unit)))) :=
  (FvmarkNodeS N (x.1, x.2.1, ())).bind fun r1 =>
  (FvmarkIntSS N (r1.1, x.2.2.1, ())).bind fun r2 =>
  (FvmarkIntS N (r2.1, x.2.2.2.1, ())).bind fun r3 =>
  some (r3.1, r1.2.1, r2.2.1, r3.2.1, ())
noncomputable def convmarkGraph (N : Nat) : Con := { f := 21, din := dinvmarkGraph, outs := outvmarkGraph, F := FvmarkGraph N }
noncomputable def XvmarkGraph (N : Nat) : Ctx := { E := EvmarkGraph N, H := HvmarkGraph, lp := [], jn := [] }
theorem FvmarkGraph_eq (N : Nat) (x : (Int × ((List ((List Int) × ((List Int) × Unit))) × ((List (List Int)) × ((List Int) × Unit))))) : evFn (XvmarkGraph N) Try.f21 dinvmarkGraph outvmarkGraph x = FvmarkGraph N x := by kernel_rfl
theorem cxvmarkGraph (N : Nat) : CtxOk Try.prog (XvmarkGraph N) := ⟨⟨TE_ok, List.forall_mem_cons.2 ⟨(specvmarkNodeS N), List.forall_mem_cons.2 ⟨(specvmarkIntSS N), List.forall_mem_cons.2 ⟨(specvmarkIntS N), fun k hk => absurd hk List.not_mem_nil⟩⟩⟩⟩, mixed⟩
theorem specvmarkGraph (N : Nat) : Spec Try.prog (convmarkGraph N) :=
  Spec.of_eq (fn_spec (cxvmarkGraph N) (f := 21) (fn := Try.f21) (c := codeOf Try.f21) (by kernel_rfl) (by kernel_rfl) (by kernel_rfl) (loops_at (ids := []) (by kernel_rfl) (trivial)) (by kernel_rfl)) (fun x r h => (FvmarkGraph_eq N x).trans h)

/-! ### 23: laws.heldIntS -/

noncomputable def dinvheldIntS : Desc := { n := 2, regs := [.one (.val (.sl (.int .i64))), .one (.val (.int .i64))], bx := [], pins := [] }
noncomputable def outvheldIntS : Outs := [(.ret, { n := 1, regs := [.one (.val (.int .i64))], bx := [], pins := [] })]
noncomputable def HvheldIntS : Hints := []
noncomputable def EvheldIntS (_N : Nat) : Env := { te := TE, cs := [] }
noncomputable def dvheldIntS_0 : Desc := { n := 21, regs := [.one (.val (.sl (.int .i64))), .one (.val (.int .i64)), u, u, u, .one (.val (.int .i64))], bx := [], pins := [] }
noncomputable def ovheldIntS_0 : Outs := [(.exit 0, { n := 21, regs := [u, .one (.val (.int .i64))], bx := [], pins := [] }), (.ret, { n := 21, regs := [u, u, u, u, .one (.val (.int .i64))], bx := [], pins := [] })]
noncomputable def lvheldIntS_0 (N : Nat) : Nat → ((List Int) × (Int × (Int × Unit))) → Option ((Int × Unit) ⊕ (Int × Unit))
  | 0, _ => none
  | n + 1, v =>
    let y1 := decide (v.2.2.1 < (v.1.length : Int))
    bif y1 then
     bif decide (0 ≤ v.2.2.1) then
     bif decide (v.2.2.1.toNat < v.1.length) then
     let y2 := (v.1.getD v.2.2.1.toNat (0 : Int)) != v.2.1
     bif y2 then
      some (.inr (((-1 : Int), ())))
     else
     lvheldIntS_0 N n (v.1, w64 (v.2.1 + (1 : Int)), w64 (v.2.2.1 + (1 : Int)), ())
     else none
     else none
    else
    some (.inl (v.2.1, ()))
noncomputable def FvheldIntS (N : Nat) (x : ((List Int) × (Int × Unit))) : Option (Int × Unit) :=
  (lvheldIntS_0 N N (x.1, x.2.1, (0 : Int), ())).bind fun o3 =>
  Sum.elim (fun o4 =>
   some (o4.1, ())) (fun o5 =>
   some (o5.1, ())) o3
noncomputable def convheldIntS (N : Nat) : Con := { f := 23, din := dinvheldIntS, outs := outvheldIntS, F := FvheldIntS N }
noncomputable def XvheldIntS (N : Nat) : Ctx := { E := EvheldIntS N, H := HvheldIntS, lp := [(0, { hd := dvheldIntS_0, outs := ovheldIntS_0, run := fun v => lvheldIntS_0 N N v })], jn := [] }
noncomputable def bvheldIntS_0 : Code := loopBody (codeOf Try.f23) 0
theorem FvheldIntS_eq (N : Nat) (x : ((List Int) × (Int × Unit))) : evFn (XvheldIntS N) Try.f23 dinvheldIntS outvheldIntS x = FvheldIntS N x := by kernel_rfl
theorem lvheldIntS_0_eq (N n : Nat) (v : ((List Int) × (Int × (Int × Unit)))) : lvheldIntS_0 N (n + 1) v = ev (XvheldIntS N) bvheldIntS_0 (roundK dvheldIntS_0 ovheldIntS_0 (lvheldIntS_0 N n)) (dvheldIntS_0.mk' v) := by kernel_rfl
theorem cxvheldIntS (N : Nat) : CtxOk Try.prog (XvheldIntS N) := ⟨⟨TE_ok, fun k hk => absurd hk List.not_mem_nil⟩, mixed⟩
theorem lpvheldIntS_0 (N : Nat) : LoopOk Try.prog { hd := dvheldIntS_0, outs := ovheldIntS_0, run := fun v => lvheldIntS_0 N N v } bvheldIntS_0 :=
  loop_fuel (d := dvheldIntS_0) (os := ovheldIntS_0) (cxvheldIntS N) (loops_at (ids := []) (by kernel_rfl) (trivial)) (lvheldIntS_0 N) (fun _ => rfl) (fun n v => lvheldIntS_0_eq N n v) (fun _ => N)
theorem specvheldIntS (N : Nat) : Spec Try.prog (convheldIntS N) :=
  Spec.of_eq (fn_spec (cxvheldIntS N) (f := 23) (fn := Try.f23) (c := codeOf Try.f23) (by kernel_rfl) (by kernel_rfl) (by kernel_rfl) (loops_at (ids := [0]) (by kernel_rfl) ⟨lp_of (lpvheldIntS_0 N), trivial⟩) (by kernel_rfl)) (fun x r h => (FvheldIntS_eq N x).trans h)

/-! ### 5: laws.FnExactPathHolds -/

noncomputable def dinvFnExactPathHolds : Desc := { n := 2, regs := [.one (.val (.pair (.sl (.pair (.sl (.int .i64)) (.pair (.sl (.int .i64)) .unit))) (.pair (.sl (.sl (.int .i64))) (.pair (.sl (.int .i64)) .unit)))), .one (.val (.int .i64))], bx := [], pins := [] }
noncomputable def outvFnExactPathHolds : Outs := [(.ret, { n := 1, regs := [.one (.val .bool)], bx := [], pins := [] })]
noncomputable def HvFnExactPathHolds : Hints := [(0, [(0, { fz := true })]),
  (5, [(1, { con := 1 }), (3, { con := 2 })]),
  (6, [(1, { con := 1 })]),
  (7, [(2, { con := 3 })]),
  (8, [(2, { con := 4 })]),
  (10, [(2, { con := 1 }), (3, { con := 5 })]),
  (13, [(2, { con := 6, sg := [(0, 1076865), (1, 1076866), (2, 1076867)] })]),
  (14, [(5, { con := 4 })]),
  (17, [(2, { con := 7, sg := [(0, 1089729)] })]),
  (19, [(2, { con := 8 })]),
  (24, [(1, { con := 1 }), (3, { con := 3 })]),
  (25, [(2, { con := 4 })]),
  (28, [(2, { con := 8 })])]
noncomputable def EvFnExactPathHolds (N : Nat) : Env := { te := TE, cs := [convszGraph N, convtoGraph N, consPathHolds N, coniPathHolds N, conveqIntS N, conveqGraph N, convmarkGraph N, convmarkIntS N, convheldIntS N] }
noncomputable def jvFnExactPathHolds_16 : Outs := [(.normal, { n := 74, regs := [u, .one (.val (.int .i64)), .one (.fpt (.pair (.sl (.pair (.sl (.int .i64)) (.pair (.sl (.int .i64)) .unit))) (.pair (.sl (.sl (.int .i64))) (.pair (.sl (.int .i64)) .unit)))), u, u, u, .one (.lit (.row 1064193)), u, .one (.lit (.row 1089729))], bx := [(1064193, .row (.int .i64)), (1089729, .row (.int .i64))], pins := [] }), (.ret, { n := 74, regs := [u, u, u, u, .one (.val .bool)], bx := [], pins := [] })]
noncomputable def FvFnExactPathHolds (N : Nat) (x : (((List ((List Int) × ((List Int) × Unit))) × ((List (List Int)) × ((List Int) × Unit))) × (Int × Unit))) : Option (Bool × Unit) :=
  (FvszGraph N (x.1, (1048576 : Int), ())).bind fun r1 =>
  bif decide (r1.1 < (0 : Int)) then
   some (true, ())
  else
  (FvtoGraph N (x.1, ())).bind fun r2 =>
  (FsPathHolds N ((r2.1, r2.2.1, r2.2.2.1, ()), x.2.1, ())).bind fun r3 =>
  (FvtoGraph N (x.1, ())).bind fun r4 =>
  (FiPathHolds N ((r4.1, r4.2.1, r4.2.2.1, ()), x.2.1, ())).bind fun r5 =>
  (FveqIntS N (r5.1, r3.1, ())).bind fun r6 =>
  bif !r6.1 then
   some (false, ())
  else
  (FvtoGraph N (x.1, ())).bind fun r7 =>
  (FveqGraph N ((r4.1, r4.2.1, r4.2.2.1, ()), (r7.1, r7.2.1, r7.2.2.1, ()), ())).bind fun r8 =>
  bif !r8.1 then
   some (false, ())
  else
  (FvmarkGraph N ((1 : Int), r4.1, r4.2.1, r4.2.2.1, ())).bind fun r9 =>
  Option.bind (
   bif decide (r9.1 < (0 : Int)) then
    some (.inr ((false, ())))
   else
   (FveqIntS N (r5.1, r3.1, ())).bind fun r10 =>
   bif !r10.1 then
    some (.inr ((false, ())))
   else
   some (.inl (x.2.1, x.1, r3.1, r5.1, ()))) fun o11 =>
  Sum.elim (fun o12 =>
   (FvmarkIntS N ((1 : Int), o12.2.2.2.1, ())).bind fun r13 =>
   (FvheldIntS N (r13.2.1, (1 : Int), ())).bind fun r14 =>
   bif decide (r14.1 < (0 : Int)) then
    some (false, ())
   else
   bif r14.1 != r13.1 then
    some (false, ())
   else
   (FvtoGraph N (o12.2.1, ())).bind fun r15 =>
   (FiPathHolds N ((r15.1, r15.2.1, r15.2.2.1, ()), o12.1, ())).bind fun r16 =>
   (FveqIntS N (r16.1, o12.2.2.1, ())).bind fun r17 =>
   bif !r17.1 then
    some (false, ())
   else
   (FvheldIntS N (r13.2.1, (1 : Int), ())).bind fun r18 =>
   bif decide (r18.1 < (0 : Int)) then
    some (false, ())
   else
   bif r18.1 != r13.1 then
    some (false, ())
   else
   some (true, ())) (fun o19 =>
   some (o19.1, ())) o11
noncomputable def convFnExactPathHolds (N : Nat) : Con := { f := 5, din := dinvFnExactPathHolds, outs := outvFnExactPathHolds, F := FvFnExactPathHolds N }
noncomputable def XvFnExactPathHolds (N : Nat) : Ctx := { E := EvFnExactPathHolds N, H := HvFnExactPathHolds, lp := [], jn := [(16, jvFnExactPathHolds_16)] }
theorem FvFnExactPathHolds_eq (N : Nat) (x : (((List ((List Int) × ((List Int) × Unit))) × ((List (List Int)) × ((List Int) × Unit))) × (Int × Unit))) : evFn (XvFnExactPathHolds N) Try.f5 dinvFnExactPathHolds outvFnExactPathHolds x = FvFnExactPathHolds N x := by kernel_rfl
theorem cxvFnExactPathHolds (N : Nat) : CtxOk Try.prog (XvFnExactPathHolds N) := ⟨⟨TE_ok, List.forall_mem_cons.2 ⟨(specvszGraph N), List.forall_mem_cons.2 ⟨(specvtoGraph N), List.forall_mem_cons.2 ⟨(specsPathHolds N), List.forall_mem_cons.2 ⟨(speciPathHolds N), List.forall_mem_cons.2 ⟨(specveqIntS N), List.forall_mem_cons.2 ⟨(specveqGraph N), List.forall_mem_cons.2 ⟨(specvmarkGraph N), List.forall_mem_cons.2 ⟨(specvmarkIntS N), List.forall_mem_cons.2 ⟨(specvheldIntS N), fun k hk => absurd hk List.not_mem_nil⟩⟩⟩⟩⟩⟩⟩⟩⟩⟩, mixed⟩
theorem specvFnExactPathHolds (N : Nat) : Spec Try.prog (convFnExactPathHolds N) :=
  Spec.of_eq (fn_spec (cxvFnExactPathHolds N) (f := 5) (fn := Try.f5) (c := codeOf Try.f5) (by kernel_rfl) (by kernel_rfl) (by kernel_rfl) (loops_at (ids := []) (by kernel_rfl) (trivial)) (by kernel_rfl)) (fun x r h => (FvFnExactPathHolds_eq N x).trans h)

end Go.Fl

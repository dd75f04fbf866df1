/- Proved: for every input the law FnExactGraphTrim returns true and leaves its arguments as they were. Part 1: the functions that the law reaches, as plain functions, and plain laws about them; no conditions. -/
import Derived.Test.YtjlcdaggbpgpjaaK3
import Derived.Test.YtjlcdaggbpgpjaaProg
set_option linter.all false
-- FUNCS vszIntS vszNode vszNodeS vszIntSS vszGraph vtoIntS vtoNode vtoNodeS vtoIntSS vtoGraph sl5Refs sGraphOk sl5Order sl5Place sl5Named sl5Ints sGraphTrim iGraph_leads_1 kIndexFunc_Sint_int_iGraph_leads_1 kContainsFunc_Sint_int_iGraph_leads_1 iGraph_leads iGraphOk iGraph_met_1 iGraph_met kClone_Sint_int inamed iGraphTrim veqIntS veqNode veqNodeS veqIntSS veqGraph vmarkIntS vmarkNodeS vmarkIntSS vmarkGraph vheldIntS vheldNodeS vheldIntSS vheldGraph vFnExactGraphTrim
set_option maxRecDepth 100000
set_option linter.all false
namespace Go.Fl
open Go Go.Proofs
noncomputable def TE : List (Nat × Ty) := [(3, (.int .i64)),
  (4, .bool),
  (22, (.sl (.pair (.sl (.int .i64)) (.pair (.sl (.int .i64)) .unit)))),
  (23, (.sl (.sl (.int .i64)))),
  (24, (.sl (.int .i64))),
  (26, (.pair (.sl (.pair (.sl (.int .i64)) (.pair (.sl (.int .i64)) .unit))) (.pair (.sl (.sl (.int .i64))) (.pair (.sl (.int .i64)) .unit)))),
  (29, (.sl (.pair (.sl (.int .i64)) (.pair (.sl (.int .i64)) .unit)))),
  (31, (.pair (.sl (.pair (.sl (.int .i64)) (.pair (.sl (.int .i64)) .unit))) (.pair (.sl (.sl (.int .i64))) (.pair (.sl (.int .i64)) .unit)))),
  (44, (.sl .bool)),
  (47, (.pair (.sl (.int .i64)) (.pair (.sl (.int .i64)) .unit))),
  (101, (.mp (.int .i64))),
  (144, (.pair (.sl (.int .i64)) (.pair (.sl (.int .i64)) .unit)))]
theorem TE_ok : TyOk Try.prog TE := tysB_spec (by kernel_rfl)
theorem mixed : Try.prog.follows .mixedOrders = true := by kernel_rfl

/-! ### 61: laws.szIntS -/

noncomputable def dinvszIntS : Desc := { n := 2, regs := [.one (.val (.sl (.int .i64))), .one (.val (.int .i64))], bx := [], pins := [] }
noncomputable def outvszIntS : Outs := [(.ret, { n := 1, regs := [.one (.val (.int .i64))], bx := [], pins := [] })]
noncomputable def HvszIntS : Hints := []
noncomputable def EvszIntS (_N : Nat) : Env := { te := TE, cs := [] }
noncomputable def FvszIntS (N : Nat) (x : ((List Int) × (Int × Unit))) : Option (Int × Unit) :=
  let y1 := decide ((w64 (x.2.1 - (x.1.length : Int))) < (0 : Int))
  bif y1 then
   some ((-1 : Int), ())
  else
  some (w64 (x.2.1 - (x.1.length : Int)), ())
noncomputable def convszIntS (N : Nat) : Con := { f := 61, din := dinvszIntS, outs := outvszIntS, F := FvszIntS N }
noncomputable def XvszIntS (N : Nat) : Ctx := { E := EvszIntS N, H := HvszIntS, lp := [], jn := [] }
theorem FvszIntS_eq (N : Nat) (x : ((List Int) × (Int × Unit))) : evFn (XvszIntS N) Try.f61 dinvszIntS outvszIntS x = FvszIntS N x := by kernel_rfl
theorem cxvszIntS (N : Nat) : CtxOk Try.prog (XvszIntS N) := ⟨⟨TE_ok, fun k hk => absurd hk List.not_mem_nil⟩, mixed⟩
theorem specvszIntS (N : Nat) : Spec Try.prog (convszIntS N) :=
  Spec.of_eq (fn_spec (cxvszIntS N) (f := 61) (fn := Try.f61) (c := codeOf Try.f61) (by kernel_rfl) (by kernel_rfl) (by kernel_rfl) (loops_at (ids := []) (by kernel_rfl) (trivial)) (by kernel_rfl)) (fun x r h => (FvszIntS_eq N x).trans h)

/-! ### 124: laws.szNode -/

noncomputable def dinvszNode : Desc := { n := 2, regs := [.one (.val (.pair (.sl (.int .i64)) (.pair (.sl (.int .i64)) .unit))), .one (.val (.int .i64))], bx := [], pins := [] }
noncomputable def outvszNode : Outs := [(.ret, { n := 1, regs := [.one (.val (.int .i64))], bx := [], pins := [] })]
noncomputable def HvszNode : Hints := [(0, [(0, { fz := true })])]
noncomputable def EvszNode (N : Nat) : Env := { te := TE, cs := [convszIntS N] }
noncomputable def FvszNode (N : Nat) (x : (((List Int) × ((List Int) × Unit)) × (Int × Unit))) : Option (Int × Unit) :=
  (FvszIntS N (x.1.1, x.2.1, ())).bind fun r1 =>
  bif decide (r1.1 < (0 : Int)) then
   some ((-1 : Int), ())
  else
  (FvszIntS N (x.1.2.1, r1.1, ())).bind fun r2 =>
  bif decide (r2.1 < (0 : Int)) then
   some ((-1 : Int), ())
  else
  some (r2.1, ())
noncomputable def convszNode (N : Nat) : Con := { f := 124, din := dinvszNode, outs := outvszNode, F := FvszNode N }
noncomputable def XvszNode (N : Nat) : Ctx := { E := EvszNode N, H := HvszNode, lp := [], jn := [] }
theorem FvszNode_eq (N : Nat) (x : (((List Int) × ((List Int) × Unit)) × (Int × Unit))) : evFn (XvszNode N) Try.f124 dinvszNode outvszNode x = FvszNode N x := by kernel_rfl
theorem cxvszNode (N : Nat) : CtxOk Try.prog (XvszNode N) := ⟨⟨TE_ok, List.forall_mem_cons.2 ⟨specvszIntS N, fun k hk => absurd hk List.not_mem_nil⟩⟩, mixed⟩
theorem specvszNode (N : Nat) : Spec Try.prog (convszNode N) :=
  Spec.of_eq (fn_spec (cxvszNode N) (f := 124) (fn := Try.f124) (c := codeOf Try.f124) (by kernel_rfl) (by kernel_rfl) (by kernel_rfl) (loops_at (ids := []) (by kernel_rfl) (trivial)) (by kernel_rfl)) (fun x r h => (FvszNode_eq N x).trans h)

/-! ### 59: laws.szNodeS -/

noncomputable def dinvszNodeS : Desc := { n := 2, regs := [.one (.val (.sl (.pair (.sl (.int .i64)) (.pair (.sl (.int .i64)) .unit)))), .one (.val (.int .i64))], bx := [], pins := [] }
noncomputable def outvszNodeS : Outs := [(.ret, { n := 1, regs := [.one (.val (.int .i64))], bx := [], pins := [] })]
noncomputable def HvszNodeS : Hints := []
noncomputable def EvszNodeS (N : Nat) : Env := { te := TE, cs := [convszNode N] }
noncomputable def dvszNodeS_0 : Desc := { n := 27, regs := [.one (.val (.sl (.pair (.sl (.int .i64)) (.pair (.sl (.int .i64)) .unit)))), .one (.val (.int .i64)), u, u, u, .one (.val (.int .i64))], bx := [], pins := [] }
noncomputable def ovszNodeS_0 : Outs := [(.exit 0, { n := 27, regs := [u, .one (.val (.int .i64))], bx := [], pins := [] }), (.ret, { n := 27, regs := [u, u, u, u, .one (.val (.int .i64))], bx := [], pins := [] })]
noncomputable def lvszNodeS_0 (N : Nat) : Nat → ((List ((List Int) × ((List Int) × Unit))) × (Int × (Int × Unit))) → Option ((Int × Unit) ⊕ (Int × Unit))
  | 0, _ => none
  | n + 1, v =>
    let y2 := decide (v.2.2.1 < (v.1.length : Int))
    bif y2 then
     bif decide (0 ≤ v.2.2.1) then
     bif decide (v.2.2.1.toNat < v.1.length) then
     let y3 := v.1.getD v.2.2.1.toNat (([] : (List Int)), ([] : (List Int)), ())
     (FvszNode N (y3, v.2.1, ())).bind fun r4 =>
     bif decide (r4.1 < (0 : Int)) then
      some (.inr (((-1 : Int), ())))
     else
     lvszNodeS_0 N n (v.1, r4.1, w64 (v.2.2.1 + (1 : Int)), ())
     else none
     else none
    else
    some (.inl (v.2.1, ()))
noncomputable def FvszNodeS (N : Nat) (x : ((List ((List Int) × ((List Int) × Unit))) × (Int × Unit))) : Option (Int × Unit) :=
  let y1 := decide ((w64 (x.2.1 - (x.1.length : Int))) < (0 : Int))
  bif y1 then
   some ((-1 : Int), ())
  else
  (lvszNodeS_0 N N (x.1, w64 (x.2.1 - (x.1.length : Int)), (0 : Int), ())).bind fun o5 =>
  Sum.elim (fun o6 =>
   some (o6.1, ())) (fun o7 =>
   some (o7.1, ())) o5
noncomputable def convszNodeS (N : Nat) : Con := { f := 59, din := dinvszNodeS, outs := outvszNodeS, F := FvszNodeS N }
noncomputable def XvszNodeS (N : Nat) : Ctx := { E := EvszNodeS N, H := HvszNodeS, lp := [(0, { hd := dvszNodeS_0, outs := ovszNodeS_0, run := fun v => lvszNodeS_0 N N v })], jn := [] }
noncomputable def bvszNodeS_0 : Code := loopBody (codeOf Try.f59) 0
theorem FvszNodeS_eq (N : Nat) (x : ((List ((List Int) × ((List Int) × Unit))) × (Int × Unit))) : evFn (XvszNodeS N) Try.f59 dinvszNodeS outvszNodeS x = FvszNodeS N x := by kernel_rfl
theorem lvszNodeS_0_eq (N n : Nat) (v : ((List ((List Int) × ((List Int) × Unit))) × (Int × (Int × Unit)))) : lvszNodeS_0 N (n + 1) v = ev (XvszNodeS N) bvszNodeS_0 (roundK dvszNodeS_0 ovszNodeS_0 (lvszNodeS_0 N n)) (dvszNodeS_0.mk' v) := by kernel_rfl
theorem cxvszNodeS (N : Nat) : CtxOk Try.prog (XvszNodeS N) := ⟨⟨TE_ok, List.forall_mem_cons.2 ⟨specvszNode N, fun k hk => absurd hk List.not_mem_nil⟩⟩, mixed⟩
theorem lpvszNodeS_0 (N : Nat) : LoopOk Try.prog { hd := dvszNodeS_0, outs := ovszNodeS_0, run := fun v => lvszNodeS_0 N N v } bvszNodeS_0 :=
  loop_fuel (d := dvszNodeS_0) (os := ovszNodeS_0) (cxvszNodeS N) (loops_at (ids := []) (by kernel_rfl) (trivial)) (lvszNodeS_0 N) (fun _ => rfl) (fun n v => lvszNodeS_0_eq N n v) (fun _ => N)
theorem specvszNodeS (N : Nat) : Spec Try.prog (convszNodeS N) :=
  Spec.of_eq (fn_spec (cxvszNodeS N) (f := 59) (fn := Try.f59) (c := codeOf Try.f59) (by kernel_rfl) (by kernel_rfl) (by kernel_rfl) (loops_at (ids := [0]) (by kernel_rfl) ⟨lp_of (lpvszNodeS_0 N), trivial⟩) (by kernel_rfl)) (fun x r h => (FvszNodeS_eq N x).trans h)

/-! ### 60: laws.szIntSS -/

noncomputable def dinvszIntSS : Desc := { n := 2, regs := [.one (.val (.sl (.sl (.int .i64)))), .one (.val (.int .i64))], bx := [], pins := [] }
noncomputable def outvszIntSS : Outs := [(.ret, { n := 1, regs := [.one (.val (.int .i64))], bx := [], pins := [] })]
noncomputable def HvszIntSS : Hints := []
noncomputable def EvszIntSS (N : Nat) : Env := { te := TE, cs := [convszIntS N] }
noncomputable def dvszIntSS_0 : Desc := { n := 27, regs := [.one (.val (.sl (.sl (.int .i64)))), .one (.val (.int .i64)), u, u, u, .one (.val (.int .i64))], bx := [], pins := [] }
noncomputable def ovszIntSS_0 : Outs := [(.exit 0, { n := 27, regs := [u, .one (.val (.int .i64))], bx := [], pins := [] }), (.ret, { n := 27, regs := [u, u, u, u, .one (.val (.int .i64))], bx := [], pins := [] })]
noncomputable def lvszIntSS_0 (N : Nat) : Nat → ((List (List Int)) × (Int × (Int × Unit))) → Option ((Int × Unit) ⊕ (Int × Unit))
  | 0, _ => none
  | n + 1, v =>
    let y2 := decide (v.2.2.1 < (v.1.length : Int))
    bif y2 then
     bif decide (0 ≤ v.2.2.1) then
     bif decide (v.2.2.1.toNat < v.1.length) then
     let y3 := v.1.getD v.2.2.1.toNat ([] : (List Int))
     (FvszIntS N (y3, v.2.1, ())).bind fun r4 =>
     bif decide (r4.1 < (0 : Int)) then
      some (.inr (((-1 : Int), ())))
     else
     lvszIntSS_0 N n (v.1, r4.1, w64 (v.2.2.1 + (1 : Int)), ())
     else none
     else none
    else
    some (.inl (v.2.1, ()))
noncomputable def FvszIntSS (N : Nat) (x : ((List (List Int)) × (Int × Unit))) : Option (Int × Unit) :=
  let y1 := decide ((w64 (x.2.1 - (x.1.length : Int))) < (0 : Int))
  bif y1 then
   some ((-1 : Int), ())
  else
  (lvszIntSS_0 N N (x.1, w64 (x.2.1 - (x.1.length : Int)), (0 : Int), ())).bind fun o5 =>
  Sum.elim (fun o6 =>
   some (o6.1, ())) (fun o7 =>
   some (o7.1, ())) o5
noncomputable def convszIntSS (N : Nat) : Con := { f := 60, din := dinvszIntSS, outs := outvszIntSS, F := FvszIntSS N }
noncomputable def XvszIntSS (N : Nat) : Ctx := { E := EvszIntSS N, H := HvszIntSS, lp := [(0, { hd := dvszIntSS_0, outs := ovszIntSS_0, run := fun v => lvszIntSS_0 N N v })], jn := [] }
noncomputable def bvszIntSS_0 : Code := loopBody (codeOf Try.f60) 0
theorem FvszIntSS_eq (N : Nat) (x : ((List (List Int)) × (Int × Unit))) : evFn (XvszIntSS N) Try.f60 dinvszIntSS outvszIntSS x = FvszIntSS N x := by kernel_rfl
theorem lvszIntSS_0_eq (N n : Nat) (v : ((List (List Int)) × (Int × (Int × Unit)))) : lvszIntSS_0 N (n + 1) v = ev (XvszIntSS N) bvszIntSS_0 (roundK dvszIntSS_0 ovszIntSS_0 (lvszIntSS_0 N n)) (dvszIntSS_0.mk' v) := by kernel_rfl
theorem cxvszIntSS (N : Nat) : CtxOk Try.prog (XvszIntSS N) := ⟨⟨TE_ok, List.forall_mem_cons.2 ⟨specvszIntS N, fun k hk => absurd hk List.not_mem_nil⟩⟩, mixed⟩
theorem lpvszIntSS_0 (N : Nat) : LoopOk Try.prog { hd := dvszIntSS_0, outs := ovszIntSS_0, run := fun v => lvszIntSS_0 N N v } bvszIntSS_0 :=
  loop_fuel (d := dvszIntSS_0) (os := ovszIntSS_0) (cxvszIntSS N) (loops_at (ids := []) (by kernel_rfl) (trivial)) (lvszIntSS_0 N) (fun _ => rfl) (fun n v => lvszIntSS_0_eq N n v) (fun _ => N)
theorem specvszIntSS (N : Nat) : Spec Try.prog (convszIntSS N) :=
  Spec.of_eq (fn_spec (cxvszIntSS N) (f := 60) (fn := Try.f60) (c := codeOf Try.f60) (by kernel_rfl) (by kernel_rfl) (by kernel_rfl) (loops_at (ids := [0]) (by kernel_rfl) ⟨lp_of (lpvszIntSS_0 N), trivial⟩) (by kernel_rfl)) (fun x r h => (FvszIntSS_eq N x).trans h)

/-! ### 15: laws.szGraph -/

noncomputable def dinvszGraph : Desc := { n := 2, regs := [.one (.val (.pair (.sl (.pair (.sl (.int .i64)) (.pair (.sl (.int .i64)) .unit))) (.pair (.sl (.sl (.int .i64))) (.pair (.sl (.int .i64)) .unit)))), .one (.val (.int .i64))], bx := [], pins := [] }
noncomputable def outvszGraph : Outs := [(.ret, { n := 1, regs := [.one (.val (.int .i64))], bx := [], pins := [] })]
noncomputable def HvszGraph : Hints := [(0, [(0, { fz := true })]),
  (4, [(3, { con := 1 })]),
  (7, [(3, { con := 2 })])]
noncomputable def EvszGraph (N : Nat) : Env := { te := TE, cs := [convszNodeS N, convszIntSS N, convszIntS N] }
noncomputable def FvszGraph (N : Nat) (x : (((List ((List Int) × ((List Int) × Unit))) × ((List (List Int)) × ((List Int) × Unit))) × (Int × Unit))) : Option (Int × Unit) :=
  (FvszNodeS N (x.1.1, x.2.1, ())).bind fun r1 =>
  bif decide (r1.1 < (0 : Int)) then
   some ((-1 : Int), ())
  else
  (FvszIntSS N (x.1.2.1, r1.1, ())).bind fun r2 =>
  bif decide (r2.1 < (0 : Int)) then
   some ((-1 : Int), ())
  else
  (FvszIntS N (x.1.2.2.1, r2.1, ())).bind fun r3 =>
  bif decide (r3.1 < (0 : Int)) then
   some ((-1 : Int), ())
  else
  some (r3.1, ())
noncomputable def convszGraph (N : Nat) : Con := { f := 15, din := dinvszGraph, outs := outvszGraph, F := FvszGraph N }
noncomputable def XvszGraph (N : Nat) : Ctx := { E := EvszGraph N, H := HvszGraph, lp := [], jn := [] }
theorem FvszGraph_eq (N : Nat) (x : (((List ((List Int) × ((List Int) × Unit))) × ((List (List Int)) × ((List Int) × Unit))) × (Int × Unit))) : evFn (XvszGraph N) Try.f15 dinvszGraph outvszGraph x = FvszGraph N x := by kernel_rfl
theorem cxvszGraph (N : Nat) : CtxOk Try.prog (XvszGraph N) := ⟨⟨TE_ok, List.forall_mem_cons.2 ⟨specvszNodeS N, List.forall_mem_cons.2 ⟨specvszIntSS N, List.forall_mem_cons.2 ⟨specvszIntS N, fun k hk => absurd hk List.not_mem_nil⟩⟩⟩⟩, mixed⟩
theorem specvszGraph (N : Nat) : Spec Try.prog (convszGraph N) :=
  Spec.of_eq (fn_spec (cxvszGraph N) (f := 15) (fn := Try.f15) (c := codeOf Try.f15) (by kernel_rfl) (by kernel_rfl) (by kernel_rfl) (loops_at (ids := []) (by kernel_rfl) (trivial)) (by kernel_rfl)) (fun x r h => (FvszGraph_eq N x).trans h)

/-! ### 65: laws.toIntS -/

noncomputable def dinvtoIntS : Desc := { n := 1, regs := [.one (.val (.sl (.int .i64)))], bx := [], pins := [] }
noncomputable def outvtoIntS : Outs := [(.ret, { n := 1, regs := [.one (.lit (.row 1012928))], bx := [(1012928, .row (.int .i64))], pins := [] })]
noncomputable def HvtoIntS : Hints := []
noncomputable def EvtoIntS (_N : Nat) : Env := { te := TE, cs := [] }
noncomputable def dvtoIntS_0 : Desc := { n := 22, regs := [.one (.val (.sl (.int .i64))), u, u, .one (.lit (.row 1012928)), .one (.val (.int .i64))], bx := [(1012928, .row (.int .i64))], pins := [] }
noncomputable def ovtoIntS_0 : Outs := [(.exit 0, { n := 22, regs := [u, u, u, .one (.lit (.row 1012928))], bx := [(1012928, .row (.int .i64))], pins := [] })]
noncomputable def lvtoIntS_0 (N : Nat) : Nat → ((List Int) × (Int × ((List Int) × Unit))) → Option ((List Int) × Unit)
  | 0, _ => none
  | n + 1, v =>
    bif decide (v.2.1 < (v.1.length : Int)) then
     bif decide (0 ≤ v.2.1) then
     bif decide (v.2.1.toNat < v.1.length) then
     bif decide (0 ≤ v.2.1) then
     bif decide (v.2.1.toNat < v.2.2.1.length) then
     let y2 := v.2.2.1.set v.2.1.toNat (v.1.getD v.2.1.toNat (0 : Int))
     lvtoIntS_0 N n (v.1, w64 (v.2.1 + (1 : Int)), y2, ())
     else none
     else none
     else none
     else none
    else
    some (v.2.2.1, ())
noncomputable def FvtoIntS (N : Nat) (x : ((List Int) × Unit)) : Option ((List Int) × Unit) :=
  bif decide (0 ≤ (x.1.length : Int)) then
  bif decide ((x.1.length : Int).toNat ≤ lim) then
  let y1 := List.replicate (x.1.length : Int).toNat (0 : Int)
  (lvtoIntS_0 N N (x.1, (0 : Int), y1, ())).bind fun o3 =>
  some (o3.1, ())
  else none
  else none
noncomputable def convtoIntS (N : Nat) : Con := { f := 65, din := dinvtoIntS, outs := outvtoIntS, F := FvtoIntS N }
noncomputable def XvtoIntS (N : Nat) : Ctx := { E := EvtoIntS N, H := HvtoIntS, lp := [(0, { hd := dvtoIntS_0, outs := ovtoIntS_0, run := fun v => lvtoIntS_0 N N v })], jn := [] }
noncomputable def bvtoIntS_0 : Code := loopBody (codeOf Try.f65) 0
theorem FvtoIntS_eq (N : Nat) (x : ((List Int) × Unit)) : evFn (XvtoIntS N) Try.f65 dinvtoIntS outvtoIntS x = FvtoIntS N x := by kernel_rfl
theorem lvtoIntS_0_eq (N n : Nat) (v : ((List Int) × (Int × ((List Int) × Unit)))) : lvtoIntS_0 N (n + 1) v = ev (XvtoIntS N) bvtoIntS_0 (roundK dvtoIntS_0 ovtoIntS_0 (lvtoIntS_0 N n)) (dvtoIntS_0.mk' v) := by kernel_rfl
theorem cxvtoIntS (N : Nat) : CtxOk Try.prog (XvtoIntS N) := ⟨⟨TE_ok, fun k hk => absurd hk List.not_mem_nil⟩, mixed⟩
theorem lpvtoIntS_0 (N : Nat) : LoopOk Try.prog { hd := dvtoIntS_0, outs := ovtoIntS_0, run := fun v => lvtoIntS_0 N N v } bvtoIntS_0 :=
  loop_fuel (d := dvtoIntS_0) (os := ovtoIntS_0) (cxvtoIntS N) (loops_at (ids := []) (by kernel_rfl) (trivial)) (lvtoIntS_0 N) (fun _ => rfl) (fun n v => lvtoIntS_0_eq N n v) (fun _ => N)
theorem specvtoIntS (N : Nat) : Spec Try.prog (convtoIntS N) :=
  Spec.of_eq (fn_spec (cxvtoIntS N) (f := 65) (fn := Try.f65) (c := codeOf Try.f65) (by kernel_rfl) (by kernel_rfl) (by kernel_rfl) (loops_at (ids := [0]) (by kernel_rfl) ⟨lp_of (lpvtoIntS_0 N), trivial⟩) (by kernel_rfl)) (fun x r h => (FvtoIntS_eq N x).trans h)

/-! ### 125: laws.toNode -/

noncomputable def dinvtoNode : Desc := { n := 1, regs := [.one (.val (.pair (.sl (.int .i64)) (.pair (.sl (.int .i64)) .unit)))], bx := [], pins := [] }
noncomputable def outvtoNode : Outs := [(.ret, { n := 1, regs := [.agg [.lit (.row 1025729), .lit (.row 1038529)]], bx := [(1025729, .row (.int .i64)), (1038529, .row (.int .i64))], pins := [] })]
noncomputable def HvtoNode : Hints := [(0, [(0, { fz := true })])]
noncomputable def EvtoNode (N : Nat) : Env := { te := TE, cs := [convtoIntS N] }
noncomputable def FvtoNode (N : Nat) (x : (((List Int) × ((List Int) × Unit)) × Unit)) : Option ((List Int) × ((List Int) × Unit)) :=
  (FvtoIntS N (x.1.1, ())).bind fun r1 =>
  (FvtoIntS N (x.1.2.1, ())).bind fun r2 =>
  some (r1.1, r2.1, ())
noncomputable def convtoNode (N : Nat) : Con := { f := 125, din := dinvtoNode, outs := outvtoNode, F := FvtoNode N }
noncomputable def XvtoNode (N : Nat) : Ctx := { E := EvtoNode N, H := HvtoNode, lp := [], jn := [] }
theorem FvtoNode_eq (N : Nat) (x : (((List Int) × ((List Int) × Unit)) × Unit)) : evFn (XvtoNode N) Try.f125 dinvtoNode outvtoNode x = FvtoNode N x := by kernel_rfl
theorem cxvtoNode (N : Nat) : CtxOk Try.prog (XvtoNode N) := ⟨⟨TE_ok, List.forall_mem_cons.2 ⟨specvtoIntS N, fun k hk => absurd hk List.not_mem_nil⟩⟩, mixed⟩
theorem specvtoNode (N : Nat) : Spec Try.prog (convtoNode N) :=
  Spec.of_eq (fn_spec (cxvtoNode N) (f := 125) (fn := Try.f125) (c := codeOf Try.f125) (by kernel_rfl) (by kernel_rfl) (by kernel_rfl) (loops_at (ids := []) (by kernel_rfl) (trivial)) (by kernel_rfl)) (fun x r h => (FvtoNode_eq N x).trans h)

/-! ### 63: laws.toNodeS -/

noncomputable def dinvtoNodeS : Desc := { n := 1, regs := [.one (.val (.sl (.pair (.sl (.int .i64)) (.pair (.sl (.int .i64)) .unit))))], bx := [], pins := [] }
noncomputable def outvtoNodeS : Outs := [(.ret, { n := 1, regs := [.one (.lit (.row 1012928))], bx := [(1012928, .row (.pair (.sl (.int .i64)) (.pair (.sl (.int .i64)) .unit)))], pins := [] })]
noncomputable def HvtoNodeS : Hints := [(1, [(2, { dp := true })])]
noncomputable def EvtoNodeS (N : Nat) : Env := { te := TE, cs := [convtoNode N] }
noncomputable def dvtoNodeS_0 : Desc := { n := 23, regs := [.one (.val (.sl (.pair (.sl (.int .i64)) (.pair (.sl (.int .i64)) .unit)))), u, u, .one (.lit (.row 1012928)), .one (.val (.int .i64))], bx := [(1012928, .row (.pair (.sl (.int .i64)) (.pair (.sl (.int .i64)) .unit)))], pins := [] }
noncomputable def ovtoNodeS_0 : Outs := [(.exit 0, { n := 23, regs := [u, u, u, .one (.lit (.row 1012928))], bx := [(1012928, .row (.pair (.sl (.int .i64)) (.pair (.sl (.int .i64)) .unit)))], pins := [] })]
noncomputable def lvtoNodeS_0 (N : Nat) : Nat → ((List ((List Int) × ((List Int) × Unit))) × (Int × ((List ((List Int) × ((List Int) × Unit))) × Unit))) → Option ((List ((List Int) × ((List Int) × Unit))) × Unit)
  | 0, _ => none
  | n + 1, v =>
    bif decide (v.2.1 < (v.1.length : Int)) then
     bif decide (0 ≤ v.2.1) then
     bif decide (v.2.1.toNat < v.1.length) then
     let y2 := v.1.getD v.2.1.toNat (([] : (List Int)), ([] : (List Int)), ())
     (FvtoNode N (y2, ())).bind fun r3 =>
     bif decide (0 ≤ v.2.1) then
     bif decide (v.2.1.toNat < v.2.2.1.length) then
     let y4 := v.2.2.1.set v.2.1.toNat (r3.1, r3.2.1, ())
     lvtoNodeS_0 N n (v.1, w64 (v.2.1 + (1 : Int)), y4, ())
     else none
     else none
     else none
     else none
    else
    some (v.2.2.1, ())
noncomputable def FvtoNodeS (N : Nat) (x : ((List ((List Int) × ((List Int) × Unit))) × Unit)) : Option ((List ((List Int) × ((List Int) × Unit))) × Unit) :=
  bif decide (0 ≤ (x.1.length : Int)) then
  bif decide ((x.1.length : Int).toNat ≤ lim) then
  let y1 := List.replicate (x.1.length : Int).toNat (([] : (List Int)), ([] : (List Int)), ())
  (lvtoNodeS_0 N N (x.1, (0 : Int), y1, ())).bind fun o5 =>
  some (o5.1, ())
  else none
  else none
noncomputable def convtoNodeS (N : Nat) : Con := { f := 63, din := dinvtoNodeS, outs := outvtoNodeS, F := FvtoNodeS N }
noncomputable def XvtoNodeS (N : Nat) : Ctx := { E := EvtoNodeS N, H := HvtoNodeS, lp := [(0, { hd := dvtoNodeS_0, outs := ovtoNodeS_0, run := fun v => lvtoNodeS_0 N N v })], jn := [] }
noncomputable def bvtoNodeS_0 : Code := loopBody (codeOf Try.f63) 0
theorem FvtoNodeS_eq (N : Nat) (x : ((List ((List Int) × ((List Int) × Unit))) × Unit)) : evFn (XvtoNodeS N) Try.f63 dinvtoNodeS outvtoNodeS x = FvtoNodeS N x := by kernel_rfl
theorem lvtoNodeS_0_eq (N n : Nat) (v : ((List ((List Int) × ((List Int) × Unit))) × (Int × ((List ((List Int) × ((List Int) × Unit))) × Unit)))) : lvtoNodeS_0 N (n + 1) v = ev (XvtoNodeS N) bvtoNodeS_0 (roundK dvtoNodeS_0 ovtoNodeS_0 (lvtoNodeS_0 N n)) (dvtoNodeS_0.mk' v) := by kernel_rfl
theorem cxvtoNodeS (N : Nat) : CtxOk Try.prog (XvtoNodeS N) := ⟨⟨TE_ok, List.forall_mem_cons.2 ⟨specvtoNode N, fun k hk => absurd hk List.not_mem_nil⟩⟩, mixed⟩
theorem lpvtoNodeS_0 (N : Nat) : LoopOk Try.prog { hd := dvtoNodeS_0, outs := ovtoNodeS_0, run := fun v => lvtoNodeS_0 N N v } bvtoNodeS_0 :=
  loop_fuel (d := dvtoNodeS_0) (os := ovtoNodeS_0) (cxvtoNodeS N) (loops_at (ids := []) (by kernel_rfl) (trivial)) (lvtoNodeS_0 N) (fun _ => rfl) (fun n v => lvtoNodeS_0_eq N n v) (fun _ => N)
theorem specvtoNodeS (N : Nat) : Spec Try.prog (convtoNodeS N) :=
  Spec.of_eq (fn_spec (cxvtoNodeS N) (f := 63) (fn := Try.f63) (c := codeOf Try.f63) (by kernel_rfl) (by kernel_rfl) (by kernel_rfl) (loops_at (ids := [0]) (by kernel_rfl) ⟨lp_of (lpvtoNodeS_0 N), trivial⟩) (by kernel_rfl)) (fun x r h => (FvtoNodeS_eq N x).trans h)

/-! ### 64: laws.toIntSS -/

noncomputable def dinvtoIntSS : Desc := { n := 1, regs := [.one (.val (.sl (.sl (.int .i64))))], bx := [], pins := [] }
noncomputable def outvtoIntSS : Outs := [(.ret, { n := 1, regs := [.one (.lit (.row 1012928))], bx := [(1012928, .row (.sl (.int .i64)))], pins := [] })]
noncomputable def HvtoIntSS : Hints := [(1, [(2, { dp := true })])]
noncomputable def EvtoIntSS (N : Nat) : Env := { te := TE, cs := [convtoIntS N] }
noncomputable def dvtoIntSS_0 : Desc := { n := 23, regs := [.one (.val (.sl (.sl (.int .i64)))), u, u, .one (.lit (.row 1012928)), .one (.val (.int .i64))], bx := [(1012928, .row (.sl (.int .i64)))], pins := [] }
noncomputable def ovtoIntSS_0 : Outs := [(.exit 0, { n := 23, regs := [u, u, u, .one (.lit (.row 1012928))], bx := [(1012928, .row (.sl (.int .i64)))], pins := [] })]
noncomputable def lvtoIntSS_0 (N : Nat) : Nat → ((List (List Int)) × (Int × ((List (List Int)) × Unit))) → Option ((List (List Int)) × Unit)
  | 0, _ => none
  | n + 1, v =>
    bif decide (v.2.1 < (v.1.length : Int)) then
     bif decide (0 ≤ v.2.1) then
     bif decide (v.2.1.toNat < v.1.length) then
     let y2 := v.1.getD v.2.1.toNat ([] : (List Int))
     (FvtoIntS N (y2, ())).bind fun r3 =>
     bif decide (0 ≤ v.2.1) then
     bif decide (v.2.1.toNat < v.2.2.1.length) then
     lvtoIntSS_0 N n (v.1, w64 (v.2.1 + (1 : Int)), v.2.2.1.set v.2.1.toNat r3.1, ())
     else none
     else none
     else none
     else none
    else
    some (v.2.2.1, ())
noncomputable def FvtoIntSS (N : Nat) (x : ((List (List Int)) × Unit)) : Option ((List (List Int)) × Unit) :=
  bif decide (0 ≤ (x.1.length : Int)) then
  bif decide ((x.1.length : Int).toNat ≤ lim) then
  let y1 := List.replicate (x.1.length : Int).toNat ([] : (List Int))
  (lvtoIntSS_0 N N (x.1, (0 : Int), y1, ())).bind fun o4 =>
  some (o4.1, ())
  else none
  else none
noncomputable def convtoIntSS (N : Nat) : Con := { f := 64, din := dinvtoIntSS, outs := outvtoIntSS, F := FvtoIntSS N }
noncomputable def XvtoIntSS (N : Nat) : Ctx := { E := EvtoIntSS N, H := HvtoIntSS, lp := [(0, { hd := dvtoIntSS_0, outs := ovtoIntSS_0, run := fun v => lvtoIntSS_0 N N v })], jn := [] }
noncomputable def bvtoIntSS_0 : Code := loopBody (codeOf Try.f64) 0
theorem FvtoIntSS_eq (N : Nat) (x : ((List (List Int)) × Unit)) : evFn (XvtoIntSS N) Try.f64 dinvtoIntSS outvtoIntSS x = FvtoIntSS N x := by kernel_rfl
theorem lvtoIntSS_0_eq (N n : Nat) (v : ((List (List Int)) × (Int × ((List (List Int)) × Unit)))) : lvtoIntSS_0 N (n + 1) v = ev (XvtoIntSS N) bvtoIntSS_0 (roundK dvtoIntSS_0 ovtoIntSS_0 (lvtoIntSS_0 N n)) (dvtoIntSS_0.mk' v) := by kernel_rfl
theorem cxvtoIntSS (N : Nat) : CtxOk Try.prog (XvtoIntSS N) := ⟨⟨TE_ok, List.forall_mem_cons.2 ⟨specvtoIntS N, fun k hk => absurd hk List.not_mem_nil⟩⟩, mixed⟩
theorem lpvtoIntSS_0 (N : Nat) : LoopOk Try.prog { hd := dvtoIntSS_0, outs := ovtoIntSS_0, run := fun v => lvtoIntSS_0 N N v } bvtoIntSS_0 :=
  loop_fuel (d := dvtoIntSS_0) (os := ovtoIntSS_0) (cxvtoIntSS N) (loops_at (ids := []) (by kernel_rfl) (trivial)) (lvtoIntSS_0 N) (fun _ => rfl) (fun n v => lvtoIntSS_0_eq N n v) (fun _ => N)
theorem specvtoIntSS (N : Nat) : Spec Try.prog (convtoIntSS N) :=
  Spec.of_eq (fn_spec (cxvtoIntSS N) (f := 64) (fn := Try.f64) (c := codeOf Try.f64) (by kernel_rfl) (by kernel_rfl) (by kernel_rfl) (loops_at (ids := [0]) (by kernel_rfl) ⟨lp_of (lpvtoIntSS_0 N), trivial⟩) (by kernel_rfl)) (fun x r h => (FvtoIntSS_eq N x).trans h)

/-! ### 17: laws.toGraph -/

noncomputable def dinvtoGraph : Desc := { n := 1, regs := [.one (.val (.pair (.sl (.pair (.sl (.int .i64)) (.pair (.sl (.int .i64)) .unit))) (.pair (.sl (.sl (.int .i64))) (.pair (.sl (.int .i64)) .unit))))], bx := [], pins := [] }
noncomputable def outvtoGraph : Outs := [(.ret, { n := 1, regs := [.agg [.lit (.row 1025729), .lit (.row 1038529), .lit (.row 1051329)]], bx := [(1025729, .row (.pair (.sl (.int .i64)) (.pair (.sl (.int .i64)) .unit))), (1038529, .row (.sl (.int .i64))), (1051329, .row (.int .i64))], pins := [] })]
noncomputable def HvtoGraph : Hints := [(0, [(0, { fz := true })]),
  (3, [(2, { con := 1 })]),
  (4, [(2, { con := 2 })])]
noncomputable def EvtoGraph (N : Nat) : Env := { te := TE, cs := [convtoNodeS N, convtoIntSS N, convtoIntS N] }
noncomputable def FvtoGraph (N : Nat) (x : (((List ((List Int) × ((List Int) × Unit))) × ((List (List Int)) × ((List Int) × Unit))) × Unit)) : Option ((List ((List Int) × ((List Int) × Unit))) × ((List (List Int)) × ((List Int) × Unit))) :=
  (FvtoNodeS N (x.1.1, ())).bind fun r1 =>
  (FvtoIntSS N (x.1.2.1, ())).bind fun r2 =>
  (FvtoIntS N (x.1.2.2.1, ())).bind fun r3 =>
  some (r1.1, r2.1, r3.1, ())
noncomputable def convtoGraph (N : Nat) : Con := { f := 17, din := dinvtoGraph, outs := outvtoGraph, F := FvtoGraph N }
noncomputable def XvtoGraph (N : Nat) : Ctx := { E := EvtoGraph N, H := HvtoGraph, lp := [], jn := [] }
theorem FvtoGraph_eq (N : Nat) (x : (((List ((List Int) × ((List Int) × Unit))) × ((List (List Int)) × ((List Int) × Unit))) × Unit)) : evFn (XvtoGraph N) Try.f17 dinvtoGraph outvtoGraph x = FvtoGraph N x := by kernel_rfl
theorem cxvtoGraph (N : Nat) : CtxOk Try.prog (XvtoGraph N) := ⟨⟨TE_ok, List.forall_mem_cons.2 ⟨specvtoNodeS N, List.forall_mem_cons.2 ⟨specvtoIntSS N, List.forall_mem_cons.2 ⟨specvtoIntS N, fun k hk => absurd hk List.not_mem_nil⟩⟩⟩⟩, mixed⟩
theorem specvtoGraph (N : Nat) : Spec Try.prog (convtoGraph N) :=
  Spec.of_eq (fn_spec (cxvtoGraph N) (f := 17) (fn := Try.f17) (c := codeOf Try.f17) (by kernel_rfl) (by kernel_rfl) (by kernel_rfl) (loops_at (ids := []) (by kernel_rfl) (trivial)) (by kernel_rfl)) (fun x r h => (FvtoGraph_eq N x).trans h)

/-! ### 91: spec.l5Refs -/

noncomputable def dinsl5Refs : Desc := { n := 2, regs := [.one (.val (.sl (.int .i64))), .one (.val (.int .i64))], bx := [], pins := [] }
noncomputable def outsl5Refs : Outs := [(.ret, { n := 1, regs := [.one (.val .bool)], bx := [], pins := [] })]
noncomputable def Hsl5Refs : Hints := []
noncomputable def Esl5Refs (_N : Nat) : Env := { te := TE, cs := [] }
noncomputable def dsl5Refs_0 : Desc := { n := 25, regs := [.one (.val (.sl (.int .i64))), .one (.val (.int .i64)), u, u, u, .one (.val (.int .i64))], bx := [], pins := [] }
noncomputable def osl5Refs_0 : Outs := [(.exit 0, { n := 25, regs := [], bx := [], pins := [] }), (.ret, { n := 25, regs := [u, u, u, u, .one (.val .bool)], bx := [], pins := [] })]
noncomputable def lsl5Refs_0 (N : Nat) : Nat → ((List Int) × (Int × (Int × Unit))) → Option (Unit ⊕ (Bool × Unit))
  | 0, _ => none
  | n + 1, v =>
    let y1 := decide (v.2.2.1 < (v.1.length : Int))
    bif y1 then
     bif decide (0 ≤ v.2.2.1) then
     bif decide (v.2.2.1.toNat < v.1.length) then
     let y2 := decide ((v.1.getD v.2.2.1.toNat (0 : Int)) < (-1 : Int))
     bif y2 then
      some (.inr ((false, ())))
     else
     bif decide (0 ≤ v.2.2.1) then
     bif decide (v.2.2.1.toNat < v.1.length) then
     let y3 := decide ((v.1.getD v.2.2.1.toNat (0 : Int)) ≥ v.2.1)
     bif y3 then
      some (.inr ((false, ())))
     else
     lsl5Refs_0 N n (v.1, v.2.1, w64 (v.2.2.1 + (1 : Int)), ())
     else none
     else none
     else none
     else none
    else
    some (.inl ())
noncomputable def Fsl5Refs (N : Nat) (x : ((List Int) × (Int × Unit))) : Option (Bool × Unit) :=
  (lsl5Refs_0 N N (x.1, x.2.1, (0 : Int), ())).bind fun o4 =>
  Sum.elim (fun o5 =>
   some (true, ())) (fun o6 =>
   some (o6.1, ())) o4
noncomputable def consl5Refs (N : Nat) : Con := { f := 91, din := dinsl5Refs, outs := outsl5Refs, F := Fsl5Refs N }
noncomputable def Xsl5Refs (N : Nat) : Ctx := { E := Esl5Refs N, H := Hsl5Refs, lp := [(0, { hd := dsl5Refs_0, outs := osl5Refs_0, run := fun v => lsl5Refs_0 N N v })], jn := [] }
noncomputable def bsl5Refs_0 : Code := loopBody (codeOf Try.f91) 0
theorem Fsl5Refs_eq (N : Nat) (x : ((List Int) × (Int × Unit))) : evFn (Xsl5Refs N) Try.f91 dinsl5Refs outsl5Refs x = Fsl5Refs N x := by kernel_rfl
theorem lsl5Refs_0_eq (N n : Nat) (v : ((List Int) × (Int × (Int × Unit)))) : lsl5Refs_0 N (n + 1) v = ev (Xsl5Refs N) bsl5Refs_0 (roundK dsl5Refs_0 osl5Refs_0 (lsl5Refs_0 N n)) (dsl5Refs_0.mk' v) := by kernel_rfl
theorem cxsl5Refs (N : Nat) : CtxOk Try.prog (Xsl5Refs N) := ⟨⟨TE_ok, fun k hk => absurd hk List.not_mem_nil⟩, mixed⟩
theorem lpsl5Refs_0 (N : Nat) : LoopOk Try.prog { hd := dsl5Refs_0, outs := osl5Refs_0, run := fun v => lsl5Refs_0 N N v } bsl5Refs_0 :=
  loop_fuel (d := dsl5Refs_0) (os := osl5Refs_0) (cxsl5Refs N) (loops_at (ids := []) (by kernel_rfl) (trivial)) (lsl5Refs_0 N) (fun _ => rfl) (fun n v => lsl5Refs_0_eq N n v) (fun _ => N)
theorem specsl5Refs (N : Nat) : Spec Try.prog (consl5Refs N) :=
  Spec.of_eq (fn_spec (cxsl5Refs N) (f := 91) (fn := Try.f91) (c := codeOf Try.f91) (by kernel_rfl) (by kernel_rfl) (by kernel_rfl) (loops_at (ids := [0]) (by kernel_rfl) ⟨lp_of (lpsl5Refs_0 N), trivial⟩) (by kernel_rfl)) (fun x r h => (Fsl5Refs_eq N x).trans h)

/-! ### 42: spec.GraphOk -/

noncomputable def dinsGraphOk : Desc := { n := 1, regs := [.one (.val (.pair (.sl (.pair (.sl (.int .i64)) (.pair (.sl (.int .i64)) .unit))) (.pair (.sl (.sl (.int .i64))) (.pair (.sl (.int .i64)) .unit))))], bx := [], pins := [] }
noncomputable def outsGraphOk : Outs := [(.ret, { n := 1, regs := [.one (.val .bool)], bx := [], pins := [] })]
noncomputable def HsGraphOk : Hints := [(0, [(0, { fz := true })])]
noncomputable def EsGraphOk (N : Nat) : Env := { te := TE, cs := [consl5Refs N] }
noncomputable def dsGraphOk_0 : Desc := { n := 105, regs := [u, .one (.fpt (.pair (.sl (.pair (.sl (.int .i64)) (.pair (.sl (.int .i64)) .unit))) (.pair (.sl (.sl (.int .i64))) (.pair (.sl (.int .i64)) .unit)))), u, .one (.val (.int .i64))], bx := [], pins := [] }
noncomputable def osGraphOk_0 : Outs := [(.exit 0, { n := 105, regs := [u, .one (.fpt (.pair (.sl (.pair (.sl (.int .i64)) (.pair (.sl (.int .i64)) .unit))) (.pair (.sl (.sl (.int .i64))) (.pair (.sl (.int .i64)) .unit))))], bx := [], pins := [] }), (.ret, { n := 105, regs := [u, u, .one (.val .bool)], bx := [], pins := [] })]
noncomputable def dsGraphOk_2 : Desc := { n := 105, regs := [u, .one (.fpt (.pair (.sl (.pair (.sl (.int .i64)) (.pair (.sl (.int .i64)) .unit))) (.pair (.sl (.sl (.int .i64))) (.pair (.sl (.int .i64)) .unit)))), u, u, u, .one (.val (.int .i64))], bx := [], pins := [] }
noncomputable def osGraphOk_2 : Outs := [(.exit 2, { n := 105, regs := [u, .one (.fpt (.pair (.sl (.pair (.sl (.int .i64)) (.pair (.sl (.int .i64)) .unit))) (.pair (.sl (.sl (.int .i64))) (.pair (.sl (.int .i64)) .unit))))], bx := [], pins := [] }), (.ret, { n := 105, regs := [u, u, .one (.val .bool)], bx := [], pins := [] })]
noncomputable def dsGraphOk_4 : Desc := { n := 105, regs := [u, .one (.fpt (.pair (.sl (.pair (.sl (.int .i64)) (.pair (.sl (.int .i64)) .unit))) (.pair (.sl (.sl (.int .i64))) (.pair (.sl (.int .i64)) .unit)))), u, u, u, u, .one (.val (.int .i64))], bx := [], pins := [] }
noncomputable def osGraphOk_4 : Outs := [(.exit 4, { n := 105, regs := [u, .one (.fpt (.pair (.sl (.pair (.sl (.int .i64)) (.pair (.sl (.int .i64)) .unit))) (.pair (.sl (.sl (.int .i64))) (.pair (.sl (.int .i64)) .unit))))], bx := [], pins := [] }), (.ret, { n := 105, regs := [u, u, .one (.val .bool)], bx := [], pins := [] })]
noncomputable def jsGraphOk_3 : Outs := [(.normal, { n := 105, regs := [u, .one (.fpt (.pair (.sl (.pair (.sl (.int .i64)) (.pair (.sl (.int .i64)) .unit))) (.pair (.sl (.sl (.int .i64))) (.pair (.sl (.int .i64)) .unit))))], bx := [], pins := [] }), (.ret, { n := 105, regs := [u, u, .one (.val .bool)], bx := [], pins := [] })]
noncomputable def lsGraphOk_0 (N : Nat) : Nat → (((List ((List Int) × ((List Int) × Unit))) × ((List (List Int)) × ((List Int) × Unit))) × (Int × Unit)) → Option ((((List ((List Int) × ((List Int) × Unit))) × ((List (List Int)) × ((List Int) × Unit))) × Unit) ⊕ (Bool × Unit))
  | 0, _ => none
  | n + 1, v =>
    let y6 := decide (v.2.1 < (v.1.1.length : Int))
    bif y6 then
     bif decide (0 ≤ v.2.1) then
     bif decide (v.2.1.toNat < v.1.1.length) then
     let y7 := v.1.1.getD v.2.1.toNat (([] : (List Int)), ([] : (List Int)), ())
     let y8 := decide ((y7.1.length : Int) > (4 : Int))
     bif y8 then
      some (.inr ((false, ())))
     else
     let y9 := decide ((y7.2.1.length : Int) > (4 : Int))
     bif y9 then
      some (.inr ((false, ())))
     else
     (Fsl5Refs N (y7.1, (v.1.1.length : Int), ())).bind fun r10 =>
     bif !r10.1 then
      some (.inr ((false, ())))
     else
     lsGraphOk_0 N n (v.1, w64 (v.2.1 + (1 : Int)), ())
     else none
     else none
    else
    some (.inl (v.1, ()))
noncomputable def lsGraphOk_2 (N : Nat) : Nat → (((List ((List Int) × ((List Int) × Unit))) × ((List (List Int)) × ((List Int) × Unit))) × (Int × Unit)) → Option ((((List ((List Int) × ((List Int) × Unit))) × ((List (List Int)) × ((List Int) × Unit))) × Unit) ⊕ (Bool × Unit))
  | 0, _ => none
  | n + 1, v =>
    let y13 := decide (v.2.1 < (v.1.2.1.length : Int))
    bif y13 then
     bif decide (0 ≤ v.2.1) then
     bif decide (v.2.1.toNat < v.1.2.1.length) then
     let y14 := v.1.2.1.getD v.2.1.toNat ([] : (List Int))
     let y15 := decide ((y14.length : Int) > (8 : Int))
     bif y15 then
      some (.inr ((false, ())))
     else
     bif decide (0 ≤ v.2.1) then
     bif decide (v.2.1.toNat < v.1.2.1.length) then
     let y16 := v.1.2.1.getD v.2.1.toNat ([] : (List Int))
     (Fsl5Refs N (y16, (v.1.1.length : Int), ())).bind fun r17 =>
     bif !r17.1 then
      some (.inr ((false, ())))
     else
     lsGraphOk_2 N n (v.1, w64 (v.2.1 + (1 : Int)), ())
     else none
     else none
     else none
     else none
    else
    some (.inl (v.1, ()))
noncomputable def lsGraphOk_4 (N : Nat) : Nat → (((List ((List Int) × ((List Int) × Unit))) × ((List (List Int)) × ((List Int) × Unit))) × (Int × Unit)) → Option ((((List ((List Int) × ((List Int) × Unit))) × ((List (List Int)) × ((List Int) × Unit))) × Unit) ⊕ (Bool × Unit))
  | 0, _ => none
  | n + 1, v =>
    let y20 := decide (v.2.1 < (v.1.2.2.1.length : Int))
    bif y20 then
     bif decide (0 ≤ v.2.1) then
     bif decide (v.2.1.toNat < v.1.2.2.1.length) then
     let y21 := decide ((v.1.2.2.1.getD v.2.1.toNat (0 : Int)) < (0 : Int))
     bif y21 then
      some (.inr ((false, ())))
     else
     lsGraphOk_4 N n (v.1, w64 (v.2.1 + (1 : Int)), ())
     else none
     else none
    else
    some (.inl (v.1, ()))
noncomputable def FsGraphOk (N : Nat) (x : (((List ((List Int) × ((List Int) × Unit))) × ((List (List Int)) × ((List Int) × Unit))) × Unit)) : Option (Bool × Unit) :=
  Option.bind (
   let y1 := decide ((x.1.1.length : Int) > (200 : Int))
   bif y1 then
    some (.inr ((false, ())))
   else
   let y2 := decide ((x.1.2.1.length : Int) < (1 : Int))
   bif y2 then
    some (.inr ((false, ())))
   else
   let y3 := decide ((x.1.2.1.length : Int) > (3 : Int))
   bif y3 then
    some (.inr ((false, ())))
   else
   some (.inl (x.1, ()))) fun o4 =>
  Sum.elim (fun o5 =>
   (lsGraphOk_0 N N (o5.1, (0 : Int), ())).bind fun o11 =>
   Sum.elim (fun o12 =>
    (lsGraphOk_2 N N (o12.1, (0 : Int), ())).bind fun o18 =>
    Sum.elim (fun o19 =>
     (lsGraphOk_4 N N (o19.1, (0 : Int), ())).bind fun o22 =>
     Sum.elim (fun o23 =>
      let y24 := decide ((o23.1.2.2.1.length : Int) ≤ (8 : Int))
      bif y24 then
       (Fsl5Refs N (o23.1.2.2.1, (o23.1.1.length : Int), ())).bind fun r25 =>
       some (r25.1, ())
      else
      some (false, ())) (fun o26 =>
      some (o26.1, ())) o22) (fun o27 =>
     some (o27.1, ())) o18) (fun o28 =>
    some (o28.1, ())) o11) (fun o29 =>
   some (o29.1, ())) o4
noncomputable def consGraphOk (N : Nat) : Con := { f := 42, din := dinsGraphOk, outs := outsGraphOk, F := FsGraphOk N }
noncomputable def XsGraphOk (N : Nat) : Ctx := { E := EsGraphOk N, H := HsGraphOk, lp := [(0, { hd := dsGraphOk_0, outs := osGraphOk_0, run := fun v => lsGraphOk_0 N N v }), (2, { hd := dsGraphOk_2, outs := osGraphOk_2, run := fun v => lsGraphOk_2 N N v }), (4, { hd := dsGraphOk_4, outs := osGraphOk_4, run := fun v => lsGraphOk_4 N N v })], jn := [(3, jsGraphOk_3)] }
noncomputable def bsGraphOk_4 : Code := loopBody (codeOf Try.f42) 2
noncomputable def bsGraphOk_2 : Code := loopBody (codeOf Try.f42) 1
noncomputable def bsGraphOk_0 : Code := loopBody (codeOf Try.f42) 0
theorem FsGraphOk_eq (N : Nat) (x : (((List ((List Int) × ((List Int) × Unit))) × ((List (List Int)) × ((List Int) × Unit))) × Unit)) : evFn (XsGraphOk N) Try.f42 dinsGraphOk outsGraphOk x = FsGraphOk N x := by kernel_rfl
theorem lsGraphOk_0_eq (N n : Nat) (v : (((List ((List Int) × ((List Int) × Unit))) × ((List (List Int)) × ((List Int) × Unit))) × (Int × Unit))) : lsGraphOk_0 N (n + 1) v = ev (XsGraphOk N) bsGraphOk_0 (roundK dsGraphOk_0 osGraphOk_0 (lsGraphOk_0 N n)) (dsGraphOk_0.mk' v) := by kernel_rfl
theorem lsGraphOk_2_eq (N n : Nat) (v : (((List ((List Int) × ((List Int) × Unit))) × ((List (List Int)) × ((List Int) × Unit))) × (Int × Unit))) : lsGraphOk_2 N (n + 1) v = ev (XsGraphOk N) bsGraphOk_2 (roundK dsGraphOk_2 osGraphOk_2 (lsGraphOk_2 N n)) (dsGraphOk_2.mk' v) := by kernel_rfl
theorem lsGraphOk_4_eq (N n : Nat) (v : (((List ((List Int) × ((List Int) × Unit))) × ((List (List Int)) × ((List Int) × Unit))) × (Int × Unit))) : lsGraphOk_4 N (n + 1) v = ev (XsGraphOk N) bsGraphOk_4 (roundK dsGraphOk_4 osGraphOk_4 (lsGraphOk_4 N n)) (dsGraphOk_4.mk' v) := by kernel_rfl
theorem cxsGraphOk (N : Nat) : CtxOk Try.prog (XsGraphOk N) := ⟨⟨TE_ok, List.forall_mem_cons.2 ⟨specsl5Refs N, fun k hk => absurd hk List.not_mem_nil⟩⟩, mixed⟩
theorem lpsGraphOk_0 (N : Nat) : LoopOk Try.prog { hd := dsGraphOk_0, outs := osGraphOk_0, run := fun v => lsGraphOk_0 N N v } bsGraphOk_0 :=
  loop_fuel (d := dsGraphOk_0) (os := osGraphOk_0) (cxsGraphOk N) (loops_at (ids := []) (by kernel_rfl) (trivial)) (lsGraphOk_0 N) (fun _ => rfl) (fun n v => lsGraphOk_0_eq N n v) (fun _ => N)
theorem lpsGraphOk_2 (N : Nat) : LoopOk Try.prog { hd := dsGraphOk_2, outs := osGraphOk_2, run := fun v => lsGraphOk_2 N N v } bsGraphOk_2 :=
  loop_fuel (d := dsGraphOk_2) (os := osGraphOk_2) (cxsGraphOk N) (loops_at (ids := []) (by kernel_rfl) (trivial)) (lsGraphOk_2 N) (fun _ => rfl) (fun n v => lsGraphOk_2_eq N n v) (fun _ => N)
theorem lpsGraphOk_4 (N : Nat) : LoopOk Try.prog { hd := dsGraphOk_4, outs := osGraphOk_4, run := fun v => lsGraphOk_4 N N v } bsGraphOk_4 :=
  loop_fuel (d := dsGraphOk_4) (os := osGraphOk_4) (cxsGraphOk N) (loops_at (ids := []) (by kernel_rfl) (trivial)) (lsGraphOk_4 N) (fun _ => rfl) (fun n v => lsGraphOk_4_eq N n v) (fun _ => N)
theorem specsGraphOk (N : Nat) : Spec Try.prog (consGraphOk N) :=
  Spec.of_eq (fn_spec (cxsGraphOk N) (f := 42) (fn := Try.f42) (c := codeOf Try.f42) (by kernel_rfl) (by kernel_rfl) (by kernel_rfl) (loops_at (ids := [0, 2, 4]) (by kernel_rfl) ⟨lp_of (lpsGraphOk_0 N), ⟨lp_of (lpsGraphOk_2 N), ⟨lp_of (lpsGraphOk_4 N), trivial⟩⟩⟩) (by kernel_rfl)) (fun x r h => (FsGraphOk_eq N x).trans h)

/-! ### 77: spec.l5Order -/

noncomputable def dinsl5Order : Desc := { n := 1, regs := [.one (.val (.pair (.sl (.pair (.sl (.int .i64)) (.pair (.sl (.int .i64)) .unit))) (.pair (.sl (.sl (.int .i64))) (.pair (.sl (.int .i64)) .unit))))], bx := [], pins := [] }
noncomputable def outsl5Order : Outs := [(.ret, { n := 1, regs := [.one (.lit (.row 1012800))], bx := [(1012800, .row (.int .i64))], pins := [] })]
noncomputable def Hsl5Order : Hints := [(0, [(0, { fz := true })]),
  (1, [(0, { nl := [(0, (.int .i64))] })])]
noncomputable def Esl5Order (_N : Nat) : Env := { te := TE, cs := [] }
noncomputable def dsl5Order_2 : Desc := { n := 138, regs := [u, .one (.fpt (.pair (.sl (.pair (.sl (.int .i64)) (.pair (.sl (.int .i64)) .unit))) (.pair (.sl (.sl (.int .i64))) (.pair (.sl (.int .i64)) .unit)))), u, .one (.lit (.row 1012800)), .one (.lit (.row 1025792)), .one (.val (.int .i64)), .one (.val (.int .i64))], bx := [(1012800, .row (.int .i64)), (1025792, .row .bool)], pins := [] }
noncomputable def osl5Order_2 : Outs := [(.exit 2, { n := 138, regs := [u, .one (.fpt (.pair (.sl (.pair (.sl (.int .i64)) (.pair (.sl (.int .i64)) .unit))) (.pair (.sl (.sl (.int .i64))) (.pair (.sl (.int .i64)) .unit)))), u, .one (.lit (.row 1012800)), .one (.lit (.row 1025792)), .one (.val (.int .i64))], bx := [(1012800, .row (.int .i64)), (1025792, .row .bool)], pins := [] })]
noncomputable def dsl5Order_0 : Desc := { n := 138, regs := [u, .one (.fpt (.pair (.sl (.pair (.sl (.int .i64)) (.pair (.sl (.int .i64)) .unit))) (.pair (.sl (.sl (.int .i64))) (.pair (.sl (.int .i64)) .unit)))), u, .one (.lit (.row 1012800)), .one (.lit (.row 1025792)), .one (.val (.int .i64))], bx := [(1012800, .row (.int .i64)), (1025792, .row .bool)], pins := [] }
noncomputable def osl5Order_0 : Outs := [(.exit 0, { n := 138, regs := [u, .one (.fpt (.pair (.sl (.pair (.sl (.int .i64)) (.pair (.sl (.int .i64)) .unit))) (.pair (.sl (.sl (.int .i64))) (.pair (.sl (.int .i64)) .unit)))), u, .one (.lit (.row 1012800)), .one (.lit (.row 1025792))], bx := [(1012800, .row (.int .i64)), (1025792, .row .bool)], pins := [] })]
noncomputable def dsl5Order_4 : Desc := { n := 138, regs := [u, .one (.fpt (.pair (.sl (.pair (.sl (.int .i64)) (.pair (.sl (.int .i64)) .unit))) (.pair (.sl (.sl (.int .i64))) (.pair (.sl (.int .i64)) .unit)))), u, .one (.lit (.row 1012800)), .one (.lit (.row 1025792)), u, u, u, .one (.val (.int .i64))], bx := [(1012800, .row (.int .i64)), (1025792, .row .bool)], pins := [] }
noncomputable def osl5Order_4 : Outs := [(.exit 4, { n := 138, regs := [u, .one (.fpt (.pair (.sl (.pair (.sl (.int .i64)) (.pair (.sl (.int .i64)) .unit))) (.pair (.sl (.sl (.int .i64))) (.pair (.sl (.int .i64)) .unit)))), u, .one (.lit (.row 1012800)), .one (.lit (.row 1025792))], bx := [(1012800, .row (.int .i64)), (1025792, .row .bool)], pins := [] })]
noncomputable def dsl5Order_8 : Desc := { n := 138, regs := [u, .one (.fpt (.pair (.sl (.pair (.sl (.int .i64)) (.pair (.sl (.int .i64)) .unit))) (.pair (.sl (.sl (.int .i64))) (.pair (.sl (.int .i64)) .unit)))), u, .one (.lit (.row 1012800)), .one (.lit (.row 1025792)), u, u, u, u, .one (.val (.int .i64)), .one (.val (.sl (.int .i64))), .one (.val (.int .i64))], bx := [(1012800, .row (.int .i64)), (1025792, .row .bool)], pins := [] }
noncomputable def osl5Order_8 : Outs := [(.exit 8, { n := 138, regs := [u, .one (.fpt (.pair (.sl (.pair (.sl (.int .i64)) (.pair (.sl (.int .i64)) .unit))) (.pair (.sl (.sl (.int .i64))) (.pair (.sl (.int .i64)) .unit)))), u, .one (.lit (.row 1012800)), .one (.lit (.row 1025792)), u, u, u, u, .one (.val (.int .i64))], bx := [(1012800, .row (.int .i64)), (1025792, .row .bool)], pins := [] })]
noncomputable def dsl5Order_6 : Desc := { n := 138, regs := [u, .one (.fpt (.pair (.sl (.pair (.sl (.int .i64)) (.pair (.sl (.int .i64)) .unit))) (.pair (.sl (.sl (.int .i64))) (.pair (.sl (.int .i64)) .unit)))), u, .one (.lit (.row 1012800)), .one (.lit (.row 1025792)), u, u, u, u, .one (.val (.int .i64))], bx := [(1012800, .row (.int .i64)), (1025792, .row .bool)], pins := [] }
noncomputable def osl5Order_6 : Outs := [(.exit 6, { n := 138, regs := [u, u, u, .one (.lit (.row 1012800))], bx := [(1012800, .row (.int .i64))], pins := [] })]
noncomputable def lsl5Order_2 (N : Nat) : Nat → (((List ((List Int) × ((List Int) × Unit))) × ((List (List Int)) × ((List Int) × Unit))) × (Int × (Int × ((List Int) × ((List Bool) × Unit))))) → Option (((List ((List Int) × ((List Int) × Unit))) × ((List (List Int)) × ((List Int) × Unit))) × (Int × ((List Int) × ((List Bool) × Unit))))
  | 0, _ => none
  | n + 1, v =>
    bif decide (0 ≤ v.2.1) then
    bif decide (v.2.1.toNat < v.1.2.1.length) then
    let y3 := v.1.2.1.getD v.2.1.toNat ([] : (List Int))
    bif decide (v.2.2.1 < (y3.length : Int)) then
     bif decide (0 ≤ v.2.1) then
     bif decide (v.2.1.toNat < v.1.2.1.length) then
     let y4 := v.1.2.1.getD v.2.1.toNat ([] : (List Int))
     bif decide (0 ≤ v.2.2.1) then
     bif decide (v.2.2.1.toNat < y4.length) then
     let y5 := decide ((y4.getD v.2.2.1.toNat (0 : Int)) ≥ (0 : Int))
     bif y5 then
      bif decide (0 ≤ (y4.getD v.2.2.1.toNat (0 : Int))) then
      bif decide ((y4.getD v.2.2.1.toNat (0 : Int)).toNat < v.2.2.2.2.1.length) then
      let y6 := (y4.getD v.2.2.1.toNat (0 : Int)).toNat
      bif !(v.2.2.2.2.1.getD y6 false) then
       bif decide (0 ≤ (y4.getD v.2.2.1.toNat (0 : Int))) then
       bif decide ((y4.getD v.2.2.1.toNat (0 : Int)).toNat < v.2.2.2.2.1.length) then
       let y7 := (y4.getD v.2.2.1.toNat (0 : Int)).toNat
       bif decide (v.2.2.2.1.length + [y4.getD v.2.2.1.toNat (0 : Int)].length ≤ lim) then
       let y8 := v.2.2.2.1 ++ [y4.getD v.2.2.1.toNat (0 : Int)]
       lsl5Order_2 N n (v.1, v.2.1, w64 (v.2.2.1 + (1 : Int)), y8, v.2.2.2.2.1.set y7 true, ())
       else none
       else none
       else none
      else
      lsl5Order_2 N n (v.1, v.2.1, w64 (v.2.2.1 + (1 : Int)), v.2.2.2.1, v.2.2.2.2.1, ())
      else none
      else none
     else
     lsl5Order_2 N n (v.1, v.2.1, w64 (v.2.2.1 + (1 : Int)), v.2.2.2.1, v.2.2.2.2.1, ())
     else none
     else none
     else none
     else none
    else
    some (v.1, v.2.1, v.2.2.2.1, v.2.2.2.2.1, ())
    else none
    else none
noncomputable def lsl5Order_0 (N : Nat) : Nat → (((List ((List Int) × ((List Int) × Unit))) × ((List (List Int)) × ((List Int) × Unit))) × (Int × ((List Int) × ((List Bool) × Unit)))) → Option (((List ((List Int) × ((List Int) × Unit))) × ((List (List Int)) × ((List Int) × Unit))) × ((List Int) × ((List Bool) × Unit)))
  | 0, _ => none
  | n + 1, v =>
    let y2 := decide (v.2.1 < (v.1.2.1.length : Int))
    bif y2 then
     (lsl5Order_2 N N (v.1, v.2.1, (0 : Int), v.2.2.1, v.2.2.2.1, ())).bind fun o9 =>
     lsl5Order_0 N n (o9.1, w64 (o9.2.1 + (1 : Int)), o9.2.2.1, o9.2.2.2.1, ())
    else
    some (v.1, v.2.2.1, v.2.2.2.1, ())
noncomputable def lsl5Order_4 (N : Nat) : Nat → (((List ((List Int) × ((List Int) × Unit))) × ((List (List Int)) × ((List Int) × Unit))) × (Int × ((List Int) × ((List Bool) × Unit)))) → Option (((List ((List Int) × ((List Int) × Unit))) × ((List (List Int)) × ((List Int) × Unit))) × ((List Int) × ((List Bool) × Unit)))
  | 0, _ => none
  | n + 1, v =>
    let y11 := decide (v.2.1 < (v.1.2.2.1.length : Int))
    bif y11 then
     bif decide (0 ≤ v.2.1) then
     bif decide (v.2.1.toNat < v.1.2.2.1.length) then
     bif decide (0 ≤ (v.1.2.2.1.getD v.2.1.toNat (0 : Int))) then
     bif decide ((v.1.2.2.1.getD v.2.1.toNat (0 : Int)).toNat < v.2.2.2.1.length) then
     let y12 := (v.1.2.2.1.getD v.2.1.toNat (0 : Int)).toNat
     bif !(v.2.2.2.1.getD y12 false) then
      bif decide (0 ≤ v.2.1) then
      bif decide (v.2.1.toNat < v.1.2.2.1.length) then
      bif decide (0 ≤ (v.1.2.2.1.getD v.2.1.toNat (0 : Int))) then
      bif decide ((v.1.2.2.1.getD v.2.1.toNat (0 : Int)).toNat < v.2.2.2.1.length) then
      let y13 := (v.1.2.2.1.getD v.2.1.toNat (0 : Int)).toNat
      bif decide (0 ≤ v.2.1) then
      bif decide (v.2.1.toNat < v.1.2.2.1.length) then
      let y14 := [v.1.2.2.1.getD v.2.1.toNat (0 : Int)]
      bif decide (v.2.2.1.length + y14.length ≤ lim) then
      lsl5Order_4 N n (v.1, w64 (v.2.1 + (1 : Int)), v.2.2.1 ++ y14, v.2.2.2.1.set y13 true, ())
      else none
      else none
      else none
      else none
      else none
      else none
      else none
     else
     lsl5Order_4 N n (v.1, w64 (v.2.1 + (1 : Int)), v.2.2.1, v.2.2.2.1, ())
     else none
     else none
     else none
     else none
    else
    some (v.1, v.2.2.1, v.2.2.2.1, ())
noncomputable def lsl5Order_8 (N : Nat) : Nat → (((List ((List Int) × ((List Int) × Unit))) × ((List (List Int)) × ((List Int) × Unit))) × (Int × ((List Int) × (Int × ((List Int) × ((List Bool) × Unit)))))) → Option (((List ((List Int) × ((List Int) × Unit))) × ((List (List Int)) × ((List Int) × Unit))) × (Int × ((List Int) × ((List Bool) × Unit))))
  | 0, _ => none
  | n + 1, v =>
    let y18 := decide (v.2.2.2.1 < (v.2.2.1.length : Int))
    bif y18 then
     bif decide (0 ≤ v.2.2.2.1) then
     bif decide (v.2.2.2.1.toNat < v.2.2.1.length) then
     let y19 := v.2.2.1.getD v.2.2.2.1.toNat (0 : Int)
     bif decide (y19 ≥ (0 : Int)) then
      bif decide (0 ≤ v.2.2.2.1) then
      bif decide (v.2.2.2.1.toNat < v.2.2.1.length) then
      let y20 := v.2.2.1.getD v.2.2.2.1.toNat (0 : Int)
      bif decide (0 ≤ y20) then
      bif decide (y20.toNat < v.2.2.2.2.2.1.length) then
      let y21 := !(v.2.2.2.2.2.1.getD y20.toNat false)
      bif y21 then
       bif decide (0 ≤ v.2.2.2.1) then
       bif decide (v.2.2.2.1.toNat < v.2.2.1.length) then
       let y22 := v.2.2.1.getD v.2.2.2.1.toNat (0 : Int)
       bif decide (0 ≤ y22) then
       bif decide (y22.toNat < v.2.2.2.2.2.1.length) then
       bif decide (0 ≤ v.2.2.2.1) then
       bif decide (v.2.2.2.1.toNat < v.2.2.1.length) then
       let y23 := v.2.2.1.getD v.2.2.2.1.toNat (0 : Int)
       bif decide (v.2.2.2.2.1.length + [y23].length ≤ lim) then
       lsl5Order_8 N n (v.1, v.2.1, v.2.2.1, w64 (v.2.2.2.1 + (1 : Int)), v.2.2.2.2.1 ++ [y23], v.2.2.2.2.2.1.set y22.toNat true, ())
       else none
       else none
       else none
       else none
       else none
       else none
       else none
      else
      lsl5Order_8 N n (v.1, v.2.1, v.2.2.1, w64 (v.2.2.2.1 + (1 : Int)), v.2.2.2.2.1, v.2.2.2.2.2.1, ())
      else none
      else none
      else none
      else none
     else
     lsl5Order_8 N n (v.1, v.2.1, v.2.2.1, w64 (v.2.2.2.1 + (1 : Int)), v.2.2.2.2.1, v.2.2.2.2.2.1, ())
     else none
     else none
    else
    some (v.1, v.2.1, v.2.2.2.2.1, v.2.2.2.2.2.1, ())
noncomputable def lsl5Order_6 (N : Nat) : Nat → (((List ((List Int) × ((List Int) × Unit))) × ((List (List Int)) × ((List Int) × Unit))) × (Int × ((List Int) × ((List Bool) × Unit)))) → Option ((List Int) × Unit)
  | 0, _ => none
  | n + 1, v =>
    let y16 := decide (v.2.1 < (v.2.2.1.length : Int))
    bif y16 then
     bif decide (0 ≤ v.2.1) then
     bif decide (v.2.1.toNat < v.2.2.1.length) then
     bif decide (0 ≤ (v.2.2.1.getD v.2.1.toNat (0 : Int))) then
     bif decide ((v.2.2.1.getD v.2.1.toNat (0 : Int)).toNat < v.1.1.length) then
     let y17 := v.1.1.getD ((v.2.2.1.getD v.2.1.toNat (0 : Int)).toNat) (([] : (List Int)), ([] : (List Int)), ())
     (lsl5Order_8 N N (v.1, v.2.1, y17.1, (0 : Int), v.2.2.1, v.2.2.2.1, ())).bind fun o24 =>
     lsl5Order_6 N n (o24.1, w64 (o24.2.1 + (1 : Int)), o24.2.2.1, o24.2.2.2.1, ())
     else none
     else none
     else none
     else none
    else
    some (v.2.2.1, ())
noncomputable def Fsl5Order (N : Nat) (x : (((List ((List Int) × ((List Int) × Unit))) × ((List (List Int)) × ((List Int) × Unit))) × Unit)) : Option ((List Int) × Unit) :=
  bif decide (0 ≤ (x.1.1.length : Int)) then
  bif decide ((x.1.1.length : Int).toNat ≤ lim) then
  let y1 := List.replicate (x.1.1.length : Int).toNat false
  (lsl5Order_0 N N (x.1, (0 : Int), ([] : (List Int)), y1, ())).bind fun o10 =>
  (lsl5Order_4 N N (o10.1, (0 : Int), o10.2.1, o10.2.2.1, ())).bind fun o15 =>
  (lsl5Order_6 N N (o15.1, (0 : Int), o15.2.1, o15.2.2.1, ())).bind fun o25 =>
  some (o25.1, ())
  else none
  else none
noncomputable def consl5Order (N : Nat) : Con := { f := 77, din := dinsl5Order, outs := outsl5Order, F := Fsl5Order N }
noncomputable def Xsl5Order (N : Nat) : Ctx := { E := Esl5Order N, H := Hsl5Order, lp := [(2, { hd := dsl5Order_2, outs := osl5Order_2, run := fun v => lsl5Order_2 N N v }), (0, { hd := dsl5Order_0, outs := osl5Order_0, run := fun v => lsl5Order_0 N N v }), (4, { hd := dsl5Order_4, outs := osl5Order_4, run := fun v => lsl5Order_4 N N v }), (8, { hd := dsl5Order_8, outs := osl5Order_8, run := fun v => lsl5Order_8 N N v }), (6, { hd := dsl5Order_6, outs := osl5Order_6, run := fun v => lsl5Order_6 N N v })], jn := [] }
noncomputable def bsl5Order_6 : Code := loopBody (codeOf Try.f77) 2
noncomputable def bsl5Order_8 : Code := loopBody bsl5Order_6 0
noncomputable def bsl5Order_4 : Code := loopBody (codeOf Try.f77) 1
noncomputable def bsl5Order_0 : Code := loopBody (codeOf Try.f77) 0
noncomputable def bsl5Order_2 : Code := loopBody bsl5Order_0 0
theorem Fsl5Order_eq (N : Nat) (x : (((List ((List Int) × ((List Int) × Unit))) × ((List (List Int)) × ((List Int) × Unit))) × Unit)) : evFn (Xsl5Order N) Try.f77 dinsl5Order outsl5Order x = Fsl5Order N x := by kernel_rfl
theorem lsl5Order_2_eq (N n : Nat) (v : (((List ((List Int) × ((List Int) × Unit))) × ((List (List Int)) × ((List Int) × Unit))) × (Int × (Int × ((List Int) × ((List Bool) × Unit)))))) : lsl5Order_2 N (n + 1) v = ev (Xsl5Order N) bsl5Order_2 (roundK dsl5Order_2 osl5Order_2 (lsl5Order_2 N n)) (dsl5Order_2.mk' v) := by kernel_rfl
theorem lsl5Order_0_eq (N n : Nat) (v : (((List ((List Int) × ((List Int) × Unit))) × ((List (List Int)) × ((List Int) × Unit))) × (Int × ((List Int) × ((List Bool) × Unit))))) : lsl5Order_0 N (n + 1) v = ev (Xsl5Order N) bsl5Order_0 (roundK dsl5Order_0 osl5Order_0 (lsl5Order_0 N n)) (dsl5Order_0.mk' v) := by kernel_rfl
theorem lsl5Order_4_eq (N n : Nat) (v : (((List ((List Int) × ((List Int) × Unit))) × ((List (List Int)) × ((List Int) × Unit))) × (Int × ((List Int) × ((List Bool) × Unit))))) : lsl5Order_4 N (n + 1) v = ev (Xsl5Order N) bsl5Order_4 (roundK dsl5Order_4 osl5Order_4 (lsl5Order_4 N n)) (dsl5Order_4.mk' v) := by kernel_rfl
theorem lsl5Order_8_eq (N n : Nat) (v : (((List ((List Int) × ((List Int) × Unit))) × ((List (List Int)) × ((List Int) × Unit))) × (Int × ((List Int) × (Int × ((List Int) × ((List Bool) × Unit))))))) : lsl5Order_8 N (n + 1) v = ev (Xsl5Order N) bsl5Order_8 (roundK dsl5Order_8 osl5Order_8 (lsl5Order_8 N n)) (dsl5Order_8.mk' v) := by kernel_rfl
theorem lsl5Order_6_eq (N n : Nat) (v : (((List ((List Int) × ((List Int) × Unit))) × ((List (List Int)) × ((List Int) × Unit))) × (Int × ((List Int) × ((List Bool) × Unit))))) : lsl5Order_6 N (n + 1) v = ev (Xsl5Order N) bsl5Order_6 (roundK dsl5Order_6 osl5Order_6 (lsl5Order_6 N n)) (dsl5Order_6.mk' v) := by kernel_rfl
theorem cxsl5Order (N : Nat) : CtxOk Try.prog (Xsl5Order N) := ⟨⟨TE_ok, fun k hk => absurd hk List.not_mem_nil⟩, mixed⟩
theorem lpsl5Order_2 (N : Nat) : LoopOk Try.prog { hd := dsl5Order_2, outs := osl5Order_2, run := fun v => lsl5Order_2 N N v } bsl5Order_2 :=
  loop_fuel (d := dsl5Order_2) (os := osl5Order_2) (cxsl5Order N) (loops_at (ids := []) (by kernel_rfl) (trivial)) (lsl5Order_2 N) (fun _ => rfl) (fun n v => lsl5Order_2_eq N n v) (fun _ => N)
theorem lpsl5Order_0 (N : Nat) : LoopOk Try.prog { hd := dsl5Order_0, outs := osl5Order_0, run := fun v => lsl5Order_0 N N v } bsl5Order_0 :=
  loop_fuel (d := dsl5Order_0) (os := osl5Order_0) (cxsl5Order N) (loops_at (ids := [2]) (by kernel_rfl) ⟨lp_of (lpsl5Order_2 N), trivial⟩) (lsl5Order_0 N) (fun _ => rfl) (fun n v => lsl5Order_0_eq N n v) (fun _ => N)
theorem lpsl5Order_4 (N : Nat) : LoopOk Try.prog { hd := dsl5Order_4, outs := osl5Order_4, run := fun v => lsl5Order_4 N N v } bsl5Order_4 :=
  loop_fuel (d := dsl5Order_4) (os := osl5Order_4) (cxsl5Order N) (loops_at (ids := []) (by kernel_rfl) (trivial)) (lsl5Order_4 N) (fun _ => rfl) (fun n v => lsl5Order_4_eq N n v) (fun _ => N)
theorem lpsl5Order_8 (N : Nat) : LoopOk Try.prog { hd := dsl5Order_8, outs := osl5Order_8, run := fun v => lsl5Order_8 N N v } bsl5Order_8 :=
  loop_fuel (d := dsl5Order_8) (os := osl5Order_8) (cxsl5Order N) (loops_at (ids := []) (by kernel_rfl) (trivial)) (lsl5Order_8 N) (fun _ => rfl) (fun n v => lsl5Order_8_eq N n v) (fun _ => N)
theorem lpsl5Order_6 (N : Nat) : LoopOk Try.prog { hd := dsl5Order_6, outs := osl5Order_6, run := fun v => lsl5Order_6 N N v } bsl5Order_6 :=
  loop_fuel (d := dsl5Order_6) (os := osl5Order_6) (cxsl5Order N) (loops_at (ids := [8]) (by kernel_rfl) ⟨lp_of (lpsl5Order_8 N), trivial⟩) (lsl5Order_6 N) (fun _ => rfl) (fun n v => lsl5Order_6_eq N n v) (fun _ => N)
theorem specsl5Order (N : Nat) : Spec Try.prog (consl5Order N) :=
  Spec.of_eq (fn_spec (cxsl5Order N) (f := 77) (fn := Try.f77) (c := codeOf Try.f77) (by kernel_rfl) (by kernel_rfl) (by kernel_rfl) (loops_at (ids := [0, 4, 6]) (by kernel_rfl) ⟨lp_of (lpsl5Order_0 N), ⟨lp_of (lpsl5Order_4 N), ⟨lp_of (lpsl5Order_6 N), trivial⟩⟩⟩) (by kernel_rfl)) (fun x r h => (Fsl5Order_eq N x).trans h)

/-! ### 134: spec.l5Place -/

noncomputable def dinsl5Place : Desc := { n := 2, regs := [.one (.val (.sl (.int .i64))), .one (.val (.int .i64))], bx := [], pins := [] }
noncomputable def outsl5Place : Outs := [(.ret, { n := 1, regs := [.one (.val (.int .i64))], bx := [], pins := [] })]
noncomputable def Hsl5Place : Hints := []
noncomputable def Esl5Place (_N : Nat) : Env := { te := TE, cs := [] }
noncomputable def dsl5Place_0 : Desc := { n := 19, regs := [.one (.val (.sl (.int .i64))), .one (.val (.int .i64)), u, u, u, .one (.val (.int .i64))], bx := [], pins := [] }
noncomputable def osl5Place_0 : Outs := [(.exit 0, { n := 19, regs := [], bx := [], pins := [] }), (.ret, { n := 19, regs := [u, u, u, u, .one (.val (.int .i64))], bx := [], pins := [] })]
noncomputable def lsl5Place_0 (N : Nat) : Nat → ((List Int) × (Int × (Int × Unit))) → Option (Unit ⊕ (Int × Unit))
  | 0, _ => none
  | n + 1, v =>
    let y1 := decide (v.2.2.1 < (v.1.length : Int))
    bif y1 then
     bif decide (0 ≤ v.2.2.1) then
     bif decide (v.2.2.1.toNat < v.1.length) then
     let y2 := (v.1.getD v.2.2.1.toNat (0 : Int)) == v.2.1
     bif y2 then
      some (.inr ((v.2.2.1, ())))
     else
     lsl5Place_0 N n (v.1, v.2.1, w64 (v.2.2.1 + (1 : Int)), ())
     else none
     else none
    else
    some (.inl ())
noncomputable def Fsl5Place (N : Nat) (x : ((List Int) × (Int × Unit))) : Option (Int × Unit) :=
  (lsl5Place_0 N N (x.1, x.2.1, (0 : Int), ())).bind fun o3 =>
  Sum.elim (fun o4 =>
   some ((-1 : Int), ())) (fun o5 =>
   some (o5.1, ())) o3
noncomputable def consl5Place (N : Nat) : Con := { f := 134, din := dinsl5Place, outs := outsl5Place, F := Fsl5Place N }
noncomputable def Xsl5Place (N : Nat) : Ctx := { E := Esl5Place N, H := Hsl5Place, lp := [(0, { hd := dsl5Place_0, outs := osl5Place_0, run := fun v => lsl5Place_0 N N v })], jn := [] }
noncomputable def bsl5Place_0 : Code := loopBody (codeOf Try.f134) 0
theorem Fsl5Place_eq (N : Nat) (x : ((List Int) × (Int × Unit))) : evFn (Xsl5Place N) Try.f134 dinsl5Place outsl5Place x = Fsl5Place N x := by kernel_rfl
theorem lsl5Place_0_eq (N n : Nat) (v : ((List Int) × (Int × (Int × Unit)))) : lsl5Place_0 N (n + 1) v = ev (Xsl5Place N) bsl5Place_0 (roundK dsl5Place_0 osl5Place_0 (lsl5Place_0 N n)) (dsl5Place_0.mk' v) := by kernel_rfl
theorem cxsl5Place (N : Nat) : CtxOk Try.prog (Xsl5Place N) := ⟨⟨TE_ok, fun k hk => absurd hk List.not_mem_nil⟩, mixed⟩
theorem lpsl5Place_0 (N : Nat) : LoopOk Try.prog { hd := dsl5Place_0, outs := osl5Place_0, run := fun v => lsl5Place_0 N N v } bsl5Place_0 :=
  loop_fuel (d := dsl5Place_0) (os := osl5Place_0) (cxsl5Place N) (loops_at (ids := []) (by kernel_rfl) (trivial)) (lsl5Place_0 N) (fun _ => rfl) (fun n v => lsl5Place_0_eq N n v) (fun _ => N)
theorem specsl5Place (N : Nat) : Spec Try.prog (consl5Place N) :=
  Spec.of_eq (fn_spec (cxsl5Place N) (f := 134) (fn := Try.f134) (c := codeOf Try.f134) (by kernel_rfl) (by kernel_rfl) (by kernel_rfl) (loops_at (ids := [0]) (by kernel_rfl) ⟨lp_of (lpsl5Place_0 N), trivial⟩) (by kernel_rfl)) (fun x r h => (Fsl5Place_eq N x).trans h)

/-! ### 78: spec.l5Named -/

noncomputable def dinsl5Named : Desc := { n := 2, regs := [.one (.val (.sl (.int .i64))), .one (.val (.sl (.int .i64)))], bx := [], pins := [] }
noncomputable def outsl5Named : Outs := [(.ret, { n := 1, regs := [.one (.lit (.row 1012800))], bx := [(1012800, .row (.int .i64))], pins := [] })]
noncomputable def Hsl5Named : Hints := [(1, [(0, { nl := [(0, (.int .i64))] })])]
noncomputable def Esl5Named (N : Nat) : Env := { te := TE, cs := [consl5Place N] }
noncomputable def dsl5Named_0 : Desc := { n := 23, regs := [.one (.val (.sl (.int .i64))), .one (.val (.sl (.int .i64))), u, u, u, .one (.lit (.row 1012800)), .one (.val (.int .i64))], bx := [(1012800, .row (.int .i64))], pins := [] }
noncomputable def osl5Named_0 : Outs := [(.exit 0, { n := 23, regs := [u, u, u, u, u, .one (.lit (.row 1012800))], bx := [(1012800, .row (.int .i64))], pins := [] })]
noncomputable def lsl5Named_0 (N : Nat) : Nat → ((List Int) × ((List Int) × (Int × ((List Int) × Unit)))) → Option ((List Int) × Unit)
  | 0, _ => none
  | n + 1, v =>
    let y1 := decide (v.2.2.1 < (v.1.length : Int))
    bif y1 then
     bif decide (0 ≤ v.2.2.1) then
     bif decide (v.2.2.1.toNat < v.1.length) then
     (Fsl5Place N (v.2.1, v.1.getD v.2.2.1.toNat (0 : Int), ())).bind fun r2 =>
     bif decide (v.2.2.2.1.length + [r2.1].length ≤ lim) then
     lsl5Named_0 N n (v.1, v.2.1, w64 (v.2.2.1 + (1 : Int)), v.2.2.2.1 ++ [r2.1], ())
     else none
     else none
     else none
    else
    some (v.2.2.2.1, ())
noncomputable def Fsl5Named (N : Nat) (x : ((List Int) × ((List Int) × Unit))) : Option ((List Int) × Unit) :=
  (lsl5Named_0 N N (x.1, x.2.1, (0 : Int), ([] : (List Int)), ())).bind fun o3 =>
  some (o3.1, ())
noncomputable def consl5Named (N : Nat) : Con := { f := 78, din := dinsl5Named, outs := outsl5Named, F := Fsl5Named N }
noncomputable def Xsl5Named (N : Nat) : Ctx := { E := Esl5Named N, H := Hsl5Named, lp := [(0, { hd := dsl5Named_0, outs := osl5Named_0, run := fun v => lsl5Named_0 N N v })], jn := [] }
noncomputable def bsl5Named_0 : Code := loopBody (codeOf Try.f78) 0
theorem Fsl5Named_eq (N : Nat) (x : ((List Int) × ((List Int) × Unit))) : evFn (Xsl5Named N) Try.f78 dinsl5Named outsl5Named x = Fsl5Named N x := by kernel_rfl
theorem lsl5Named_0_eq (N n : Nat) (v : ((List Int) × ((List Int) × (Int × ((List Int) × Unit))))) : lsl5Named_0 N (n + 1) v = ev (Xsl5Named N) bsl5Named_0 (roundK dsl5Named_0 osl5Named_0 (lsl5Named_0 N n)) (dsl5Named_0.mk' v) := by kernel_rfl
theorem cxsl5Named (N : Nat) : CtxOk Try.prog (Xsl5Named N) := ⟨⟨TE_ok, List.forall_mem_cons.2 ⟨specsl5Place N, fun k hk => absurd hk List.not_mem_nil⟩⟩, mixed⟩
theorem lpsl5Named_0 (N : Nat) : LoopOk Try.prog { hd := dsl5Named_0, outs := osl5Named_0, run := fun v => lsl5Named_0 N N v } bsl5Named_0 :=
  loop_fuel (d := dsl5Named_0) (os := osl5Named_0) (cxsl5Named N) (loops_at (ids := []) (by kernel_rfl) (trivial)) (lsl5Named_0 N) (fun _ => rfl) (fun n v => lsl5Named_0_eq N n v) (fun _ => N)
theorem specsl5Named (N : Nat) : Spec Try.prog (consl5Named N) :=
  Spec.of_eq (fn_spec (cxsl5Named N) (f := 78) (fn := Try.f78) (c := codeOf Try.f78) (by kernel_rfl) (by kernel_rfl) (by kernel_rfl) (loops_at (ids := [0]) (by kernel_rfl) ⟨lp_of (lpsl5Named_0 N), trivial⟩) (by kernel_rfl)) (fun x r h => (Fsl5Named_eq N x).trans h)

/-! ### 79: spec.l5Ints -/

noncomputable def dinsl5Ints : Desc := { n := 1, regs := [.one (.val (.sl (.int .i64)))], bx := [], pins := [] }
noncomputable def outsl5Ints : Outs := [(.ret, { n := 1, regs := [.one (.lit (.row 1012800))], bx := [(1012800, .row (.int .i64))], pins := [] })]
noncomputable def Hsl5Ints : Hints := []
noncomputable def Esl5Ints (_N : Nat) : Env := { te := TE, cs := [] }
noncomputable def Fsl5Ints (N : Nat) (x : ((List Int) × Unit)) : Option ((List Int) × Unit) :=
  bif decide (([] : (List Int)).length + x.1.length ≤ lim) then
  some (([] : (List Int)) ++ x.1, ())
  else none
noncomputable def consl5Ints (N : Nat) : Con := { f := 79, din := dinsl5Ints, outs := outsl5Ints, F := Fsl5Ints N }
noncomputable def Xsl5Ints (N : Nat) : Ctx := { E := Esl5Ints N, H := Hsl5Ints, lp := [], jn := [] }
theorem Fsl5Ints_eq (N : Nat) (x : ((List Int) × Unit)) : evFn (Xsl5Ints N) Try.f79 dinsl5Ints outsl5Ints x = Fsl5Ints N x := by kernel_rfl
theorem cxsl5Ints (N : Nat) : CtxOk Try.prog (Xsl5Ints N) := ⟨⟨TE_ok, fun k hk => absurd hk List.not_mem_nil⟩, mixed⟩
theorem specsl5Ints (N : Nat) : Spec Try.prog (consl5Ints N) :=
  Spec.of_eq (fn_spec (cxsl5Ints N) (f := 79) (fn := Try.f79) (c := codeOf Try.f79) (by kernel_rfl) (by kernel_rfl) (by kernel_rfl) (loops_at (ids := []) (by kernel_rfl) (trivial)) (by kernel_rfl)) (fun x r h => (Fsl5Ints_eq N x).trans h)

/-! ### 28: spec.GraphTrim -/

noncomputable def dinsGraphTrim : Desc := { n := 1, regs := [.one (.val (.pair (.sl (.pair (.sl (.int .i64)) (.pair (.sl (.int .i64)) .unit))) (.pair (.sl (.sl (.int .i64))) (.pair (.sl (.int .i64)) .unit))))], bx := [], pins := [] }
noncomputable def outsGraphTrim : Outs := [(.ret, { n := 1, regs := [.agg [.lit (.row 1025601), .lit (.row 1025602), .lit (.row 1025603)]], bx := [(1025601, .row (.pair (.sl (.int .i64)) (.pair (.sl (.int .i64)) .unit))), (1025602, .row (.sl (.int .i64))), (1025603, .row (.int .i64))], pins := [] })]
noncomputable def HsGraphTrim : Hints := [(0, [(0, { fz := true })]),
  (2, [(0, { nl := [(0, (.pair (.sl (.int .i64)) (.pair (.sl (.int .i64)) .unit))), (1, (.sl (.int .i64))), (2, (.int .i64))] })]),
  (3, [(1, { con := 1 })]),
  (4, [(0, { nl := [(0, (.pair (.sl (.int .i64)) (.pair (.sl (.int .i64)) .unit))), (1, (.sl (.int .i64)))] })]),
  (9, [(5, { con := 2 }), (8, { con := 3 }), (10, { dp := true }), (11, { dp := true })]),
  (13, [(8, { con := 2 }), (9, { dp := true }), (10, { dp := true })]),
  (14, [(3, { con := 2 })])]
noncomputable def EsGraphTrim (N : Nat) : Env := { te := TE, cs := [consGraphOk N, consl5Order N, consl5Named N, consl5Ints N] }
noncomputable def dsGraphTrim_0 : Desc := { n := 67, regs := [u, .one (.fpt (.pair (.sl (.pair (.sl (.int .i64)) (.pair (.sl (.int .i64)) .unit))) (.pair (.sl (.sl (.int .i64))) (.pair (.sl (.int .i64)) .unit)))), .one (.lit (.ptr 1000064 0)), .one (.lit (.row 1038465)), .one (.lit (.ptr 1051264 0)), .one (.val (.int .i64))], bx := [(1000064, .var [.lit .nil, .lit .nil, .lit .nil]), (1038465, .row (.int .i64)), (1051264, .var [.lit (.row 1051201), .lit (.row 1051202), .lit .nil]), (1051201, .row (.pair (.sl (.int .i64)) (.pair (.sl (.int .i64)) .unit))), (1051202, .row (.sl (.int .i64)))], pins := [] }
noncomputable def osGraphTrim_0 : Outs := [(.exit 0, { n := 67, regs := [u, .one (.fpt (.pair (.sl (.pair (.sl (.int .i64)) (.pair (.sl (.int .i64)) .unit))) (.pair (.sl (.sl (.int .i64))) (.pair (.sl (.int .i64)) .unit)))), .one (.lit (.ptr 1000064 0)), .one (.lit (.row 1038465)), .one (.lit (.ptr 1051264 0))], bx := [(1000064, .var [.lit .nil, .lit .nil, .lit .nil]), (1038465, .row (.int .i64)), (1051264, .var [.lit (.row 1051201), .lit (.row 1051202), .lit .nil]), (1051201, .row (.pair (.sl (.int .i64)) (.pair (.sl (.int .i64)) .unit))), (1051202, .row (.sl (.int .i64)))], pins := [] })]
noncomputable def dsGraphTrim_2 : Desc := { n := 67, regs := [u, .one (.fpt (.pair (.sl (.pair (.sl (.int .i64)) (.pair (.sl (.int .i64)) .unit))) (.pair (.sl (.sl (.int .i64))) (.pair (.sl (.int .i64)) .unit)))), .one (.lit (.ptr 1000064 0)), .one (.lit (.row 1038465)), .one (.lit (.ptr 1051264 0)), u, u, .one (.val (.int .i64))], bx := [(1000064, .var [.lit .nil, .lit .nil, .lit .nil]), (1038465, .row (.int .i64)), (1051264, .var [.lit (.row 1051201), .lit (.row 1051202), .lit .nil]), (1051201, .row (.pair (.sl (.int .i64)) (.pair (.sl (.int .i64)) .unit))), (1051202, .row (.sl (.int .i64)))], pins := [] }
noncomputable def osGraphTrim_2 : Outs := [(.exit 2, { n := 67, regs := [u, .one (.fpt (.pair (.sl (.pair (.sl (.int .i64)) (.pair (.sl (.int .i64)) .unit))) (.pair (.sl (.sl (.int .i64))) (.pair (.sl (.int .i64)) .unit)))), .one (.lit (.ptr 1000064 0)), .one (.lit (.row 1038465)), .one (.lit (.ptr 1051264 0))], bx := [(1000064, .var [.lit .nil, .lit .nil, .lit .nil]), (1038465, .row (.int .i64)), (1051264, .var [.lit (.row 1051201), .lit (.row 1051202), .lit .nil]), (1051201, .row (.pair (.sl (.int .i64)) (.pair (.sl (.int .i64)) .unit))), (1051202, .row (.sl (.int .i64)))], pins := [] })]
noncomputable def lsGraphTrim_0 (N : Nat) : Nat → (((List ((List Int) × ((List Int) × Unit))) × ((List (List Int)) × ((List Int) × Unit))) × (Int × ((List Int) × ((List ((List Int) × ((List Int) × Unit))) × ((List (List Int)) × Unit))))) → Option (((List ((List Int) × ((List Int) × Unit))) × ((List (List Int)) × ((List Int) × Unit))) × ((List Int) × ((List ((List Int) × ((List Int) × Unit))) × ((List (List Int)) × Unit))))
  | 0, _ => none
  | n + 1, v =>
    let y5 := decide (v.2.1 < (v.2.2.1.length : Int))
    bif y5 then
     bif decide (0 ≤ v.2.1) then
     bif decide (v.2.1.toNat < v.2.2.1.length) then
     bif decide (0 ≤ (v.2.2.1.getD v.2.1.toNat (0 : Int))) then
     bif decide ((v.2.2.1.getD v.2.1.toNat (0 : Int)).toNat < v.1.1.length) then
     let y6 := v.1.1.getD ((v.2.2.1.getD v.2.1.toNat (0 : Int)).toNat) (([] : (List Int)), ([] : (List Int)), ())
     (Fsl5Named N (y6.1, v.2.2.1, ())).bind fun r7 =>
     (Fsl5Ints N (y6.2.1, ())).bind fun r8 =>
     bif decide (v.2.2.2.1.length + [(r7.1, r8.1, ())].length ≤ lim) then
     lsGraphTrim_0 N n (v.1, w64 (v.2.1 + (1 : Int)), v.2.2.1, v.2.2.2.1 ++ [(r7.1, r8.1, ())], v.2.2.2.2.1, ())
     else none
     else none
     else none
     else none
     else none
    else
    some (v.1, v.2.2.1, v.2.2.2.1, v.2.2.2.2.1, ())
noncomputable def lsGraphTrim_2 (N : Nat) : Nat → (((List ((List Int) × ((List Int) × Unit))) × ((List (List Int)) × ((List Int) × Unit))) × (Int × ((List Int) × ((List ((List Int) × ((List Int) × Unit))) × ((List (List Int)) × Unit))))) → Option (((List ((List Int) × ((List Int) × Unit))) × ((List (List Int)) × ((List Int) × Unit))) × ((List Int) × ((List ((List Int) × ((List Int) × Unit))) × ((List (List Int)) × Unit))))
  | 0, _ => none
  | n + 1, v =>
    let y10 := decide (v.2.1 < (v.1.2.1.length : Int))
    bif y10 then
     bif decide (0 ≤ v.2.1) then
     bif decide (v.2.1.toNat < v.1.2.1.length) then
     let y11 := v.1.2.1.getD v.2.1.toNat ([] : (List Int))
     (Fsl5Named N (y11, v.2.2.1, ())).bind fun r12 =>
     bif decide (v.2.2.2.2.1.length + [r12.1].length ≤ lim) then
     lsGraphTrim_2 N n (v.1, w64 (v.2.1 + (1 : Int)), v.2.2.1, v.2.2.2.1, v.2.2.2.2.1 ++ [r12.1], ())
     else none
     else none
     else none
    else
    some (v.1, v.2.2.1, v.2.2.2.1, v.2.2.2.2.1, ())
noncomputable def FsGraphTrim (N : Nat) (x : (((List ((List Int) × ((List Int) × Unit))) × ((List (List Int)) × ((List Int) × Unit))) × Unit)) : Option ((List ((List Int) × ((List Int) × Unit))) × ((List (List Int)) × ((List Int) × Unit))) :=
  (FsGraphOk N (x.1, ())).bind fun r1 =>
  bif !r1.1 then
   let y2 := ([] : (List ((List Int) × ((List Int) × Unit))))
   some (y2, ([] : (List (List Int))), ([] : (List Int)), ())
  else
  (Fsl5Order N (x.1, ())).bind fun r3 =>
  let y4 := ([] : (List ((List Int) × ((List Int) × Unit))))
  (lsGraphTrim_0 N N (x.1, (0 : Int), r3.1, y4, ([] : (List (List Int))), ())).bind fun o9 =>
  (lsGraphTrim_2 N N (o9.1, (0 : Int), o9.2.1, o9.2.2.1, o9.2.2.2.1, ())).bind fun o13 =>
  (Fsl5Named N (o13.1.2.2.1, o13.2.1, ())).bind fun r14 =>
  some (o13.2.2.1, o13.2.2.2.1, r14.1, ())
noncomputable def consGraphTrim (N : Nat) : Con := { f := 28, din := dinsGraphTrim, outs := outsGraphTrim, F := FsGraphTrim N }
noncomputable def XsGraphTrim (N : Nat) : Ctx := { E := EsGraphTrim N, H := HsGraphTrim, lp := [(0, { hd := dsGraphTrim_0, outs := osGraphTrim_0, run := fun v => lsGraphTrim_0 N N v }), (2, { hd := dsGraphTrim_2, outs := osGraphTrim_2, run := fun v => lsGraphTrim_2 N N v })], jn := [] }
noncomputable def bsGraphTrim_2 : Code := loopBody (codeOf Try.f28) 1
noncomputable def bsGraphTrim_0 : Code := loopBody (codeOf Try.f28) 0
theorem FsGraphTrim_eq (N : Nat) (x : (((List ((List Int) × ((List Int) × Unit))) × ((List (List Int)) × ((List Int) × Unit))) × Unit)) : evFn (XsGraphTrim N) Try.f28 dinsGraphTrim outsGraphTrim x = FsGraphTrim N x := by kernel_rfl
theorem lsGraphTrim_0_eq (N n : Nat) (v : (((List ((List Int) × ((List Int) × Unit))) × ((List (List Int)) × ((List Int) × Unit))) × (Int × ((List Int) × ((List ((List Int) × ((List Int) × Unit))) × ((List (List Int)) × Unit)))))) : lsGraphTrim_0 N (n + 1) v = ev (XsGraphTrim N) bsGraphTrim_0 (roundK dsGraphTrim_0 osGraphTrim_0 (lsGraphTrim_0 N n)) (dsGraphTrim_0.mk' v) := by kernel_rfl
theorem lsGraphTrim_2_eq (N n : Nat) (v : (((List ((List Int) × ((List Int) × Unit))) × ((List (List Int)) × ((List Int) × Unit))) × (Int × ((List Int) × ((List ((List Int) × ((List Int) × Unit))) × ((List (List Int)) × Unit)))))) : lsGraphTrim_2 N (n + 1) v = ev (XsGraphTrim N) bsGraphTrim_2 (roundK dsGraphTrim_2 osGraphTrim_2 (lsGraphTrim_2 N n)) (dsGraphTrim_2.mk' v) := by kernel_rfl
theorem cxsGraphTrim (N : Nat) : CtxOk Try.prog (XsGraphTrim N) := ⟨⟨TE_ok, List.forall_mem_cons.2 ⟨specsGraphOk N, List.forall_mem_cons.2 ⟨specsl5Order N, List.forall_mem_cons.2 ⟨specsl5Named N, List.forall_mem_cons.2 ⟨specsl5Ints N, fun k hk => absurd hk List.not_mem_nil⟩⟩⟩⟩⟩, mixed⟩
theorem lpsGraphTrim_0 (N : Nat) : LoopOk Try.prog { hd := dsGraphTrim_0, outs := osGraphTrim_0, run := fun v => lsGraphTrim_0 N N v } bsGraphTrim_0 :=
  loop_fuel (d := dsGraphTrim_0) (os := osGraphTrim_0) (cxsGraphTrim N) (loops_at (ids := []) (by kernel_rfl) (trivial)) (lsGraphTrim_0 N) (fun _ => rfl) (fun n v => lsGraphTrim_0_eq N n v) (fun _ => N)
theorem lpsGraphTrim_2 (N : Nat) : LoopOk Try.prog { hd := dsGraphTrim_2, outs := osGraphTrim_2, run := fun v => lsGraphTrim_2 N N v } bsGraphTrim_2 :=
  loop_fuel (d := dsGraphTrim_2) (os := osGraphTrim_2) (cxsGraphTrim N) (loops_at (ids := []) (by kernel_rfl) (trivial)) (lsGraphTrim_2 N) (fun _ => rfl) (fun n v => lsGraphTrim_2_eq N n v) (fun _ => N)
theorem specsGraphTrim (N : Nat) : Spec Try.prog (consGraphTrim N) :=
  Spec.of_eq (fn_spec (cxsGraphTrim N) (f := 28) (fn := Try.f28) (c := codeOf Try.f28) (by kernel_rfl) (by kernel_rfl) (by kernel_rfl) (loops_at (ids := [0, 2]) (by kernel_rfl) ⟨lp_of (lpsGraphTrim_0 N), ⟨lp_of (lpsGraphTrim_2 N), trivial⟩⟩) (by kernel_rfl)) (fun x r h => (FsGraphTrim_eq N x).trans h)

/-! ### 148: impl.Graph).leads$1 -/

noncomputable def diniGraph_leads_1 : Desc := { n := 3, regs := [.one (.val (.int .i64)), .one (.fpt (.int .i64)), .one (.fpt (.pair (.sl (.pair (.sl (.int .i64)) (.pair (.sl (.int .i64)) .unit))) (.pair (.sl (.sl (.int .i64))) (.pair (.sl (.int .i64)) .unit))))], bx := [], pins := [] }
noncomputable def outiGraph_leads_1 : Outs := [(.ret, { n := 1, regs := [.one (.val .bool)], bx := [], pins := [] })]
noncomputable def HiGraph_leads_1 : Hints := []
noncomputable def EiGraph_leads_1 (_N : Nat) : Env := { te := TE, cs := [] }
noncomputable def FiGraph_leads_1 (N : Nat) (x : (Int × (Int × (((List ((List Int) × ((List Int) × Unit))) × ((List (List Int)) × ((List Int) × Unit))) × Unit)))) : Option (Bool × Unit) :=
  bif decide (x.1 < x.2.1) then
   some (true, ())
  else
  let y1 := decide (x.1 ≥ (x.2.2.1.1.length : Int))
  some (y1, ())
noncomputable def coniGraph_leads_1 (N : Nat) : Con := { f := 148, din := diniGraph_leads_1, outs := outiGraph_leads_1, F := FiGraph_leads_1 N }
noncomputable def XiGraph_leads_1 (N : Nat) : Ctx := { E := EiGraph_leads_1 N, H := HiGraph_leads_1, lp := [], jn := [] }
theorem FiGraph_leads_1_eq (N : Nat) (x : (Int × (Int × (((List ((List Int) × ((List Int) × Unit))) × ((List (List Int)) × ((List Int) × Unit))) × Unit)))) : evFn (XiGraph_leads_1 N) Try.f148 diniGraph_leads_1 outiGraph_leads_1 x = FiGraph_leads_1 N x := by kernel_rfl
theorem cxiGraph_leads_1 (N : Nat) : CtxOk Try.prog (XiGraph_leads_1 N) := ⟨⟨TE_ok, fun k hk => absurd hk List.not_mem_nil⟩, mixed⟩
theorem speciGraph_leads_1 (N : Nat) : Spec Try.prog (coniGraph_leads_1 N) :=
  Spec.of_eq (fn_spec (cxiGraph_leads_1 N) (f := 148) (fn := Try.f148) (c := codeOf Try.f148) (by kernel_rfl) (by kernel_rfl) (by kernel_rfl) (loops_at (ids := []) (by kernel_rfl) (trivial)) (by kernel_rfl)) (fun x r h => (FiGraph_leads_1_eq N x).trans h)

/-! ### 157: slices.IndexFunc[[]int,int] -/

noncomputable def dinkIndexFunc_Sint_int_iGraph_leads_1 : Desc := { n := 2, regs := [.one (.val (.sl (.int .i64))), .one (.clo 148 [.inr (.int .i64), .inr (.pair (.sl (.pair (.sl (.int .i64)) (.pair (.sl (.int .i64)) .unit))) (.pair (.sl (.sl (.int .i64))) (.pair (.sl (.int .i64)) .unit)))])], bx := [], pins := [] }
noncomputable def outkIndexFunc_Sint_int_iGraph_leads_1 : Outs := [(.ret, { n := 1, regs := [.one (.val (.int .i64))], bx := [], pins := [] })]
noncomputable def HkIndexFunc_Sint_int_iGraph_leads_1 : Hints := []
noncomputable def EkIndexFunc_Sint_int_iGraph_leads_1 (N : Nat) : Env := { te := TE, cs := [coniGraph_leads_1 N] }
noncomputable def dkIndexFunc_Sint_int_iGraph_leads_1_0 : Desc := { n := 19, regs := [.one (.val (.sl (.int .i64))), .one (.clo 148 [.inr (.int .i64), .inr (.pair (.sl (.pair (.sl (.int .i64)) (.pair (.sl (.int .i64)) .unit))) (.pair (.sl (.sl (.int .i64))) (.pair (.sl (.int .i64)) .unit)))]), u, u, u, u, u, .one (.val (.int .i64)), .one (.val (.int .i64))], bx := [], pins := [] }
noncomputable def okIndexFunc_Sint_int_iGraph_leads_1_0 : Outs := [(.exit 0, { n := 19, regs := [], bx := [], pins := [] }), (.ret, { n := 19, regs := [u, u, u, u, .one (.val (.int .i64))], bx := [], pins := [] })]
noncomputable def lkIndexFunc_Sint_int_iGraph_leads_1_0 (N : Nat) : Nat → ((List Int) × (Int × (((List ((List Int) × ((List Int) × Unit))) × ((List (List Int)) × ((List Int) × Unit))) × (Int × (Int × Unit))))) → Option (Unit ⊕ (Int × Unit))
  | 0, _ => none
  | n + 1, v =>
    bif decide (v.2.2.2.2.1 < v.2.2.2.1) then
     bif decide (0 ≤ v.2.2.2.2.1) then
     bif decide (v.2.2.2.2.1.toNat < v.1.length) then
     (FiGraph_leads_1 N (v.1.getD v.2.2.2.2.1.toNat (0 : Int), v.2.1, v.2.2.1, ())).bind fun r1 =>
     bif r1.1 then
      some (.inr ((v.2.2.2.2.1, ())))
     else
     lkIndexFunc_Sint_int_iGraph_leads_1_0 N n (v.1, v.2.1, v.2.2.1, v.2.2.2.1, w64 (v.2.2.2.2.1 + (1 : Int)), ())
     else none
     else none
    else
    some (.inl ())
noncomputable def FkIndexFunc_Sint_int_iGraph_leads_1 (N : Nat) (x : ((List Int) × (Int × (((List ((List Int) × ((List Int) × Unit))) × ((List (List Int)) × ((List Int) × Unit))) × Unit)))) : Option (Int × Unit) :=
  (lkIndexFunc_Sint_int_iGraph_leads_1_0 N N (x.1, x.2.1, x.2.2.1, (x.1.length : Int), (0 : Int), ())).bind fun o2 =>
  Sum.elim (fun o3 =>
   some ((-1 : Int), ())) (fun o4 =>
   some (o4.1, ())) o2
noncomputable def conkIndexFunc_Sint_int_iGraph_leads_1 (N : Nat) : Con := { f := 157, din := dinkIndexFunc_Sint_int_iGraph_leads_1, outs := outkIndexFunc_Sint_int_iGraph_leads_1, F := FkIndexFunc_Sint_int_iGraph_leads_1 N }
noncomputable def XkIndexFunc_Sint_int_iGraph_leads_1 (N : Nat) : Ctx := { E := EkIndexFunc_Sint_int_iGraph_leads_1 N, H := HkIndexFunc_Sint_int_iGraph_leads_1, lp := [(0, { hd := dkIndexFunc_Sint_int_iGraph_leads_1_0, outs := okIndexFunc_Sint_int_iGraph_leads_1_0, run := fun v => lkIndexFunc_Sint_int_iGraph_leads_1_0 N N v })], jn := [] }
noncomputable def bkIndexFunc_Sint_int_iGraph_leads_1_0 : Code := loopBody (codeOf Try.f157) 0
theorem FkIndexFunc_Sint_int_iGraph_leads_1_eq (N : Nat) (x : ((List Int) × (Int × (((List ((List Int) × ((List Int) × Unit))) × ((List (List Int)) × ((List Int) × Unit))) × Unit)))) : evFn (XkIndexFunc_Sint_int_iGraph_leads_1 N) Try.f157 dinkIndexFunc_Sint_int_iGraph_leads_1 outkIndexFunc_Sint_int_iGraph_leads_1 x = FkIndexFunc_Sint_int_iGraph_leads_1 N x := by kernel_rfl
theorem lkIndexFunc_Sint_int_iGraph_leads_1_0_eq (N n : Nat) (v : ((List Int) × (Int × (((List ((List Int) × ((List Int) × Unit))) × ((List (List Int)) × ((List Int) × Unit))) × (Int × (Int × Unit)))))) : lkIndexFunc_Sint_int_iGraph_leads_1_0 N (n + 1) v = ev (XkIndexFunc_Sint_int_iGraph_leads_1 N) bkIndexFunc_Sint_int_iGraph_leads_1_0 (roundK dkIndexFunc_Sint_int_iGraph_leads_1_0 okIndexFunc_Sint_int_iGraph_leads_1_0 (lkIndexFunc_Sint_int_iGraph_leads_1_0 N n)) (dkIndexFunc_Sint_int_iGraph_leads_1_0.mk' v) := by kernel_rfl
theorem cxkIndexFunc_Sint_int_iGraph_leads_1 (N : Nat) : CtxOk Try.prog (XkIndexFunc_Sint_int_iGraph_leads_1 N) := ⟨⟨TE_ok, List.forall_mem_cons.2 ⟨speciGraph_leads_1 N, fun k hk => absurd hk List.not_mem_nil⟩⟩, mixed⟩
theorem lpkIndexFunc_Sint_int_iGraph_leads_1_0 (N : Nat) : LoopOk Try.prog { hd := dkIndexFunc_Sint_int_iGraph_leads_1_0, outs := okIndexFunc_Sint_int_iGraph_leads_1_0, run := fun v => lkIndexFunc_Sint_int_iGraph_leads_1_0 N N v } bkIndexFunc_Sint_int_iGraph_leads_1_0 :=
  loop_fuel (d := dkIndexFunc_Sint_int_iGraph_leads_1_0) (os := okIndexFunc_Sint_int_iGraph_leads_1_0) (cxkIndexFunc_Sint_int_iGraph_leads_1 N) (loops_at (ids := []) (by kernel_rfl) (trivial)) (lkIndexFunc_Sint_int_iGraph_leads_1_0 N) (fun _ => rfl) (fun n v => lkIndexFunc_Sint_int_iGraph_leads_1_0_eq N n v) (fun _ => N)
theorem speckIndexFunc_Sint_int_iGraph_leads_1 (N : Nat) : Spec Try.prog (conkIndexFunc_Sint_int_iGraph_leads_1 N) :=
  Spec.of_eq (fn_spec (cxkIndexFunc_Sint_int_iGraph_leads_1 N) (f := 157) (fn := Try.f157) (c := codeOf Try.f157) (by kernel_rfl) (by kernel_rfl) (by kernel_rfl) (loops_at (ids := [0]) (by kernel_rfl) ⟨lp_of (lpkIndexFunc_Sint_int_iGraph_leads_1_0 N), trivial⟩) (by kernel_rfl)) (fun x r h => (FkIndexFunc_Sint_int_iGraph_leads_1_eq N x).trans h)

/-! ### 147: slices.ContainsFunc[[]int,int] -/

noncomputable def dinkContainsFunc_Sint_int_iGraph_leads_1 : Desc := { n := 2, regs := [.one (.val (.sl (.int .i64))), .one (.clo 148 [.inr (.int .i64), .inr (.pair (.sl (.pair (.sl (.int .i64)) (.pair (.sl (.int .i64)) .unit))) (.pair (.sl (.sl (.int .i64))) (.pair (.sl (.int .i64)) .unit)))])], bx := [], pins := [] }
noncomputable def outkContainsFunc_Sint_int_iGraph_leads_1 : Outs := [(.ret, { n := 1, regs := [.one (.val .bool)], bx := [], pins := [] })]
noncomputable def HkContainsFunc_Sint_int_iGraph_leads_1 : Hints := []
noncomputable def EkContainsFunc_Sint_int_iGraph_leads_1 (N : Nat) : Env := { te := TE, cs := [conkIndexFunc_Sint_int_iGraph_leads_1 N] }
noncomputable def FkContainsFunc_Sint_int_iGraph_leads_1 (N : Nat) (x : ((List Int) × (Int × (((List ((List Int) × ((List Int) × Unit))) × ((List (List Int)) × ((List Int) × Unit))) × Unit)))) : Option (Bool × Unit) :=
  (FkIndexFunc_Sint_int_iGraph_leads_1 N (x.1, x.2.1, x.2.2.1, ())).bind fun r1 =>
  some (decide (r1.1 ≥ (0 : Int)), ())
noncomputable def conkContainsFunc_Sint_int_iGraph_leads_1 (N : Nat) : Con := { f := 147, din := dinkContainsFunc_Sint_int_iGraph_leads_1, outs := outkContainsFunc_Sint_int_iGraph_leads_1, F := FkContainsFunc_Sint_int_iGraph_leads_1 N }
noncomputable def XkContainsFunc_Sint_int_iGraph_leads_1 (N : Nat) : Ctx := { E := EkContainsFunc_Sint_int_iGraph_leads_1 N, H := HkContainsFunc_Sint_int_iGraph_leads_1, lp := [], jn := [] }
theorem FkContainsFunc_Sint_int_iGraph_leads_1_eq (N : Nat) (x : ((List Int) × (Int × (((List ((List Int) × ((List Int) × Unit))) × ((List (List Int)) × ((List Int) × Unit))) × Unit)))) : evFn (XkContainsFunc_Sint_int_iGraph_leads_1 N) Try.f147 dinkContainsFunc_Sint_int_iGraph_leads_1 outkContainsFunc_Sint_int_iGraph_leads_1 x = FkContainsFunc_Sint_int_iGraph_leads_1 N x := by kernel_rfl
theorem cxkContainsFunc_Sint_int_iGraph_leads_1 (N : Nat) : CtxOk Try.prog (XkContainsFunc_Sint_int_iGraph_leads_1 N) := ⟨⟨TE_ok, List.forall_mem_cons.2 ⟨speckIndexFunc_Sint_int_iGraph_leads_1 N, fun k hk => absurd hk List.not_mem_nil⟩⟩, mixed⟩
theorem speckContainsFunc_Sint_int_iGraph_leads_1 (N : Nat) : Spec Try.prog (conkContainsFunc_Sint_int_iGraph_leads_1 N) :=
  Spec.of_eq (fn_spec (cxkContainsFunc_Sint_int_iGraph_leads_1 N) (f := 147) (fn := Try.f147) (c := codeOf Try.f147) (by kernel_rfl) (by kernel_rfl) (by kernel_rfl) (loops_at (ids := []) (by kernel_rfl) (trivial)) (by kernel_rfl)) (fun x r h => (FkContainsFunc_Sint_int_iGraph_leads_1_eq N x).trans h)

/-! ### 126: impl.Graph).leads -/

noncomputable def diniGraph_leads : Desc := { n := 3, regs := [.one (.val (.pair (.sl (.pair (.sl (.int .i64)) (.pair (.sl (.int .i64)) .unit))) (.pair (.sl (.sl (.int .i64))) (.pair (.sl (.int .i64)) .unit)))), .one (.val (.sl (.int .i64))), .one (.val (.int .i64))], bx := [], pins := [] }
noncomputable def outiGraph_leads : Outs := [(.ret, { n := 1, regs := [.one (.val .bool)], bx := [], pins := [] })]
noncomputable def HiGraph_leads : Hints := [(0, [(0, { fz := true }), (1, { fz := true })])]
noncomputable def EiGraph_leads (N : Nat) : Env := { te := TE, cs := [conkContainsFunc_Sint_int_iGraph_leads_1 N] }
noncomputable def FiGraph_leads (N : Nat) (x : (((List ((List Int) × ((List Int) × Unit))) × ((List (List Int)) × ((List Int) × Unit))) × ((List Int) × (Int × Unit)))) : Option (Bool × Unit) :=
  (FkContainsFunc_Sint_int_iGraph_leads_1 N (x.2.1, x.2.2.1, x.1, ())).bind fun r1 =>
  some (!r1.1, ())
noncomputable def coniGraph_leads (N : Nat) : Con := { f := 126, din := diniGraph_leads, outs := outiGraph_leads, F := FiGraph_leads N }
noncomputable def XiGraph_leads (N : Nat) : Ctx := { E := EiGraph_leads N, H := HiGraph_leads, lp := [], jn := [] }
theorem FiGraph_leads_eq (N : Nat) (x : (((List ((List Int) × ((List Int) × Unit))) × ((List (List Int)) × ((List Int) × Unit))) × ((List Int) × (Int × Unit)))) : evFn (XiGraph_leads N) Try.f126 diniGraph_leads outiGraph_leads x = FiGraph_leads N x := by kernel_rfl
theorem cxiGraph_leads (N : Nat) : CtxOk Try.prog (XiGraph_leads N) := ⟨⟨TE_ok, List.forall_mem_cons.2 ⟨speckContainsFunc_Sint_int_iGraph_leads_1 N, fun k hk => absurd hk List.not_mem_nil⟩⟩, mixed⟩
theorem speciGraph_leads (N : Nat) : Spec Try.prog (coniGraph_leads N) :=
  Spec.of_eq (fn_spec (cxiGraph_leads N) (f := 126) (fn := Try.f126) (c := codeOf Try.f126) (by kernel_rfl) (by kernel_rfl) (by kernel_rfl) (loops_at (ids := []) (by kernel_rfl) (trivial)) (by kernel_rfl)) (fun x r h => (FiGraph_leads_eq N x).trans h)

/-! ### 66: impl.GraphOk -/

noncomputable def diniGraphOk : Desc := { n := 1, regs := [.one (.val (.pair (.sl (.pair (.sl (.int .i64)) (.pair (.sl (.int .i64)) .unit))) (.pair (.sl (.sl (.int .i64))) (.pair (.sl (.int .i64)) .unit))))], bx := [], pins := [] }
noncomputable def outiGraphOk : Outs := [(.ret, { n := 1, regs := [.one (.val .bool)], bx := [], pins := [] })]
noncomputable def HiGraphOk : Hints := [(0, [(0, { fz := true })])]
noncomputable def EiGraphOk (N : Nat) : Env := { te := TE, cs := [coniGraph_leads N] }
noncomputable def diGraphOk_0 : Desc := { n := 78, regs := [u, .one (.fpt (.pair (.sl (.pair (.sl (.int .i64)) (.pair (.sl (.int .i64)) .unit))) (.pair (.sl (.sl (.int .i64))) (.pair (.sl (.int .i64)) .unit)))), u, u, u, u, u, u, u, u, u, u, u, u, u, u, u, u, u, u, u, u, u, u, u, u, u, u, u, u, u, u, u, u, u, u, u, .one (.val (.sl (.pair (.sl (.int .i64)) (.pair (.sl (.int .i64)) .unit)))), .one (.val (.int .i64)), .one (.val (.int .i64))], bx := [], pins := [] }
noncomputable def oiGraphOk_0 : Outs := [(.exit 0, { n := 78, regs := [u, .one (.fpt (.pair (.sl (.pair (.sl (.int .i64)) (.pair (.sl (.int .i64)) .unit))) (.pair (.sl (.sl (.int .i64))) (.pair (.sl (.int .i64)) .unit))))], bx := [], pins := [] }), (.ret, { n := 78, regs := [u, u, .one (.val .bool)], bx := [], pins := [] })]
noncomputable def diGraphOk_2 : Desc := { n := 78, regs := [u, .one (.fpt (.pair (.sl (.pair (.sl (.int .i64)) (.pair (.sl (.int .i64)) .unit))) (.pair (.sl (.sl (.int .i64))) (.pair (.sl (.int .i64)) .unit)))), u, u, u, u, u, u, u, u, u, u, u, u, u, u, u, u, u, u, u, u, u, u, u, u, u, u, u, u, u, u, u, u, u, u, u, u, u, u, u, u, u, u, u, u, u, u, u, u, u, u, u, u, u, u, u, u, u, u, u, u, .one (.val (.sl (.sl (.int .i64)))), .one (.val (.int .i64)), .one (.val (.int .i64))], bx := [], pins := [] }
noncomputable def oiGraphOk_2 : Outs := [(.exit 2, { n := 78, regs := [], bx := [], pins := [] }), (.ret, { n := 78, regs := [u, u, .one (.val .bool)], bx := [], pins := [] })]
noncomputable def jiGraphOk_3 : Outs := [(.normal, { n := 78, regs := [u, .one (.fpt (.pair (.sl (.pair (.sl (.int .i64)) (.pair (.sl (.int .i64)) .unit))) (.pair (.sl (.sl (.int .i64))) (.pair (.sl (.int .i64)) .unit))))], bx := [], pins := [] }), (.ret, { n := 78, regs := [u, u, .one (.val .bool)], bx := [], pins := [] })]
noncomputable def liGraphOk_0 (N : Nat) : Nat → (((List ((List Int) × ((List Int) × Unit))) × ((List (List Int)) × ((List Int) × Unit))) × ((List ((List Int) × ((List Int) × Unit))) × (Int × (Int × Unit)))) → Option ((((List ((List Int) × ((List Int) × Unit))) × ((List (List Int)) × ((List Int) × Unit))) × Unit) ⊕ (Bool × Unit))
  | 0, _ => none
  | n + 1, v =>
    bif decide (v.2.2.2.1 < v.2.2.1) then
     bif decide (0 ≤ v.2.2.2.1) then
     bif decide (v.2.2.2.1.toNat < v.2.1.length) then
     let y8 := v.2.1.getD v.2.2.2.1.toNat (([] : (List Int)), ([] : (List Int)), ())
     let y9 := decide ((y8.1.length : Int) > (4 : Int))
     bif y9 then
      some (.inr ((false, ())))
     else
     let y10 := decide ((y8.2.1.length : Int) > (4 : Int))
     bif y10 then
      some (.inr ((false, ())))
     else
     (FiGraph_leads N (v.1, y8.1, (-1 : Int), ())).bind fun r11 =>
     bif !r11.1 then
      some (.inr ((false, ())))
     else
     liGraphOk_0 N n (v.1, v.2.1, v.2.2.1, w64 (v.2.2.2.1 + (1 : Int)), ())
     else none
     else none
    else
    some (.inl (v.1, ()))
noncomputable def liGraphOk_2 (N : Nat) : Nat → (((List ((List Int) × ((List Int) × Unit))) × ((List (List Int)) × ((List Int) × Unit))) × ((List (List Int)) × (Int × (Int × Unit)))) → Option (Unit ⊕ (Bool × Unit))
  | 0, _ => none
  | n + 1, v =>
    bif decide (v.2.2.2.1 < v.2.2.1) then
     bif decide (0 ≤ v.2.2.2.1) then
     bif decide (v.2.2.2.1.toNat < v.2.1.length) then
     let y14 := v.2.1.getD v.2.2.2.1.toNat ([] : (List Int))
     let y15 := decide ((y14.length : Int) > (8 : Int))
     bif y15 then
      some (.inr ((false, ())))
     else
     (FiGraph_leads N (v.1, y14, (-1 : Int), ())).bind fun r16 =>
     bif !r16.1 then
      some (.inr ((false, ())))
     else
     liGraphOk_2 N n (v.1, v.2.1, v.2.2.1, w64 (v.2.2.2.1 + (1 : Int)), ())
     else none
     else none
    else
    some (.inl ())
noncomputable def FiGraphOk (N : Nat) (x : (((List ((List Int) × ((List Int) × Unit))) × ((List (List Int)) × ((List Int) × Unit))) × Unit)) : Option (Bool × Unit) :=
  Option.bind (
   let y1 := decide ((x.1.1.length : Int) > (200 : Int))
   bif y1 then
    some (.inr ((false, ())))
   else
   let y2 := decide ((x.1.2.1.length : Int) < (1 : Int))
   bif y2 then
    some (.inr ((false, ())))
   else
   let y3 := decide ((x.1.2.1.length : Int) > (3 : Int))
   bif y3 then
    some (.inr ((false, ())))
   else
   let y4 := decide ((x.1.2.2.1.length : Int) > (8 : Int))
   bif y4 then
    some (.inr ((false, ())))
   else
   (FiGraph_leads N (x.1, x.1.2.2.1, (0 : Int), ())).bind fun r5 =>
   bif !r5.1 then
    some (.inr ((false, ())))
   else
   some (.inl (x.1, ()))) fun o6 =>
  Sum.elim (fun o7 =>
   (liGraphOk_0 N N (o7.1, o7.1.1, (o7.1.1.length : Int), (0 : Int), ())).bind fun o12 =>
   Sum.elim (fun o13 =>
    (liGraphOk_2 N N (o13.1, o13.1.2.1, (o13.1.2.1.length : Int), (0 : Int), ())).bind fun o17 =>
    Sum.elim (fun o18 =>
     some (true, ())) (fun o19 =>
     some (o19.1, ())) o17) (fun o20 =>
    some (o20.1, ())) o12) (fun o21 =>
   some (o21.1, ())) o6
noncomputable def coniGraphOk (N : Nat) : Con := { f := 66, din := diniGraphOk, outs := outiGraphOk, F := FiGraphOk N }
noncomputable def XiGraphOk (N : Nat) : Ctx := { E := EiGraphOk N, H := HiGraphOk, lp := [(0, { hd := diGraphOk_0, outs := oiGraphOk_0, run := fun v => liGraphOk_0 N N v }), (2, { hd := diGraphOk_2, outs := oiGraphOk_2, run := fun v => liGraphOk_2 N N v })], jn := [(3, jiGraphOk_3)] }
noncomputable def biGraphOk_2 : Code := loopBody (codeOf Try.f66) 1
noncomputable def biGraphOk_0 : Code := loopBody (codeOf Try.f66) 0
theorem FiGraphOk_eq (N : Nat) (x : (((List ((List Int) × ((List Int) × Unit))) × ((List (List Int)) × ((List Int) × Unit))) × Unit)) : evFn (XiGraphOk N) Try.f66 diniGraphOk outiGraphOk x = FiGraphOk N x := by kernel_rfl
theorem liGraphOk_0_eq (N n : Nat) (v : (((List ((List Int) × ((List Int) × Unit))) × ((List (List Int)) × ((List Int) × Unit))) × ((List ((List Int) × ((List Int) × Unit))) × (Int × (Int × Unit))))) : liGraphOk_0 N (n + 1) v = ev (XiGraphOk N) biGraphOk_0 (roundK diGraphOk_0 oiGraphOk_0 (liGraphOk_0 N n)) (diGraphOk_0.mk' v) := by kernel_rfl
theorem liGraphOk_2_eq (N n : Nat) (v : (((List ((List Int) × ((List Int) × Unit))) × ((List (List Int)) × ((List Int) × Unit))) × ((List (List Int)) × (Int × (Int × Unit))))) : liGraphOk_2 N (n + 1) v = ev (XiGraphOk N) biGraphOk_2 (roundK diGraphOk_2 oiGraphOk_2 (liGraphOk_2 N n)) (diGraphOk_2.mk' v) := by kernel_rfl
theorem cxiGraphOk (N : Nat) : CtxOk Try.prog (XiGraphOk N) := ⟨⟨TE_ok, List.forall_mem_cons.2 ⟨speciGraph_leads N, fun k hk => absurd hk List.not_mem_nil⟩⟩, mixed⟩
theorem lpiGraphOk_0 (N : Nat) : LoopOk Try.prog { hd := diGraphOk_0, outs := oiGraphOk_0, run := fun v => liGraphOk_0 N N v } biGraphOk_0 :=
  loop_fuel (d := diGraphOk_0) (os := oiGraphOk_0) (cxiGraphOk N) (loops_at (ids := []) (by kernel_rfl) (trivial)) (liGraphOk_0 N) (fun _ => rfl) (fun n v => liGraphOk_0_eq N n v) (fun _ => N)
theorem lpiGraphOk_2 (N : Nat) : LoopOk Try.prog { hd := diGraphOk_2, outs := oiGraphOk_2, run := fun v => liGraphOk_2 N N v } biGraphOk_2 :=
  loop_fuel (d := diGraphOk_2) (os := oiGraphOk_2) (cxiGraphOk N) (loops_at (ids := []) (by kernel_rfl) (trivial)) (liGraphOk_2 N) (fun _ => rfl) (fun n v => liGraphOk_2_eq N n v) (fun _ => N)
theorem speciGraphOk (N : Nat) : Spec Try.prog (coniGraphOk N) :=
  Spec.of_eq (fn_spec (cxiGraphOk N) (f := 66) (fn := Try.f66) (c := codeOf Try.f66) (by kernel_rfl) (by kernel_rfl) (by kernel_rfl) (loops_at (ids := [0, 2]) (by kernel_rfl) ⟨lp_of (lpiGraphOk_0 N), ⟨lp_of (lpiGraphOk_2 N), trivial⟩⟩) (by kernel_rfl)) (fun x r h => (FiGraphOk_eq N x).trans h)

/-! ### 135: impl.Graph).met$1 -/

noncomputable def diniGraph_met_1 : Desc := { n := 3, regs := [.one (.val (.sl (.int .i64))), .one (.lit (.ptr 64 0)), .one (.lit (.ptr 128 0))], bx := [(64, .var [.lit (.row 65)]), (65, .row .bool), (128, .var [.lit (.row 129)]), (129, .row (.int .i64))], pins := [] }
noncomputable def outiGraph_met_1 : Outs := [(.ret, { n := 0, regs := [], bx := [(64, .var [.lit (.row 65)]), (65, .row .bool), (128, .var [.lit (.row 129)]), (129, .row (.int .i64))], pins := [u, .one (.lit (.ptr 64 0)), .one (.lit (.ptr 128 0))] })]
noncomputable def HiGraph_met_1 : Hints := []
noncomputable def EiGraph_met_1 (_N : Nat) : Env := { te := TE, cs := [] }
noncomputable def diGraph_met_1_0 : Desc := { n := 29, regs := [u, .one (.lit (.ptr 64 0)), .one (.lit (.ptr 128 0)), u, u, u, .one (.val (.sl (.int .i64))), .one (.val (.int .i64)), .one (.val (.int .i64))], bx := [(64, .var [.lit (.row 65)]), (65, .row .bool), (128, .var [.lit (.row 129)]), (129, .row (.int .i64))], pins := [u, .one (.lit (.ptr 64 0)), .one (.lit (.ptr 128 0))] }
noncomputable def oiGraph_met_1_0 : Outs := [(.exit 0, { n := 29, regs := [], bx := [(64, .var [.lit (.row 65)]), (65, .row .bool), (128, .var [.lit (.row 129)]), (129, .row (.int .i64))], pins := [u, .one (.lit (.ptr 64 0)), .one (.lit (.ptr 128 0))] })]
noncomputable def liGraph_met_1_0 (N : Nat) : Nat → ((List Int) × (Int × (Int × ((List Bool) × ((List Int) × Unit))))) → Option ((List Bool) × ((List Int) × Unit))
  | 0, _ => none
  | n + 1, v =>
    bif decide (v.2.2.1 < v.2.1) then
     bif decide (0 ≤ v.2.2.1) then
     bif decide (v.2.2.1.toNat < v.1.length) then
     let y1 := decide ((v.1.getD v.2.2.1.toNat (0 : Int)) ≥ (0 : Int))
     bif y1 then
      bif decide (0 ≤ (v.1.getD v.2.2.1.toNat (0 : Int))) then
      bif decide ((v.1.getD v.2.2.1.toNat (0 : Int)).toNat < v.2.2.2.1.length) then
      let y2 := (v.1.getD v.2.2.1.toNat (0 : Int)).toNat
      bif !(v.2.2.2.1.getD y2 false) then
       bif decide (0 ≤ (v.1.getD v.2.2.1.toNat (0 : Int))) then
       bif decide ((v.1.getD v.2.2.1.toNat (0 : Int)).toNat < v.2.2.2.1.length) then
       let y3 := (v.1.getD v.2.2.1.toNat (0 : Int)).toNat
       bif decide (v.2.2.2.2.1.length + [v.1.getD v.2.2.1.toNat (0 : Int)].length ≤ lim) then
       let y4 := v.2.2.2.2.1 ++ [v.1.getD v.2.2.1.toNat (0 : Int)]
       liGraph_met_1_0 N n (v.1, v.2.1, w64 (v.2.2.1 + (1 : Int)), v.2.2.2.1.set y3 true, y4, ())
       else none
       else none
       else none
      else
      liGraph_met_1_0 N n (v.1, v.2.1, w64 (v.2.2.1 + (1 : Int)), v.2.2.2.1, v.2.2.2.2.1, ())
      else none
      else none
     else
     liGraph_met_1_0 N n (v.1, v.2.1, w64 (v.2.2.1 + (1 : Int)), v.2.2.2.1, v.2.2.2.2.1, ())
     else none
     else none
    else
    some (v.2.2.2.1, v.2.2.2.2.1, ())
noncomputable def FiGraph_met_1 (N : Nat) (x : ((List Int) × ((List Bool) × ((List Int) × Unit)))) : Option ((List Bool) × ((List Int) × Unit)) :=
  (liGraph_met_1_0 N N (x.1, (x.1.length : Int), (0 : Int), x.2.1, x.2.2.1, ())).bind fun o5 =>
  some (o5.1, o5.2.1, ())
noncomputable def coniGraph_met_1 (N : Nat) : Con := { f := 135, din := diniGraph_met_1, outs := outiGraph_met_1, F := FiGraph_met_1 N }
noncomputable def XiGraph_met_1 (N : Nat) : Ctx := { E := EiGraph_met_1 N, H := HiGraph_met_1, lp := [(0, { hd := diGraph_met_1_0, outs := oiGraph_met_1_0, run := fun v => liGraph_met_1_0 N N v })], jn := [] }
noncomputable def biGraph_met_1_0 : Code := loopBody (codeOf Try.f135) 0
theorem FiGraph_met_1_eq (N : Nat) (x : ((List Int) × ((List Bool) × ((List Int) × Unit)))) : evFn (XiGraph_met_1 N) Try.f135 diniGraph_met_1 outiGraph_met_1 x = FiGraph_met_1 N x := by kernel_rfl
theorem liGraph_met_1_0_eq (N n : Nat) (v : ((List Int) × (Int × (Int × ((List Bool) × ((List Int) × Unit)))))) : liGraph_met_1_0 N (n + 1) v = ev (XiGraph_met_1 N) biGraph_met_1_0 (roundK diGraph_met_1_0 oiGraph_met_1_0 (liGraph_met_1_0 N n)) (diGraph_met_1_0.mk' v) := by kernel_rfl
theorem cxiGraph_met_1 (N : Nat) : CtxOk Try.prog (XiGraph_met_1 N) := ⟨⟨TE_ok, fun k hk => absurd hk List.not_mem_nil⟩, mixed⟩
theorem lpiGraph_met_1_0 (N : Nat) : LoopOk Try.prog { hd := diGraph_met_1_0, outs := oiGraph_met_1_0, run := fun v => liGraph_met_1_0 N N v } biGraph_met_1_0 :=
  loop_fuel (d := diGraph_met_1_0) (os := oiGraph_met_1_0) (cxiGraph_met_1 N) (loops_at (ids := []) (by kernel_rfl) (trivial)) (liGraph_met_1_0 N) (fun _ => rfl) (fun n v => liGraph_met_1_0_eq N n v) (fun _ => N)
theorem speciGraph_met_1 (N : Nat) : Spec Try.prog (coniGraph_met_1 N) :=
  Spec.of_eq (fn_spec (cxiGraph_met_1 N) (f := 135) (fn := Try.f135) (c := codeOf Try.f135) (by kernel_rfl) (by kernel_rfl) (by kernel_rfl) (loops_at (ids := [0]) (by kernel_rfl) ⟨lp_of (lpiGraph_met_1_0 N), trivial⟩) (by kernel_rfl)) (fun x r h => (FiGraph_met_1_eq N x).trans h)

/-! ### 80: impl.Graph).met -/

noncomputable def diniGraph_met : Desc := { n := 1, regs := [.one (.val (.pair (.sl (.pair (.sl (.int .i64)) (.pair (.sl (.int .i64)) .unit))) (.pair (.sl (.sl (.int .i64))) (.pair (.sl (.int .i64)) .unit))))], bx := [], pins := [] }
noncomputable def outiGraph_met : Outs := [(.ret, { n := 1, regs := [.one (.lit (.row 1012801))], bx := [(1012801, .row (.int .i64))], pins := [] })]
noncomputable def HiGraph_met : Hints := [(0, [(0, { fz := true })]),
  (1, [(0, { nl := [(0, (.int .i64))] })]),
  (7, [(2, { sg := [(64, 1025856), (65, 1025792), (128, 1012800), (129, 1012801)] })]),
  (9, [(3, { sg := [(64, 1025856), (65, 1025792), (128, 1012800), (129, 1012801)] })]),
  (13, [(10, { sg := [(64, 1025856), (65, 1025792), (128, 1012800), (129, 1012801)] })])]
noncomputable def EiGraph_met (N : Nat) : Env := { te := TE, cs := [coniGraph_met_1 N] }
noncomputable def diGraph_met_0 : Desc := { n := 47, regs := [u, .one (.fpt (.pair (.sl (.pair (.sl (.int .i64)) (.pair (.sl (.int .i64)) .unit))) (.pair (.sl (.sl (.int .i64))) (.pair (.sl (.int .i64)) .unit)))), u, .one (.lit (.ptr 1012800 0)), u, .one (.clo 135 [.inl 1025856, .inl 1012800]), u, u, u, u, u, u, u, u, u, .one (.val (.sl (.sl (.int .i64)))), .one (.val (.int .i64)), .one (.val (.int .i64))], bx := [(1012800, .var [.lit (.row 1012801)]), (1012801, .row (.int .i64)), (1025856, .var [.lit (.row 1025792)]), (1025792, .row .bool)], pins := [] }
noncomputable def oiGraph_met_0 : Outs := [(.exit 0, { n := 47, regs := [u, .one (.fpt (.pair (.sl (.pair (.sl (.int .i64)) (.pair (.sl (.int .i64)) .unit))) (.pair (.sl (.sl (.int .i64))) (.pair (.sl (.int .i64)) .unit)))), u, .one (.lit (.ptr 1012800 0)), u, .one (.clo 135 [.inl 1025856, .inl 1012800])], bx := [(1012800, .var [.lit (.row 1012801)]), (1012801, .row (.int .i64)), (1025856, .var [.lit (.row 1025792)]), (1025792, .row .bool)], pins := [] })]
noncomputable def diGraph_met_2 : Desc := { n := 47, regs := [u, .one (.fpt (.pair (.sl (.pair (.sl (.int .i64)) (.pair (.sl (.int .i64)) .unit))) (.pair (.sl (.sl (.int .i64))) (.pair (.sl (.int .i64)) .unit)))), u, .one (.lit (.ptr 1012800 0)), u, .one (.clo 135 [.inl 1025856, .inl 1012800]), u, u, .one (.val (.int .i64))], bx := [(1012800, .var [.lit (.row 1012801)]), (1012801, .row (.int .i64)), (1025856, .var [.lit (.row 1025792)]), (1025792, .row .bool)], pins := [] }
noncomputable def oiGraph_met_2 : Outs := [(.exit 2, { n := 47, regs := [u, u, u, .one (.lit (.ptr 1012800 0))], bx := [(1012800, .var [.lit (.row 1012801)]), (1012801, .row (.int .i64))], pins := [] })]
noncomputable def liGraph_met_0 (N : Nat) : Nat → (((List ((List Int) × ((List Int) × Unit))) × ((List (List Int)) × ((List Int) × Unit))) × ((List (List Int)) × (Int × (Int × ((List Int) × ((List Bool) × Unit)))))) → Option (((List ((List Int) × ((List Int) × Unit))) × ((List (List Int)) × ((List Int) × Unit))) × ((List Int) × ((List Bool) × Unit)))
  | 0, _ => none
  | n + 1, v =>
    bif decide (v.2.2.2.1 < v.2.2.1) then
     bif decide (0 ≤ v.2.2.2.1) then
     bif decide (v.2.2.2.1.toNat < v.2.1.length) then
     let y2 := v.2.1.getD v.2.2.2.1.toNat ([] : (List Int))
     (FiGraph_met_1 N (y2, v.2.2.2.2.2.1, v.2.2.2.2.1, ())).bind fun r3 =>
     liGraph_met_0 N n (v.1, v.2.1, v.2.2.1, w64 (v.2.2.2.1 + (1 : Int)), r3.2.1, r3.1, ())
     else none
     else none
    else
    some (v.1, v.2.2.2.2.1, v.2.2.2.2.2.1, ())
noncomputable def liGraph_met_2 (N : Nat) : Nat → (((List ((List Int) × ((List Int) × Unit))) × ((List (List Int)) × ((List Int) × Unit))) × (Int × ((List Int) × ((List Bool) × Unit)))) → Option ((List Int) × Unit)
  | 0, _ => none
  | n + 1, v =>
    let y6 := decide (v.2.1 < (v.2.2.1.length : Int))
    bif y6 then
     bif decide (0 ≤ v.2.1) then
     bif decide (v.2.1.toNat < v.2.2.1.length) then
     bif decide (0 ≤ (v.2.2.1.getD v.2.1.toNat (0 : Int))) then
     bif decide ((v.2.2.1.getD v.2.1.toNat (0 : Int)).toNat < v.1.1.length) then
     let y7 := v.1.1.getD ((v.2.2.1.getD v.2.1.toNat (0 : Int)).toNat) (([] : (List Int)), ([] : (List Int)), ())
     (FiGraph_met_1 N (y7.1, v.2.2.2.1, v.2.2.1, ())).bind fun r8 =>
     liGraph_met_2 N n (v.1, w64 (v.2.1 + (1 : Int)), r8.2.1, r8.1, ())
     else none
     else none
     else none
     else none
    else
    some (v.2.2.1, ())
noncomputable def FiGraph_met (N : Nat) (x : (((List ((List Int) × ((List Int) × Unit))) × ((List (List Int)) × ((List Int) × Unit))) × Unit)) : Option ((List Int) × Unit) :=
  bif decide (0 ≤ (x.1.1.length : Int)) then
  bif decide ((x.1.1.length : Int).toNat ≤ lim) then
  let y1 := List.replicate (x.1.1.length : Int).toNat false
  (liGraph_met_0 N N (x.1, x.1.2.1, (x.1.2.1.length : Int), (0 : Int), ([] : (List Int)), y1, ())).bind fun o4 =>
  (FiGraph_met_1 N (o4.1.2.2.1, o4.2.2.1, o4.2.1, ())).bind fun r5 =>
  (liGraph_met_2 N N (o4.1, (0 : Int), r5.2.1, r5.1, ())).bind fun o9 =>
  some (o9.1, ())
  else none
  else none
noncomputable def coniGraph_met (N : Nat) : Con := { f := 80, din := diniGraph_met, outs := outiGraph_met, F := FiGraph_met N }
noncomputable def XiGraph_met (N : Nat) : Ctx := { E := EiGraph_met N, H := HiGraph_met, lp := [(0, { hd := diGraph_met_0, outs := oiGraph_met_0, run := fun v => liGraph_met_0 N N v }), (2, { hd := diGraph_met_2, outs := oiGraph_met_2, run := fun v => liGraph_met_2 N N v })], jn := [] }
noncomputable def biGraph_met_2 : Code := loopBody (codeOf Try.f80) 1
noncomputable def biGraph_met_0 : Code := loopBody (codeOf Try.f80) 0
theorem FiGraph_met_eq (N : Nat) (x : (((List ((List Int) × ((List Int) × Unit))) × ((List (List Int)) × ((List Int) × Unit))) × Unit)) : evFn (XiGraph_met N) Try.f80 diniGraph_met outiGraph_met x = FiGraph_met N x := by kernel_rfl
theorem liGraph_met_0_eq (N n : Nat) (v : (((List ((List Int) × ((List Int) × Unit))) × ((List (List Int)) × ((List Int) × Unit))) × ((List (List Int)) × (Int × (Int × ((List Int) × ((List Bool) × Unit))))))) : liGraph_met_0 N (n + 1) v = ev (XiGraph_met N) biGraph_met_0 (roundK diGraph_met_0 oiGraph_met_0 (liGraph_met_0 N n)) (diGraph_met_0.mk' v) := by kernel_rfl
theorem liGraph_met_2_eq (N n : Nat) (v : (((List ((List Int) × ((List Int) × Unit))) × ((List (List Int)) × ((List Int) × Unit))) × (Int × ((List Int) × ((List Bool) × Unit))))) : liGraph_met_2 N (n + 1) v = ev (XiGraph_met N) biGraph_met_2 (roundK diGraph_met_2 oiGraph_met_2 (liGraph_met_2 N n)) (diGraph_met_2.mk' v) := by kernel_rfl
theorem cxiGraph_met (N : Nat) : CtxOk Try.prog (XiGraph_met N) := ⟨⟨TE_ok, List.forall_mem_cons.2 ⟨speciGraph_met_1 N, fun k hk => absurd hk List.not_mem_nil⟩⟩, mixed⟩
theorem lpiGraph_met_0 (N : Nat) : LoopOk Try.prog { hd := diGraph_met_0, outs := oiGraph_met_0, run := fun v => liGraph_met_0 N N v } biGraph_met_0 :=
  loop_fuel (d := diGraph_met_0) (os := oiGraph_met_0) (cxiGraph_met N) (loops_at (ids := []) (by kernel_rfl) (trivial)) (liGraph_met_0 N) (fun _ => rfl) (fun n v => liGraph_met_0_eq N n v) (fun _ => N)
theorem lpiGraph_met_2 (N : Nat) : LoopOk Try.prog { hd := diGraph_met_2, outs := oiGraph_met_2, run := fun v => liGraph_met_2 N N v } biGraph_met_2 :=
  loop_fuel (d := diGraph_met_2) (os := oiGraph_met_2) (cxiGraph_met N) (loops_at (ids := []) (by kernel_rfl) (trivial)) (liGraph_met_2 N) (fun _ => rfl) (fun n v => liGraph_met_2_eq N n v) (fun _ => N)
theorem speciGraph_met (N : Nat) : Spec Try.prog (coniGraph_met N) :=
  Spec.of_eq (fn_spec (cxiGraph_met N) (f := 80) (fn := Try.f80) (c := codeOf Try.f80) (by kernel_rfl) (by kernel_rfl) (by kernel_rfl) (loops_at (ids := [0, 2]) (by kernel_rfl) ⟨lp_of (lpiGraph_met_0 N), ⟨lp_of (lpiGraph_met_2 N), trivial⟩⟩) (by kernel_rfl)) (fun x r h => (FiGraph_met_eq N x).trans h)

/-! ### 82: slices.Clone[[]int,int] -/

noncomputable def dinkClone_Sint_int : Desc := { n := 1, regs := [.one (.val (.sl (.int .i64)))], bx := [], pins := [] }
noncomputable def outkClone_Sint_int : Outs := [(.ret, { n := 1, regs := [.one (.lit (.row 1025600))], bx := [(1025600, .row (.int .i64))], pins := [] })]
noncomputable def HkClone_Sint_int : Hints := [(2, [(0, { nl := [(0, (.int .i64))] })])]
noncomputable def EkClone_Sint_int (_N : Nat) : Env := { te := TE, cs := [] }
noncomputable def FkClone_Sint_int (N : Nat) (x : ((List Int) × Unit)) : Option ((List Int) × Unit) :=
  bif x.1.isEmpty then
   anyOf (2) fun i1 =>
    bif bif i1 == 0 then false else true then
     some (([] : (List Int)), ())
    else
    bif decide (([] : (List Int)).length + x.1.length ≤ lim) then
    some (([] : (List Int)) ++ x.1, ())
    else none
  else
  bif decide (([] : (List Int)).length + x.1.length ≤ lim) then
  some (([] : (List Int)) ++ x.1, ())
  else none
noncomputable def conkClone_Sint_int (N : Nat) : Con := { f := 82, din := dinkClone_Sint_int, outs := outkClone_Sint_int, F := FkClone_Sint_int N }
noncomputable def XkClone_Sint_int (N : Nat) : Ctx := { E := EkClone_Sint_int N, H := HkClone_Sint_int, lp := [], jn := [] }
theorem FkClone_Sint_int_eq (N : Nat) (x : ((List Int) × Unit)) : evFn (XkClone_Sint_int N) Try.f82 dinkClone_Sint_int outkClone_Sint_int x = FkClone_Sint_int N x := by kernel_rfl
theorem cxkClone_Sint_int (N : Nat) : CtxOk Try.prog (XkClone_Sint_int N) := ⟨⟨TE_ok, fun k hk => absurd hk List.not_mem_nil⟩, mixed⟩
theorem speckClone_Sint_int (N : Nat) : Spec Try.prog (conkClone_Sint_int N) :=
  Spec.of_eq (fn_spec (cxkClone_Sint_int N) (f := 82) (fn := Try.f82) (c := codeOf Try.f82) (by kernel_rfl) (by kernel_rfl) (by kernel_rfl) (loops_at (ids := []) (by kernel_rfl) (trivial)) (by kernel_rfl)) (fun x r h => (FkClone_Sint_int_eq N x).trans h)

/-! ### 81: impl.named -/

noncomputable def dininamed : Desc := { n := 2, regs := [.one (.val (.sl (.int .i64))), .one (.val (.mp (.int .i64)))], bx := [], pins := [] }
noncomputable def outinamed : Outs := [(.ret, { n := 1, regs := [.one (.lit (.row 1012865))], bx := [(1012865, .row (.int .i64))], pins := [] })]
noncomputable def Hinamed : Hints := []
noncomputable def Einamed (N : Nat) : Env := { te := TE, cs := [conkClone_Sint_int N] }
noncomputable def dinamed_0 : Desc := { n := 27, regs := [u, .one (.val (.mp (.int .i64))), u, u, u, .one (.lit (.row 1012865)), u, u, u, u, .one (.lit (.row 1012865)), .one (.val (.int .i64)), .one (.val (.int .i64))], bx := [(1012865, .row (.int .i64))], pins := [] }
noncomputable def oinamed_0 : Outs := [(.exit 0, { n := 27, regs := [u, u, u, u, u, .one (.lit (.row 1012865))], bx := [(1012865, .row (.int .i64))], pins := [] })]
noncomputable def linamed_0 (N : Nat) : Nat → ((List (Int × Int)) × (Int × (Int × ((List Int) × Unit)))) → Option ((List Int) × Unit)
  | 0, _ => none
  | n + 1, v =>
    bif decide (v.2.2.1 < v.2.1) then
     bif decide (0 ≤ v.2.2.1) then
     bif decide (v.2.2.1.toNat < v.2.2.2.1.length) then
     let y2 := v.2.2.2.1.getD v.2.2.1.toNat (0 : Int)
     bif decide (y2 ≥ (0 : Int)) then
      bif decide (0 ≤ v.2.2.1) then
      bif decide (v.2.2.1.toNat < v.2.2.2.1.length) then
      let y3 := v.2.2.2.1.set v.2.2.1.toNat ((mget v.1 y2).getD (0 : Int))
      linamed_0 N n (v.1, v.2.1, w64 (v.2.2.1 + (1 : Int)), y3, ())
      else none
      else none
     else
     linamed_0 N n (v.1, v.2.1, w64 (v.2.2.1 + (1 : Int)), v.2.2.2.1, ())
     else none
     else none
    else
    some (v.2.2.2.1, ())
noncomputable def Finamed (N : Nat) (x : ((List Int) × ((List (Int × Int)) × Unit))) : Option ((List Int) × Unit) :=
  (FkClone_Sint_int N (x.1, ())).bind fun r1 =>
  (linamed_0 N N (x.2.1, (r1.1.length : Int), (0 : Int), r1.1, ())).bind fun o4 =>
  some (o4.1, ())
noncomputable def coninamed (N : Nat) : Con := { f := 81, din := dininamed, outs := outinamed, F := Finamed N }
noncomputable def Xinamed (N : Nat) : Ctx := { E := Einamed N, H := Hinamed, lp := [(0, { hd := dinamed_0, outs := oinamed_0, run := fun v => linamed_0 N N v })], jn := [] }
noncomputable def binamed_0 : Code := loopBody (codeOf Try.f81) 0
theorem Finamed_eq (N : Nat) (x : ((List Int) × ((List (Int × Int)) × Unit))) : evFn (Xinamed N) Try.f81 dininamed outinamed x = Finamed N x := by kernel_rfl
theorem linamed_0_eq (N n : Nat) (v : ((List (Int × Int)) × (Int × (Int × ((List Int) × Unit))))) : linamed_0 N (n + 1) v = ev (Xinamed N) binamed_0 (roundK dinamed_0 oinamed_0 (linamed_0 N n)) (dinamed_0.mk' v) := by kernel_rfl
theorem cxinamed (N : Nat) : CtxOk Try.prog (Xinamed N) := ⟨⟨TE_ok, List.forall_mem_cons.2 ⟨speckClone_Sint_int N, fun k hk => absurd hk List.not_mem_nil⟩⟩, mixed⟩
theorem lpinamed_0 (N : Nat) : LoopOk Try.prog { hd := dinamed_0, outs := oinamed_0, run := fun v => linamed_0 N N v } binamed_0 :=
  loop_fuel (d := dinamed_0) (os := oinamed_0) (cxinamed N) (loops_at (ids := []) (by kernel_rfl) (trivial)) (linamed_0 N) (fun _ => rfl) (fun n v => linamed_0_eq N n v) (fun _ => N)
theorem specinamed (N : Nat) : Spec Try.prog (coninamed N) :=
  Spec.of_eq (fn_spec (cxinamed N) (f := 81) (fn := Try.f81) (c := codeOf Try.f81) (by kernel_rfl) (by kernel_rfl) (by kernel_rfl) (loops_at (ids := [0]) (by kernel_rfl) ⟨lp_of (lpinamed_0 N), trivial⟩) (by kernel_rfl)) (fun x r h => (Finamed_eq N x).trans h)

/-! ### 29: impl.GraphTrim -/

noncomputable def diniGraphTrim : Desc := { n := 1, regs := [.one (.val (.pair (.sl (.pair (.sl (.int .i64)) (.pair (.sl (.int .i64)) .unit))) (.pair (.sl (.sl (.int .i64))) (.pair (.sl (.int .i64)) .unit))))], bx := [], pins := [] }
noncomputable def outiGraphTrim : Outs := [(.ret, { n := 1, regs := [.agg [.lit (.row 1025601), .lit (.row 1025602), .lit (.row 1025603)]], bx := [(1025601, .row (.pair (.sl (.int .i64)) (.pair (.sl (.int .i64)) .unit))), (1025602, .row (.sl (.int .i64))), (1025603, .row (.int .i64))], pins := [] })]
noncomputable def HiGraphTrim : Hints := [(0, [(0, { fz := true })]),
  (2, [(0, { nl := [(0, (.pair (.sl (.int .i64)) (.pair (.sl (.int .i64)) .unit))), (1, (.sl (.int .i64))), (2, (.int .i64))] })]),
  (3, [(1, { con := 1 })]),
  (10, [(0, { nl := [(0, (.pair (.sl (.int .i64)) (.pair (.sl (.int .i64)) .unit))), (1, (.sl (.int .i64)))] })]),
  (14, [(9, { con := 2 }), (16, { con := 3 }), (18, { dp := true }), (19, { dp := true })]),
  (19, [(4, { con := 2 }), (5, { dp := true }), (6, { dp := true })]),
  (21, [(3, { con := 2 })])]
noncomputable def EiGraphTrim (N : Nat) : Env := { te := TE, cs := [coniGraphOk N, coniGraph_met N, coninamed N, conkClone_Sint_int N] }
noncomputable def diGraphTrim_0 : Desc := { n := 80, regs := [u, .one (.fpt (.pair (.sl (.pair (.sl (.int .i64)) (.pair (.sl (.int .i64)) .unit))) (.pair (.sl (.sl (.int .i64))) (.pair (.sl (.int .i64)) .unit)))), .one (.lit (.ptr 1000064 0)), .one (.lit (.row 1038465)), .one (.lit (.mrow 1051200)), u, u, u, u, u, u, u, u, u, u, u, u, u, u, .one (.lit (.row 1038465)), .one (.val (.int .i64)), .one (.val (.int .i64))], bx := [(1000064, .var [.lit .nil, .lit .nil, .lit .nil]), (1038465, .row (.int .i64)), (1051200, .mp (.int .i64))], pins := [] }
noncomputable def oiGraphTrim_0 : Outs := [(.exit 0, { n := 80, regs := [u, .one (.fpt (.pair (.sl (.pair (.sl (.int .i64)) (.pair (.sl (.int .i64)) .unit))) (.pair (.sl (.sl (.int .i64))) (.pair (.sl (.int .i64)) .unit)))), .one (.lit (.ptr 1000064 0)), .one (.lit (.row 1038465)), .one (.lit (.mrow 1051200))], bx := [(1000064, .var [.lit .nil, .lit .nil, .lit .nil]), (1038465, .row (.int .i64)), (1051200, .mp (.int .i64))], pins := [] })]
noncomputable def diGraphTrim_2 : Desc := { n := 80, regs := [u, .one (.fpt (.pair (.sl (.pair (.sl (.int .i64)) (.pair (.sl (.int .i64)) .unit))) (.pair (.sl (.sl (.int .i64))) (.pair (.sl (.int .i64)) .unit)))), .one (.lit (.ptr 1000064 0)), u, .one (.lit (.mrow 1051200)), u, u, .one (.lit (.ptr 1128000 0)), u, u, u, u, u, u, u, u, u, u, u, u, u, u, u, u, u, u, u, u, u, u, .one (.lit (.row 1038465)), .one (.val (.int .i64)), .one (.val (.int .i64))], bx := [(1000064, .var [.lit .nil, .lit .nil, .lit .nil]), (1051200, .mp (.int .i64)), (1128000, .var [.lit (.row 1128001), .lit (.row 1128002), .lit .nil]), (1128001, .row (.pair (.sl (.int .i64)) (.pair (.sl (.int .i64)) .unit))), (1128002, .row (.sl (.int .i64))), (1038465, .row (.int .i64))], pins := [] }
noncomputable def oiGraphTrim_2 : Outs := [(.exit 2, { n := 80, regs := [u, .one (.fpt (.pair (.sl (.pair (.sl (.int .i64)) (.pair (.sl (.int .i64)) .unit))) (.pair (.sl (.sl (.int .i64))) (.pair (.sl (.int .i64)) .unit)))), .one (.lit (.ptr 1000064 0)), u, .one (.lit (.mrow 1051200)), u, u, .one (.lit (.ptr 1128000 0))], bx := [(1000064, .var [.lit .nil, .lit .nil, .lit .nil]), (1051200, .mp (.int .i64)), (1128000, .var [.lit (.row 1128001), .lit (.row 1128002), .lit .nil]), (1128001, .row (.pair (.sl (.int .i64)) (.pair (.sl (.int .i64)) .unit))), (1128002, .row (.sl (.int .i64)))], pins := [] })]
noncomputable def diGraphTrim_4 : Desc := { n := 80, regs := [u, .one (.fpt (.pair (.sl (.pair (.sl (.int .i64)) (.pair (.sl (.int .i64)) .unit))) (.pair (.sl (.sl (.int .i64))) (.pair (.sl (.int .i64)) .unit)))), .one (.lit (.ptr 1000064 0)), u, .one (.lit (.mrow 1051200)), u, u, .one (.lit (.ptr 1128000 0)), u, u, u, u, u, u, u, u, u, u, u, u, u, u, u, u, u, u, u, u, u, u, u, u, u, u, u, u, u, u, u, u, u, u, u, u, u, u, u, u, u, u, u, u, u, u, u, u, u, u, u, .one (.val (.sl (.sl (.int .i64)))), .one (.val (.int .i64)), .one (.val (.int .i64))], bx := [(1000064, .var [.lit .nil, .lit .nil, .lit .nil]), (1051200, .mp (.int .i64)), (1128000, .var [.lit (.row 1128001), .lit (.row 1128002), .lit .nil]), (1128001, .row (.pair (.sl (.int .i64)) (.pair (.sl (.int .i64)) .unit))), (1128002, .row (.sl (.int .i64)))], pins := [] }
noncomputable def oiGraphTrim_4 : Outs := [(.exit 4, { n := 80, regs := [u, .one (.fpt (.pair (.sl (.pair (.sl (.int .i64)) (.pair (.sl (.int .i64)) .unit))) (.pair (.sl (.sl (.int .i64))) (.pair (.sl (.int .i64)) .unit)))), .one (.lit (.ptr 1000064 0)), u, .one (.lit (.mrow 1051200)), u, u, .one (.lit (.ptr 1128000 0))], bx := [(1000064, .var [.lit .nil, .lit .nil, .lit .nil]), (1051200, .mp (.int .i64)), (1128000, .var [.lit (.row 1128001), .lit (.row 1128002), .lit .nil]), (1128001, .row (.pair (.sl (.int .i64)) (.pair (.sl (.int .i64)) .unit))), (1128002, .row (.sl (.int .i64)))], pins := [] })]
noncomputable def liGraphTrim_0 (N : Nat) : Nat → (((List ((List Int) × ((List Int) × Unit))) × ((List (List Int)) × ((List Int) × Unit))) × (Int × (Int × ((List Int) × ((List (Int × Int)) × Unit))))) → Option (((List ((List Int) × ((List Int) × Unit))) × ((List (List Int)) × ((List Int) × Unit))) × ((List Int) × ((List (Int × Int)) × Unit)))
  | 0, _ => none
  | n + 1, v =>
    bif decide (v.2.2.1 < v.2.1) then
     bif decide (0 ≤ v.2.2.1) then
     bif decide (v.2.2.1.toNat < v.2.2.2.1.length) then
     let y4 := v.2.2.2.1.getD v.2.2.1.toNat (0 : Int)
     liGraphTrim_0 N n (v.1, v.2.1, w64 (v.2.2.1 + (1 : Int)), v.2.2.2.1, mset v.2.2.2.2.1 y4 v.2.2.1, ())
     else none
     else none
    else
    some (v.1, v.2.2.2.1, v.2.2.2.2.1, ())
noncomputable def liGraphTrim_2 (N : Nat) : Nat → (((List ((List Int) × ((List Int) × Unit))) × ((List (List Int)) × ((List Int) × Unit))) × (Int × (Int × ((List (Int × Int)) × ((List ((List Int) × ((List Int) × Unit))) × ((List (List Int)) × ((List Int) × Unit))))))) → Option (((List ((List Int) × ((List Int) × Unit))) × ((List (List Int)) × ((List Int) × Unit))) × ((List (Int × Int)) × ((List ((List Int) × ((List Int) × Unit))) × ((List (List Int)) × Unit))))
  | 0, _ => none
  | n + 1, v =>
    bif decide (v.2.2.1 < v.2.1) then
     bif decide (0 ≤ v.2.2.1) then
     bif decide (v.2.2.1.toNat < v.2.2.2.2.2.2.1.length) then
     let y7 := v.2.2.2.2.2.2.1.getD v.2.2.1.toNat (0 : Int)
     bif decide (0 ≤ y7) then
     bif decide (y7.toNat < v.1.1.length) then
     let y8 := v.1.1.getD y7.toNat (([] : (List Int)), ([] : (List Int)), ())
     (Finamed N (y8.1, v.2.2.2.1, ())).bind fun r9 =>
     bif decide (0 ≤ y7) then
     bif decide (y7.toNat < v.1.1.length) then
     let y10 := v.1.1.getD y7.toNat (([] : (List Int)), ([] : (List Int)), ())
     (FkClone_Sint_int N (y10.2.1, ())).bind fun r11 =>
     bif decide (v.2.2.2.2.1.length + [(r9.1, r11.1, ())].length ≤ lim) then
     liGraphTrim_2 N n (v.1, v.2.1, w64 (v.2.2.1 + (1 : Int)), v.2.2.2.1, v.2.2.2.2.1 ++ [(r9.1, r11.1, ())], v.2.2.2.2.2.1, v.2.2.2.2.2.2.1, ())
     else none
     else none
     else none
     else none
     else none
     else none
     else none
    else
    some (v.1, v.2.2.2.1, v.2.2.2.2.1, v.2.2.2.2.2.1, ())
noncomputable def liGraphTrim_4 (N : Nat) : Nat → (((List ((List Int) × ((List Int) × Unit))) × ((List (List Int)) × ((List Int) × Unit))) × ((List (List Int)) × (Int × (Int × ((List (Int × Int)) × ((List ((List Int) × ((List Int) × Unit))) × ((List (List Int)) × Unit))))))) → Option (((List ((List Int) × ((List Int) × Unit))) × ((List (List Int)) × ((List Int) × Unit))) × ((List (Int × Int)) × ((List ((List Int) × ((List Int) × Unit))) × ((List (List Int)) × Unit))))
  | 0, _ => none
  | n + 1, v =>
    bif decide (v.2.2.2.1 < v.2.2.1) then
     bif decide (0 ≤ v.2.2.2.1) then
     bif decide (v.2.2.2.1.toNat < v.2.1.length) then
     let y13 := v.2.1.getD v.2.2.2.1.toNat ([] : (List Int))
     (Finamed N (y13, v.2.2.2.2.1, ())).bind fun r14 =>
     bif decide (v.2.2.2.2.2.2.1.length + [r14.1].length ≤ lim) then
     liGraphTrim_4 N n (v.1, v.2.1, v.2.2.1, w64 (v.2.2.2.1 + (1 : Int)), v.2.2.2.2.1, v.2.2.2.2.2.1, v.2.2.2.2.2.2.1 ++ [r14.1], ())
     else none
     else none
     else none
    else
    some (v.1, v.2.2.2.2.1, v.2.2.2.2.2.1, v.2.2.2.2.2.2.1, ())
noncomputable def FiGraphTrim (N : Nat) (x : (((List ((List Int) × ((List Int) × Unit))) × ((List (List Int)) × ((List Int) × Unit))) × Unit)) : Option ((List ((List Int) × ((List Int) × Unit))) × ((List (List Int)) × ((List Int) × Unit))) :=
  (FiGraphOk N (x.1, ())).bind fun r1 =>
  bif !r1.1 then
   let y2 := ([] : (List ((List Int) × ((List Int) × Unit))))
   some (y2, ([] : (List (List Int))), ([] : (List Int)), ())
  else
  (FiGraph_met N (x.1, ())).bind fun r3 =>
  (liGraphTrim_0 N N (x.1, (r3.1.length : Int), (0 : Int), r3.1, ([] : (List (Int × Int))), ())).bind fun o5 =>
  let y6 := ([] : (List ((List Int) × ((List Int) × Unit))))
  (liGraphTrim_2 N N (o5.1, (o5.2.1.length : Int), (0 : Int), o5.2.2.1, y6, ([] : (List (List Int))), o5.2.1, ())).bind fun o12 =>
  (liGraphTrim_4 N N (o12.1, o12.1.2.1, (o12.1.2.1.length : Int), (0 : Int), o12.2.1, o12.2.2.1, o12.2.2.2.1, ())).bind fun o15 =>
  (Finamed N (o15.1.2.2.1, o15.2.1, ())).bind fun r16 =>
  some (o15.2.2.1, o15.2.2.2.1, r16.1, ())
noncomputable def coniGraphTrim (N : Nat) : Con := { f := 29, din := diniGraphTrim, outs := outiGraphTrim, F := FiGraphTrim N }
noncomputable def XiGraphTrim (N : Nat) : Ctx := { E := EiGraphTrim N, H := HiGraphTrim, lp := [(0, { hd := diGraphTrim_0, outs := oiGraphTrim_0, run := fun v => liGraphTrim_0 N N v }), (2, { hd := diGraphTrim_2, outs := oiGraphTrim_2, run := fun v => liGraphTrim_2 N N v }), (4, { hd := diGraphTrim_4, outs := oiGraphTrim_4, run := fun v => liGraphTrim_4 N N v })], jn := [] }
noncomputable def biGraphTrim_4 : Code := loopBody (codeOf Try.f29) 2
noncomputable def biGraphTrim_2 : Code := loopBody (codeOf Try.f29) 1
noncomputable def biGraphTrim_0 : Code := loopBody (codeOf Try.f29) 0
theorem FiGraphTrim_eq (N : Nat) (x : (((List ((List Int) × ((List Int) × Unit))) × ((List (List Int)) × ((List Int) × Unit))) × Unit)) : evFn (XiGraphTrim N) Try.f29 diniGraphTrim outiGraphTrim x = FiGraphTrim N x := by kernel_rfl
theorem liGraphTrim_0_eq (N n : Nat) (v : (((List ((List Int) × ((List Int) × Unit))) × ((List (List Int)) × ((List Int) × Unit))) × (Int × (Int × ((List Int) × ((List (Int × Int)) × Unit)))))) : liGraphTrim_0 N (n + 1) v = ev (XiGraphTrim N) biGraphTrim_0 (roundK diGraphTrim_0 oiGraphTrim_0 (liGraphTrim_0 N n)) (diGraphTrim_0.mk' v) := by kernel_rfl
theorem liGraphTrim_2_eq (N n : Nat) (v : (((List ((List Int) × ((List Int) × Unit))) × ((List (List Int)) × ((List Int) × Unit))) × (Int × (Int × ((List (Int × Int)) × ((List ((List Int) × ((List Int) × Unit))) × ((List (List Int)) × ((List Int) × Unit)))))))) : liGraphTrim_2 N (n + 1) v = ev (XiGraphTrim N) biGraphTrim_2 (roundK diGraphTrim_2 oiGraphTrim_2 (liGraphTrim_2 N n)) (diGraphTrim_2.mk' v) := by kernel_rfl
theorem liGraphTrim_4_eq (N n : Nat) (v : (((List ((List Int) × ((List Int) × Unit))) × ((List (List Int)) × ((List Int) × Unit))) × ((List (List Int)) × (Int × (Int × ((List (Int × Int)) × ((List ((List Int) × ((List Int) × Unit))) × ((List (List Int)) × Unit)))))))) : liGraphTrim_4 N (n + 1) v = ev (XiGraphTrim N) biGraphTrim_4 (roundK diGraphTrim_4 oiGraphTrim_4 (liGraphTrim_4 N n)) (diGraphTrim_4.mk' v) := by kernel_rfl
theorem cxiGraphTrim (N : Nat) : CtxOk Try.prog (XiGraphTrim N) := ⟨⟨TE_ok, List.forall_mem_cons.2 ⟨speciGraphOk N, List.forall_mem_cons.2 ⟨speciGraph_met N, List.forall_mem_cons.2 ⟨specinamed N, List.forall_mem_cons.2 ⟨speckClone_Sint_int N, fun k hk => absurd hk List.not_mem_nil⟩⟩⟩⟩⟩, mixed⟩
theorem lpiGraphTrim_0 (N : Nat) : LoopOk Try.prog { hd := diGraphTrim_0, outs := oiGraphTrim_0, run := fun v => liGraphTrim_0 N N v } biGraphTrim_0 :=
  loop_fuel (d := diGraphTrim_0) (os := oiGraphTrim_0) (cxiGraphTrim N) (loops_at (ids := []) (by kernel_rfl) (trivial)) (liGraphTrim_0 N) (fun _ => rfl) (fun n v => liGraphTrim_0_eq N n v) (fun _ => N)
theorem lpiGraphTrim_2 (N : Nat) : LoopOk Try.prog { hd := diGraphTrim_2, outs := oiGraphTrim_2, run := fun v => liGraphTrim_2 N N v } biGraphTrim_2 :=
  loop_fuel (d := diGraphTrim_2) (os := oiGraphTrim_2) (cxiGraphTrim N) (loops_at (ids := []) (by kernel_rfl) (trivial)) (liGraphTrim_2 N) (fun _ => rfl) (fun n v => liGraphTrim_2_eq N n v) (fun _ => N)
theorem lpiGraphTrim_4 (N : Nat) : LoopOk Try.prog { hd := diGraphTrim_4, outs := oiGraphTrim_4, run := fun v => liGraphTrim_4 N N v } biGraphTrim_4 :=
  loop_fuel (d := diGraphTrim_4) (os := oiGraphTrim_4) (cxiGraphTrim N) (loops_at (ids := []) (by kernel_rfl) (trivial)) (liGraphTrim_4 N) (fun _ => rfl) (fun n v => liGraphTrim_4_eq N n v) (fun _ => N)
theorem speciGraphTrim (N : Nat) : Spec Try.prog (coniGraphTrim N) :=
  Spec.of_eq (fn_spec (cxiGraphTrim N) (f := 29) (fn := Try.f29) (c := codeOf Try.f29) (by kernel_rfl) (by kernel_rfl) (by kernel_rfl) (loops_at (ids := [0, 2, 4]) (by kernel_rfl) ⟨lp_of (lpiGraphTrim_0 N), ⟨lp_of (lpiGraphTrim_2 N), ⟨lp_of (lpiGraphTrim_4 N), trivial⟩⟩⟩) (by kernel_rfl)) (fun x r h => (FiGraphTrim_eq N x).trans h)

/-! ### 19: laws.eqIntS -/

noncomputable def dinveqIntS : Desc := { n := 2, regs := [.one (.val (.sl (.int .i64))), .one (.val (.sl (.int .i64)))], bx := [], pins := [] }
noncomputable def outveqIntS : Outs := [(.ret, { n := 1, regs := [.one (.val .bool)], bx := [], pins := [] })]
noncomputable def HveqIntS : Hints := []
noncomputable def EveqIntS (_N : Nat) : Env := { te := TE, cs := [] }
noncomputable def dveqIntS_0 : Desc := { n := 26, regs := [.one (.val (.sl (.int .i64))), .one (.val (.sl (.int .i64))), u, u, u, .one (.val (.int .i64))], bx := [], pins := [] }
noncomputable def oveqIntS_0 : Outs := [(.exit 0, { n := 26, regs := [], bx := [], pins := [] }), (.ret, { n := 26, regs := [u, u, u, u, .one (.val .bool)], bx := [], pins := [] })]
noncomputable def lveqIntS_0 (N : Nat) : Nat → ((List Int) × ((List Int) × (Int × Unit))) → Option (Unit ⊕ (Bool × Unit))
  | 0, _ => none
  | n + 1, v =>
    let y2 := decide (v.2.2.1 < (v.1.length : Int))
    bif y2 then
     bif decide (0 ≤ v.2.2.1) then
     bif decide (v.2.2.1.toNat < v.1.length) then
     bif decide (0 ≤ v.2.2.1) then
     bif decide (v.2.2.1.toNat < v.2.1.length) then
     let y3 := (v.1.getD v.2.2.1.toNat (0 : Int)) != (v.2.1.getD v.2.2.1.toNat (0 : Int))
     bif y3 then
      some (.inr ((false, ())))
     else
     lveqIntS_0 N n (v.1, v.2.1, w64 (v.2.2.1 + (1 : Int)), ())
     else none
     else none
     else none
     else none
    else
    some (.inl ())
noncomputable def FveqIntS (N : Nat) (x : ((List Int) × ((List Int) × Unit))) : Option (Bool × Unit) :=
  let y1 := (x.1.length : Int) != (x.2.1.length : Int)
  bif y1 then
   some (false, ())
  else
  (lveqIntS_0 N N (x.1, x.2.1, (0 : Int), ())).bind fun o4 =>
  Sum.elim (fun o5 =>
   some (true, ())) (fun o6 =>
   some (o6.1, ())) o4
noncomputable def conveqIntS (N : Nat) : Con := { f := 19, din := dinveqIntS, outs := outveqIntS, F := FveqIntS N }
noncomputable def XveqIntS (N : Nat) : Ctx := { E := EveqIntS N, H := HveqIntS, lp := [(0, { hd := dveqIntS_0, outs := oveqIntS_0, run := fun v => lveqIntS_0 N N v })], jn := [] }
noncomputable def bveqIntS_0 : Code := loopBody (codeOf Try.f19) 0
theorem FveqIntS_eq (N : Nat) (x : ((List Int) × ((List Int) × Unit))) : evFn (XveqIntS N) Try.f19 dinveqIntS outveqIntS x = FveqIntS N x := by kernel_rfl
theorem lveqIntS_0_eq (N n : Nat) (v : ((List Int) × ((List Int) × (Int × Unit)))) : lveqIntS_0 N (n + 1) v = ev (XveqIntS N) bveqIntS_0 (roundK dveqIntS_0 oveqIntS_0 (lveqIntS_0 N n)) (dveqIntS_0.mk' v) := by kernel_rfl
theorem cxveqIntS (N : Nat) : CtxOk Try.prog (XveqIntS N) := ⟨⟨TE_ok, fun k hk => absurd hk List.not_mem_nil⟩, mixed⟩
theorem lpveqIntS_0 (N : Nat) : LoopOk Try.prog { hd := dveqIntS_0, outs := oveqIntS_0, run := fun v => lveqIntS_0 N N v } bveqIntS_0 :=
  loop_fuel (d := dveqIntS_0) (os := oveqIntS_0) (cxveqIntS N) (loops_at (ids := []) (by kernel_rfl) (trivial)) (lveqIntS_0 N) (fun _ => rfl) (fun n v => lveqIntS_0_eq N n v) (fun _ => N)
theorem specveqIntS (N : Nat) : Spec Try.prog (conveqIntS N) :=
  Spec.of_eq (fn_spec (cxveqIntS N) (f := 19) (fn := Try.f19) (c := codeOf Try.f19) (by kernel_rfl) (by kernel_rfl) (by kernel_rfl) (loops_at (ids := [0]) (by kernel_rfl) ⟨lp_of (lpveqIntS_0 N), trivial⟩) (by kernel_rfl)) (fun x r h => (FveqIntS_eq N x).trans h)

/-! ### 128: laws.eqNode -/

noncomputable def dinveqNode : Desc := { n := 2, regs := [.one (.val (.pair (.sl (.int .i64)) (.pair (.sl (.int .i64)) .unit))), .one (.val (.pair (.sl (.int .i64)) (.pair (.sl (.int .i64)) .unit)))], bx := [], pins := [] }
noncomputable def outveqNode : Outs := [(.ret, { n := 1, regs := [.one (.val .bool)], bx := [], pins := [] })]
noncomputable def HveqNode : Hints := [(0, [(0, { fz := true }), (1, { fz := true })])]
noncomputable def EveqNode (N : Nat) : Env := { te := TE, cs := [conveqIntS N] }
noncomputable def FveqNode (N : Nat) (x : (((List Int) × ((List Int) × Unit)) × (((List Int) × ((List Int) × Unit)) × Unit))) : Option (Bool × Unit) :=
  (FveqIntS N (x.1.1, x.2.1.1, ())).bind fun r1 =>
  bif !r1.1 then
   some (false, ())
  else
  (FveqIntS N (x.1.2.1, x.2.1.2.1, ())).bind fun r2 =>
  bif !r2.1 then
   some (false, ())
  else
  some (true, ())
noncomputable def conveqNode (N : Nat) : Con := { f := 128, din := dinveqNode, outs := outveqNode, F := FveqNode N }
noncomputable def XveqNode (N : Nat) : Ctx := { E := EveqNode N, H := HveqNode, lp := [], jn := [] }
theorem FveqNode_eq (N : Nat) (x : (((List Int) × ((List Int) × Unit)) × (((List Int) × ((List Int) × Unit)) × Unit))) : evFn (XveqNode N) Try.f128 dinveqNode outveqNode x = FveqNode N x := by kernel_rfl
theorem cxveqNode (N : Nat) : CtxOk Try.prog (XveqNode N) := ⟨⟨TE_ok, List.forall_mem_cons.2 ⟨specveqIntS N, fun k hk => absurd hk List.not_mem_nil⟩⟩, mixed⟩
theorem specveqNode (N : Nat) : Spec Try.prog (conveqNode N) :=
  Spec.of_eq (fn_spec (cxveqNode N) (f := 128) (fn := Try.f128) (c := codeOf Try.f128) (by kernel_rfl) (by kernel_rfl) (by kernel_rfl) (loops_at (ids := []) (by kernel_rfl) (trivial)) (by kernel_rfl)) (fun x r h => (FveqNode_eq N x).trans h)

/-! ### 68: laws.eqNodeS -/

noncomputable def dinveqNodeS : Desc := { n := 2, regs := [.one (.val (.sl (.pair (.sl (.int .i64)) (.pair (.sl (.int .i64)) .unit)))), .one (.val (.sl (.pair (.sl (.int .i64)) (.pair (.sl (.int .i64)) .unit))))], bx := [], pins := [] }
noncomputable def outveqNodeS : Outs := [(.ret, { n := 1, regs := [.one (.val .bool)], bx := [], pins := [] })]
noncomputable def HveqNodeS : Hints := []
noncomputable def EveqNodeS (N : Nat) : Env := { te := TE, cs := [conveqNode N] }
noncomputable def dveqNodeS_0 : Desc := { n := 27, regs := [.one (.val (.sl (.pair (.sl (.int .i64)) (.pair (.sl (.int .i64)) .unit)))), .one (.val (.sl (.pair (.sl (.int .i64)) (.pair (.sl (.int .i64)) .unit)))), u, u, u, .one (.val (.int .i64))], bx := [], pins := [] }
noncomputable def oveqNodeS_0 : Outs := [(.exit 0, { n := 27, regs := [], bx := [], pins := [] }), (.ret, { n := 27, regs := [u, u, u, u, .one (.val .bool)], bx := [], pins := [] })]
noncomputable def lveqNodeS_0 (N : Nat) : Nat → ((List ((List Int) × ((List Int) × Unit))) × ((List ((List Int) × ((List Int) × Unit))) × (Int × Unit))) → Option (Unit ⊕ (Bool × Unit))
  | 0, _ => none
  | n + 1, v =>
    let y2 := decide (v.2.2.1 < (v.1.length : Int))
    bif y2 then
     bif decide (0 ≤ v.2.2.1) then
     bif decide (v.2.2.1.toNat < v.1.length) then
     let y3 := v.1.getD v.2.2.1.toNat (([] : (List Int)), ([] : (List Int)), ())
     bif decide (0 ≤ v.2.2.1) then
     bif decide (v.2.2.1.toNat < v.2.1.length) then
     let y4 := v.2.1.getD v.2.2.1.toNat (([] : (List Int)), ([] : (List Int)), ())
     (FveqNode N (y3, y4, ())).bind fun r5 =>
     bif !r5.1 then
      some (.inr ((false, ())))
     else
     lveqNodeS_0 N n (v.1, v.2.1, w64 (v.2.2.1 + (1 : Int)), ())
     else none
     else none
     else none
     else none
    else
    some (.inl ())
noncomputable def FveqNodeS (N : Nat) (x : ((List ((List Int) × ((List Int) × Unit))) × ((List ((List Int) × ((List Int) × Unit))) × Unit))) : Option (Bool × Unit) :=
  let y1 := (x.1.length : Int) != (x.2.1.length : Int)
  bif y1 then
   some (false, ())
  else
  (lveqNodeS_0 N N (x.1, x.2.1, (0 : Int), ())).bind fun o6 =>
  Sum.elim (fun o7 =>
   some (true, ())) (fun o8 =>
   some (o8.1, ())) o6
noncomputable def conveqNodeS (N : Nat) : Con := { f := 68, din := dinveqNodeS, outs := outveqNodeS, F := FveqNodeS N }
noncomputable def XveqNodeS (N : Nat) : Ctx := { E := EveqNodeS N, H := HveqNodeS, lp := [(0, { hd := dveqNodeS_0, outs := oveqNodeS_0, run := fun v => lveqNodeS_0 N N v })], jn := [] }
noncomputable def bveqNodeS_0 : Code := loopBody (codeOf Try.f68) 0
theorem FveqNodeS_eq (N : Nat) (x : ((List ((List Int) × ((List Int) × Unit))) × ((List ((List Int) × ((List Int) × Unit))) × Unit))) : evFn (XveqNodeS N) Try.f68 dinveqNodeS outveqNodeS x = FveqNodeS N x := by kernel_rfl
theorem lveqNodeS_0_eq (N n : Nat) (v : ((List ((List Int) × ((List Int) × Unit))) × ((List ((List Int) × ((List Int) × Unit))) × (Int × Unit)))) : lveqNodeS_0 N (n + 1) v = ev (XveqNodeS N) bveqNodeS_0 (roundK dveqNodeS_0 oveqNodeS_0 (lveqNodeS_0 N n)) (dveqNodeS_0.mk' v) := by kernel_rfl
theorem cxveqNodeS (N : Nat) : CtxOk Try.prog (XveqNodeS N) := ⟨⟨TE_ok, List.forall_mem_cons.2 ⟨specveqNode N, fun k hk => absurd hk List.not_mem_nil⟩⟩, mixed⟩
theorem lpveqNodeS_0 (N : Nat) : LoopOk Try.prog { hd := dveqNodeS_0, outs := oveqNodeS_0, run := fun v => lveqNodeS_0 N N v } bveqNodeS_0 :=
  loop_fuel (d := dveqNodeS_0) (os := oveqNodeS_0) (cxveqNodeS N) (loops_at (ids := []) (by kernel_rfl) (trivial)) (lveqNodeS_0 N) (fun _ => rfl) (fun n v => lveqNodeS_0_eq N n v) (fun _ => N)
theorem specveqNodeS (N : Nat) : Spec Try.prog (conveqNodeS N) :=
  Spec.of_eq (fn_spec (cxveqNodeS N) (f := 68) (fn := Try.f68) (c := codeOf Try.f68) (by kernel_rfl) (by kernel_rfl) (by kernel_rfl) (loops_at (ids := [0]) (by kernel_rfl) ⟨lp_of (lpveqNodeS_0 N), trivial⟩) (by kernel_rfl)) (fun x r h => (FveqNodeS_eq N x).trans h)

/-! ### 69: laws.eqIntSS -/

noncomputable def dinveqIntSS : Desc := { n := 2, regs := [.one (.val (.sl (.sl (.int .i64)))), .one (.val (.sl (.sl (.int .i64))))], bx := [], pins := [] }
noncomputable def outveqIntSS : Outs := [(.ret, { n := 1, regs := [.one (.val .bool)], bx := [], pins := [] })]
noncomputable def HveqIntSS : Hints := []
noncomputable def EveqIntSS (N : Nat) : Env := { te := TE, cs := [conveqIntS N] }
noncomputable def dveqIntSS_0 : Desc := { n := 27, regs := [.one (.val (.sl (.sl (.int .i64)))), .one (.val (.sl (.sl (.int .i64)))), u, u, u, .one (.val (.int .i64))], bx := [], pins := [] }
noncomputable def oveqIntSS_0 : Outs := [(.exit 0, { n := 27, regs := [], bx := [], pins := [] }), (.ret, { n := 27, regs := [u, u, u, u, .one (.val .bool)], bx := [], pins := [] })]
noncomputable def lveqIntSS_0 (N : Nat) : Nat → ((List (List Int)) × ((List (List Int)) × (Int × Unit))) → Option (Unit ⊕ (Bool × Unit))
  | 0, _ => none
  | n + 1, v =>
    let y2 := decide (v.2.2.1 < (v.1.length : Int))
    bif y2 then
     bif decide (0 ≤ v.2.2.1) then
     bif decide (v.2.2.1.toNat < v.1.length) then
     let y3 := v.1.getD v.2.2.1.toNat ([] : (List Int))
     bif decide (0 ≤ v.2.2.1) then
     bif decide (v.2.2.1.toNat < v.2.1.length) then
     let y4 := v.2.1.getD v.2.2.1.toNat ([] : (List Int))
     (FveqIntS N (y3, y4, ())).bind fun r5 =>
     bif !r5.1 then
      some (.inr ((false, ())))
     else
     lveqIntSS_0 N n (v.1, v.2.1, w64 (v.2.2.1 + (1 : Int)), ())
     else none
     else none
     else none
     else none
    else
    some (.inl ())
noncomputable def FveqIntSS (N : Nat) (x : ((List (List Int)) × ((List (List Int)) × Unit))) : Option (Bool × Unit) :=
  let y1 := (x.1.length : Int) != (x.2.1.length : Int)
  bif y1 then
   some (false, ())
  else
  (lveqIntSS_0 N N (x.1, x.2.1, (0 : Int), ())).bind fun o6 =>
  Sum.elim (fun o7 =>
   some (true, ())) (fun o8 =>
   some (o8.1, ())) o6
noncomputable def conveqIntSS (N : Nat) : Con := { f := 69, din := dinveqIntSS, outs := outveqIntSS, F := FveqIntSS N }
noncomputable def XveqIntSS (N : Nat) : Ctx := { E := EveqIntSS N, H := HveqIntSS, lp := [(0, { hd := dveqIntSS_0, outs := oveqIntSS_0, run := fun v => lveqIntSS_0 N N v })], jn := [] }
noncomputable def bveqIntSS_0 : Code := loopBody (codeOf Try.f69) 0
theorem FveqIntSS_eq (N : Nat) (x : ((List (List Int)) × ((List (List Int)) × Unit))) : evFn (XveqIntSS N) Try.f69 dinveqIntSS outveqIntSS x = FveqIntSS N x := by kernel_rfl
theorem lveqIntSS_0_eq (N n : Nat) (v : ((List (List Int)) × ((List (List Int)) × (Int × Unit)))) : lveqIntSS_0 N (n + 1) v = ev (XveqIntSS N) bveqIntSS_0 (roundK dveqIntSS_0 oveqIntSS_0 (lveqIntSS_0 N n)) (dveqIntSS_0.mk' v) := by kernel_rfl
theorem cxveqIntSS (N : Nat) : CtxOk Try.prog (XveqIntSS N) := ⟨⟨TE_ok, List.forall_mem_cons.2 ⟨specveqIntS N, fun k hk => absurd hk List.not_mem_nil⟩⟩, mixed⟩
theorem lpveqIntSS_0 (N : Nat) : LoopOk Try.prog { hd := dveqIntSS_0, outs := oveqIntSS_0, run := fun v => lveqIntSS_0 N N v } bveqIntSS_0 :=
  loop_fuel (d := dveqIntSS_0) (os := oveqIntSS_0) (cxveqIntSS N) (loops_at (ids := []) (by kernel_rfl) (trivial)) (lveqIntSS_0 N) (fun _ => rfl) (fun n v => lveqIntSS_0_eq N n v) (fun _ => N)
theorem specveqIntSS (N : Nat) : Spec Try.prog (conveqIntSS N) :=
  Spec.of_eq (fn_spec (cxveqIntSS N) (f := 69) (fn := Try.f69) (c := codeOf Try.f69) (by kernel_rfl) (by kernel_rfl) (by kernel_rfl) (loops_at (ids := [0]) (by kernel_rfl) ⟨lp_of (lpveqIntSS_0 N), trivial⟩) (by kernel_rfl)) (fun x r h => (FveqIntSS_eq N x).trans h)

/-! ### 20: laws.eqGraph -/

noncomputable def dinveqGraph : Desc := { n := 2, regs := [.one (.val (.pair (.sl (.pair (.sl (.int .i64)) (.pair (.sl (.int .i64)) .unit))) (.pair (.sl (.sl (.int .i64))) (.pair (.sl (.int .i64)) .unit)))), .one (.val (.pair (.sl (.pair (.sl (.int .i64)) (.pair (.sl (.int .i64)) .unit))) (.pair (.sl (.sl (.int .i64))) (.pair (.sl (.int .i64)) .unit))))], bx := [], pins := [] }
noncomputable def outveqGraph : Outs := [(.ret, { n := 1, regs := [.one (.val .bool)], bx := [], pins := [] })]
noncomputable def HveqGraph : Hints := [(0, [(0, { fz := true }), (1, { fz := true })]),
  (3, [(4, { con := 1 })]),
  (5, [(4, { con := 2 })])]
noncomputable def EveqGraph (N : Nat) : Env := { te := TE, cs := [conveqNodeS N, conveqIntSS N, conveqIntS N] }
noncomputable def FveqGraph (N : Nat) (x : (((List ((List Int) × ((List Int) × Unit))) × ((List (List Int)) × ((List Int) × Unit))) × (((List ((List Int) × ((List Int) × Unit))) × ((List (List Int)) × ((List Int) × Unit))) × Unit))) : Option (Bool × Unit) :=
  (FveqNodeS N (x.1.1, x.2.1.1, ())).bind fun r1 =>
  bif !r1.1 then
   some (false, ())
  else
  (FveqIntSS N (x.1.2.1, x.2.1.2.1, ())).bind fun r2 =>
  bif !r2.1 then
   some (false, ())
  else
  (FveqIntS N (x.1.2.2.1, x.2.1.2.2.1, ())).bind fun r3 =>
  bif !r3.1 then
   some (false, ())
  else
  some (true, ())
noncomputable def conveqGraph (N : Nat) : Con := { f := 20, din := dinveqGraph, outs := outveqGraph, F := FveqGraph N }
noncomputable def XveqGraph (N : Nat) : Ctx := { E := EveqGraph N, H := HveqGraph, lp := [], jn := [] }
theorem FveqGraph_eq (N : Nat) (x : (((List ((List Int) × ((List Int) × Unit))) × ((List (List Int)) × ((List Int) × Unit))) × (((List ((List Int) × ((List Int) × Unit))) × ((List (List Int)) × ((List Int) × Unit))) × Unit))) : evFn (XveqGraph N) Try.f20 dinveqGraph outveqGraph x = FveqGraph N x := by kernel_rfl
theorem cxveqGraph (N : Nat) : CtxOk Try.prog (XveqGraph N) := ⟨⟨TE_ok, List.forall_mem_cons.2 ⟨specveqNodeS N, List.forall_mem_cons.2 ⟨specveqIntSS N, List.forall_mem_cons.2 ⟨specveqIntS N, fun k hk => absurd hk List.not_mem_nil⟩⟩⟩⟩, mixed⟩
theorem specveqGraph (N : Nat) : Spec Try.prog (conveqGraph N) :=
  Spec.of_eq (fn_spec (cxveqGraph N) (f := 20) (fn := Try.f20) (c := codeOf Try.f20) (by kernel_rfl) (by kernel_rfl) (by kernel_rfl) (loops_at (ids := []) (by kernel_rfl) (trivial)) (by kernel_rfl)) (fun x r h => (FveqGraph_eq N x).trans h)

/-! ### 22: laws.markIntS -/

noncomputable def dinvmarkIntS : Desc := { n := 2, regs := [.one (.lit (.row 0)), .one (.val (.int .i64))], bx := [(0, .row (.int .i64))], pins := [] }
noncomputable def outvmarkIntS : Outs := [(.ret, { n := 1, regs := [.one (.val (.int .i64))], bx := [(0, .row (.int .i64))], pins := [.one (.lit (.row 0))] })]
noncomputable def HvmarkIntS : Hints := []
noncomputable def EvmarkIntS (_N : Nat) : Env := { te := TE, cs := [] }
noncomputable def dvmarkIntS_0 : Desc := { n := 19, regs := [.one (.lit (.row 0)), .one (.val (.int .i64)), u, u, u, .one (.val (.int .i64))], bx := [(0, .row (.int .i64))], pins := [.one (.lit (.row 0))] }
noncomputable def ovmarkIntS_0 : Outs := [(.exit 0, { n := 19, regs := [u, .one (.val (.int .i64))], bx := [(0, .row (.int .i64))], pins := [.one (.lit (.row 0))] })]
noncomputable def lvmarkIntS_0 (N : Nat) : Nat → (Int × (Int × ((List Int) × Unit))) → Option (Int × ((List Int) × Unit))
  | 0, _ => none
  | n + 1, v =>
    let y1 := decide (v.2.1 < (v.2.2.1.length : Int))
    bif y1 then
     bif decide (0 ≤ v.2.1) then
     bif decide (v.2.1.toNat < v.2.2.1.length) then
     lvmarkIntS_0 N n (w64 (v.1 + (1 : Int)), w64 (v.2.1 + (1 : Int)), v.2.2.1.set v.2.1.toNat v.1, ())
     else none
     else none
    else
    some (v.1, v.2.2.1, ())
noncomputable def FvmarkIntS (N : Nat) (x : (Int × ((List Int) × Unit))) : Option (Int × ((List Int) × Unit)) :=
  (lvmarkIntS_0 N N (x.1, (0 : Int), x.2.1, ())).bind fun o2 =>
  some (o2.1, o2.2.1, ())
noncomputable def convmarkIntS (N : Nat) : Con := { f := 22, din := dinvmarkIntS, outs := outvmarkIntS, F := FvmarkIntS N }
noncomputable def XvmarkIntS (N : Nat) : Ctx := { E := EvmarkIntS N, H := HvmarkIntS, lp := [(0, { hd := dvmarkIntS_0, outs := ovmarkIntS_0, run := fun v => lvmarkIntS_0 N N v })], jn := [] }
noncomputable def bvmarkIntS_0 : Code := loopBody (codeOf Try.f22) 0
theorem FvmarkIntS_eq (N : Nat) (x : (Int × ((List Int) × Unit))) : evFn (XvmarkIntS N) Try.f22 dinvmarkIntS outvmarkIntS x = FvmarkIntS N x := by kernel_rfl
theorem lvmarkIntS_0_eq (N n : Nat) (v : (Int × (Int × ((List Int) × Unit)))) : lvmarkIntS_0 N (n + 1) v = ev (XvmarkIntS N) bvmarkIntS_0 (roundK dvmarkIntS_0 ovmarkIntS_0 (lvmarkIntS_0 N n)) (dvmarkIntS_0.mk' v) := by kernel_rfl
theorem cxvmarkIntS (N : Nat) : CtxOk Try.prog (XvmarkIntS N) := ⟨⟨TE_ok, fun k hk => absurd hk List.not_mem_nil⟩, mixed⟩
theorem lpvmarkIntS_0 (N : Nat) : LoopOk Try.prog { hd := dvmarkIntS_0, outs := ovmarkIntS_0, run := fun v => lvmarkIntS_0 N N v } bvmarkIntS_0 :=
  loop_fuel (d := dvmarkIntS_0) (os := ovmarkIntS_0) (cxvmarkIntS N) (loops_at (ids := []) (by kernel_rfl) (trivial)) (lvmarkIntS_0 N) (fun _ => rfl) (fun n v => lvmarkIntS_0_eq N n v) (fun _ => N)
theorem specvmarkIntS (N : Nat) : Spec Try.prog (convmarkIntS N) :=
  Spec.of_eq (fn_spec (cxvmarkIntS N) (f := 22) (fn := Try.f22) (c := codeOf Try.f22) (by kernel_rfl) (by kernel_rfl) (by kernel_rfl) (loops_at (ids := [0]) (by kernel_rfl) ⟨lp_of (lpvmarkIntS_0 N), trivial⟩) (by kernel_rfl)) (fun x r h => (FvmarkIntS_eq N x).trans h)

/-! ### 70: laws.markNodeS -/

noncomputable def dinvmarkNodeS : Desc := { n := 2, regs := [.one (.lit (.row 0)), .one (.val (.int .i64))], bx := [(0, .row (.pair (.sl (.int .i64)) (.pair (.sl (.int .i64)) .unit)))], pins := [] }
noncomputable def outvmarkNodeS : Outs := [(.ret, { n := 1, regs := [.one (.val (.int .i64))], bx := [(0, .row (.pair (.sl (.int .i64)) (.pair (.sl (.int .i64)) .unit)))], pins := [.one (.lit (.row 0))] })]
noncomputable def HvmarkNodeS : Hints := [(4, [(6, { sg := [(0, 1051624)], pre := [.take 16 1051624], post := [.give 1051624 0] })]),
  (5, [(6, { sg := [(0, 1064424)], pre := [.take 23 1064424], post := [.give 1064424 0] })])]
noncomputable def EvmarkNodeS (N : Nat) : Env := { te := TE, cs := [convmarkIntS N] }
noncomputable def dvmarkNodeS_0 : Desc := { n := 27, regs := [.one (.lit (.row 0)), .one (.val (.int .i64)), u, u, u, .one (.val (.int .i64))], bx := [(0, .row (.pair (.sl (.int .i64)) (.pair (.sl (.int .i64)) .unit)))], pins := [.one (.lit (.row 0))] }
noncomputable def ovmarkNodeS_0 : Outs := [(.exit 0, { n := 27, regs := [u, .one (.val (.int .i64))], bx := [(0, .row (.pair (.sl (.int .i64)) (.pair (.sl (.int .i64)) .unit)))], pins := [.one (.lit (.row 0))] })]
noncomputable def lvmarkNodeS_0 (N : Nat) : Nat → (Int × (Int × ((List ((List Int) × ((List Int) × Unit))) × Unit))) → Option (Int × ((List ((List Int) × ((List Int) × Unit))) × Unit))
  | 0, _ => none
  | n + 1, v =>
    let y1 := decide (v.2.1 < (v.2.2.1.length : Int))
    bif y1 then
     bif decide (0 ≤ v.2.1) then
     bif decide (v.2.1.toNat < v.2.2.1.length) then
     (FvmarkIntS N (v.1, (v.2.2.1.getD v.2.1.toNat (([] : (List Int)), ([] : (List Int)), ())).1, ())).bind fun r2 =>
     bif decide (0 ≤ v.2.1) then
     bif decide (v.2.1.toNat < (v.2.2.1.set v.2.1.toNat (r2.2.1, (v.2.2.1.getD v.2.1.toNat (([] : (List Int)), ([] : (List Int)), ())).2)).length) then
     (FvmarkIntS N (r2.1, (((v.2.2.1.set v.2.1.toNat (r2.2.1, (v.2.2.1.getD v.2.1.toNat (([] : (List Int)), ([] : (List Int)), ())).2)).getD v.2.1.toNat (([] : (List Int)), ([] : (List Int)), ())).2).1, ())).bind fun r3 =>
     lvmarkNodeS_0 N n (r3.1, w64 (v.2.1 + (1 : Int)), (v.2.2.1.set v.2.1.toNat (r2.2.1, (v.2.2.1.getD v.2.1.toNat (([] : (List Int)), ([] : (List Int)), ())).2)).set v.2.1.toNat (((v.2.2.1.set v.2.1.toNat (r2.2.1, (v.2.2.1.getD v.2.1.toNat (([] : (List Int)), ([] : (List Int)), ())).2)).getD v.2.1.toNat (([] : (List Int)), ([] : (List Int)), ())).1, r3.2.1, (((v.2.2.1.set v.2.1.toNat (r2.2.1, (v.2.2.1.getD v.2.1.toNat (([] : (List Int)), ([] : (List Int)), ())).2)).getD v.2.1.toNat (([] : (List Int)), ([] : (List Int)), ())).2).2), ())
     else none
     else none
     else none
     else none
    else
    some (v.1, v.2.2.1, ())
noncomputable def FvmarkNodeS (N : Nat) (x : (Int × ((List ((List Int) × ((List Int) × Unit))) × Unit))) : Option (Int × ((List ((List Int) × ((List Int) × Unit))) × Unit)) :=
  (lvmarkNodeS_0 N N (x.1, (0 : Int), x.2.1, ())).bind fun o4 =>
  some (o4.1, o4.2.1, ())
noncomputable def convmarkNodeS (N : Nat) : Con := { f := 70, din := dinvmarkNodeS, outs := outvmarkNodeS, F := FvmarkNodeS N }
noncomputable def XvmarkNodeS (N : Nat) : Ctx := { E := EvmarkNodeS N, H := HvmarkNodeS, lp := [(0, { hd := dvmarkNodeS_0, outs := ovmarkNodeS_0, run := fun v => lvmarkNodeS_0 N N v })], jn := [] }
noncomputable def bvmarkNodeS_0 : Code := loopBody (codeOf Try.f70) 0
theorem FvmarkNodeS_eq (N : Nat) (x : (Int × ((List ((List Int) × ((List Int) × Unit))) × Unit))) : evFn (XvmarkNodeS N) Try.f70 dinvmarkNodeS outvmarkNodeS x = FvmarkNodeS N x := by kernel_rfl
theorem lvmarkNodeS_0_eq (N n : Nat) (v : (Int × (Int × ((List ((List Int) × ((List Int) × Unit))) × Unit)))) : lvmarkNodeS_0 N (n + 1) v = ev (XvmarkNodeS N) bvmarkNodeS_0 (roundK dvmarkNodeS_0 ovmarkNodeS_0 (lvmarkNodeS_0 N n)) (dvmarkNodeS_0.mk' v) := by kernel_rfl
theorem cxvmarkNodeS (N : Nat) : CtxOk Try.prog (XvmarkNodeS N) := ⟨⟨TE_ok, List.forall_mem_cons.2 ⟨specvmarkIntS N, fun k hk => absurd hk List.not_mem_nil⟩⟩, mixed⟩
theorem lpvmarkNodeS_0 (N : Nat) : LoopOk Try.prog { hd := dvmarkNodeS_0, outs := ovmarkNodeS_0, run := fun v => lvmarkNodeS_0 N N v } bvmarkNodeS_0 :=
  loop_fuel (d := dvmarkNodeS_0) (os := ovmarkNodeS_0) (cxvmarkNodeS N) (loops_at (ids := []) (by kernel_rfl) (trivial)) (lvmarkNodeS_0 N) (fun _ => rfl) (fun n v => lvmarkNodeS_0_eq N n v) (fun _ => N)
theorem specvmarkNodeS (N : Nat) : Spec Try.prog (convmarkNodeS N) :=
  Spec.of_eq (fn_spec (cxvmarkNodeS N) (f := 70) (fn := Try.f70) (c := codeOf Try.f70) (by kernel_rfl) (by kernel_rfl) (by kernel_rfl) (loops_at (ids := [0]) (by kernel_rfl) ⟨lp_of (lpvmarkNodeS_0 N), trivial⟩) (by kernel_rfl)) (fun x r h => (FvmarkNodeS_eq N x).trans h)

/-! ### 71: laws.markIntSS -/

noncomputable def dinvmarkIntSS : Desc := { n := 2, regs := [.one (.lit (.row 0)), .one (.val (.int .i64))], bx := [(0, .row (.sl (.int .i64)))], pins := [] }
noncomputable def outvmarkIntSS : Outs := [(.ret, { n := 1, regs := [.one (.val (.int .i64))], bx := [(0, .row (.sl (.int .i64)))], pins := [.one (.lit (.row 0))] })]
noncomputable def HvmarkIntSS : Hints := [(4, [(5, { sg := [(0, 1051560)], pre := [.take 15 1051560], post := [.give 1051560 0] })])]
noncomputable def EvmarkIntSS (N : Nat) : Env := { te := TE, cs := [convmarkIntS N] }
noncomputable def dvmarkIntSS_0 : Desc := { n := 19, regs := [.one (.lit (.row 0)), .one (.val (.int .i64)), u, u, u, .one (.val (.int .i64))], bx := [(0, .row (.sl (.int .i64)))], pins := [.one (.lit (.row 0))] }
noncomputable def ovmarkIntSS_0 : Outs := [(.exit 0, { n := 19, regs := [u, .one (.val (.int .i64))], bx := [(0, .row (.sl (.int .i64)))], pins := [.one (.lit (.row 0))] })]
noncomputable def lvmarkIntSS_0 (N : Nat) : Nat → (Int × (Int × ((List (List Int)) × Unit))) → Option (Int × ((List (List Int)) × Unit))
  | 0, _ => none
  | n + 1, v =>
    let y1 := decide (v.2.1 < (v.2.2.1.length : Int))
    bif y1 then
     bif decide (0 ≤ v.2.1) then
     bif decide (v.2.1.toNat < v.2.2.1.length) then
     (FvmarkIntS N (v.1, v.2.2.1.getD v.2.1.toNat ([] : (List Int)), ())).bind fun r2 =>
     lvmarkIntSS_0 N n (r2.1, w64 (v.2.1 + (1 : Int)), v.2.2.1.set v.2.1.toNat r2.2.1, ())
     else none
     else none
    else
    some (v.1, v.2.2.1, ())
noncomputable def FvmarkIntSS (N : Nat) (x : (Int × ((List (List Int)) × Unit))) : Option (Int × ((List (List Int)) × Unit)) :=
  (lvmarkIntSS_0 N N (x.1, (0 : Int), x.2.1, ())).bind fun o3 =>
  some (o3.1, o3.2.1, ())
noncomputable def convmarkIntSS (N : Nat) : Con := { f := 71, din := dinvmarkIntSS, outs := outvmarkIntSS, F := FvmarkIntSS N }
noncomputable def XvmarkIntSS (N : Nat) : Ctx := { E := EvmarkIntSS N, H := HvmarkIntSS, lp := [(0, { hd := dvmarkIntSS_0, outs := ovmarkIntSS_0, run := fun v => lvmarkIntSS_0 N N v })], jn := [] }
noncomputable def bvmarkIntSS_0 : Code := loopBody (codeOf Try.f71) 0
theorem FvmarkIntSS_eq (N : Nat) (x : (Int × ((List (List Int)) × Unit))) : evFn (XvmarkIntSS N) Try.f71 dinvmarkIntSS outvmarkIntSS x = FvmarkIntSS N x := by kernel_rfl
theorem lvmarkIntSS_0_eq (N n : Nat) (v : (Int × (Int × ((List (List Int)) × Unit)))) : lvmarkIntSS_0 N (n + 1) v = ev (XvmarkIntSS N) bvmarkIntSS_0 (roundK dvmarkIntSS_0 ovmarkIntSS_0 (lvmarkIntSS_0 N n)) (dvmarkIntSS_0.mk' v) := by kernel_rfl
theorem cxvmarkIntSS (N : Nat) : CtxOk Try.prog (XvmarkIntSS N) := ⟨⟨TE_ok, List.forall_mem_cons.2 ⟨specvmarkIntS N, fun k hk => absurd hk List.not_mem_nil⟩⟩, mixed⟩
theorem lpvmarkIntSS_0 (N : Nat) : LoopOk Try.prog { hd := dvmarkIntSS_0, outs := ovmarkIntSS_0, run := fun v => lvmarkIntSS_0 N N v } bvmarkIntSS_0 :=
  loop_fuel (d := dvmarkIntSS_0) (os := ovmarkIntSS_0) (cxvmarkIntSS N) (loops_at (ids := []) (by kernel_rfl) (trivial)) (lvmarkIntSS_0 N) (fun _ => rfl) (fun n v => lvmarkIntSS_0_eq N n v) (fun _ => N)
theorem specvmarkIntSS (N : Nat) : Spec Try.prog (convmarkIntSS N) :=
  Spec.of_eq (fn_spec (cxvmarkIntSS N) (f := 71) (fn := Try.f71) (c := codeOf Try.f71) (by kernel_rfl) (by kernel_rfl) (by kernel_rfl) (loops_at (ids := [0]) (by kernel_rfl) ⟨lp_of (lpvmarkIntSS_0 N), trivial⟩) (by kernel_rfl)) (fun x r h => (FvmarkIntSS_eq N x).trans h)

/-! ### 21: laws.markGraph -/

noncomputable def dinvmarkGraph : Desc := { n := 2, regs := [.agg [.lit (.row 0), .lit (.row 1), .lit (.row 2)], .one (.val (.int .i64))], bx := [(0, .row (.pair (.sl (.int .i64)) (.pair (.sl (.int .i64)) .unit))), (1, .row (.sl (.int .i64))), (2, .row (.int .i64))], pins := [] }
noncomputable def outvmarkGraph : Outs := [(.ret, { n := 1, regs := [.one (.val (.int .i64))], bx := [(0, .row (.pair (.sl (.int .i64)) (.pair (.sl (.int .i64)) .unit))), (1, .row (.sl (.int .i64))), (2, .row (.int .i64))], pins := [.agg [.lit (.row 0), .lit (.row 1), .lit (.row 2)]] })]
noncomputable def HvmarkGraph : Hints := [(2, [(3, { con := 1, sg := [(0, 1)] })]),
  (3, [(3, { con := 2, sg := [(0, 2)] })])]
noncomputable def EvmarkGraph (N : Nat) : Env := { te := TE, cs := [convmarkNodeS N, convmarkIntSS N, convmarkIntS N] }
noncomputable def FvmarkGraph (N : Nat) (x : (Int × ((List ((List Int) × ((List Int) × Unit))) × ((List (List Int)) × ((List Int) × Unit))))) : Option (Int × ((List ((List Int) × ((List Int) × Unit))) × ((List (List Int)) × ((List Int) × Unit)))) :=
  (FvmarkNodeS N (x.1, x.2.1, ())).bind fun r1 =>
  (FvmarkIntSS N (r1.1, x.2.2.1, ())).bind fun r2 =>
  (FvmarkIntS N (r2.1, x.2.2.2.1, ())).bind fun r3 =>
  some (r3.1, r1.2.1, r2.2.1, r3.2.1, ())
noncomputable def convmarkGraph (N : Nat) : Con := { f := 21, din := dinvmarkGraph, outs := outvmarkGraph, F := FvmarkGraph N }
noncomputable def XvmarkGraph (N : Nat) : Ctx := { E := EvmarkGraph N, H := HvmarkGraph, lp := [], jn := [] }
theorem FvmarkGraph_eq (N : Nat) (x : (Int × ((List ((List Int) × ((List Int) × Unit))) × ((List (List Int)) × ((List Int) × Unit))))) : evFn (XvmarkGraph N) Try.f21 dinvmarkGraph outvmarkGraph x = FvmarkGraph N x := by kernel_rfl
theorem cxvmarkGraph (N : Nat) : CtxOk Try.prog (XvmarkGraph N) := ⟨⟨TE_ok, List.forall_mem_cons.2 ⟨specvmarkNodeS N, List.forall_mem_cons.2 ⟨specvmarkIntSS N, List.forall_mem_cons.2 ⟨specvmarkIntS N, fun k hk => absurd hk List.not_mem_nil⟩⟩⟩⟩, mixed⟩
theorem specvmarkGraph (N : Nat) : Spec Try.prog (convmarkGraph N) :=
  Spec.of_eq (fn_spec (cxvmarkGraph N) (f := 21) (fn := Try.f21) (c := codeOf Try.f21) (by kernel_rfl) (by kernel_rfl) (by kernel_rfl) (loops_at (ids := []) (by kernel_rfl) (trivial)) (by kernel_rfl)) (fun x r h => (FvmarkGraph_eq N x).trans h)

/-! ### 23: laws.heldIntS -/

noncomputable def dinvheldIntS : Desc := { n := 2, regs := [.one (.val (.sl (.int .i64))), .one (.val (.int .i64))], bx := [], pins := [] }
noncomputable def outvheldIntS : Outs := [(.ret, { n := 1, regs := [.one (.val (.int .i64))], bx := [], pins := [] })]
noncomputable def HvheldIntS : Hints := []
noncomputable def EvheldIntS (_N : Nat) : Env := { te := TE, cs := [] }
noncomputable def dvheldIntS_0 : Desc := { n := 21, regs := [.one (.val (.sl (.int .i64))), .one (.val (.int .i64)), u, u, u, .one (.val (.int .i64))], bx := [], pins := [] }
noncomputable def ovheldIntS_0 : Outs := [(.exit 0, { n := 21, regs := [u, .one (.val (.int .i64))], bx := [], pins := [] }), (.ret, { n := 21, regs := [u, u, u, u, .one (.val (.int .i64))], bx := [], pins := [] })]
noncomputable def lvheldIntS_0 (N : Nat) : Nat → ((List Int) × (Int × (Int × Unit))) → Option ((Int × Unit) ⊕ (Int × Unit))
  | 0, _ => none
  | n + 1, v =>
    let y1 := decide (v.2.2.1 < (v.1.length : Int))
    bif y1 then
     bif decide (0 ≤ v.2.2.1) then
     bif decide (v.2.2.1.toNat < v.1.length) then
     let y2 := (v.1.getD v.2.2.1.toNat (0 : Int)) != v.2.1
     bif y2 then
      some (.inr (((-1 : Int), ())))
     else
     lvheldIntS_0 N n (v.1, w64 (v.2.1 + (1 : Int)), w64 (v.2.2.1 + (1 : Int)), ())
     else none
     else none
    else
    some (.inl (v.2.1, ()))
noncomputable def FvheldIntS (N : Nat) (x : ((List Int) × (Int × Unit))) : Option (Int × Unit) :=
  (lvheldIntS_0 N N (x.1, x.2.1, (0 : Int), ())).bind fun o3 =>
  Sum.elim (fun o4 =>
   some (o4.1, ())) (fun o5 =>
   some (o5.1, ())) o3
noncomputable def convheldIntS (N : Nat) : Con := { f := 23, din := dinvheldIntS, outs := outvheldIntS, F := FvheldIntS N }
noncomputable def XvheldIntS (N : Nat) : Ctx := { E := EvheldIntS N, H := HvheldIntS, lp := [(0, { hd := dvheldIntS_0, outs := ovheldIntS_0, run := fun v => lvheldIntS_0 N N v })], jn := [] }
noncomputable def bvheldIntS_0 : Code := loopBody (codeOf Try.f23) 0
theorem FvheldIntS_eq (N : Nat) (x : ((List Int) × (Int × Unit))) : evFn (XvheldIntS N) Try.f23 dinvheldIntS outvheldIntS x = FvheldIntS N x := by kernel_rfl
theorem lvheldIntS_0_eq (N n : Nat) (v : ((List Int) × (Int × (Int × Unit)))) : lvheldIntS_0 N (n + 1) v = ev (XvheldIntS N) bvheldIntS_0 (roundK dvheldIntS_0 ovheldIntS_0 (lvheldIntS_0 N n)) (dvheldIntS_0.mk' v) := by kernel_rfl
theorem cxvheldIntS (N : Nat) : CtxOk Try.prog (XvheldIntS N) := ⟨⟨TE_ok, fun k hk => absurd hk List.not_mem_nil⟩, mixed⟩
theorem lpvheldIntS_0 (N : Nat) : LoopOk Try.prog { hd := dvheldIntS_0, outs := ovheldIntS_0, run := fun v => lvheldIntS_0 N N v } bvheldIntS_0 :=
  loop_fuel (d := dvheldIntS_0) (os := ovheldIntS_0) (cxvheldIntS N) (loops_at (ids := []) (by kernel_rfl) (trivial)) (lvheldIntS_0 N) (fun _ => rfl) (fun n v => lvheldIntS_0_eq N n v) (fun _ => N)
theorem specvheldIntS (N : Nat) : Spec Try.prog (convheldIntS N) :=
  Spec.of_eq (fn_spec (cxvheldIntS N) (f := 23) (fn := Try.f23) (c := codeOf Try.f23) (by kernel_rfl) (by kernel_rfl) (by kernel_rfl) (loops_at (ids := [0]) (by kernel_rfl) ⟨lp_of (lpvheldIntS_0 N), trivial⟩) (by kernel_rfl)) (fun x r h => (FvheldIntS_eq N x).trans h)

/-! ### 83: laws.heldNodeS -/

noncomputable def dinvheldNodeS : Desc := { n := 2, regs := [.one (.val (.sl (.pair (.sl (.int .i64)) (.pair (.sl (.int .i64)) .unit)))), .one (.val (.int .i64))], bx := [], pins := [] }
noncomputable def outvheldNodeS : Outs := [(.ret, { n := 1, regs := [.one (.val (.int .i64))], bx := [], pins := [] })]
noncomputable def HvheldNodeS : Hints := []
noncomputable def EvheldNodeS (N : Nat) : Env := { te := TE, cs := [convheldIntS N] }
noncomputable def dvheldNodeS_0 : Desc := { n := 31, regs := [.one (.val (.sl (.pair (.sl (.int .i64)) (.pair (.sl (.int .i64)) .unit)))), .one (.val (.int .i64)), u, u, u, .one (.val (.int .i64))], bx := [], pins := [] }
noncomputable def ovheldNodeS_0 : Outs := [(.exit 0, { n := 31, regs := [u, .one (.val (.int .i64))], bx := [], pins := [] }), (.ret, { n := 31, regs := [u, u, u, u, .one (.val (.int .i64))], bx := [], pins := [] })]
noncomputable def lvheldNodeS_0 (N : Nat) : Nat → ((List ((List Int) × ((List Int) × Unit))) × (Int × (Int × Unit))) → Option ((Int × Unit) ⊕ (Int × Unit))
  | 0, _ => none
  | n + 1, v =>
    let y1 := decide (v.2.2.1 < (v.1.length : Int))
    bif y1 then
     bif decide (0 ≤ v.2.2.1) then
     bif decide (v.2.2.1.toNat < v.1.length) then
     let y2 := v.1.getD v.2.2.1.toNat (([] : (List Int)), ([] : (List Int)), ())
     (FvheldIntS N (y2.1, v.2.1, ())).bind fun r3 =>
     bif decide (r3.1 < (0 : Int)) then
      some (.inr (((-1 : Int), ())))
     else
     bif decide (0 ≤ v.2.2.1) then
     bif decide (v.2.2.1.toNat < v.1.length) then
     let y4 := v.1.getD v.2.2.1.toNat (([] : (List Int)), ([] : (List Int)), ())
     (FvheldIntS N (y4.2.1, r3.1, ())).bind fun r5 =>
     bif decide (r5.1 < (0 : Int)) then
      some (.inr (((-1 : Int), ())))
     else
     lvheldNodeS_0 N n (v.1, r5.1, w64 (v.2.2.1 + (1 : Int)), ())
     else none
     else none
     else none
     else none
    else
    some (.inl (v.2.1, ()))
noncomputable def FvheldNodeS (N : Nat) (x : ((List ((List Int) × ((List Int) × Unit))) × (Int × Unit))) : Option (Int × Unit) :=
  (lvheldNodeS_0 N N (x.1, x.2.1, (0 : Int), ())).bind fun o6 =>
  Sum.elim (fun o7 =>
   some (o7.1, ())) (fun o8 =>
   some (o8.1, ())) o6
noncomputable def convheldNodeS (N : Nat) : Con := { f := 83, din := dinvheldNodeS, outs := outvheldNodeS, F := FvheldNodeS N }
noncomputable def XvheldNodeS (N : Nat) : Ctx := { E := EvheldNodeS N, H := HvheldNodeS, lp := [(0, { hd := dvheldNodeS_0, outs := ovheldNodeS_0, run := fun v => lvheldNodeS_0 N N v })], jn := [] }
noncomputable def bvheldNodeS_0 : Code := loopBody (codeOf Try.f83) 0
theorem FvheldNodeS_eq (N : Nat) (x : ((List ((List Int) × ((List Int) × Unit))) × (Int × Unit))) : evFn (XvheldNodeS N) Try.f83 dinvheldNodeS outvheldNodeS x = FvheldNodeS N x := by kernel_rfl
theorem lvheldNodeS_0_eq (N n : Nat) (v : ((List ((List Int) × ((List Int) × Unit))) × (Int × (Int × Unit)))) : lvheldNodeS_0 N (n + 1) v = ev (XvheldNodeS N) bvheldNodeS_0 (roundK dvheldNodeS_0 ovheldNodeS_0 (lvheldNodeS_0 N n)) (dvheldNodeS_0.mk' v) := by kernel_rfl
theorem cxvheldNodeS (N : Nat) : CtxOk Try.prog (XvheldNodeS N) := ⟨⟨TE_ok, List.forall_mem_cons.2 ⟨specvheldIntS N, fun k hk => absurd hk List.not_mem_nil⟩⟩, mixed⟩
theorem lpvheldNodeS_0 (N : Nat) : LoopOk Try.prog { hd := dvheldNodeS_0, outs := ovheldNodeS_0, run := fun v => lvheldNodeS_0 N N v } bvheldNodeS_0 :=
  loop_fuel (d := dvheldNodeS_0) (os := ovheldNodeS_0) (cxvheldNodeS N) (loops_at (ids := []) (by kernel_rfl) (trivial)) (lvheldNodeS_0 N) (fun _ => rfl) (fun n v => lvheldNodeS_0_eq N n v) (fun _ => N)
theorem specvheldNodeS (N : Nat) : Spec Try.prog (convheldNodeS N) :=
  Spec.of_eq (fn_spec (cxvheldNodeS N) (f := 83) (fn := Try.f83) (c := codeOf Try.f83) (by kernel_rfl) (by kernel_rfl) (by kernel_rfl) (loops_at (ids := [0]) (by kernel_rfl) ⟨lp_of (lpvheldNodeS_0 N), trivial⟩) (by kernel_rfl)) (fun x r h => (FvheldNodeS_eq N x).trans h)

/-! ### 84: laws.heldIntSS -/

noncomputable def dinvheldIntSS : Desc := { n := 2, regs := [.one (.val (.sl (.sl (.int .i64)))), .one (.val (.int .i64))], bx := [], pins := [] }
noncomputable def outvheldIntSS : Outs := [(.ret, { n := 1, regs := [.one (.val (.int .i64))], bx := [], pins := [] })]
noncomputable def HvheldIntSS : Hints := []
noncomputable def EvheldIntSS (N : Nat) : Env := { te := TE, cs := [convheldIntS N] }
noncomputable def dvheldIntSS_0 : Desc := { n := 21, regs := [.one (.val (.sl (.sl (.int .i64)))), .one (.val (.int .i64)), u, u, u, .one (.val (.int .i64))], bx := [], pins := [] }
noncomputable def ovheldIntSS_0 : Outs := [(.exit 0, { n := 21, regs := [u, .one (.val (.int .i64))], bx := [], pins := [] }), (.ret, { n := 21, regs := [u, u, u, u, .one (.val (.int .i64))], bx := [], pins := [] })]
noncomputable def lvheldIntSS_0 (N : Nat) : Nat → ((List (List Int)) × (Int × (Int × Unit))) → Option ((Int × Unit) ⊕ (Int × Unit))
  | 0, _ => none
  | n + 1, v =>
    let y1 := decide (v.2.2.1 < (v.1.length : Int))
    bif y1 then
     bif decide (0 ≤ v.2.2.1) then
     bif decide (v.2.2.1.toNat < v.1.length) then
     let y2 := v.1.getD v.2.2.1.toNat ([] : (List Int))
     (FvheldIntS N (y2, v.2.1, ())).bind fun r3 =>
     bif decide (r3.1 < (0 : Int)) then
      some (.inr (((-1 : Int), ())))
     else
     lvheldIntSS_0 N n (v.1, r3.1, w64 (v.2.2.1 + (1 : Int)), ())
     else none
     else none
    else
    some (.inl (v.2.1, ()))
noncomputable def FvheldIntSS (N : Nat) (x : ((List (List Int)) × (Int × Unit))) : Option (Int × Unit) :=
  (lvheldIntSS_0 N N (x.1, x.2.1, (0 : Int), ())).bind fun o4 =>
  Sum.elim (fun o5 =>
   some (o5.1, ())) (fun o6 =>
   some (o6.1, ())) o4
noncomputable def convheldIntSS (N : Nat) : Con := { f := 84, din := dinvheldIntSS, outs := outvheldIntSS, F := FvheldIntSS N }
noncomputable def XvheldIntSS (N : Nat) : Ctx := { E := EvheldIntSS N, H := HvheldIntSS, lp := [(0, { hd := dvheldIntSS_0, outs := ovheldIntSS_0, run := fun v => lvheldIntSS_0 N N v })], jn := [] }
noncomputable def bvheldIntSS_0 : Code := loopBody (codeOf Try.f84) 0
theorem FvheldIntSS_eq (N : Nat) (x : ((List (List Int)) × (Int × Unit))) : evFn (XvheldIntSS N) Try.f84 dinvheldIntSS outvheldIntSS x = FvheldIntSS N x := by kernel_rfl
theorem lvheldIntSS_0_eq (N n : Nat) (v : ((List (List Int)) × (Int × (Int × Unit)))) : lvheldIntSS_0 N (n + 1) v = ev (XvheldIntSS N) bvheldIntSS_0 (roundK dvheldIntSS_0 ovheldIntSS_0 (lvheldIntSS_0 N n)) (dvheldIntSS_0.mk' v) := by kernel_rfl
theorem cxvheldIntSS (N : Nat) : CtxOk Try.prog (XvheldIntSS N) := ⟨⟨TE_ok, List.forall_mem_cons.2 ⟨specvheldIntS N, fun k hk => absurd hk List.not_mem_nil⟩⟩, mixed⟩
theorem lpvheldIntSS_0 (N : Nat) : LoopOk Try.prog { hd := dvheldIntSS_0, outs := ovheldIntSS_0, run := fun v => lvheldIntSS_0 N N v } bvheldIntSS_0 :=
  loop_fuel (d := dvheldIntSS_0) (os := ovheldIntSS_0) (cxvheldIntSS N) (loops_at (ids := []) (by kernel_rfl) (trivial)) (lvheldIntSS_0 N) (fun _ => rfl) (fun n v => lvheldIntSS_0_eq N n v) (fun _ => N)
theorem specvheldIntSS (N : Nat) : Spec Try.prog (convheldIntSS N) :=
  Spec.of_eq (fn_spec (cxvheldIntSS N) (f := 84) (fn := Try.f84) (c := codeOf Try.f84) (by kernel_rfl) (by kernel_rfl) (by kernel_rfl) (loops_at (ids := [0]) (by kernel_rfl) ⟨lp_of (lpvheldIntSS_0 N), trivial⟩) (by kernel_rfl)) (fun x r h => (FvheldIntSS_eq N x).trans h)

/-! ### 30: laws.heldGraph -/

noncomputable def dinvheldGraph : Desc := { n := 2, regs := [.one (.val (.pair (.sl (.pair (.sl (.int .i64)) (.pair (.sl (.int .i64)) .unit))) (.pair (.sl (.sl (.int .i64))) (.pair (.sl (.int .i64)) .unit)))), .one (.val (.int .i64))], bx := [], pins := [] }
noncomputable def outvheldGraph : Outs := [(.ret, { n := 1, regs := [.one (.val (.int .i64))], bx := [], pins := [] })]
noncomputable def HvheldGraph : Hints := [(0, [(0, { fz := true })]),
  (4, [(3, { con := 1 })]),
  (7, [(3, { con := 2 })])]
noncomputable def EvheldGraph (N : Nat) : Env := { te := TE, cs := [convheldNodeS N, convheldIntSS N, convheldIntS N] }
noncomputable def FvheldGraph (N : Nat) (x : (((List ((List Int) × ((List Int) × Unit))) × ((List (List Int)) × ((List Int) × Unit))) × (Int × Unit))) : Option (Int × Unit) :=
  (FvheldNodeS N (x.1.1, x.2.1, ())).bind fun r1 =>
  bif decide (r1.1 < (0 : Int)) then
   some ((-1 : Int), ())
  else
  (FvheldIntSS N (x.1.2.1, r1.1, ())).bind fun r2 =>
  bif decide (r2.1 < (0 : Int)) then
   some ((-1 : Int), ())
  else
  (FvheldIntS N (x.1.2.2.1, r2.1, ())).bind fun r3 =>
  bif decide (r3.1 < (0 : Int)) then
   some ((-1 : Int), ())
  else
  some (r3.1, ())
noncomputable def convheldGraph (N : Nat) : Con := { f := 30, din := dinvheldGraph, outs := outvheldGraph, F := FvheldGraph N }
noncomputable def XvheldGraph (N : Nat) : Ctx := { E := EvheldGraph N, H := HvheldGraph, lp := [], jn := [] }
theorem FvheldGraph_eq (N : Nat) (x : (((List ((List Int) × ((List Int) × Unit))) × ((List (List Int)) × ((List Int) × Unit))) × (Int × Unit))) : evFn (XvheldGraph N) Try.f30 dinvheldGraph outvheldGraph x = FvheldGraph N x := by kernel_rfl
theorem cxvheldGraph (N : Nat) : CtxOk Try.prog (XvheldGraph N) := ⟨⟨TE_ok, List.forall_mem_cons.2 ⟨specvheldNodeS N, List.forall_mem_cons.2 ⟨specvheldIntSS N, List.forall_mem_cons.2 ⟨specvheldIntS N, fun k hk => absurd hk List.not_mem_nil⟩⟩⟩⟩, mixed⟩
theorem specvheldGraph (N : Nat) : Spec Try.prog (convheldGraph N) :=
  Spec.of_eq (fn_spec (cxvheldGraph N) (f := 30) (fn := Try.f30) (c := codeOf Try.f30) (by kernel_rfl) (by kernel_rfl) (by kernel_rfl) (loops_at (ids := []) (by kernel_rfl) (trivial)) (by kernel_rfl)) (fun x r h => (FvheldGraph_eq N x).trans h)

/-! ### 6: laws.FnExactGraphTrim -/

noncomputable def dinvFnExactGraphTrim : Desc := { n := 1, regs := [.one (.val (.pair (.sl (.pair (.sl (.int .i64)) (.pair (.sl (.int .i64)) .unit))) (.pair (.sl (.sl (.int .i64))) (.pair (.sl (.int .i64)) .unit))))], bx := [], pins := [] }
noncomputable def outvFnExactGraphTrim : Outs := [(.ret, { n := 1, regs := [.one (.val .bool)], bx := [], pins := [] })]
noncomputable def HvFnExactGraphTrim : Hints := [(0, [(0, { fz := true })]),
  (5, [(1, { con := 1 }), (2, { con := 2 })]),
  (6, [(1, { con := 1 })]),
  (7, [(1, { con := 3 })]),
  (8, [(2, { con := 4 })]),
  (10, [(2, { con := 1 }), (3, { con := 4 })]),
  (13, [(2, { con := 5, sg := [(0, 1076865), (1, 1076866), (2, 1076867)] })]),
  (14, [(5, { con := 4 })]),
  (17, [(2, { con := 5, sg := [(0, 1089665), (1, 1089666), (2, 1089667)] })]),
  (19, [(2, { con := 6 })]),
  (24, [(1, { con := 1 }), (2, { con := 3 })]),
  (25, [(2, { con := 4 })]),
  (28, [(2, { con := 6 })])]
noncomputable def EvFnExactGraphTrim (N : Nat) : Env := { te := TE, cs := [convszGraph N, convtoGraph N, consGraphTrim N, coniGraphTrim N, conveqGraph N, convmarkGraph N, convheldGraph N] }
noncomputable def jvFnExactGraphTrim_16 : Outs := [(.normal, { n := 69, regs := [u, .one (.fpt (.pair (.sl (.pair (.sl (.int .i64)) (.pair (.sl (.int .i64)) .unit))) (.pair (.sl (.sl (.int .i64))) (.pair (.sl (.int .i64)) .unit)))), u, u, .one (.lit (.ptr 1064192 0)), u, .one (.lit (.ptr 1089728 0))], bx := [(1064192, .var [.lit (.row 1064129), .lit (.row 1064130), .lit (.row 1064131)]), (1064129, .row (.pair (.sl (.int .i64)) (.pair (.sl (.int .i64)) .unit))), (1064130, .row (.sl (.int .i64))), (1064131, .row (.int .i64)), (1089728, .var [.lit (.row 1089665), .lit (.row 1089666), .lit (.row 1089667)]), (1089665, .row (.pair (.sl (.int .i64)) (.pair (.sl (.int .i64)) .unit))), (1089666, .row (.sl (.int .i64))), (1089667, .row (.int .i64))], pins := [] }), (.ret, { n := 69, regs := [u, u, .one (.val .bool)], bx := [], pins := [] })]
noncomputable def FvFnExactGraphTrim (N : Nat) (x : (((List ((List Int) × ((List Int) × Unit))) × ((List (List Int)) × ((List Int) × Unit))) × Unit)) : Option (Bool × Unit) :=
  (FvszGraph N (x.1, (1048576 : Int), ())).bind fun r1 =>
  bif decide (r1.1 < (0 : Int)) then
   some (true, ())
  else
  (FvtoGraph N (x.1, ())).bind fun r2 =>
  (FsGraphTrim N ((r2.1, r2.2.1, r2.2.2.1, ()), ())).bind fun r3 =>
  (FvtoGraph N (x.1, ())).bind fun r4 =>
  (FiGraphTrim N ((r4.1, r4.2.1, r4.2.2.1, ()), ())).bind fun r5 =>
  (FveqGraph N ((r5.1, r5.2.1, r5.2.2.1, ()), (r3.1, r3.2.1, r3.2.2.1, ()), ())).bind fun r6 =>
  bif !r6.1 then
   some (false, ())
  else
  (FvtoGraph N (x.1, ())).bind fun r7 =>
  (FveqGraph N ((r4.1, r4.2.1, r4.2.2.1, ()), (r7.1, r7.2.1, r7.2.2.1, ()), ())).bind fun r8 =>
  bif !r8.1 then
   some (false, ())
  else
  (FvmarkGraph N ((1 : Int), r4.1, r4.2.1, r4.2.2.1, ())).bind fun r9 =>
  Option.bind (
   bif decide (r9.1 < (0 : Int)) then
    some (.inr ((false, ())))
   else
   (FveqGraph N ((r5.1, r5.2.1, r5.2.2.1, ()), (r3.1, r3.2.1, r3.2.2.1, ()), ())).bind fun r10 =>
   bif !r10.1 then
    some (.inr ((false, ())))
   else
   some (.inl (x.1, r3.1, r3.2.1, r3.2.2.1, r5.1, r5.2.1, r5.2.2.1, ()))) fun o11 =>
  Sum.elim (fun o12 =>
   (FvmarkGraph N ((1 : Int), o12.2.2.2.2.1, o12.2.2.2.2.2.1, o12.2.2.2.2.2.2.1, ())).bind fun r13 =>
   (FvheldGraph N ((r13.2.1, r13.2.2.1, r13.2.2.2.1, ()), (1 : Int), ())).bind fun r14 =>
   bif decide (r14.1 < (0 : Int)) then
    some (false, ())
   else
   bif r14.1 != r13.1 then
    some (false, ())
   else
   (FvtoGraph N (o12.1, ())).bind fun r15 =>
   (FiGraphTrim N ((r15.1, r15.2.1, r15.2.2.1, ()), ())).bind fun r16 =>
   (FveqGraph N ((r16.1, r16.2.1, r16.2.2.1, ()), (o12.2.1, o12.2.2.1, o12.2.2.2.1, ()), ())).bind fun r17 =>
   bif !r17.1 then
    some (false, ())
   else
   (FvheldGraph N ((r13.2.1, r13.2.2.1, r13.2.2.2.1, ()), (1 : Int), ())).bind fun r18 =>
   bif decide (r18.1 < (0 : Int)) then
    some (false, ())
   else
   bif r18.1 != r13.1 then
    some (false, ())
   else
   some (true, ())) (fun o19 =>
   some (o19.1, ())) o11
noncomputable def convFnExactGraphTrim (N : Nat) : Con := { f := 6, din := dinvFnExactGraphTrim, outs := outvFnExactGraphTrim, F := FvFnExactGraphTrim N }
noncomputable def XvFnExactGraphTrim (N : Nat) : Ctx := { E := EvFnExactGraphTrim N, H := HvFnExactGraphTrim, lp := [], jn := [(16, jvFnExactGraphTrim_16)] }
theorem FvFnExactGraphTrim_eq (N : Nat) (x : (((List ((List Int) × ((List Int) × Unit))) × ((List (List Int)) × ((List Int) × Unit))) × Unit)) : evFn (XvFnExactGraphTrim N) Try.f6 dinvFnExactGraphTrim outvFnExactGraphTrim x = FvFnExactGraphTrim N x := by kernel_rfl
theorem cxvFnExactGraphTrim (N : Nat) : CtxOk Try.prog (XvFnExactGraphTrim N) := ⟨⟨TE_ok, List.forall_mem_cons.2 ⟨specvszGraph N, List.forall_mem_cons.2 ⟨specvtoGraph N, List.forall_mem_cons.2 ⟨specsGraphTrim N, List.forall_mem_cons.2 ⟨speciGraphTrim N, List.forall_mem_cons.2 ⟨specveqGraph N, List.forall_mem_cons.2 ⟨specvmarkGraph N, List.forall_mem_cons.2 ⟨specvheldGraph N, fun k hk => absurd hk List.not_mem_nil⟩⟩⟩⟩⟩⟩⟩⟩, mixed⟩
theorem specvFnExactGraphTrim (N : Nat) : Spec Try.prog (convFnExactGraphTrim N) :=
  Spec.of_eq (fn_spec (cxvFnExactGraphTrim N) (f := 6) (fn := Try.f6) (c := codeOf Try.f6) (by kernel_rfl) (by kernel_rfl) (by kernel_rfl) (loops_at (ids := []) (by kernel_rfl) (trivial)) (by kernel_rfl)) (fun x r h => (FvFnExactGraphTrim_eq N x).trans h)

end Go.Fl
set_option linter.all false
set_option maxRecDepth 10000
namespace Go.Fl
open Go
/-- A law's inputs are at most so large. -/
abbrev sm (n : Nat) : Prop := n ≤ 1048576

abbrev Nd := List Int × List Int × Unit

abbrev Gr := List Nd × List (List Int) × List Int × Unit

def smN (x : Nd) : Prop := sm x.1.length ∧ sm x.2.1.length

def smG (g : Gr) : Prop := sm g.1.length ∧ (∀ x ∈ g.1, smN x) ∧ sm g.2.1.length ∧ (∀ x ∈ g.2.1, sm x.length) ∧ sm g.2.2.1.length

abbrev ml (n : Nat) : Prop := n ≤ 9223372036854775807

def mlN (x : Nd) : Prop := ml x.1.length ∧ ml x.2.1.length

def mlG (g : Gr) : Prop := ml g.1.length ∧ (∀ x ∈ g.1, mlN x) ∧ ml g.2.1.length ∧ (∀ x ∈ g.2.1, ml x.length) ∧ ml g.2.2.1.length

/-- A loop that tells what is left, or stops. -/
theorem size_loop {α : Type} {xs : List α} (P : α → Prop) {L : Nat → Nat → Int → Option ((Int × Unit) ⊕ (Int × Unit))} (hl : xs.length ≤ lim)
    (h1 : ∀ n i (h : i < xs.length) (left : Int), 0 ≤ left → left ≤ 1048576 → w64 ((i : Int) + 1) = ((i + 1 : Nat) : Int) →
      L (n + 1) i left = some (.inr (-1, ())) ∨ ∃ r, 0 ≤ r ∧ r ≤ left ∧ P xs[i] ∧ L (n + 1) i left = L n (i + 1) r)
    (h3 : ∀ n left, L (n + 1) xs.length left = some (.inl (left, ()))) {n : Nat} (hn : xs.length < n) {left : Int} (h0 : 0 ≤ left) (h1' : left ≤ 1048576) :
    L n 0 left = some (.inr (-1, ())) ∨ ∃ r, 0 ≤ r ∧ r ≤ left ∧ (∀ x ∈ xs, P x) ∧ L n 0 left = some (.inl (r, ())) := by
  have key : ∀ n i left, 0 ≤ left → left ≤ 1048576 → i ≤ xs.length → xs.length - i < n → L n i left = some (.inr (-1, ())) ∨ ∃ r, 0 ≤ r ∧ r ≤ left ∧ (∀ x ∈ xs.drop i, P x) ∧ L n i left = some (.inl (r, ())) := by
    intro n
    induction n with
    | zero => intro i left _ _ _ h; exact absurd h (Nat.not_lt_zero _)
    | succ n ih =>
      intro i left h0 h2 hi hn
      by_cases h : i < xs.length
      · rcases h1 n i h left h0 h2 (w64_succ (by have : lim = 2147483648 := rfl; omega)) with h4 | ⟨r, h4, h5, h6, h7⟩
        · exact .inl h4
        · rw [h7]
          rcases ih (i + 1) r h4 (by omega) (by omega) (by omega) with h8 | ⟨q, h8, h9, h10, h11⟩
          · exact .inl h8
          · refine .inr ⟨q, h8, by omega, ?_, h11⟩
            rw [drop_at h]
            exact List.forall_mem_cons.2 ⟨h6, h10⟩
      · have : i = xs.length := by omega
        subst this
        exact .inr ⟨left, h0, Int.le_refl _, by simp, h3 _ _⟩
  simpa using key n 0 left h0 h1' (by omega) (by omega)

theorem sm_lim {n : Nat} (h : sm n) : n ≤ lim := by simp only [sm] at h; rw [lim_eq]; omega

section
variable {N : Nat}

theorem vszIntS_ok {xs : List Int} {left : Int} (hx : ml xs.length) (h0 : 0 ≤ left) (h1 : left ≤ 1048576) :
    ∃ r, FvszIntS N (xs, left, ()) = some (r, ()) ∧ (r < 0 ∨ (0 ≤ r ∧ r ≤ left ∧ sm xs.length)) := by
  simp only [ml] at hx
  simp only [FvszIntS]
  rw [w64_id (by omega) (by omega)]
  by_cases h : left - (xs.length : Int) < 0
  · simp [h]
  · simp [h, sm]; omega

end
section
variable {N : Nat}

theorem vszNode_ok {x : Nd} {left : Int} (hx : mlN x) (h0 : 0 ≤ left) (h1 : left ≤ 1048576) :
    ∃ r, FvszNode N (x, left, ()) = some (r, ()) ∧ (r < 0 ∨ (0 ≤ r ∧ r ≤ left ∧ smN x)) := by
  obtain ⟨r1, e1, h2⟩ := vszIntS_ok (N := N) hx.1 h0 h1
  simp only [FvszNode, e1, Option.bind_some]
  rcases h2 with h2 | ⟨h2, h3, h4⟩
  · simp [h2]
  · obtain ⟨r2, e2, h5⟩ := vszIntS_ok (N := N) hx.2 h2 (by omega)
    simp only [e2, Option.bind_some]
    rcases h5 with h5 | ⟨h5, h6, h7⟩
    · simp [h5, Int.not_lt.2 h2]
    · simp [Int.not_lt.2 h2, Int.not_lt.2 h5, smN, h4, h7]; omega

end
section
variable {N : Nat} (hN : lim < N)
include hN

theorem vszNodeS_ok {xs : List Nd} {left : Int} (hx : ml xs.length) (hx' : ∀ x ∈ xs, mlN x) (h0 : 0 ≤ left) (h1 : left ≤ 1048576) :
    ∃ r, FvszNodeS N (xs, left, ()) = some (r, ()) ∧ (r < 0 ∨ (0 ≤ r ∧ r ≤ left ∧ sm xs.length ∧ ∀ x ∈ xs, smN x)) := by
  simp only [ml] at hx
  simp only [FvszNodeS]
  rw [w64_id (by omega) (by omega)]
  by_cases h : left - (xs.length : Int) < 0
  · simp [h]
  · simp only [h, decide_false, cond_false]
    have hs : sm xs.length := by simp only [sm]; omega
    have hL := size_loop (xs := xs) (n := N) smN (L := fun n i l => lvszNodeS_0 N n (xs, l, (i : Int), ())) (sm_lim hs)
      (fun n i h left h0 h1 hw => by
        obtain ⟨r1, e1, h2⟩ := vszNode_ok (N := N) (hx' xs[i] (by simp)) h0 h1
        simp only [lvszNodeS_0, Int.ofNat_lt, h, decide_true, cond_true, Int.natCast_nonneg, Int.toNat_natCast, getD_lt h, e1, Option.bind_some, hw]
        rcases h2 with h2 | ⟨h2, h3, h4⟩
        · left; simp [h2]
        · right; refine ⟨r1, h2, h3, h4, ?_⟩; simp [Int.not_lt.2 h2])
      (fun n left => by simp [lvszNodeS_0]) (by have := sm_lim hs; omega) (left := left - xs.length) (by omega) (by omega)
    simp only [Int.natCast_zero] at hL
    rcases hL with hL | ⟨r, h2, h3, h4, hL⟩
    · rw [hL]; simp
    · rw [hL]; simp only [Option.bind_some, Sum.elim_inl]; exact ⟨r, rfl, .inr ⟨h2, by omega, hs, h4⟩⟩

theorem vszIntSS_ok {xs : List (List Int)} {left : Int} (hx : ml xs.length) (hx' : ∀ x ∈ xs, ml x.length) (h0 : 0 ≤ left) (h1 : left ≤ 1048576) :
    ∃ r, FvszIntSS N (xs, left, ()) = some (r, ()) ∧ (r < 0 ∨ (0 ≤ r ∧ r ≤ left ∧ sm xs.length ∧ ∀ x ∈ xs, sm x.length)) := by
  simp only [ml] at hx
  simp only [FvszIntSS]
  rw [w64_id (by omega) (by omega)]
  by_cases h : left - (xs.length : Int) < 0
  · simp [h]
  · simp only [h, decide_false, cond_false]
    have hs : sm xs.length := by simp only [sm]; omega
    have hL := size_loop (xs := xs) (n := N) (fun x => sm x.length) (L := fun n i l => lvszIntSS_0 N n (xs, l, (i : Int), ())) (sm_lim hs)
      (fun n i h left h0 h1 hw => by
        obtain ⟨r1, e1, h2⟩ := vszIntS_ok (N := N) (hx' xs[i] (by simp)) h0 h1
        simp only [lvszIntSS_0, Int.ofNat_lt, h, decide_true, cond_true, Int.natCast_nonneg, Int.toNat_natCast, getD_lt h, e1, Option.bind_some, hw]
        rcases h2 with h2 | ⟨h2, h3, h4⟩
        · left; simp [h2]
        · right; refine ⟨r1, h2, h3, h4, ?_⟩; simp [Int.not_lt.2 h2])
      (fun n left => by simp [lvszIntSS_0]) (by have := sm_lim hs; omega) (left := left - xs.length) (by omega) (by omega)
    simp only [Int.natCast_zero] at hL
    rcases hL with hL | ⟨r, h2, h3, h4, hL⟩
    · rw [hL]; simp
    · rw [hL]; simp only [Option.bind_some, Sum.elim_inl]; exact ⟨r, rfl, .inr ⟨h2, by omega, hs, h4⟩⟩

theorem vszGraph_ok {g : Gr} {left : Int} (hx : mlG g) (h0 : 0 ≤ left) (h1 : left ≤ 1048576) :
    ∃ r, FvszGraph N (g, left, ()) = some (r, ()) ∧ (r < 0 ∨ (0 ≤ r ∧ r ≤ left ∧ smG g)) := by
  obtain ⟨a1, a2, a3, a4, a5⟩ := hx
  obtain ⟨r1, e1, h2⟩ := vszNodeS_ok hN a1 a2 h0 h1
  simp only [FvszGraph, e1, Option.bind_some]
  rcases h2 with h2 | ⟨h2, h3, h4, h4'⟩
  · simp [h2]
  · obtain ⟨r2, e2, h5⟩ := vszIntSS_ok hN a3 a4 h2 (by omega)
    simp only [e2, Option.bind_some, Int.not_lt.2 h2, decide_false, cond_false]
    rcases h5 with h5 | ⟨h5, h6, h7, h7'⟩
    · simp [h5]
    · obtain ⟨r3, e3, h8⟩ := vszIntS_ok (N := N) a5 h5 (by omega)
      simp only [e3, Option.bind_some, Int.not_lt.2 h5, decide_false, cond_false]
      rcases h8 with h8 | ⟨h8, h9, h10⟩
      · simp [h8]
      · simp only [Int.not_lt.2 h8, decide_false, cond_false]
        exact ⟨r3, rfl, .inr ⟨h8, by omega, h4, h4', h7, h7', h10⟩⟩

end
section
variable {N : Nat} (hN : lim < N)
include hN

theorem vtoIntS_ok {xs : List Int} (hx : sm xs.length) : FvtoIntS N (xs, ()) = some (xs, ()) := by
  have hl := sm_lim hx
  have hL := fill_loop (xs := xs) (n := N) id (L := fun n i s => lvtoIntS_0 N n (xs, (i : Int), s, ())) (fin := fun s => (s, ())) hl
    (fun n i s h hw hs => by
      have hs' : i < s.length := by omega
      simp [lvtoIntS_0, h, hs', hw])
    (fun n s hs => by simp [lvtoIntS_0]) (by omega) (s := List.replicate xs.length 0) (by simp)
  simp only [Int.natCast_zero] at hL
  simp [FvtoIntS, hL, hl]

end
section
variable {N : Nat} (hN : lim < N)
include hN

theorem vtoNode_ok {x : Nd} (hx : smN x) : FvtoNode N (x, ()) = some x := by
  simp [FvtoNode, vtoIntS_ok hN hx.1, vtoIntS_ok hN hx.2]

theorem vtoNodeS_ok {xs : List Nd} (hx : sm xs.length) (hx' : ∀ x ∈ xs, smN x) : FvtoNodeS N (xs, ()) = some (xs, ()) := by
  have hl := sm_lim hx
  have hL := fill_loop (xs := xs) (n := N) id (L := fun n i s => lvtoNodeS_0 N n (xs, (i : Int), s, ())) (fin := fun s => (s, ())) hl
    (fun n i s h hw hs => by
      have hs' : i < s.length := by omega
      simp [lvtoNodeS_0, h, hs', hw, vtoNode_ok hN (hx' xs[i] (by simp))])
    (fun n s hs => by simp [lvtoNodeS_0]) (by omega) (s := List.replicate xs.length ([], [], ())) (by simp)
  simp only [Int.natCast_zero] at hL
  simp [FvtoNodeS, hL, hl]

theorem vtoIntSS_ok {xs : List (List Int)} (hx : sm xs.length) (hx' : ∀ x ∈ xs, sm x.length) : FvtoIntSS N (xs, ()) = some (xs, ()) := by
  have hl := sm_lim hx
  have hL := fill_loop (xs := xs) (n := N) id (L := fun n i s => lvtoIntSS_0 N n (xs, (i : Int), s, ())) (fin := fun s => (s, ())) hl
    (fun n i s h hw hs => by
      have hs' : i < s.length := by omega
      simp [lvtoIntSS_0, h, hs', hw, vtoIntS_ok hN (hx' xs[i] (by simp))])
    (fun n s hs => by simp [lvtoIntSS_0]) (by omega) (s := List.replicate xs.length []) (by simp)
  simp only [Int.natCast_zero] at hL
  simp [FvtoIntSS, hL, hl]

theorem vtoGraph_ok {g : Gr} (hx : smG g) : FvtoGraph N (g, ()) = some g := by
  obtain ⟨a1, a2, a3, a4, a5⟩ := hx
  simp [FvtoGraph, vtoNodeS_ok hN a1 a2, vtoIntSS_ok hN a3 a4, vtoIntS_ok hN a5]

end
section
variable {N : Nat} (hN : lim < N)
include hN

theorem veqIntS_ok {xs ys : List Int} (hx : sm xs.length) : FveqIntS N (xs, ys, ()) = some (decide (xs = ys), ()) := by
  have hl := sm_lim hx
  by_cases hlen : xs.length = ys.length
  · have hL := eq_loop (xs := xs) (ys := ys) (n := N) (L := fun n i => lveqIntS_0 N n (xs, ys, (i : Int), ())) (yes := .inl ()) (no := .inr (false, ())) hl hlen
      (fun n i h1 h2 hw hq => by simp [lveqIntS_0, h1, h2, hw, hq])
      (fun n i h1 h2 hq => by simp [lveqIntS_0, h1, h2, hq])
      (fun n => by simp [lveqIntS_0, hlen]) (by omega)
    simp only [Int.natCast_zero] at hL
    rcases Decidable.em (xs = ys) with rfl | h
    · simp [FveqIntS, hL]
    · simp [FveqIntS, hL, h, hlen]
  · have h : xs ≠ ys := fun h => hlen (by rw [h])
    have h2 : (xs.length : Int) ≠ ys.length := by omega
    simp [FveqIntS, h, h2]

end
section
variable {N : Nat} (hN : lim < N)
include hN

theorem veqNode_ok {x y : Nd} (hx : smN x) : FveqNode N (x, y, ()) = some (decide (x = y), ()) := by
  obtain ⟨a, b, ⟨⟩⟩ := x
  obtain ⟨c, d, ⟨⟩⟩ := y
  simp only [FveqNode, veqIntS_ok hN hx.1, veqIntS_ok hN hx.2]
  by_cases h1 : a = c <;> by_cases h2 : b = d <;> simp [h1, h2]

theorem veqNodeS_ok {xs ys : List Nd} (hx : sm xs.length) (hx' : ∀ x ∈ xs, smN x) : FveqNodeS N (xs, ys, ()) = some (decide (xs = ys), ()) := by
  have hl := sm_lim hx
  by_cases hlen : xs.length = ys.length
  · have hL := eq_loop (xs := xs) (ys := ys) (n := N) (L := fun n i => lveqNodeS_0 N n (xs, ys, (i : Int), ())) (yes := .inl ()) (no := .inr (false, ())) hl hlen
      (fun n i h1 h2 hw hq => by
        have e := veqNode_ok hN (y := ys[i]) (hx' _ (List.getElem_mem h1))
        rw [decide_eq_true hq] at e
        simp [lveqNodeS_0, h1, h2, hw, e])
      (fun n i h1 h2 hq => by simp [lveqNodeS_0, h1, h2, hq, veqNode_ok hN (y := ys[i]) (hx' _ (List.getElem_mem h1))])
      (fun n => by simp [lveqNodeS_0, hlen]) (by omega)
    simp only [Int.natCast_zero] at hL
    rcases Decidable.em (xs = ys) with rfl | h
    · simp [FveqNodeS, hL]
    · simp [FveqNodeS, hL, h, hlen]
  · have h : xs ≠ ys := fun h => hlen (by rw [h])
    have h2 : (xs.length : Int) ≠ ys.length := by omega
    simp [FveqNodeS, h, h2]

theorem veqIntSS_ok {xs ys : List (List Int)} (hx : sm xs.length) (hx' : ∀ x ∈ xs, sm x.length) : FveqIntSS N (xs, ys, ()) = some (decide (xs = ys), ()) := by
  have hl := sm_lim hx
  by_cases hlen : xs.length = ys.length
  · have hL := eq_loop (xs := xs) (ys := ys) (n := N) (L := fun n i => lveqIntSS_0 N n (xs, ys, (i : Int), ())) (yes := .inl ()) (no := .inr (false, ())) hl hlen
      (fun n i h1 h2 hw hq => by
        have e := veqIntS_ok hN (ys := ys[i]) (hx' _ (List.getElem_mem h1))
        rw [decide_eq_true hq] at e
        simp [lveqIntSS_0, h1, h2, hw, e])
      (fun n i h1 h2 hq => by simp [lveqIntSS_0, h1, h2, hq, veqIntS_ok hN (ys := ys[i]) (hx' _ (List.getElem_mem h1))])
      (fun n => by simp [lveqIntSS_0, hlen]) (by omega)
    simp only [Int.natCast_zero] at hL
    rcases Decidable.em (xs = ys) with rfl | h
    · simp [FveqIntSS, hL]
    · simp [FveqIntSS, hL, h, hlen]
  · have h : xs ≠ ys := fun h => hlen (by rw [h])
    have h2 : (xs.length : Int) ≠ ys.length := by omega
    simp [FveqIntSS, h, h2]

theorem veqGraph_ok {g h : Gr} (hx : smG g) : FveqGraph N (g, h, ()) = some (decide (g = h), ()) := by
  obtain ⟨a1, a2, a3, a4, a5⟩ := hx
  obtain ⟨p, q, r, ⟨⟩⟩ := g
  obtain ⟨p', q', r', ⟨⟩⟩ := h
  simp only at a1 a2 a3 a4 a5
  simp only [FveqGraph, veqNodeS_ok hN a1 a2, veqIntSS_ok hN a3 a4, veqIntS_ok hN a5]
  by_cases h1 : p = p' <;> by_cases h2 : q = q' <;> by_cases h3 : r = r' <;> simp [h1, h2, h3]

end
section
variable {N : Nat} (hN : lim < N)
include hN

theorem kClone_ok {xs : List Int} (hl : xs.length ≤ lim) : FkClone_Sint_int N (xs, ()) = some (xs, ()) := by
  cases xs with
  | nil =>
    simp only [FkClone_Sint_int, List.isEmpty_nil, cond_true]
    refine anyOf_eq (by omega) fun i _ => ?_
    cases hi : (i == 0) <;> simp
  | cons x xs =>
    have hl' : xs.length + 1 ≤ lim := by simpa using hl
    simp [FkClone_Sint_int, hl']

end
def okR (m : Nat) (l : List Int) : Bool := l.all fun x => decide (-1 ≤ x) && decide (x < (m : Int))

def okN (m : Nat) (x : Nd) : Bool := decide (x.1.length ≤ 4) && (decide (x.2.1.length ≤ 4) && okR m x.1)

def okG (g : Gr) : Bool :=
  decide (g.1.length ≤ 200) && (decide (1 ≤ g.2.1.length) && (decide (g.2.1.length ≤ 3) && (g.1.all (okN g.1.length) && (g.2.1.all (fun r => decide (r.length ≤ 8) && okR g.1.length r) &&
    (decide (g.2.2.1.length ≤ 8) && (g.2.2.1.all (fun x => decide (0 ≤ x)) && okR g.1.length g.2.2.1))))))

theorem okG_iff {g : Gr} : okG g = true ↔ g.1.length ≤ 200 ∧ 1 ≤ g.2.1.length ∧ g.2.1.length ≤ 3 ∧ (∀ x ∈ g.1, x.1.length ≤ 4 ∧ x.2.1.length ≤ 4 ∧ okR g.1.length x.1 = true) ∧
    (∀ r ∈ g.2.1, r.length ≤ 8 ∧ okR g.1.length r = true) ∧ g.2.2.1.length ≤ 8 ∧ (∀ x ∈ g.2.2.1, 0 ≤ x) ∧ okR g.1.length g.2.2.1 = true := by
  simp only [okG, okN, Bool.and_eq_true, decide_eq_true_eq, List.all_eq_true]

theorem okR_iff {m : Nat} {l : List Int} : okR m l = true ↔ ∀ x ∈ l, -1 ≤ x ∧ x < (m : Int) := by
  simp only [okR, List.all_eq_true, Bool.and_eq_true, decide_eq_true_eq]

section
variable {N : Nat} (hN : lim < N)
include hN

theorem leads_ok {g : Gr} {xs : List Int} {low : Int} (hl : xs.length ≤ lim) :
    FiGraph_leads N (g, xs, low, ()) = some (xs.all fun x => decide (low ≤ x) && decide (x < (g.1.length : Int)), ()) := by
  have hL := find_loop (xs := xs) (n := N) (fun x => decide (x < low) || decide (x ≥ (g.1.length : Int))) (L := fun n i => lkIndexFunc_Sint_int_iGraph_leads_1_0 N n (xs, low, g, (xs.length : Int), (i : Int), ()))
    (yes := fun i => .inr ((i : Int), ())) (no := .inl ()) hl
    (fun n i h hw hq => by
      simp at hq
      simp [lkIndexFunc_Sint_int_iGraph_leads_1_0, FiGraph_leads_1, h, hw, Int.not_lt.2 hq.1, Int.not_le.2 hq.2])
    (fun n i h hq => by
      by_cases h1 : xs[i] < low
      · simp [lkIndexFunc_Sint_int_iGraph_leads_1_0, FiGraph_leads_1, h, h1]
      · simp [h1] at hq
        simp [lkIndexFunc_Sint_int_iGraph_leads_1_0, FiGraph_leads_1, h, h1, hq])
    (fun n => by simp [lkIndexFunc_Sint_int_iGraph_leads_1_0]) (by omega)
  simp only [Int.natCast_zero] at hL
  simp only [FiGraph_leads, FkContainsFunc_Sint_int_iGraph_leads_1, FkIndexFunc_Sint_int_iGraph_leads_1, hL]
  cases hf : xs.findIdx? (fun x => decide (x < low) || decide (x ≥ (g.1.length : Int))) with
  | none =>
    have : (xs.all fun x => decide (low ≤ x) && decide (x < (g.1.length : Int))) = true := by
      rw [List.findIdx?_eq_none_iff] at hf
      rw [List.all_eq_true]
      intro x hx
      have := hf x hx
      simp at this ⊢
      omega
    simp [this]
  | some i =>
    have : (xs.all fun x => decide (low ≤ x) && decide (x < (g.1.length : Int))) = false := by
      rw [List.findIdx?_eq_some_iff_getElem] at hf
      obtain ⟨h, h1, _⟩ := hf
      rw [List.all_eq_false]
      refine ⟨_, List.getElem_mem h, ?_⟩
      simp at h1 ⊢
      omega
    simp [this]

theorem leads1_ok {g : Gr} {xs : List Int} (hl : xs.length ≤ lim) : FiGraph_leads N (g, xs, -1, ()) = some (okR g.1.length xs, ()) := leads_ok hN hl

theorem iGraphOk_ok {g : Gr} (hs : smG g) : FiGraphOk N (g, ()) = some (okG g, ()) := by
  obtain ⟨a1, a2, a3, a4, a5⟩ := hs
  have h1 := all_loop (xs := g.1) (n := N) (okN g.1.length) (L := fun n i => liGraphOk_0 N n (g, g.1, (g.1.length : Int), (i : Int), ())) (yes := .inl (g, ())) (no := .inr (false, ())) (sm_lim a1)
    (fun n i h hw hq => by
      simp [okN] at hq
      simp [liGraphOk_0, h, hw, leads1_ok hN (sm_lim (a2 _ (List.getElem_mem h)).1), hq, Nat.not_lt.2 hq.1, Nat.not_lt.2 hq.2.1]
      )
    (fun n i h hq => by
      simp only [liGraphOk_0, leads1_ok hN (sm_lim (a2 _ (List.getElem_mem h)).1), getD_lt h, Int.toNat_natCast]
      simp only [okN] at hq
      by_cases h1 : g.1[i].1.length ≤ 4 <;> by_cases h2 : g.1[i].2.1.length ≤ 4 <;> simp_all)
    (fun n => by simp [liGraphOk_0]) (by have := sm_lim a1; omega)
  have h2 := all_loop (xs := g.2.1) (n := N) (fun r => decide (r.length ≤ 8) && okR g.1.length r) (L := fun n i => liGraphOk_2 N n (g, g.2.1, (g.2.1.length : Int), (i : Int), ())) (yes := .inl ()) (no := .inr (false, ())) (sm_lim a3)
    (fun n i h hw hq => by
      simp at hq
      simp [liGraphOk_2, h, hw, leads1_ok hN (sm_lim (a4 _ (List.getElem_mem h))), hq, Nat.not_lt.2 hq.1])
    (fun n i h hq => by
      simp only [liGraphOk_2, leads1_ok hN (sm_lim (a4 _ (List.getElem_mem h))), getD_lt h, Int.toNat_natCast]
      by_cases h1 : g.2.1[i].length ≤ 8 <;> simp_all)
    (fun n => by simp [liGraphOk_2]) (by have := sm_lim a3; omega)
  simp only [Int.natCast_zero] at h1 h2
  simp only [FiGraphOk, okG]
  have hp : (g.2.2.1.all (fun x => decide (0 ≤ x)) && okR g.1.length g.2.2.1) = g.2.2.1.all fun x => decide (0 ≤ x) && decide (x < (g.1.length : Int)) := by
    rw [Bool.eq_iff_iff]
    simp only [okR, Bool.and_eq_true, List.all_eq_true, decide_eq_true_eq]
    constructor
    · rintro ⟨h1, h2⟩ x hx; exact ⟨h1 x hx, (h2 x hx).2⟩
    · intro h; exact ⟨fun x hx => (h x hx).1, fun x hx => ⟨by have := (h x hx).1; omega, (h x hx).2⟩⟩
  rw [hp]
  by_cases b1 : g.1.length ≤ 200
  · by_cases b2 : 1 ≤ g.2.1.length
    · by_cases b3 : g.2.1.length ≤ 3
      · by_cases b4 : g.2.2.1.length ≤ 8
        · simp only [gt_iff_lt, lit_lt200, lt_lit1, lit_lt3, lit_lt8, Nat.not_lt.2 b1, Nat.not_lt.2 b2, Nat.not_lt.2 b3, Nat.not_lt.2 b4, b1, b2, b3, b4, decide_true, decide_false, cond_false, Option.bind_some, leads_ok hN (sm_lim a5), bif_neg]
          cases g.2.2.1.all fun x => decide (0 ≤ x) && decide (x < (g.1.length : Int))
          · simp
          · simp only [cond_true, Option.bind_some, Sum.elim_inl, h1]
            cases g.1.all (okN g.1.length)
            · simp
            · simp only [cond_true, Option.bind_some, Sum.elim_inl, h2]
              cases g.2.1.all fun r => decide (r.length ≤ 8) && okR g.1.length r <;> simp
        · simp [Nat.not_lt.2 b1, Nat.not_lt.2 b2, Nat.not_lt.2 b3, Nat.not_le.1 b4, b4]
      · simp [Nat.not_lt.2 b1, Nat.not_lt.2 b2, Nat.not_le.1 b3, b3]
    · simp [Nat.not_lt.2 b1, Nat.not_le.1 b2, b2]
  · simp [Nat.not_le.1 b1, b1]

end
abbrev Mst := List Int × List Bool

/-- A reference is met. -/
def meet (st : Mst) (r : Int) : Mst := if 0 ≤ r ∧ st.2.getD r.toNat false = false then (st.1 ++ [r], st.2.set r.toNat true) else st

structure Met (m : Nat) (st : Mst) : Prop where
  len : st.2.length = m
  cnt : st.1.length + st.2.count false = m
  rng : ∀ r ∈ st.1, 0 ≤ r ∧ r < (m : Int)
  had : ∀ r : Int, 0 ≤ r → (st.2.getD r.toNat false = true ↔ r ∈ st.1)
  nd : st.1.Nodup

theorem count_set_true : ∀ {l : List Bool} {i : Nat}, i < l.length → l.getD i false = false → (l.set i true).count false + 1 = l.count false
  | [], _, h, _ => by simp at h
  | b :: l, 0, _, h => by simp at h; subst h; simp
  | b :: l, i + 1, h, h2 => by
    have ih := count_set_true (l := l) (i := i) (by simpa using h) (by simpa using h2)
    simp only [List.set_cons_succ, List.count_cons]
    omega

theorem Met.le {m : Nat} {st : Mst} (h : Met m st) : st.1.length ≤ m := by have := h.cnt; omega

theorem Met.meet {m : Nat} {st : Mst} (h : Met m st) {r : Int} (hr : r < (m : Int)) : Met m (meet st r) := by
  unfold Fl.meet
  split
  · rename_i hc
    have hl : r.toNat < st.2.length := by rw [h.len]; omega
    have hn : ¬ r ∈ st.1 := fun hm => by
      have := (h.had r hc.1).2 hm
      rw [hc.2] at this
      cases this
    refine ⟨by simp [h.len], ?_, ?_, ?_, ?_⟩
    · have := count_set_true hl hc.2
      have := h.cnt
      simp only [List.length_append, List.length_singleton]
      omega
    · intro x hx
      simp only [List.mem_append, List.mem_singleton] at hx
      rcases hx with hx | rfl
      · exact h.rng x hx
      · exact ⟨hc.1, hr⟩
    · intro x hx
      simp only [List.mem_append, List.mem_singleton]
      rw [← h.had x hx]
      simp only [List.getD_eq_getElem?_getD, List.getElem?_set]
      by_cases e : r.toNat = x.toNat
      · have : x = r := by omega
        subst this
        simp [hl]
      · have : ¬ x = r := fun e' => e (by rw [e'])
        simp [e, this]
    · rw [List.nodup_append]
      refine ⟨h.nd, by simp, ?_⟩
      intro a ha b hb e
      simp at hb
      subst hb
      subst e
      exact hn ha
  · exact h

theorem Met.meets {m : Nat} {l : List Int} : ∀ {st : Mst}, Met m st → (∀ r ∈ l, r < (m : Int)) → Met m (l.foldl Fl.meet st) := by
  induction l with
  | nil => intro st h _; exact h
  | cons r l ih => intro st h hl; exact ih (h.meet (hl r (by simp))) fun x hx => hl x (by simp [hx])

/-- Met is only more and more. -/
theorem meet_pre (st : Mst) (r : Int) : st.1 <+: (meet st r).1 := by
  unfold meet
  split
  · exact List.prefix_append _ _
  · exact List.prefix_refl _

theorem meets_pre {l : List Int} : ∀ {st : Mst}, st.1 <+: (l.foldl meet st).1 := by
  induction l with
  | nil => intro st; exact List.prefix_refl _
  | cons r l ih => intro st; exact (meet_pre st r).trans ih

theorem meet_mem {m : Nat} {st : Mst} (h : Met m st) {r : Int} (h0 : 0 ≤ r) : r ∈ (meet st r).1 := by
  unfold meet
  split
  · simp
  · rename_i hc
    exact (h.had r h0).1 (by
      cases hb : st.2.getD r.toNat false with
      | true => rfl
      | false => exact absurd ⟨h0, hb⟩ hc)

theorem meets_mem {m : Nat} {l : List Int} : ∀ {st : Mst}, Met m st → (∀ r ∈ l, r < (m : Int)) → ∀ r ∈ l, 0 ≤ r → r ∈ (l.foldl meet st).1 := by
  induction l with
  | nil => intro st _ _ r hr; simp at hr
  | cons x l ih =>
    intro st h hl r hr h0
    have h1 := h.meet (hl x (by simp))
    simp only [List.mem_cons] at hr
    rcases hr with rfl | hr
    · exact (meets_pre (l := l)).subset (meet_mem h h0)
    · exact ih h1 (fun y hy => hl y (by simp [hy])) r hr h0

theorem meet_sub {st : Mst} {r x : Int} (hx : x ∈ (meet st r).1) : x ∈ st.1 ∨ (x = r ∧ 0 ≤ r) := by
  unfold meet at hx
  split at hx
  · rename_i hc
    simp only [List.mem_append, List.mem_singleton] at hx
    rcases hx with hx | hx
    · exact .inl hx
    · exact .inr ⟨hx, hc.1⟩
  · exact .inl hx

theorem meets_sub {l : List Int} : ∀ {st : Mst} {x : Int}, x ∈ (l.foldl meet st).1 → x ∈ st.1 ∨ (x ∈ l ∧ 0 ≤ x) := by
  induction l with
  | nil => intro st x hx; exact .inl hx
  | cons r l ih =>
    intro st x hx
    rcases ih hx with h | ⟨h, h0⟩
    · rcases meet_sub h with h | ⟨rfl, h0⟩
      · exact .inl h
      · exact .inr ⟨by simp, h0⟩
    · exact .inr ⟨by simp [h], h0⟩

/-- What a node leads to. -/
def refsOf (g : Gr) (r : Int) : List Int := (g.1.getD r.toNat ([], [], ())).1

/-- The met are gone through. -/
def walk (R : Int → List Int) : Nat → Nat → Mst → Mst
  | 0, _, st => st
  | n + 1, i, st => if i < st.1.length then walk R n (i + 1) ((R (st.1.getD i 0)).foldl meet st) else st

def met0 (m : Nat) : Mst := ([], List.replicate m false)

theorem met0_ok (m : Nat) : Met m (met0 m) := by
  refine ⟨by simp [met0], by simp [met0], by simp [met0], ?_, by simp [met0]⟩
  intro r _
  simp only [met0, List.getD_eq_getElem?_getD, List.getElem?_replicate]
  split <;> simp

theorem walk_met {m : Nat} {R : Int → List Int} (hR : ∀ r, 0 ≤ r → r < (m : Int) → ∀ x ∈ R r, x < (m : Int)) : ∀ (n i : Nat) {st : Mst}, Met m st → Met m (walk R n i st)
  | 0, _, _, h => h
  | n + 1, i, st, h => by
    unfold walk
    split
    · rename_i hi
      refine walk_met hR n (i + 1) (h.meets ?_)
      rw [getD_lt hi]
      exact hR _ (h.rng _ (List.getElem_mem hi)).1 (h.rng _ (List.getElem_mem hi)).2
    · exact h

theorem walk_pre {R : Int → List Int} : ∀ (n i : Nat) {st : Mst}, st.1 <+: (walk R n i st).1
  | 0, _, st => List.prefix_refl _
  | n + 1, i, st => by
    unfold walk
    split
    · exact (meets_pre (l := R (st.1.getD i 0))).trans (walk_pre n (i + 1))
    · exact List.prefix_refl _

/-- What is behind the places that were gone through, was met. -/
theorem walk_closed {m : Nat} {R : Int → List Int} (hR : ∀ r, 0 ≤ r → r < (m : Int) → ∀ x ∈ R r, x < (m : Int)) : ∀ (n i : Nat) {st : Mst}, Met m st → m - i < n →
    (∀ j (hj : j < st.1.length), j < i → ∀ x ∈ R st.1[j], 0 ≤ x → x ∈ st.1) → ∀ r ∈ (walk R n i st).1, ∀ x ∈ R r, 0 ≤ x → x ∈ (walk R n i st).1
  | 0, _, _, _, h, _ => absurd h (Nat.not_lt_zero _)
  | n + 1, i, st, h, hn, hc => by
    unfold walk
    split
    · rename_i hi
      have hb : ∀ x ∈ R (st.1.getD i 0), x < (m : Int) := by
        rw [getD_lt hi]
        exact hR _ (h.rng _ (List.getElem_mem hi)).1 (h.rng _ (List.getElem_mem hi)).2
      have hle := h.le
      refine walk_closed hR n (i + 1) (h.meets hb) (by omega) ?_
      intro j hj hji x hx h0
      have hp := meets_pre (l := R (st.1.getD i 0)) (st := st)
      rcases Nat.lt_or_ge j i with hlt | hge
      · have hj' : j < st.1.length := by omega
        have e : ((R (st.1.getD i 0)).foldl meet st).1[j] = st.1[j] := (hp.getElem hj').symm
        rw [e] at hx
        exact hp.subset (hc j hj' hlt x hx h0)
      · have : j = i := by omega
        subst this
        have e : ((R (st.1.getD j 0)).foldl meet st).1[j] = st.1[j] := (hp.getElem hi).symm
        rw [e] at hx
        exact meets_mem h hb x (by rw [getD_lt hi]; exact hx) h0
    · rename_i hi
      intro r hr x hx h0
      obtain ⟨j, hj, rfl⟩ := List.getElem_of_mem hr
      exact hc j hj (by omega) x hx h0

/-- Whatever holds of the first ones and is handed on, holds of all. -/
theorem walk_ind {R : Int → List Int} {P : Int → Prop} (hP : ∀ r, P r → ∀ x ∈ R r, 0 ≤ x → P x) : ∀ (n i : Nat) {st : Mst}, (∀ r ∈ st.1, P r) → ∀ r ∈ (walk R n i st).1, P r
  | 0, _, _, h => h
  | n + 1, i, st, h => by
    unfold walk
    split
    · rename_i hi
      refine walk_ind hP n (i + 1) fun r hr => ?_
      rcases meets_sub hr with h1 | ⟨h1, h0⟩
      · exact h r h1
      · rw [getD_lt hi] at h1
        exact hP _ (h _ (List.getElem_mem hi)) r h1 h0
    · exact h

def begin0 (g : Gr) : Mst := g.2.2.1.foldl meet (g.2.1.foldl (fun s l => l.foldl meet s) (met0 g.1.length))

/-- The nodes that are reached, as they are met. -/
def order (g : Gr) : List Int := (walk (refsOf g) (g.1.length + 1) 0 (begin0 g)).1

theorem refs_rng {g : Gr} (h : okG g = true) (r : Int) : ∀ x ∈ refsOf g r, x < (g.1.length : Int) := by
  obtain ⟨_, _, _, h4, _⟩ := okG_iff.1 h
  intro x hx
  unfold refsOf at hx
  by_cases hr : r.toNat < g.1.length
  · rw [getD_lt hr] at hx
    exact (okR_iff.1 (h4 _ (List.getElem_mem hr)).2.2 x hx).2
  · rw [List.getD_eq_getElem?_getD, List.getElem?_eq_none (by omega)] at hx
    simp at hx

theorem roots_met {m : Nat} {ls : List (List Int)} : ∀ {st : Mst}, Met m st → (∀ l ∈ ls, ∀ x ∈ l, x < (m : Int)) → Met m (ls.foldl (fun s l => l.foldl meet s) st) := by
  induction ls with
  | nil => intro st h _; exact h
  | cons l ls ih => intro st h hl; exact ih (h.meets (hl l (by simp))) fun x hx => hl x (by simp [hx])

theorem roots_pre {ls : List (List Int)} : ∀ {st : Mst}, st.1 <+: (ls.foldl (fun s l => l.foldl meet s) st).1 := by
  induction ls with
  | nil => intro st; exact List.prefix_refl _
  | cons r l ih => intro st; exact meets_pre.trans ih

theorem roots_mem {m : Nat} {ls : List (List Int)} : ∀ {st : Mst}, Met m st → (∀ l ∈ ls, ∀ x ∈ l, x < (m : Int)) → ∀ l ∈ ls, ∀ r ∈ l, 0 ≤ r → r ∈ (ls.foldl (fun s l => l.foldl meet s) st).1 := by
  induction ls with
  | nil => intro st _ _ r hr; simp at hr
  | cons x ls ih =>
    intro st h hl l hm r hr h0
    have h1 := h.meets (hl x (by simp))
    simp only [List.mem_cons] at hm
    rcases hm with rfl | hm
    · exact (roots_pre (ls := ls)).subset (meets_mem h (hl l (by simp)) r hr h0)
    · exact ih h1 (fun y hy => hl y (by simp [hy])) l hm r hr h0

theorem roots_sub {ls : List (List Int)} : ∀ {st : Mst} {x : Int}, x ∈ (ls.foldl (fun s l => l.foldl meet s) st).1 → x ∈ st.1 ∨ ∃ l ∈ ls, x ∈ l ∧ 0 ≤ x := by
  induction ls with
  | nil => intro st x hx; exact .inl hx
  | cons r l ih =>
    intro st x hx
    rcases ih hx with h | ⟨l', h, h0⟩
    · rcases meets_sub h with h | h
      · exact .inl h
      · exact .inr ⟨r, by simp, h⟩
    · exact .inr ⟨l', by simp [h], h0⟩

theorem rootsrng {g : Gr} (h : okG g = true) : ∀ l ∈ g.2.1, ∀ x ∈ l, x < (g.1.length : Int) := fun l hl x hx => by
  obtain ⟨_, _, _, _, h5, _⟩ := okG_iff.1 h
  exact (okR_iff.1 (h5 l hl).2 x hx).2

theorem pinsrng {g : Gr} (h : okG g = true) : ∀ x ∈ g.2.2.1, x < (g.1.length : Int) := fun x hx => by
  obtain ⟨_, _, _, _, _, _, _, h8⟩ := okG_iff.1 h
  exact (okR_iff.1 h8 x hx).2

theorem begin0_ok {g : Gr} (h : okG g = true) : Met g.1.length (begin0 g) :=
  (roots_met (met0_ok _) (rootsrng h)).meets (pinsrng h)

theorem order_met {g : Gr} (h : okG g = true) : Met g.1.length (walk (refsOf g) (g.1.length + 1) 0 (begin0 g)) :=
  walk_met (fun r _ _ => refs_rng h r) _ _ (begin0_ok h)

theorem order_rng {g : Gr} (h : okG g = true) : ∀ r ∈ order g, 0 ≤ r ∧ r < (g.1.length : Int) := (order_met h).rng

theorem order_nodup {g : Gr} (h : okG g = true) : (order g).Nodup := (order_met h).nd

theorem order_le {g : Gr} (h : okG g = true) : (order g).length ≤ g.1.length := (order_met h).le

theorem order_closed {g : Gr} (h : okG g = true) : ∀ r ∈ order g, ∀ x ∈ refsOf g r, 0 ≤ x → x ∈ order g :=
  walk_closed (fun r _ _ => refs_rng h r) _ _ (begin0_ok h) (by omega) fun j _ hj => absurd hj (Nat.not_lt_zero _)

theorem order_roots {g : Gr} (h : okG g = true) : ∀ l ∈ g.2.1, ∀ x ∈ l, 0 ≤ x → x ∈ order g := fun l hl x hx h0 =>
  (walk_pre _ _).subset (meets_pre.subset (roots_mem (met0_ok _) (rootsrng h) l hl x hx h0))

theorem order_pins {g : Gr} (h : okG g = true) : ∀ x ∈ g.2.2.1, x ∈ order g := fun x hx => by
  obtain ⟨_, _, _, _, _, _, h7, _⟩ := okG_iff.1 h
  exact (walk_pre _ _).subset (meets_mem (roots_met (met0_ok _) (rootsrng h)) (pinsrng h) x hx (h7 x hx))

/-- The reached are the least that holds what is begun with and is closed. -/
theorem order_ind {g : Gr} {P : Int → Prop} (hr : ∀ l ∈ g.2.1, ∀ x ∈ l, 0 ≤ x → P x) (hp : ∀ x ∈ g.2.2.1, 0 ≤ x → P x) (hP : ∀ r, P r → ∀ x ∈ refsOf g r, 0 ≤ x → P x) : ∀ r ∈ order g, P r :=
  walk_ind hP _ _ fun r h => by
    rcases meets_sub h with h | ⟨h, h0⟩
    · rcases roots_sub h with h | ⟨l, hl, h, h0⟩
      · simp [met0] at h
      · exact hr l hl r h h0
    · exact hp r h h0

section
variable {N : Nat} (hN : lim < N)
include hN

theorem okG_small {g : Gr} (h : okG g = true) : smG g := by
  obtain ⟨h1, h2, h3, h4, h5, h6, h7, h8⟩ := okG_iff.1 h
  simp only [smG, smN, sm]
  refine ⟨by omega, fun x hx => ?_, by omega, fun x hx => ?_, by omega⟩
  · have := h4 x hx; omega
  · have := h5 x hx; omega

/-- One list of references, by the places. -/
theorem meets_loop {m : Nat} {xs : List Int} (hx : ∀ x ∈ xs, x < (m : Int)) (hm : m ≤ 200) (hl : xs.length ≤ lim) {ρ : Type} {L : Nat → Nat → Mst → Option ρ} {fin : Mst → ρ}
    (h1 : ∀ n i st (h : i < xs.length), w64 ((i : Int) + 1) = ((i + 1 : Nat) : Int) → Met m st → (0 ≤ xs[i] → xs[i].toNat < st.2.length) → st.1.length + 1 ≤ lim → L (n + 1) i st = L n (i + 1) (meet st xs[i]))
    (h3 : ∀ n st, Met m st → L (n + 1) xs.length st = some (fin st)) {st : Mst} (hst : Met m st) : L N 0 st = some (fin (xs.foldl meet st)) :=
  (fold_loop (xs := xs) (n := N) meet (fun _ st => Met m st) (L := L) (fin := fin) hl
    (fun n i st h hw hI => by
      have hr := hx _ (List.getElem_mem h)
      refine ⟨h1 n i st h hw hI (fun h0 => by have := hI.len; omega) ?_, hI.meet hr⟩
      have := hI.le; rw [lim_eq]; omega)
    (fun n st hI => h3 n st hI) (by omega) hst).1

theorem roots_loop {m : Nat} {ls : List (List Int)} (hx : ∀ l ∈ ls, ∀ x ∈ l, x < (m : Int)) (hl : ls.length ≤ lim) {ρ : Type} {L : Nat → Nat → Mst → Option ρ} {fin : Mst → ρ}
    (h1 : ∀ n i st (h : i < ls.length), w64 ((i : Int) + 1) = ((i + 1 : Nat) : Int) → Met m st → L (n + 1) i st = L n (i + 1) (ls[i].foldl meet st))
    (h3 : ∀ n st, Met m st → L (n + 1) ls.length st = some (fin st)) {st : Mst} (hst : Met m st) : L N 0 st = some (fin (ls.foldl (fun s l => l.foldl meet s) st)) :=
  (fold_loop (xs := ls) (n := N) (fun s l => l.foldl meet s) (fun _ st => Met m st) (L := L) (fin := fin) hl
    (fun n i st h hw hI => ⟨h1 n i st h hw hI, hI.meets (hx _ (List.getElem_mem h))⟩)
    (fun n st hI => h3 n st hI) (by omega) hst).1

theorem walk_loop {m : Nat} {R : Int → List Int} (hR : ∀ r, 0 ≤ r → r < (m : Int) → ∀ x ∈ R r, x < (m : Int)) (hm : m ≤ 200) {ρ : Type} {L : Nat → Nat → Mst → Option ρ} {fin : Mst → ρ}
    (h1 : ∀ n (i : Nat) st (h : i < st.1.length), w64 ((i : Int) + 1) = ((i + 1 : Nat) : Int) → Met m st → L (n + 1) i st = L n (i + 1) ((R st.1[i]).foldl meet st))
    (h3 : ∀ n i st, ¬ i < st.1.length → Met m st → L (n + 1) i st = some (fin st)) {st : Mst} (hst : Met m st) : L N 0 st = some (fin (walk R (m + 1) 0 st)) := by
  have key : ∀ n i st, Met m st → i ≤ st.1.length → m - i < n → L n i st = some (fin (walk R (m + 1 - i) i st)) := by
    intro n
    induction n with
    | zero => intro i st _ _ h; exact absurd h (Nat.not_lt_zero _)
    | succ n ih =>
      intro i st hI hi hn
      have hle := hI.le
      by_cases h : i < st.1.length
      · have e : m + 1 - i = (m + 1 - (i + 1)) + 1 := by omega
        rw [h1 n i st h (w64_succ (by omega)) hI, e]
        have hb := hI.meets (hR _ (hI.rng _ (List.getElem_mem h)).1 (hI.rng _ (List.getElem_mem h)).2)
        have hp := (meets_pre (l := R st.1[i]) (st := st)).length_le
        rw [ih (i + 1) _ hb (by omega) (by omega)]
        simp only [walk, h, if_true, getD_lt h]
      · rw [h3 n i st h hI]
        cases hk : m + 1 - i with
        | zero => rfl
        | succ k => simp only [walk, h, if_false]
  have := key N 0 st hst (by omega) (by rw [lim_eq] at hN; omega)
  simpa using this

end
section
variable {N : Nat} (hN : lim < N)
include hN

theorem iGraph_met_1_ok {m : Nat} {xs : List Int} (hx : ∀ x ∈ xs, x < (m : Int)) (hm : m ≤ 200) (hl : xs.length ≤ lim) {st : Mst} (hst : Met m st) :
    FiGraph_met_1 N (xs, st.2, st.1, ()) = some ((xs.foldl meet st).2, (xs.foldl meet st).1, ()) := by
  have := meets_loop hN (xs := xs) (m := m) hx hm hl
    (L := fun n i st => liGraph_met_1_0 N n (xs, (xs.length : Int), (i : Int), st.2, st.1, ())) (fin := fun st => (st.2, st.1, ()))
    (fun n i st hi hw hI hb hlim => by
      by_cases h0 : 0 ≤ xs[i]
      · have hb := hb h0
        cases hh : st.2.getD xs[i].toNat false with
        | false => 
          have hh' := hh
          rw [getD_lt hb] at hh'
          simp [liGraph_met_1_0, hi, hw, h0, hb, hlim, meet, hh']
        | true =>
          have hh' := hh
          rw [getD_lt hb] at hh'
          simp [liGraph_met_1_0, hi, hw, h0, hb, hlim, meet, hh']
      · simp [liGraph_met_1_0, hi, hw, h0, meet])
    (fun n st hI => by simp [liGraph_met_1_0]) hst
  simp only [Int.natCast_zero] at this
  simp [FiGraph_met_1, this]

theorem iGraph_met_ok {g : Gr} (h : okG g = true) : FiGraph_met N (g, ()) = some (order g, ()) := by
  have hg := okG_iff.1 h
  have hs := okG_small hN h
  have e1 := roots_loop hN (ls := g.2.1) (m := g.1.length) (rootsrng h) (sm_lim hs.2.2.1) (L := fun n i st => liGraph_met_0 N n (g, g.2.1, (g.2.1.length : Int), (i : Int), st.1, st.2, ())) (fin := fun st => (g, st.1, st.2, ()))
    (fun n i st hi hw hI => by
      have e := iGraph_met_1_ok hN (rootsrng h _ (List.getElem_mem hi)) hg.1 (sm_lim (hs.2.2.2.1 _ (List.getElem_mem hi))) hI
      simp [liGraph_met_0, hi, hw, e])
    (fun n st hI => by simp [liGraph_met_0]) (met0_ok _)
  have hb := roots_met (met0_ok g.1.length) (rootsrng h)
  have e2 := iGraph_met_1_ok hN (pinsrng h) hg.1 (sm_lim hs.2.2.2.2) hb
  have hb2 : Met g.1.length (begin0 g) := begin0_ok h
  have e4 := walk_loop hN (R := refsOf g) (m := g.1.length) (fun r _ _ => refs_rng h r) hg.1 (L := fun n i st => liGraph_met_2 N n (g, (i : Int), st.1, st.2, ())) (fin := fun st => (st.1, ()))
    (fun n i st hi hw hI => by
      have hr := hI.rng _ (List.getElem_mem hi)
      have hr' : st.1[i].toNat < g.1.length := by omega
      have hsm : (refsOf g st.1[i]).length ≤ lim := by
        unfold refsOf; rw [getD_lt hr']; exact sm_lim (hs.2.1 _ (List.getElem_mem hr')).1
      have e := iGraph_met_1_ok hN (refs_rng h st.1[i]) hg.1 hsm hI
      simp only [refsOf, getD_lt hr'] at e ⊢
      simp [liGraph_met_2, hi, hw, hr.1, hr', e])
    (fun n i st hi hI => by simp [liGraph_met_2, hi]) hb2
  simp only [Int.natCast_zero] at e1 e4
  have hl := sm_lim hs.1
  simp only [met0] at e1
  simp only [FiGraph_met, Int.natCast_nonneg, decide_true, cond_true, Int.toNat_natCast, hl, e1, Option.bind_some]
  simp only [met0] at e2
  rw [e2]
  simp only [Option.bind_some]
  have e5 : begin0 g = (g.2.2.1.foldl meet (g.2.1.foldl (fun s l => l.foldl meet s) ([], List.replicate g.1.length false))) := rfl
  rw [← e5, e4]
  rfl

end
def place (l : List Int) (n : Int) : Int := match l.findIdx? (fun x => decide (x = n)) with
  | some i => (i : Int)
  | none => -1

theorem place_none {l : List Int} {n : Int} (h : n ∉ l) : place l n = -1 := by
  have : l.findIdx? (fun x => decide (x = n)) = none := by
    rw [List.findIdx?_eq_none_iff]
    intro x hx
    simp only [decide_eq_false_iff_not]
    rintro rfl
    exact h hx
  simp [place, this]

def trim (g : Gr) : Gr := ((order g).map fun r => ((refsOf g r).map (place (order g)), (g.1.getD r.toNat ([], [], ())).2.1, ()), g.2.1.map fun l => l.map (place (order g)), g.2.2.1.map (place (order g)), ())

theorem place_get {l : List Int} (h : l.Nodup) {i : Nat} (hi : i < l.length) : place l l[i] = (i : Int) := by
  have : l.findIdx? (fun x => decide (x = l[i])) = some i := by
    rw [List.findIdx?_eq_some_iff_getElem]
    refine ⟨hi, by simp, fun j hj => ?_⟩
    simp only [Bool.not_eq_true, decide_eq_false_iff_not]
    intro e
    exact List.pairwise_iff_getElem.1 h j i (by omega) hi hj e
  simp [place, this]

section
variable {N : Nat} (hN : lim < N)
include hN

theorem inamed_ok {xs : List Int} {m : List (Int × Int)} (hl : xs.length ≤ lim) : Finamed N (xs, m, ()) = some (xs.map (fun x => if 0 ≤ x then (mget m x).getD 0 else x), ()) := by
  have hL := turn_loop (xs := xs) (n := N) (fun x => if 0 ≤ x then (mget m x).getD 0 else x) (L := fun n i s => linamed_0 N n (m, (xs.length : Int), (i : Int), s, ())) (fin := fun s => (s, ())) hl
    (fun n i s h h' hw hs he => by
      by_cases h0 : 0 ≤ xs[i]
      · have e : 0 ≤ s[i] := by rw [he]; exact h0
        simp [linamed_0, h, h', hw, e, he, h0]
      · have e : ¬ 0 ≤ s[i] := by rw [he]; exact h0
        have e2 : s.set i xs[i] = s := by rw [← he]; exact List.set_getElem_self _
        simp [linamed_0, h, h', hw, e, h0, e2])
    (fun n s hs => by simp [linamed_0]) (by omega)
  simp only [Int.natCast_zero] at hL
  simp [Finamed, kClone_ok hN hl, hL]

theorem iGraphTrim_ok {g : Gr} (hs : smG g) : FiGraphTrim N (g, ()) = some (if okG g = true then trim g else ([], [], [], ())) := by
  have hl1 := sm_lim hs.1
  cases h : okG g with
  | false => simp [FiGraphTrim, iGraphOk_ok hN hs, h]
  | true =>
    have hg := okG_iff.1 h
    have ho : (order g).length ≤ lim := by have := order_le h; omega
    have hnd := order_nodup h
    obtain ⟨e0, hM⟩ := fold_loop (xs := order g) (n := N) (fun m r => mset m r (place (order g) r)) (fun i m => ∀ r ∈ (order g).take i, mget m r = some (place (order g) r))
      (L := fun n i m => liGraphTrim_0 N n (g, ((order g).length : Int), (i : Int), order g, m, ())) (fin := fun m => (g, order g, m, ())) ho
      (fun n i m hi hw hI => by
        refine ⟨?_, fun r hr => ?_⟩
        · simp [liGraphTrim_0, hi, hw, place_get hnd hi]
        · rw [List.take_succ_eq_append_getElem hi] at hr
          simp only [List.mem_append, List.mem_singleton] at hr
          rw [mget_mset]
          by_cases e : r = (order g)[i]
          · simp [e]
          · rcases hr with hr | hr
            · simp [e, hI r hr]
            · exact absurd hr e)
      (fun n m hI => by simp [liGraphTrim_0]) (by omega) (s := []) (fun r hr => by simp at hr)
    generalize hm : (order g).foldl (fun m r => mset m r (place (order g) r)) [] = m at e0 hM
    rw [List.take_length] at hM
    have hname : ∀ xs : List Int, (∀ x ∈ xs, -1 ≤ x) → (∀ x ∈ xs, 0 ≤ x → x ∈ order g) → xs.map (fun x => if 0 ≤ x then (mget m x).getD 0 else x) = xs.map (place (order g)) := by
      intro xs h1 h2
      refine List.map_congr_left fun x hx => ?_
      by_cases h0 : 0 ≤ x
      · simp [h0, hM x (h2 x hx h0)]
      · have : x = -1 := by have := h1 x hx; omega
        subst this
        have hn : (-1 : Int) ∉ order g := fun hm => by have := (order_rng h _ hm).1; omega
        simp [place_none hn]
    have e1 := (fold_loop (xs := order g) (n := N) (fun s r => s ++ [((refsOf g r).map (place (order g)), (g.1.getD r.toNat ([], [], ())).2.1, ())]) (fun i s => s.length = i)
      (L := fun n i s => liGraphTrim_2 N n (g, ((order g).length : Int), (i : Int), m, s, ([] : List (List Int)), order g, ())) (fin := fun s => (g, m, s, ([] : List (List Int)), ())) ho
      (fun n i s hi hw hI => by
        subst hI
        have hr := order_rng h _ (List.getElem_mem hi)
        have hr' : (order g)[s.length].toNat < g.1.length := by omega
        have hsm := hs.2.1 _ (List.getElem_mem hr')
        have hlim : s.length + 1 ≤ lim := by omega
        have en := hname (g.1[(order g)[s.length].toNat].1) (fun x hx => (okR_iff.1 (hg.2.2.2.1 _ (List.getElem_mem hr')).2.2 x hx).1)
          (fun x hx h0 => order_closed h _ (List.getElem_mem hi) x (by simp only [refsOf]; rw [getD_lt hr']; exact hx) h0)
        simp [liGraphTrim_2, hi, hw, hr.1, hr', inamed_ok hN (sm_lim hsm.1), kClone_ok hN (sm_lim hsm.2), hlim, refsOf, en])
      (fun n s hI => by simp [liGraphTrim_2]) (by omega) (s := []) rfl).1
    have e2 := fun S => (fold_loop (xs := g.2.1) (n := N) (fun s l => s ++ [l.map (place (order g))]) (fun i s => s.length = i)
      (L := fun n i s => liGraphTrim_4 N n (g, g.2.1, (g.2.1.length : Int), (i : Int), m, S, s, ())) (fin := fun s => (g, m, S, s, ())) (sm_lim hs.2.2.1)
      (fun n i s hi hw hI => by
        subst hI
        have hlim : s.length + 1 ≤ lim := by have := sm_lim hs.2.2.1; omega
        have en := hname g.2.1[s.length] (fun x hx => (okR_iff.1 (hg.2.2.2.2.1 _ (List.getElem_mem hi)).2 x hx).1) (fun x hx h0 => order_roots h _ (List.getElem_mem hi) x hx h0)
        simp [liGraphTrim_4, hi, hw, inamed_ok hN (sm_lim (hs.2.2.2.1 _ (List.getElem_mem hi))), hlim, en])
      (fun n s hI => by simp [liGraphTrim_4]) (by have := sm_lim hs.2.2.1; omega) (s := []) rfl).1
    have e3 := hname g.2.2.1 (fun x hx => (okR_iff.1 hg.2.2.2.2.2.2.2 x hx).1) (fun x hx _ => order_pins h x hx)
    simp only [Int.natCast_zero, foldl_push, List.nil_append] at e0 e1 e2
    simp [FiGraphTrim, iGraphOk_ok hN hs, h, iGraph_met_ok hN h, e0, e1, e2, inamed_ok hN (sm_lim hs.2.2.2.2), e3, trim]

end
section
variable {N : Nat} (hN : lim < N)
include hN

theorem sl5Ints_ok {xs : List Int} (hl : xs.length ≤ lim) : Fsl5Ints N (xs, ()) = some (xs, ()) := by
  simp [Fsl5Ints, hl]

end
section
variable {N : Nat} (hN : lim < N)
include hN

theorem sl5Order_roots {g : Gr} (h : okG g = true) {k : Nat} (hk : k < g.2.1.length) {st : Mst} (hst : Met g.1.length st) :
    lsl5Order_2 N N (g, (k : Int), 0, st.1, st.2, ()) = some (g, (k : Int), (g.2.1[k].foldl meet st).1, (g.2.1[k].foldl meet st).2, ()) := by
  have hg := okG_iff.1 h
  have hs := okG_small hN h
  have := meets_loop hN (xs := g.2.1[k]) (m := g.1.length) (rootsrng h _ (List.getElem_mem hk)) hg.1 (sm_lim (hs.2.2.2.1 _ (List.getElem_mem hk)))
    (L := fun n i st => lsl5Order_2 N n (g, (k : Int), (i : Int), st.1, st.2, ())) (fin := fun st => (g, (k : Int), st.1, st.2, ()))
    (fun n i st hi hw hI hb hlim => by
      by_cases h0 : 0 ≤ g.2.1[k][i]
      · have hb := hb h0
        cases hh : st.2.getD g.2.1[k][i].toNat false with
        | false => 
          have hh' := hh
          rw [getD_lt hb] at hh'
          simp [lsl5Order_2, hk, hi, hw, h0, hb, hlim, meet, hh']
        | true =>
          have hh' := hh
          rw [getD_lt hb] at hh'
          simp [lsl5Order_2, hk, hi, hw, h0, hb, hlim, meet, hh']
      · simp [lsl5Order_2, hk, hi, hw, h0, meet])
    (fun n st hI => by simp [lsl5Order_2, hk]) hst
  simpa using this

theorem sl5Order_ok {g : Gr} (h : okG g = true) : Fsl5Order N (g, ()) = some (order g, ()) := by
  have hg := okG_iff.1 h
  have hs := okG_small hN h
  have e1 := roots_loop hN (ls := g.2.1) (m := g.1.length) (rootsrng h) (sm_lim hs.2.2.1) (L := fun n i st => lsl5Order_0 N n (g, (i : Int), st.1, st.2, ())) (fin := fun st => (g, st.1, st.2, ()))
    (fun n i st hi hw hI => by simp [lsl5Order_0, hi, hw, sl5Order_roots hN h hi hI])
    (fun n st hI => by simp [lsl5Order_0]) (met0_ok _)
  have hb := roots_met (met0_ok g.1.length) (rootsrng h)
  have e2 := meets_loop hN (xs := g.2.2.1) (m := g.1.length) (pinsrng h) hg.1 (sm_lim hs.2.2.2.2)
    (L := fun n i st => lsl5Order_4 N n (g, (i : Int), st.1, st.2, ())) (fin := fun st => (g, st.1, st.2, ()))
    (fun n i st hi hw hI hb hlim => by
      have h0 := hg.2.2.2.2.2.2.1 _ (List.getElem_mem hi)
      have hb := hb h0
      cases hh : st.2.getD g.2.2.1[i].toNat false with
      | false => 
        have hh' := hh
        rw [getD_lt hb] at hh'
        simp [lsl5Order_4, hi, hw, h0, hb, hlim, meet, hh']
      | true =>
        have hh' := hh
        rw [getD_lt hb] at hh'
        simp [lsl5Order_4, hi, hw, h0, hb, hlim, meet, hh'])
    (fun n st hI => by simp [lsl5Order_4]) hb
  have e3 : ∀ k st, Met g.1.length st → ∀ (r : Int) (hr : r.toNat < g.1.length), lsl5Order_8 N N (g, k, refsOf g r, (0 : Int), st.1, st.2, ()) = some (g, k, ((refsOf g r).foldl meet st).1, ((refsOf g r).foldl meet st).2, ()) := by
    intro k st hst r hr
    have hsm : (refsOf g r).length ≤ lim := by
      unfold refsOf; rw [getD_lt hr]; exact sm_lim (hs.2.1 _ (List.getElem_mem hr)).1
    have := meets_loop hN (xs := refsOf g r) (m := g.1.length) (refs_rng h r) hg.1 hsm
      (L := fun n i st => lsl5Order_8 N n (g, k, refsOf g r, (i : Int), st.1, st.2, ())) (fin := fun st => (g, k, st.1, st.2, ()))
      (fun n i st hi hw hI hb hlim => by
        by_cases h0 : 0 ≤ (refsOf g r)[i]
        · have hb := hb h0
          cases hh : st.2.getD (refsOf g r)[i].toNat false with
          | false => 
            have hh' := hh
            rw [getD_lt hb] at hh'
            simp [lsl5Order_8, hi, hw, h0, hb, hlim, meet, hh']
          | true =>
            have hh' := hh
            rw [getD_lt hb] at hh'
            simp [lsl5Order_8, hi, hw, h0, hb, hlim, meet, hh']
        · simp [lsl5Order_8, hi, hw, h0, meet])
      (fun n st hI => by simp [lsl5Order_8]) hst
    simpa using this
  have hb2 : Met g.1.length (begin0 g) := begin0_ok h
  have e4 := walk_loop hN (R := refsOf g) (m := g.1.length) (fun r _ _ => refs_rng h r) hg.1 (L := fun n i st => lsl5Order_6 N n (g, (i : Int), st.1, st.2, ())) (fin := fun st => (st.1, ()))
    (fun n i st hi hw hI => by
      have hr := hI.rng _ (List.getElem_mem hi)
      have hr' : st.1[i].toNat < g.1.length := by omega
      have e := e3 (i : Int) st hI st.1[i] hr'
      simp only [refsOf, getD_lt hr'] at e ⊢
      simp [lsl5Order_6, hi, hw, hr.1, hr', e])
    (fun n i st hi hI => by simp [lsl5Order_6, hi]) hb2
  simp only [Int.natCast_zero] at e1 e2 e4
  have hl := sm_lim hs.1
  simp only [met0] at e1
  simp only [Fsl5Order, Int.natCast_nonneg, decide_true, cond_true, Int.toNat_natCast, hl, e1, Option.bind_some]
  simp only [met0] at e2
  rw [e2]
  simp only [Option.bind_some]
  have e5 : begin0 g = (g.2.2.1.foldl meet (g.2.1.foldl (fun s l => l.foldl meet s) ([], List.replicate g.1.length false))) := rfl
  rw [← e5, e4]
  rfl

end
section
variable {N : Nat} (hN : lim < N)
include hN

theorem sl5Refs_ok {xs : List Int} {m : Nat} (hx : sm xs.length) : Fsl5Refs N (xs, (m : Int), ()) = some (okR m xs, ()) := by
  have hl := sm_lim hx
  have hL := all_loop (xs := xs) (n := N) (fun x => decide (-1 ≤ x) && decide (x < (m : Int))) (L := fun n i => lsl5Refs_0 N n (xs, (m : Int), (i : Int), ())) (yes := .inl ()) (no := .inr (false, ())) hl
    (fun n i h hw hq => by
      simp at hq
      simp [lsl5Refs_0, h, hw, Int.not_lt.2 hq.1, Int.not_le.2 hq.2])
    (fun n i h hq => by
      simp at hq
      by_cases h1 : xs[i] < -1
      · simp [lsl5Refs_0, h, h1]
      · simp [lsl5Refs_0, h, h1, hq (by omega)])
    (fun n => by simp [lsl5Refs_0]) (by omega)
  simp only [Int.natCast_zero] at hL
  simp only [Fsl5Refs, hL, okR]
  cases xs.all (fun x => decide (-1 ≤ x) && decide (x < (m : Int))) <;> simp

theorem sGraphOk_ok {g : Gr} (hx : smG g) : FsGraphOk N (g, ()) = some (okG g, ()) := by
  obtain ⟨a1, a2, a3, a4, a5⟩ := hx
  have h1 := all_loop (xs := g.1) (n := N) (okN g.1.length) (L := fun n i => lsGraphOk_0 N n (g, (i : Int), ())) (yes := .inl (g, ())) (no := .inr (false, ())) (sm_lim a1)
    (fun n i h hw hq => by
      simp [okN] at hq
      simp [lsGraphOk_0, h, hw, sl5Refs_ok hN (a2 _ (List.getElem_mem h)).1, hq, Nat.not_lt.2 hq.1, Nat.not_lt.2 hq.2.1])
    (fun n i h hq => by
      simp [lsGraphOk_0, h, sl5Refs_ok hN (a2 _ (List.getElem_mem h)).1]
      simp [okN] at hq
      by_cases h1 : g.1[i].1.length ≤ 4 <;> by_cases h2 : g.1[i].2.1.length ≤ 4 <;> simp_all)
    (fun n => by simp [lsGraphOk_0]) (by have := sm_lim a1; omega)
  have h2 := all_loop (xs := g.2.1) (n := N) (fun r => decide (r.length ≤ 8) && okR g.1.length r) (L := fun n i => lsGraphOk_2 N n (g, (i : Int), ())) (yes := .inl (g, ())) (no := .inr (false, ())) (sm_lim a3)
    (fun n i h hw hq => by
      simp at hq
      simp [lsGraphOk_2, h, hw, sl5Refs_ok hN (a4 _ (List.getElem_mem h)), hq, Nat.not_lt.2 hq.1])
    (fun n i h hq => by
      simp [lsGraphOk_2, h, sl5Refs_ok hN (a4 _ (List.getElem_mem h))]
      simp at hq
      by_cases h1 : g.2.1[i].length ≤ 8 <;> simp_all)
    (fun n => by simp [lsGraphOk_2]) (by have := sm_lim a3; omega)
  have h3 := all_loop (xs := g.2.2.1) (n := N) (fun x => decide (0 ≤ x)) (L := fun n i => lsGraphOk_4 N n (g, (i : Int), ())) (yes := .inl (g, ())) (no := .inr (false, ())) (sm_lim a5)
    (fun n i h hw hq => by
      simp at hq
      simp [lsGraphOk_4, h, hw, Int.not_lt.2 hq])
    (fun n i h hq => by
      simp at hq
      simp [lsGraphOk_4, h, hq])
    (fun n => by simp [lsGraphOk_4]) (by have := sm_lim a5; omega)
  simp only [Int.natCast_zero] at h1 h2 h3
  simp only [FsGraphOk, okG]
  by_cases b1 : g.1.length ≤ 200
  · by_cases b2 : 1 ≤ g.2.1.length
    · by_cases b3 : g.2.1.length ≤ 3
      · have c1 : ¬ ((g.1.length : Int) > 200) := by omega
        have c2 : ¬ ((g.2.1.length : Int) < 1) := by omega
        have c3 : ¬ ((g.2.1.length : Int) > 3) := by omega
        simp only [c1, c2, c3, b1, b2, b3, decide_true, decide_false, cond_false, Option.bind_some, Sum.elim_inl, h1, Bool.true_and]
        cases g.1.all (okN g.1.length)
        · simp
        · simp only [cond_true, Option.bind_some, Sum.elim_inl, h2, Bool.true_and]
          cases g.2.1.all (fun r => decide (r.length ≤ 8) && okR g.1.length r)
          · simp
          · simp only [cond_true, Option.bind_some, Sum.elim_inl, h3, Bool.true_and, sl5Refs_ok hN a5]
            by_cases b4 : g.2.2.1.length ≤ 8
            · have c4 : ((g.2.2.1.length : Int) ≤ 8) := by omega
              cases g.2.2.1.all (fun x => decide (0 ≤ x)) <;> simp [b4, c4, sl5Refs_ok hN a5]
            · have c4 : ¬ ((g.2.2.1.length : Int) ≤ 8) := by omega
              cases g.2.2.1.all (fun x => decide (0 ≤ x)) <;> simp [b4, c4, sl5Refs_ok hN a5]
      · have c1 : ¬ ((g.1.length : Int) > 200) := by omega
        have c2 : ¬ ((g.2.1.length : Int) < 1) := by omega
        have c3 : ((g.2.1.length : Int) > 3) := by omega
        simp [c1, c2, c3, b3]
    · have c1 : ¬ ((g.1.length : Int) > 200) := by omega
      have c2 : ((g.2.1.length : Int) < 1) := by omega
      simp [c1, c2, b2]
  · have c1 : ((g.1.length : Int) > 200) := by omega
    simp [c1, b1]

end
section
variable {N : Nat} (hN : lim < N)
include hN

theorem sl5Place_ok {xs : List Int} {r : Int} (hl : xs.length ≤ lim) : Fsl5Place N (xs, r, ()) = some (place xs r, ()) := by
  have hL := find_loop (xs := xs) (n := N) (fun x => decide (x = r)) (L := fun n i => lsl5Place_0 N n (xs, r, (i : Int), ())) (yes := fun i => .inr ((i : Int), ())) (no := .inl ()) hl
    (fun n i h hw hq => by
      simp at hq
      simp [lsl5Place_0, h, hw, hq])
    (fun n i h hq => by
      simp at hq
      simp [lsl5Place_0, h, hq])
    (fun n => by simp [lsl5Place_0]) (by omega)
  simp only [Int.natCast_zero] at hL
  simp only [Fsl5Place, hL, place]
  cases xs.findIdx? (fun x => decide (x = r)) <;> simp

theorem sl5Named_ok {xs o : List Int} (hl : xs.length ≤ lim) (ho : o.length ≤ lim) : Fsl5Named N (xs, o, ()) = some (xs.map (place o), ()) := by
  have hL := fold_loop (xs := xs) (n := N) (fun s x => s ++ [place o x]) (fun i s => s.length = i) (L := fun n i s => lsl5Named_0 N n (xs, o, (i : Int), s, ())) (fin := fun s => (s, ())) hl
    (fun n i s h hw hI => by
      subst hI
      have : s.length + 1 ≤ lim := by omega
      simp [lsl5Named_0, h, hw, sl5Place_ok hN ho, this])
    (fun n s hI => by simp [lsl5Named_0]) (by omega) (s := []) rfl
  have hL := hL.1
  simp only [Int.natCast_zero, foldl_push, List.nil_append] at hL
  simp [Fsl5Named, hL]

theorem sGraphTrim_ok {g : Gr} (hs : smG g) : FsGraphTrim N (g, ()) = some (if okG g = true then trim g else ([], [], [], ())) := by
  have hl1 := sm_lim hs.1
  cases h : okG g with
  | false => simp [FsGraphTrim, sGraphOk_ok hN hs, h]
  | true =>
    have hg := okG_iff.1 h
    have ho : (order g).length ≤ lim := by have := order_le h; omega
    have e1 := fold_loop (xs := order g) (n := N) (fun s r => s ++ [((refsOf g r).map (place (order g)), (g.1.getD r.toNat ([], [], ())).2.1, ())]) (fun i s => s.length = i)
      (L := fun n i s => lsGraphTrim_0 N n (g, (i : Int), order g, s, ([] : List (List Int)), ())) (fin := fun s => (g, order g, s, ([] : List (List Int)), ())) ho
      (fun n i s hi hw hI => by
        have hr := order_rng h _ (List.getElem_mem hi)
        have hr' : (order g)[i].toNat < g.1.length := by omega
        have hsm := hs.2.1 _ (List.getElem_mem hr')
        subst hI
        have hlim : s.length + 1 ≤ lim := by omega
        simp [lsGraphTrim_0, hi, hw, hr.1, hr', sl5Named_ok hN (sm_lim hsm.1) ho, sl5Ints_ok hN (sm_lim hsm.2), hlim, refsOf])
      (fun n s hI => by simp [lsGraphTrim_0]) (by omega) (s := []) rfl
    have e2 := fun S => (fold_loop (xs := g.2.1) (n := N) (fun s l => s ++ [l.map (place (order g))]) (fun i s => s.length = i)
      (L := fun n i s => lsGraphTrim_2 N n (g, (i : Int), order g, S, s, ())) (fin := fun s => (g, order g, S, s, ())) (sm_lim hs.2.2.1)
      (fun n i s hi hw hI => by
        subst hI
        have hlim : s.length + 1 ≤ lim := by have := sm_lim hs.2.2.1; omega
        simp [lsGraphTrim_2, hi, hw, sl5Named_ok hN (sm_lim (hs.2.2.2.1 _ (List.getElem_mem hi))) ho, hlim])
      (fun n s hI => by simp [lsGraphTrim_2]) (by have := sm_lim hs.2.2.1; omega) (s := []) rfl).1
    have e1 := e1.1
    simp only [Int.natCast_zero, foldl_push, List.nil_append] at e1 e2
    simp [FsGraphTrim, sGraphOk_ok hN hs, h, sl5Order_ok hN h, e1, e2, sl5Named_ok hN (sm_lim hs.2.2.2.2) ho, trim]

end
section
variable {N : Nat} (hN : lim < N)
include hN

theorem trim_small {g : Gr} (h : okG g = true) : (trim g).1.length ≤ 200 ∧ (∀ x ∈ (trim g).1, x.1.length ≤ 4 ∧ x.2.1.length ≤ 4) ∧ (trim g).2.1.length ≤ 3 ∧ (∀ r ∈ (trim g).2.1, r.length ≤ 8) ∧ (trim g).2.2.1.length ≤ 8 := by
  obtain ⟨h1, h2, h3, h4, h5, h6, h7, h8⟩ := okG_iff.1 h
  have := order_le h
  refine ⟨by simp [trim]; omega, fun x hx => ?_, by simp [trim]; omega, fun r hr => ?_, by simp [trim]; omega⟩
  · simp only [trim, List.mem_map] at hx
    obtain ⟨r, hr, rfl⟩ := hx
    have hr := order_rng h r hr
    have hr' : r.toNat < g.1.length := by omega
    have := h4 _ (List.getElem_mem hr')
    simp only [refsOf, getD_lt hr', List.length_map]
    exact ⟨this.1, this.2.1⟩
  · simp only [trim, List.mem_map] at hr
    obtain ⟨l, hl, rfl⟩ := hr
    simpa using (h5 l hl).1

def gB (g : Gr) : Prop := g.1.length ≤ lim ∧ (∀ x ∈ g.1, x.1.length ≤ lim ∧ x.2.1.length ≤ lim) ∧ g.2.1.length ≤ lim ∧ (∀ r ∈ g.2.1, r.length ≤ lim) ∧ g.2.2.1.length ≤ lim

theorem trim_gB {g : Gr} (h : okG g = true) : gB (trim g) := by
  obtain ⟨h1, h2, h3, h4, h5⟩ := trim_small hN h
  have e : lim = 2147483648 := rfl
  refine ⟨by omega, fun x hx => ?_, by omega, fun r hr => ?_, by omega⟩
  · have := h2 x hx; omega
  · have := h4 r hr; omega

end
/-- Numbers one behind the other. -/
def markI (k : Int) : Nat → List Int
  | 0 => []
  | n + 1 => k :: markI (k + 1) n

theorem markI_len : ∀ (n : Nat) (k : Int), (markI k n).length = n
  | 0, _ => rfl
  | n + 1, k => by simp [markI, markI_len n]

theorem markI_get : ∀ (n : Nat) (k : Int) (i : Nat) (h : i < (markI k n).length), (markI k n)[i] = k + i
  | 0, _, _, h => absurd h (Nat.not_lt_zero _)
  | n + 1, k, 0, _ => by simp [markI]
  | n + 1, k, i + 1, h => by
    simp only [markI, List.getElem_cons_succ]
    rw [markI_get n (k + 1) i]
    omega

theorem set_take {α : Type} {s : List α} {i : Nat} {x : α} (h : i < s.length) : (s.set i x).take (i + 1) = s.take i ++ [x] := by
  rw [List.take_succ_eq_append_getElem (by simpa using h)]
  simp [List.take_set_of_le]
section
variable {N : Nat} (hN : lim < N)
include hN

theorem vmarkIntS_ok {k : Int} {xs : List Int} (hl : xs.length ≤ lim) (h0 : 0 ≤ k) (h1 : k < 2305843009213693952) : FvmarkIntS N (k, xs, ()) = some (k + xs.length, markI k xs.length, ()) := by
  have hlim : lim = 2147483648 := rfl
  have key : ∀ (n i : Nat) (k : Int) (s : List Int), i ≤ s.length → s.length - i < n → s.length ≤ lim → 0 ≤ k → k < 2305843009213693952 + i → lvmarkIntS_0 N n (k, (i : Int), s, ()) = some (k + (s.length - i : Nat), s.take i ++ markI k (s.length - i), ()) := by
    intro n
    induction n with
    | zero => intro i k s _ h; exact absurd h (Nat.not_lt_zero _)
    | succ n ih =>
      intro i k s hi hn hs hk hk'
      by_cases h : i < s.length
      · have w1 : w64 ((i : Int) + 1) = ((i + 1 : Nat) : Int) := w64_succ (by omega)
        have w2 : w64 (k + 1) = k + 1 := w64_id (by omega) (by omega)
        have := ih (i + 1) (k + 1) (s.set i k) (by simp; omega) (by simp; omega) (by simpa using hs) (by omega) (by omega)
        simp only [lvmarkIntS_0, w1, w2]
        simp only [Int.ofNat_lt, h, decide_true, cond_true, Int.natCast_nonneg, Int.toNat_natCast, this, List.length_set, set_take h]
        have e : s.length - i = (s.length - (i + 1)) + 1 := by omega
        rw [e]
        simp only [markI, List.append_assoc, List.cons_append, List.nil_append]
        congr 2
        omega
      · have : i = s.length := by omega
        subst this
        simp [lvmarkIntS_0, markI]
  have := key N 0 k xs (by omega) (by omega) hl h0 (by omega)
  simp only [Int.natCast_zero, Nat.sub_zero, List.take_zero, List.nil_append] at this
  simp [FvmarkIntS, this]
end
def markNs : Int → List Nd → Int × List Nd
  | k, [] => (k, [])
  | k, x :: r => ((markNs (k + x.1.length + x.2.1.length) r).1, (markI k x.1.length, markI (k + x.1.length) x.2.1.length, ()) :: (markNs (k + x.1.length + x.2.1.length) r).2)
def markIs : Int → List (List Int) → Int × List (List Int)
  | k, [] => (k, [])
  | k, x :: r => ((markIs (k + x.length) r).1, markI k x.length :: (markIs (k + x.length) r).2)
def markGr (k : Int) (g : Gr) : Int × Gr :=
  ((markIs (markNs k g.1).1 g.2.1).1 + g.2.2.1.length, (markNs k g.1).2, (markIs (markNs k g.1).1 g.2.1).2, markI (markIs (markNs k g.1).1 g.2.1).1 g.2.2.1.length, ())

theorem markNs_rng : ∀ {xs : List Nd} (k : Int), (∀ x ∈ xs, smN x) → k ≤ (markNs k xs).1 ∧ (markNs k xs).1 ≤ k + 2097152 * xs.length
  | [], k, _ => by simp [markNs]
  | x :: r, k, h => by
    have hx := h x (by simp)
    simp only [smN, sm] at hx
    have := markNs_rng (xs := r) (k + x.1.length + x.2.1.length) (fun y hy => h y (by simp [hy]))
    simp only [markNs, List.length_cons]
    omega

theorem markIs_rng : ∀ {xs : List (List Int)} (k : Int), (∀ x ∈ xs, sm x.length) → k ≤ (markIs k xs).1 ∧ (markIs k xs).1 ≤ k + 1048576 * xs.length
  | [], k, _ => by simp [markIs]
  | x :: r, k, h => by
    have hx := h x (by simp)
    simp only [sm] at hx
    have := markIs_rng (xs := r) (k + x.length) (fun y hy => h y (by simp [hy]))
    simp only [markIs, List.length_cons]
    omega

theorem markNs_len : ∀ {xs : List Nd} (k : Int), (markNs k xs).2.length = xs.length
  | [], _ => rfl
  | x :: r, k => by simp [markNs, markNs_len]
theorem markIs_len : ∀ {xs : List (List Int)} (k : Int), (markIs k xs).2.length = xs.length
  | [], _ => rfl
  | x :: r, k => by simp [markIs, markIs_len]
section
variable {N : Nat} (hN : lim < N)
include hN

theorem vmarkNodeS_ok {k : Int} {xs : List Nd} (hl : xs.length ≤ 1048576) (hx : ∀ x ∈ xs, smN x) (h0 : 0 ≤ k) (h1 : k < 1000000000000) : FvmarkNodeS N (k, xs, ()) = some ((markNs k xs).1, (markNs k xs).2, ()) := by
  have hlim : lim = 2147483648 := rfl
  have key : ∀ (n i : Nat) (k : Int) (s : List Nd), i ≤ s.length → s.length - i < n → s.length ≤ 1048576 → (∀ x ∈ s.drop i, smN x) → 0 ≤ k → k < 1000000000000 + 2097152 * i →
      lvmarkNodeS_0 N n (k, (i : Int), s, ()) = some ((markNs k (s.drop i)).1, s.take i ++ (markNs k (s.drop i)).2, ()) := by
    intro n
    induction n with
    | zero => intro i k s _ h; exact absurd h (Nat.not_lt_zero _)
    | succ n ih =>
      intro i k s hi hn hs hx hk hk'
      by_cases h : i < s.length
      · have w1 : w64 ((i : Int) + 1) = ((i + 1 : Nat) : Int) := w64_succ (by omega)
        rw [drop_at h] at hx
        have hxi := hx s[i] List.mem_cons_self
        simp only [smN, sm] at hxi
        have e1 := vmarkIntS_ok hN (k := k) (xs := s[i].1) (by omega) hk (by omega)
        have e2 := vmarkIntS_ok hN (k := k + s[i].1.length) (xs := s[i].2.1) (by omega) (by omega) (by omega)
        have := ih (i + 1) (k + s[i].1.length + s[i].2.1.length) ((s.set i (markI k s[i].1.length, s[i].2)).set i (markI k s[i].1.length, markI (k + s[i].1.length) s[i].2.1.length, ())) (by simp; omega) (by simp; omega) (by simpa using hs)
          (by
            rw [List.drop_set_of_lt (by omega), List.drop_set_of_lt (by omega)]
            exact fun x hx' => hx x (List.mem_cons_of_mem _ hx')) (by omega) (by omega)
        have hset : i < (s.set i (markI k s[i].1.length, s[i].2)).length := by simpa using h
        rw [List.drop_set_of_lt (by omega), List.drop_set_of_lt (by omega), set_take hset, List.take_set_of_le (Nat.le_refl _)] at this
        rw [drop_at h]
        simp only [markNs]
        simp only [lvmarkNodeS_0, w1]
        simp only [Int.ofNat_lt, h, decide_true, cond_true, Int.natCast_nonneg, Int.toNat_natCast, getD_lt h, e1, Option.bind_some, hset, getD_lt hset, List.getElem_set_self, e2, this]
        simp
      · have : i = s.length := by omega
        subst this
        simp [lvmarkNodeS_0, markNs]
  have := key N 0 k xs (by omega) (by omega) hl (by simpa using hx) h0 (by omega)
  simp only [Int.natCast_zero, List.drop_zero, List.take_zero, List.nil_append] at this
  simp [FvmarkNodeS, this]

theorem vmarkIntSS_ok {k : Int} {xs : List (List Int)} (hl : xs.length ≤ 1048576) (hx : ∀ x ∈ xs, sm x.length) (h0 : 0 ≤ k) (h1 : k < 10000000000000) : FvmarkIntSS N (k, xs, ()) = some ((markIs k xs).1, (markIs k xs).2, ()) := by
  have hlim : lim = 2147483648 := rfl
  have key : ∀ (n i : Nat) (k : Int) (s : List (List Int)), i ≤ s.length → s.length - i < n → s.length ≤ 1048576 → (∀ x ∈ s.drop i, sm x.length) → 0 ≤ k → k < 10000000000000 + 1048576 * i →
      lvmarkIntSS_0 N n (k, (i : Int), s, ()) = some ((markIs k (s.drop i)).1, s.take i ++ (markIs k (s.drop i)).2, ()) := by
    intro n
    induction n with
    | zero => intro i k s _ h; exact absurd h (Nat.not_lt_zero _)
    | succ n ih =>
      intro i k s hi hn hs hx hk hk'
      by_cases h : i < s.length
      · have w1 : w64 ((i : Int) + 1) = ((i + 1 : Nat) : Int) := w64_succ (by omega)
        rw [drop_at h] at hx
        have hxi := hx s[i] List.mem_cons_self
        simp only [sm] at hxi
        have e1 := vmarkIntS_ok hN (k := k) (xs := s[i]) (by omega) hk (by omega)
        have := ih (i + 1) (k + s[i].length) (s.set i (markI k s[i].length)) (by simp; omega) (by simp; omega) (by simpa using hs)
          (by
            rw [List.drop_set_of_lt (by omega)]
            exact fun x hx' => hx x (List.mem_cons_of_mem _ hx')) (by omega) (by omega)
        rw [List.drop_set_of_lt (by omega), set_take h] at this
        rw [drop_at h]
        simp only [markIs]
        simp only [lvmarkIntSS_0, w1]
        simp only [Int.ofNat_lt, h, decide_true, cond_true, Int.natCast_nonneg, Int.toNat_natCast, getD_lt h, e1, Option.bind_some, this]
        simp
      · have : i = s.length := by omega
        subst this
        simp [lvmarkIntSS_0, markIs]
  have := key N 0 k xs (by omega) (by omega) hl (by simpa using hx) h0 (by omega)
  simp only [Int.natCast_zero, List.drop_zero, List.take_zero, List.nil_append] at this
  simp [FvmarkIntSS, this]

theorem vmarkGraph_ok {k : Int} {g : Gr} (hs : smG g) (h0 : 0 ≤ k) (h1 : k < 1000) : FvmarkGraph N (k, g.1, g.2.1, g.2.2.1, ()) = some ((markGr k g).1, (markGr k g).2) := by
  obtain ⟨a1, a2, a3, a4, a5⟩ := hs
  have b1 := markNs_rng (xs := g.1) k a2
  simp only [sm] at a1 a3 a5
  have b2 := markIs_rng (xs := g.2.1) (markNs k g.1).1 a4
  have c1 : (2097152 : Int) * g.1.length ≤ 2097152 * 1048576 := by omega
  have c2 : (1048576 : Int) * g.2.1.length ≤ 1048576 * 1048576 := by omega
  simp [FvmarkGraph, markGr, vmarkNodeS_ok hN a1 a2 h0 (by omega), vmarkIntSS_ok hN a3 a4 (k := (markNs k g.1).1) (by omega) (by omega), vmarkIntS_ok hN (k := (markIs (markNs k g.1).1 g.2.1).1) (xs := g.2.2.1) (by rw [lim_eq]; omega) (by omega) (by omega)]
end
section
variable {N : Nat} (hN : lim < N)
include hN

theorem vheldIntS_ok {k : Int} {n : Nat} (hl : n ≤ lim) (h0 : 0 ≤ k) (h1 : k < 2305843009213693952) : FvheldIntS N (markI k n, k, ()) = some (k + n, ()) := by
  have hlim : lim = 2147483648 := rfl
  have hlen := markI_len n k
  have key : ∀ (m i : Nat), i ≤ n → n - i < m → lvheldIntS_0 N m (markI k n, k + i, (i : Int), ()) = some (.inl (k + n, ())) := by
    intro m
    induction m with
    | zero => intro i _ h; exact absurd h (Nat.not_lt_zero _)
    | succ m ih =>
      intro i hi hm
      by_cases h : i < n
      · have w1 : w64 ((i : Int) + 1) = ((i + 1 : Nat) : Int) := w64_succ (by omega)
        have w2 : w64 (k + i + 1) = k + ((i + 1 : Nat) : Int) := by rw [w64_id (by omega) (by omega)]; omega
        have h' : i < (markI k n).length := by omega
        have := ih (i + 1) (by omega) (by omega)
        simp only [lvheldIntS_0, w1, w2]
        simp only [Int.ofNat_lt, h', decide_true, cond_true, Int.natCast_nonneg, Int.toNat_natCast, getD_lt h', markI_get n k i h', bif_bne, if_true, this]
      · have : i = n := by omega
        subst this
        simp [lvheldIntS_0, hlen]
  have := key N 0 (by omega) (by omega)
  simp only [Int.natCast_zero, Int.add_zero] at this
  simp [FvheldIntS, this]
end
section
variable {N : Nat} (hN : lim < N)
include hN

theorem vheldNodeS_ok {k : Int} {xs : List Nd} (hl : xs.length ≤ 1048576) (hx : ∀ x ∈ xs, smN x) (h0 : 0 ≤ k) (h1 : k < 1000000000000) : FvheldNodeS N ((markNs k xs).2, k, ()) = some ((markNs k xs).1, ()) := by
  have hlim : lim = 2147483648 := rfl
  have key : ∀ (ys pre : List Nd) (n : Nat) (j : Int), (∀ x ∈ ys, smN x) → pre.length + ys.length ≤ 1048576 → ys.length < n → 0 ≤ j → j < 1000000000000 + 2097152 * pre.length →
      lvheldNodeS_0 N n (pre ++ (markNs j ys).2, j, (pre.length : Int), ()) = some (.inl ((markNs j ys).1, ())) := by
    intro ys
    induction ys with
    | nil =>
      intro pre n j _ _ hn _ _
      obtain ⟨n, rfl⟩ : ∃ n', n = n' + 1 := ⟨n - 1, by simp at hn; omega⟩
      simp [lvheldNodeS_0, markNs]
    | cons y ys ih =>
      intro pre n j hx hl hn hj hj'
      obtain ⟨n, rfl⟩ : ∃ n', n = n' + 1 := ⟨n - 1, by simp at hn; omega⟩
      have hy := hx y (by simp)
      simp only [smN, sm] at hy
      simp only [List.length_cons] at hl hn
      have w1 : w64 ((pre.length : Int) + 1) = ((pre.length + 1 : Nat) : Int) := w64_succ (by omega)
      have e1 := vheldIntS_ok hN (k := j) (n := y.1.length) (by omega) hj (by omega)
      have e2 := vheldIntS_ok hN (k := j + y.1.length) (n := y.2.1.length) (by omega) (by omega) (by omega)
      have := ih (pre ++ [(markI j y.1.length, markI (j + y.1.length) y.2.1.length, ())]) n (j + y.1.length + y.2.1.length) (fun x hx' => hx x (by simp [hx'])) (by simp; omega) (by omega) (by omega) (by simp; omega)
      simp only [List.append_assoc, List.cons_append, List.nil_append, List.length_append, List.length_singleton] at this
      simp only [markNs]
      generalize hq : (markNs (j + y.1.length + y.2.1.length) ys).2 = q at this ⊢
      have hlt : pre.length < (pre ++ (markI j y.1.length, markI (j + y.1.length) y.2.1.length, ()) :: q).length := by simp
      have hget : (pre ++ (markI j y.1.length, markI (j + y.1.length) y.2.1.length, ()) :: q)[pre.length] = (markI j y.1.length, markI (j + y.1.length) y.2.1.length, ()) := by simp
      have n1 : ¬ j + (y.1.length : Int) < 0 := by omega
      have n2 : ¬ j + (y.1.length : Int) + (y.2.1.length : Int) < 0 := by omega
      simp only [lvheldNodeS_0, w1]
      simp only [Int.ofNat_lt, hlt, decide_true, cond_true, Int.natCast_nonneg, Int.toNat_natCast, getD_lt hlt, hget, e1, Option.bind_some, n1, decide_false, cond_false, e2, n2, this]
  have := key xs [] N k hx (by simpa using hl) (by omega) h0 (by simpa using h1)
  simp only [List.length_nil, Int.natCast_zero, List.nil_append] at this
  simp [FvheldNodeS, this]

theorem vheldIntSS_ok {k : Int} {xs : List (List Int)} (hl : xs.length ≤ 1048576) (hx : ∀ x ∈ xs, sm x.length) (h0 : 0 ≤ k) (h1 : k < 10000000000000) : FvheldIntSS N ((markIs k xs).2, k, ()) = some ((markIs k xs).1, ()) := by
  have hlim : lim = 2147483648 := rfl
  have key : ∀ (ys pre : List (List Int)) (n : Nat) (j : Int), (∀ x ∈ ys, sm x.length) → pre.length + ys.length ≤ 1048576 → ys.length < n → 0 ≤ j → j < 10000000000000 + 1048576 * pre.length →
      lvheldIntSS_0 N n (pre ++ (markIs j ys).2, j, (pre.length : Int), ()) = some (.inl ((markIs j ys).1, ())) := by
    intro ys
    induction ys with
    | nil =>
      intro pre n j _ _ hn _ _
      obtain ⟨n, rfl⟩ : ∃ n', n = n' + 1 := ⟨n - 1, by simp at hn; omega⟩
      simp [lvheldIntSS_0, markIs]
    | cons y ys ih =>
      intro pre n j hx hl hn hj hj'
      obtain ⟨n, rfl⟩ : ∃ n', n = n' + 1 := ⟨n - 1, by simp at hn; omega⟩
      have hy := hx y (by simp)
      simp only [sm] at hy
      simp only [List.length_cons] at hl hn
      have w1 : w64 ((pre.length : Int) + 1) = ((pre.length + 1 : Nat) : Int) := w64_succ (by omega)
      have e1 := vheldIntS_ok hN (k := j) (n := y.length) (by omega) hj (by omega)
      have := ih (pre ++ [markI j y.length]) n (j + y.length) (fun x hx' => hx x (by simp [hx'])) (by simp; omega) (by omega) (by omega) (by simp; omega)
      simp only [List.append_assoc, List.cons_append, List.nil_append, List.length_append, List.length_singleton] at this
      simp only [markIs]
      generalize hq : (markIs (j + y.length) ys).2 = q at this ⊢
      have hlt : pre.length < (pre ++ markI j y.length :: q).length := by simp
      have hget : (pre ++ markI j y.length :: q)[pre.length] = markI j y.length := by simp
      have n1 : ¬ j + (y.length : Int) < 0 := by omega
      simp only [lvheldIntSS_0, w1]
      simp only [Int.ofNat_lt, hlt, decide_true, cond_true, Int.natCast_nonneg, Int.toNat_natCast, getD_lt hlt, hget, e1, Option.bind_some, n1, decide_false, cond_false, this]
  have := key xs [] N k hx (by simpa using hl) (by omega) h0 (by simpa using h1)
  simp only [List.length_nil, Int.natCast_zero, List.nil_append] at this
  simp [FvheldIntSS, this]

theorem vheldGraph_ok {k : Int} {g : Gr} (hs : smG g) (h0 : 0 ≤ k) (h1 : k < 1000) : FvheldGraph N ((markGr k g).2, k, ()) = some ((markGr k g).1, ()) ∧ 0 ≤ (markGr k g).1 := by
  obtain ⟨a1, a2, a3, a4, a5⟩ := hs
  have b1 := markNs_rng (xs := g.1) k a2
  simp only [sm] at a1 a3 a5
  have b2 := markIs_rng (xs := g.2.1) (markNs k g.1).1 a4
  have c1 : (2097152 : Int) * g.1.length ≤ 2097152 * 1048576 := by omega
  have c2 : (1048576 : Int) * g.2.1.length ≤ 1048576 * 1048576 := by omega
  have n1 : ¬ (markNs k g.1).1 < 0 := by omega
  have n2 : ¬ (markIs (markNs k g.1).1 g.2.1).1 < 0 := by omega
  have n3 : ¬ (markIs (markNs k g.1).1 g.2.1).1 + (g.2.2.1.length : Int) < 0 := by omega
  refine ⟨?_, by simp only [markGr]; omega⟩
  simp [FvheldGraph, markGr, vheldNodeS_ok hN a1 a2 h0 (by omega), vheldIntSS_ok hN a3 a4 (k := (markNs k g.1).1) (by omega) (by omega), vheldIntS_ok hN (k := (markIs (markNs k g.1).1 g.2.1).1) (n := g.2.2.1.length) (by rw [lim_eq]; omega) (by omega) (by omega), n1, n2, n3]
end
section
variable {N : Nat} (hN : lim < N)
include hN

theorem trim_smG {g : Gr} : smG (if okG g = true then trim g else ([], [], [], ())) := by
  split
  · rename_i h
    obtain ⟨h1, h2, h3, h4, h5⟩ := trim_small hN h
    exact ⟨by simp only [sm]; omega, fun x hx => by have := h2 x hx; simp only [smN, sm]; omega, by simp only [sm]; omega, fun x hx => by have := h4 x hx; simp only [sm]; omega, by simp only [sm]; omega⟩
  · exact ⟨by simp [sm], by simp, by simp [sm], by simp, by simp [sm]⟩

theorem FnExactGraphTrim_ok {a : Gr} (ha : mlG a) : FvFnExactGraphTrim N (a, ()) = some (true, ()) := by
  obtain ⟨r1, e1, h1⟩ := vszGraph_ok hN (left := 1048576) ha (by omega) (by omega)
  simp only [FvFnExactGraphTrim, e1, Option.bind_some]
  rcases h1 with h1 | ⟨h1, h2, sa⟩
  · simp [h1]
  · have et := trim_smG hN (g := a)
    have es := sGraphTrim_ok hN sa
    have ei := iGraphTrim_ok hN sa
    generalize (if okG a = true then trim a else ([], [], [], ())) = t at et es ei
    have em1 := vmarkGraph_ok hN (k := 1) sa (by omega) (by omega)
    have em2 := vmarkGraph_ok hN (k := 1) et (by omega) (by omega)
    obtain ⟨eh, hh⟩ := vheldGraph_ok hN (k := 1) et (by omega) (by omega)
    obtain ⟨_, hh0⟩ := vheldGraph_ok hN (k := 1) sa (by omega) (by omega)
    generalize markGr 1 a = m1 at em1 hh0
    generalize markGr 1 t = m2 at em2 eh hh
    obtain ⟨k1, g1⟩ := m1
    obtain ⟨k2, g2⟩ := m2
    dsimp only at em1 em2 eh hh hh0
    obtain ⟨p, q, r, ⟨⟩⟩ := a
    obtain ⟨p', q', r', ⟨⟩⟩ := t
    obtain ⟨u, v, w, ⟨⟩⟩ := g2
    dsimp only at em1 em2 eh
    have n1 : ¬ k1 < 0 := by omega
    have n2 : ¬ k2 < 0 := by omega
    simp only [Int.not_lt.2 h1, decide_false, cond_false, vtoGraph_ok hN sa, Option.bind_some, es, ei, veqGraph_ok hN et, veqGraph_ok hN sa, decide_true, Bool.not_true, em1, n1, Sum.elim_inl, em2, eh, n2, bif_bne, if_true]
end
end Go.Fl

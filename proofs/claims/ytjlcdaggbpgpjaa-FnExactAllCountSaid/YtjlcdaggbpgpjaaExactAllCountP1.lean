/- Proved: for every input the law FnExactAllCount returns true and leaves its arguments as they were. Part 1: the functions that the law reaches, as plain functions, and plain laws about them; no conditions. -/
import Derived.Test.YtjlcdaggbpgpjaaK3
import Derived.Test.YtjlcdaggbpgpjaaProg
set_option linter.all false
-- FUNCS vszOpS vszOpSS vtoConfig vtoShape vtoOp vtoOpS vtoOpSS sConfigOk sStoryOk sl19Ok sl19Count sAllCount iConfigOk iprogsOk_1 kIndexFunc_SSOp_SOp_iprogsOk_1 kContainsFunc_SSOp_SOp_iprogsOk_1 iprogsOk kGrow_SOp_Op kConcat_SOp_Op math_bits_Mul64 math_bits_Mul kRepeat_Sint_int inone iGraphNew iGraph_leads_1 kIndexFunc_Sint_int_iGraph_leads_1 kContainsFunc_Sint_int_iGraph_leads_1 iGraph_leads iGraphOk iShapeOk iOpOk kClone_Sint_int iGraph_copy iOp_handles iOp_early iOp_field itruth ilastOf kDelete_Sint_int iGraphDo iAllCount_1 imerged_1_imerged_1_iAllCount_1 imerged_iAllCount_1 iAllCount veqShape veqOp veqOpS veqOpSS vFnExactAllCount
set_option maxRecDepth 100000
set_option linter.all false
namespace Go.Fl
open Go Go.Proofs
noncomputable def TE : List (Nat × Ty) := [(3, (.int .i64)),
  (4, .bool),
  (23, (.sl (.sl (.int .i64)))),
  (24, (.sl (.int .i64))),
  (29, (.sl (.pair (.sl (.int .i64)) (.pair (.sl (.int .i64)) .unit)))),
  (31, (.pair (.sl (.pair (.sl (.int .i64)) (.pair (.sl (.int .i64)) .unit))) (.pair (.sl (.sl (.int .i64))) (.pair (.sl (.int .i64)) .unit)))),
  (47, (.pair (.sl (.int .i64)) (.pair (.sl (.int .i64)) .unit))),
  (57, (.pair (.int .i64) (.pair (.int .i64) (.pair (.int .i64) .unit)))),
  (58, (.sl (.sl (.pair (.int .i64) (.pair (.int .i64) (.pair (.int .i64) (.pair (.int .i64) (.pair (.int .i64) (.pair (.int .i64) (.pair (.pair (.int .i64) (.pair (.int .i64) .unit)) .unit)))))))))),
  (61, (.pair (.int .i64) (.pair (.int .i64) (.pair (.int .i64) .unit)))),
  (63, (.sl (.sl (.pair (.int .i64) (.pair (.int .i64) (.pair (.int .i64) (.pair (.int .i64) (.pair (.int .i64) (.pair (.int .i64) (.pair (.pair (.int .i64) (.pair (.int .i64) .unit)) .unit)))))))))),
  (68, (.pair (.int .i64) (.pair (.int .i64) .unit))),
  (70, (.pair (.int .i64) (.pair (.int .i64) (.pair (.int .i64) (.pair (.int .i64) (.pair (.int .i64) (.pair (.int .i64) (.pair (.pair (.int .i64) (.pair (.int .i64) .unit)) .unit)))))))),
  (72, (.pair (.int .i64) (.pair (.int .i64) .unit))),
  (74, (.pair (.int .i64) (.pair (.int .i64) (.pair (.int .i64) (.pair (.int .i64) (.pair (.int .i64) (.pair (.int .i64) (.pair (.pair (.int .i64) (.pair (.int .i64) .unit)) .unit)))))))),
  (97, (.hnd true)),
  (113, (.sl (.pair (.int .i64) (.pair (.int .i64) (.pair (.int .i64) (.pair (.int .i64) (.pair (.int .i64) (.pair (.int .i64) (.pair (.pair (.int .i64) (.pair (.int .i64) .unit)) .unit))))))))),
  (115, (.sl (.pair (.int .i64) (.pair (.int .i64) (.pair (.int .i64) (.pair (.int .i64) (.pair (.int .i64) (.pair (.int .i64) (.pair (.pair (.int .i64) (.pair (.int .i64) .unit)) .unit))))))))),
  (119, (.hnd true)),
  (162, (.hnd true)),
  (165, (.int .u64)),
  (173, (.int .u64))]
theorem TE_ok : TyOk Try.prog TE := tysB_spec (by kernel_rfl)
theorem mixed : Try.prog.follows .mixedOrders = true := by kernel_rfl

/-! ### 92: laws.szOpS -/

noncomputable def dinvszOpS : Desc := { n := 2, regs := [.one (.val (.sl (.pair (.int .i64) (.pair (.int .i64) (.pair (.int .i64) (.pair (.int .i64) (.pair (.int .i64) (.pair (.int .i64) (.pair (.pair (.int .i64) (.pair (.int .i64) .unit)) .unit))))))))), .one (.val (.int .i64))], bx := [], pins := [] }
noncomputable def outvszOpS : Outs := [(.ret, { n := 1, regs := [.one (.val (.int .i64))], bx := [], pins := [] })]
noncomputable def HvszOpS : Hints := []
noncomputable def EvszOpS (_N : Nat) : Env := { te := TE, cs := [] }
noncomputable def FvszOpS (N : Nat) (x : ((List (Int × (Int × (Int × (Int × (Int × (Int × ((Int × (Int × Unit)) × Unit)))))))) × (Int × Unit))) : Option (Int × Unit) :=
  let y1 := decide ((w64 (x.2.1 - (x.1.length : Int))) < (0 : Int))
  bif y1 then
   some ((-1 : Int), ())
  else
  some (w64 (x.2.1 - (x.1.length : Int)), ())
noncomputable def convszOpS (N : Nat) : Con := { f := 92, din := dinvszOpS, outs := outvszOpS, F := FvszOpS N }
noncomputable def XvszOpS (N : Nat) : Ctx := { E := EvszOpS N, H := HvszOpS, lp := [], jn := [] }
theorem FvszOpS_eq (N : Nat) (x : ((List (Int × (Int × (Int × (Int × (Int × (Int × ((Int × (Int × Unit)) × Unit)))))))) × (Int × Unit))) : evFn (XvszOpS N) Try.f92 dinvszOpS outvszOpS x = FvszOpS N x := by kernel_rfl
theorem cxvszOpS (N : Nat) : CtxOk Try.prog (XvszOpS N) := ⟨⟨TE_ok, fun k hk => absurd hk List.not_mem_nil⟩, mixed⟩
theorem specvszOpS (N : Nat) : Spec Try.prog (convszOpS N) :=
  Spec.of_eq (fn_spec (cxvszOpS N) (f := 92) (fn := Try.f92) (c := codeOf Try.f92) (by kernel_rfl) (by kernel_rfl) (by kernel_rfl) (loops_at (ids := []) (by kernel_rfl) (trivial)) (by kernel_rfl)) (fun x r h => (FvszOpS_eq N x).trans h)

/-! ### 43: laws.szOpSS -/

noncomputable def dinvszOpSS : Desc := { n := 2, regs := [.one (.val (.sl (.sl (.pair (.int .i64) (.pair (.int .i64) (.pair (.int .i64) (.pair (.int .i64) (.pair (.int .i64) (.pair (.int .i64) (.pair (.pair (.int .i64) (.pair (.int .i64) .unit)) .unit)))))))))), .one (.val (.int .i64))], bx := [], pins := [] }
noncomputable def outvszOpSS : Outs := [(.ret, { n := 1, regs := [.one (.val (.int .i64))], bx := [], pins := [] })]
noncomputable def HvszOpSS : Hints := []
noncomputable def EvszOpSS (N : Nat) : Env := { te := TE, cs := [convszOpS N] }
noncomputable def dvszOpSS_0 : Desc := { n := 27, regs := [.one (.val (.sl (.sl (.pair (.int .i64) (.pair (.int .i64) (.pair (.int .i64) (.pair (.int .i64) (.pair (.int .i64) (.pair (.int .i64) (.pair (.pair (.int .i64) (.pair (.int .i64) .unit)) .unit)))))))))), .one (.val (.int .i64)), u, u, u, .one (.val (.int .i64))], bx := [], pins := [] }
noncomputable def ovszOpSS_0 : Outs := [(.exit 0, { n := 27, regs := [u, .one (.val (.int .i64))], bx := [], pins := [] }), (.ret, { n := 27, regs := [u, u, u, u, .one (.val (.int .i64))], bx := [], pins := [] })]
noncomputable def lvszOpSS_0 (N : Nat) : Nat → ((List (List (Int × (Int × (Int × (Int × (Int × (Int × ((Int × (Int × Unit)) × Unit))))))))) × (Int × (Int × Unit))) → Option ((Int × Unit) ⊕ (Int × Unit))
  | 0, _ => none
  | n + 1, v =>
    let y2 := decide (v.2.2.1 < (v.1.length : Int))
    bif y2 then
     bif decide (0 ≤ v.2.2.1) then
     bif decide (v.2.2.1.toNat < v.1.length) then
     let y3 := v.1.getD v.2.2.1.toNat ([] : (List (Int × (Int × (Int × (Int × (Int × (Int × ((Int × (Int × Unit)) × Unit)))))))))
     (FvszOpS N (y3, v.2.1, ())).bind fun r4 =>
     bif decide (r4.1 < (0 : Int)) then
      some (.inr (((-1 : Int), ())))
     else
     lvszOpSS_0 N n (v.1, r4.1, w64 (v.2.2.1 + (1 : Int)), ())
     else none
     else none
    else
    some (.inl (v.2.1, ()))
noncomputable def FvszOpSS (N : Nat) (x : ((List (List (Int × (Int × (Int × (Int × (Int × (Int × ((Int × (Int × Unit)) × Unit))))))))) × (Int × Unit))) : Option (Int × Unit) :=
  let y1 := decide ((w64 (x.2.1 - (x.1.length : Int))) < (0 : Int))
  bif y1 then
   some ((-1 : Int), ())
  else
  (lvszOpSS_0 N N (x.1, w64 (x.2.1 - (x.1.length : Int)), (0 : Int), ())).bind fun o5 =>
  Sum.elim (fun o6 =>
   some (o6.1, ())) (fun o7 =>
   some (o7.1, ())) o5
noncomputable def convszOpSS (N : Nat) : Con := { f := 43, din := dinvszOpSS, outs := outvszOpSS, F := FvszOpSS N }
noncomputable def XvszOpSS (N : Nat) : Ctx := { E := EvszOpSS N, H := HvszOpSS, lp := [(0, { hd := dvszOpSS_0, outs := ovszOpSS_0, run := fun v => lvszOpSS_0 N N v })], jn := [] }
noncomputable def bvszOpSS_0 : Code := loopBody (codeOf Try.f43) 0
theorem FvszOpSS_eq (N : Nat) (x : ((List (List (Int × (Int × (Int × (Int × (Int × (Int × ((Int × (Int × Unit)) × Unit))))))))) × (Int × Unit))) : evFn (XvszOpSS N) Try.f43 dinvszOpSS outvszOpSS x = FvszOpSS N x := by kernel_rfl
theorem lvszOpSS_0_eq (N n : Nat) (v : ((List (List (Int × (Int × (Int × (Int × (Int × (Int × ((Int × (Int × Unit)) × Unit))))))))) × (Int × (Int × Unit)))) : lvszOpSS_0 N (n + 1) v = ev (XvszOpSS N) bvszOpSS_0 (roundK dvszOpSS_0 ovszOpSS_0 (lvszOpSS_0 N n)) (dvszOpSS_0.mk' v) := by kernel_rfl
theorem cxvszOpSS (N : Nat) : CtxOk Try.prog (XvszOpSS N) := ⟨⟨TE_ok, List.forall_mem_cons.2 ⟨(specvszOpS N), fun k hk => absurd hk List.not_mem_nil⟩⟩, mixed⟩
theorem lpvszOpSS_0 (N : Nat) : LoopOk Try.prog { hd := dvszOpSS_0, outs := ovszOpSS_0, run := fun v => lvszOpSS_0 N N v } bvszOpSS_0 :=
  loop_fuel (d := dvszOpSS_0) (os := ovszOpSS_0) (cxvszOpSS N) (loops_at (ids := []) (by kernel_rfl) (trivial)) (lvszOpSS_0 N) (fun _ => rfl) (fun n v => lvszOpSS_0_eq N n v) (fun _ => N)
theorem specvszOpSS (N : Nat) : Spec Try.prog (convszOpSS N) :=
  Spec.of_eq (fn_spec (cxvszOpSS N) (f := 43) (fn := Try.f43) (c := codeOf Try.f43) (by kernel_rfl) (by kernel_rfl) (by kernel_rfl) (loops_at (ids := [0]) (by kernel_rfl) ⟨lp_of (lpvszOpSS_0 N), trivial⟩) (by kernel_rfl)) (fun x r h => (FvszOpSS_eq N x).trans h)

/-! ### 45: laws.toConfig -/

noncomputable def dinvtoConfig : Desc := { n := 1, regs := [.one (.val (.pair (.int .i64) (.pair (.int .i64) (.pair (.int .i64) .unit))))], bx := [], pins := [] }
noncomputable def outvtoConfig : Outs := [(.ret, { n := 1, regs := [.agg [.val (.int .i64), .val (.int .i64), .val (.int .i64)]], bx := [], pins := [] })]
noncomputable def HvtoConfig : Hints := [(0, [(0, { fz := true })])]
noncomputable def EvtoConfig (_N : Nat) : Env := { te := TE, cs := [] }
noncomputable def FvtoConfig (N : Nat) (x : ((Int × (Int × (Int × Unit))) × Unit)) : Option (Int × (Int × (Int × Unit))) :=
  some (x.1.1, x.1.2.1, x.1.2.2.1, ())
noncomputable def convtoConfig (N : Nat) : Con := { f := 45, din := dinvtoConfig, outs := outvtoConfig, F := FvtoConfig N }
noncomputable def XvtoConfig (N : Nat) : Ctx := { E := EvtoConfig N, H := HvtoConfig, lp := [], jn := [] }
theorem FvtoConfig_eq (N : Nat) (x : ((Int × (Int × (Int × Unit))) × Unit)) : evFn (XvtoConfig N) Try.f45 dinvtoConfig outvtoConfig x = FvtoConfig N x := by kernel_rfl
theorem cxvtoConfig (N : Nat) : CtxOk Try.prog (XvtoConfig N) := ⟨⟨TE_ok, fun k hk => absurd hk List.not_mem_nil⟩, mixed⟩
theorem specvtoConfig (N : Nat) : Spec Try.prog (convtoConfig N) :=
  Spec.of_eq (fn_spec (cxvtoConfig N) (f := 45) (fn := Try.f45) (c := codeOf Try.f45) (by kernel_rfl) (by kernel_rfl) (by kernel_rfl) (loops_at (ids := []) (by kernel_rfl) (trivial)) (by kernel_rfl)) (fun x r h => (FvtoConfig_eq N x).trans h)

/-! ### 105: laws.toShape -/

noncomputable def dinvtoShape : Desc := { n := 1, regs := [.one (.val (.pair (.int .i64) (.pair (.int .i64) .unit)))], bx := [], pins := [] }
noncomputable def outvtoShape : Outs := [(.ret, { n := 1, regs := [.agg [.val (.int .i64), .val (.int .i64)]], bx := [], pins := [] })]
noncomputable def HvtoShape : Hints := [(0, [(0, { fz := true })])]
noncomputable def EvtoShape (_N : Nat) : Env := { te := TE, cs := [] }
noncomputable def FvtoShape (N : Nat) (x : ((Int × (Int × Unit)) × Unit)) : Option (Int × (Int × Unit)) :=
  some (x.1.1, x.1.2.1, ())
noncomputable def convtoShape (N : Nat) : Con := { f := 105, din := dinvtoShape, outs := outvtoShape, F := FvtoShape N }
noncomputable def XvtoShape (N : Nat) : Ctx := { E := EvtoShape N, H := HvtoShape, lp := [], jn := [] }
theorem FvtoShape_eq (N : Nat) (x : ((Int × (Int × Unit)) × Unit)) : evFn (XvtoShape N) Try.f105 dinvtoShape outvtoShape x = FvtoShape N x := by kernel_rfl
theorem cxvtoShape (N : Nat) : CtxOk Try.prog (XvtoShape N) := ⟨⟨TE_ok, fun k hk => absurd hk List.not_mem_nil⟩, mixed⟩
theorem specvtoShape (N : Nat) : Spec Try.prog (convtoShape N) :=
  Spec.of_eq (fn_spec (cxvtoShape N) (f := 105) (fn := Try.f105) (c := codeOf Try.f105) (by kernel_rfl) (by kernel_rfl) (by kernel_rfl) (loops_at (ids := []) (by kernel_rfl) (trivial)) (by kernel_rfl)) (fun x r h => (FvtoShape_eq N x).trans h)

/-! ### 50: laws.toOp -/

noncomputable def dinvtoOp : Desc := { n := 1, regs := [.one (.val (.pair (.int .i64) (.pair (.int .i64) (.pair (.int .i64) (.pair (.int .i64) (.pair (.int .i64) (.pair (.int .i64) (.pair (.pair (.int .i64) (.pair (.int .i64) .unit)) .unit))))))))], bx := [], pins := [] }
noncomputable def outvtoOp : Outs := [(.ret, { n := 1, regs := [.agg [.val (.int .i64), .val (.int .i64), .val (.int .i64), .val (.int .i64), .val (.int .i64), .val (.int .i64), .val (.int .i64), .val (.int .i64)]], bx := [], pins := [] })]
noncomputable def HvtoOp : Hints := [(0, [(0, { fz := true })])]
noncomputable def EvtoOp (N : Nat) : Env := { te := TE, cs := [convtoShape N] }
noncomputable def FvtoOp (N : Nat) (x : ((Int × (Int × (Int × (Int × (Int × (Int × ((Int × (Int × Unit)) × Unit))))))) × Unit)) : Option (Int × (Int × (Int × (Int × (Int × (Int × (Int × (Int × Unit)))))))) :=
  (FvtoShape N (x.1.2.2.2.2.2.2.1, ())).bind fun r1 =>
  some (x.1.1, x.1.2.1, x.1.2.2.1, x.1.2.2.2.1, x.1.2.2.2.2.1, x.1.2.2.2.2.2.1, r1.1, r1.2.1, ())
noncomputable def convtoOp (N : Nat) : Con := { f := 50, din := dinvtoOp, outs := outvtoOp, F := FvtoOp N }
noncomputable def XvtoOp (N : Nat) : Ctx := { E := EvtoOp N, H := HvtoOp, lp := [], jn := [] }
theorem FvtoOp_eq (N : Nat) (x : ((Int × (Int × (Int × (Int × (Int × (Int × ((Int × (Int × Unit)) × Unit))))))) × Unit)) : evFn (XvtoOp N) Try.f50 dinvtoOp outvtoOp x = FvtoOp N x := by kernel_rfl
theorem cxvtoOp (N : Nat) : CtxOk Try.prog (XvtoOp N) := ⟨⟨TE_ok, List.forall_mem_cons.2 ⟨(specvtoShape N), fun k hk => absurd hk List.not_mem_nil⟩⟩, mixed⟩
theorem specvtoOp (N : Nat) : Spec Try.prog (convtoOp N) :=
  Spec.of_eq (fn_spec (cxvtoOp N) (f := 50) (fn := Try.f50) (c := codeOf Try.f50) (by kernel_rfl) (by kernel_rfl) (by kernel_rfl) (loops_at (ids := []) (by kernel_rfl) (trivial)) (by kernel_rfl)) (fun x r h => (FvtoOp_eq N x).trans h)

/-! ### 95: laws.toOpS -/

noncomputable def dinvtoOpS : Desc := { n := 1, regs := [.one (.val (.sl (.pair (.int .i64) (.pair (.int .i64) (.pair (.int .i64) (.pair (.int .i64) (.pair (.int .i64) (.pair (.int .i64) (.pair (.pair (.int .i64) (.pair (.int .i64) .unit)) .unit)))))))))], bx := [], pins := [] }
noncomputable def outvtoOpS : Outs := [(.ret, { n := 1, regs := [.one (.lit (.row 1012928))], bx := [(1012928, .row (.pair (.int .i64) (.pair (.int .i64) (.pair (.int .i64) (.pair (.int .i64) (.pair (.int .i64) (.pair (.int .i64) (.pair (.pair (.int .i64) (.pair (.int .i64) .unit)) .unit))))))))], pins := [] })]
noncomputable def HvtoOpS : Hints := []
noncomputable def EvtoOpS (N : Nat) : Env := { te := TE, cs := [convtoOp N] }
noncomputable def dvtoOpS_0 : Desc := { n := 23, regs := [.one (.val (.sl (.pair (.int .i64) (.pair (.int .i64) (.pair (.int .i64) (.pair (.int .i64) (.pair (.int .i64) (.pair (.int .i64) (.pair (.pair (.int .i64) (.pair (.int .i64) .unit)) .unit))))))))), u, u, .one (.lit (.row 1012928)), .one (.val (.int .i64))], bx := [(1012928, .row (.pair (.int .i64) (.pair (.int .i64) (.pair (.int .i64) (.pair (.int .i64) (.pair (.int .i64) (.pair (.int .i64) (.pair (.pair (.int .i64) (.pair (.int .i64) .unit)) .unit))))))))], pins := [] }
noncomputable def ovtoOpS_0 : Outs := [(.exit 0, { n := 23, regs := [u, u, u, .one (.lit (.row 1012928))], bx := [(1012928, .row (.pair (.int .i64) (.pair (.int .i64) (.pair (.int .i64) (.pair (.int .i64) (.pair (.int .i64) (.pair (.int .i64) (.pair (.pair (.int .i64) (.pair (.int .i64) .unit)) .unit))))))))], pins := [] })]
noncomputable def lvtoOpS_0 (N : Nat) : Nat → ((List (Int × (Int × (Int × (Int × (Int × (Int × ((Int × (Int × Unit)) × Unit)))))))) × (Int × ((List (Int × (Int × (Int × (Int × (Int × (Int × ((Int × (Int × Unit)) × Unit)))))))) × Unit))) → Option ((List (Int × (Int × (Int × (Int × (Int × (Int × ((Int × (Int × Unit)) × Unit)))))))) × Unit)
  | 0, _ => none
  | n + 1, v =>
    bif decide (v.2.1 < (v.1.length : Int)) then
     bif decide (0 ≤ v.2.1) then
     bif decide (v.2.1.toNat < v.1.length) then
     let y2 := v.1.getD v.2.1.toNat ((0 : Int), (0 : Int), (0 : Int), (0 : Int), (0 : Int), (0 : Int), ((0 : Int), (0 : Int), ()), ())
     (FvtoOp N (y2, ())).bind fun r3 =>
     bif decide (0 ≤ v.2.1) then
     bif decide (v.2.1.toNat < v.2.2.1.length) then
     let y4 := v.2.2.1.set v.2.1.toNat (r3.1, r3.2.1, r3.2.2.1, r3.2.2.2.1, r3.2.2.2.2.1, r3.2.2.2.2.2.1, (r3.2.2.2.2.2.2.1, r3.2.2.2.2.2.2.2.1, ()), ())
     lvtoOpS_0 N n (v.1, w64 (v.2.1 + (1 : Int)), y4, ())
     else none
     else none
     else none
     else none
    else
    some (v.2.2.1, ())
noncomputable def FvtoOpS (N : Nat) (x : ((List (Int × (Int × (Int × (Int × (Int × (Int × ((Int × (Int × Unit)) × Unit)))))))) × Unit)) : Option ((List (Int × (Int × (Int × (Int × (Int × (Int × ((Int × (Int × Unit)) × Unit)))))))) × Unit) :=
  bif decide (0 ≤ (x.1.length : Int)) then
  bif decide ((x.1.length : Int).toNat ≤ lim) then
  let y1 := List.replicate (x.1.length : Int).toNat ((0 : Int), (0 : Int), (0 : Int), (0 : Int), (0 : Int), (0 : Int), ((0 : Int), (0 : Int), ()), ())
  (lvtoOpS_0 N N (x.1, (0 : Int), y1, ())).bind fun o5 =>
  some (o5.1, ())
  else none
  else none
noncomputable def convtoOpS (N : Nat) : Con := { f := 95, din := dinvtoOpS, outs := outvtoOpS, F := FvtoOpS N }
noncomputable def XvtoOpS (N : Nat) : Ctx := { E := EvtoOpS N, H := HvtoOpS, lp := [(0, { hd := dvtoOpS_0, outs := ovtoOpS_0, run := fun v => lvtoOpS_0 N N v })], jn := [] }
noncomputable def bvtoOpS_0 : Code := loopBody (codeOf Try.f95) 0
theorem FvtoOpS_eq (N : Nat) (x : ((List (Int × (Int × (Int × (Int × (Int × (Int × ((Int × (Int × Unit)) × Unit)))))))) × Unit)) : evFn (XvtoOpS N) Try.f95 dinvtoOpS outvtoOpS x = FvtoOpS N x := by kernel_rfl
theorem lvtoOpS_0_eq (N n : Nat) (v : ((List (Int × (Int × (Int × (Int × (Int × (Int × ((Int × (Int × Unit)) × Unit)))))))) × (Int × ((List (Int × (Int × (Int × (Int × (Int × (Int × ((Int × (Int × Unit)) × Unit)))))))) × Unit)))) : lvtoOpS_0 N (n + 1) v = ev (XvtoOpS N) bvtoOpS_0 (roundK dvtoOpS_0 ovtoOpS_0 (lvtoOpS_0 N n)) (dvtoOpS_0.mk' v) := by kernel_rfl
theorem cxvtoOpS (N : Nat) : CtxOk Try.prog (XvtoOpS N) := ⟨⟨TE_ok, List.forall_mem_cons.2 ⟨(specvtoOp N), fun k hk => absurd hk List.not_mem_nil⟩⟩, mixed⟩
theorem lpvtoOpS_0 (N : Nat) : LoopOk Try.prog { hd := dvtoOpS_0, outs := ovtoOpS_0, run := fun v => lvtoOpS_0 N N v } bvtoOpS_0 :=
  loop_fuel (d := dvtoOpS_0) (os := ovtoOpS_0) (cxvtoOpS N) (loops_at (ids := []) (by kernel_rfl) (trivial)) (lvtoOpS_0 N) (fun _ => rfl) (fun n v => lvtoOpS_0_eq N n v) (fun _ => N)
theorem specvtoOpS (N : Nat) : Spec Try.prog (convtoOpS N) :=
  Spec.of_eq (fn_spec (cxvtoOpS N) (f := 95) (fn := Try.f95) (c := codeOf Try.f95) (by kernel_rfl) (by kernel_rfl) (by kernel_rfl) (loops_at (ids := [0]) (by kernel_rfl) ⟨lp_of (lpvtoOpS_0 N), trivial⟩) (by kernel_rfl)) (fun x r h => (FvtoOpS_eq N x).trans h)

/-! ### 46: laws.toOpSS -/

noncomputable def dinvtoOpSS : Desc := { n := 1, regs := [.one (.val (.sl (.sl (.pair (.int .i64) (.pair (.int .i64) (.pair (.int .i64) (.pair (.int .i64) (.pair (.int .i64) (.pair (.int .i64) (.pair (.pair (.int .i64) (.pair (.int .i64) .unit)) .unit))))))))))], bx := [], pins := [] }
noncomputable def outvtoOpSS : Outs := [(.ret, { n := 1, regs := [.one (.lit (.row 1012928))], bx := [(1012928, .row (.sl (.pair (.int .i64) (.pair (.int .i64) (.pair (.int .i64) (.pair (.int .i64) (.pair (.int .i64) (.pair (.int .i64) (.pair (.pair (.int .i64) (.pair (.int .i64) .unit)) .unit)))))))))], pins := [] })]
noncomputable def HvtoOpSS : Hints := [(1, [(2, { dp := true })])]
noncomputable def EvtoOpSS (N : Nat) : Env := { te := TE, cs := [convtoOpS N] }
noncomputable def dvtoOpSS_0 : Desc := { n := 23, regs := [.one (.val (.sl (.sl (.pair (.int .i64) (.pair (.int .i64) (.pair (.int .i64) (.pair (.int .i64) (.pair (.int .i64) (.pair (.int .i64) (.pair (.pair (.int .i64) (.pair (.int .i64) .unit)) .unit)))))))))), u, u, .one (.lit (.row 1012928)), .one (.val (.int .i64))], bx := [(1012928, .row (.sl (.pair (.int .i64) (.pair (.int .i64) (.pair (.int .i64) (.pair (.int .i64) (.pair (.int .i64) (.pair (.int .i64) (.pair (.pair (.int .i64) (.pair (.int .i64) .unit)) .unit)))))))))], pins := [] }
noncomputable def ovtoOpSS_0 : Outs := [(.exit 0, { n := 23, regs := [u, u, u, .one (.lit (.row 1012928))], bx := [(1012928, .row (.sl (.pair (.int .i64) (.pair (.int .i64) (.pair (.int .i64) (.pair (.int .i64) (.pair (.int .i64) (.pair (.int .i64) (.pair (.pair (.int .i64) (.pair (.int .i64) .unit)) .unit)))))))))], pins := [] })]
noncomputable def lvtoOpSS_0 (N : Nat) : Nat → ((List (List (Int × (Int × (Int × (Int × (Int × (Int × ((Int × (Int × Unit)) × Unit))))))))) × (Int × ((List (List (Int × (Int × (Int × (Int × (Int × (Int × ((Int × (Int × Unit)) × Unit))))))))) × Unit))) → Option ((List (List (Int × (Int × (Int × (Int × (Int × (Int × ((Int × (Int × Unit)) × Unit))))))))) × Unit)
  | 0, _ => none
  | n + 1, v =>
    bif decide (v.2.1 < (v.1.length : Int)) then
     bif decide (0 ≤ v.2.1) then
     bif decide (v.2.1.toNat < v.1.length) then
     let y2 := v.1.getD v.2.1.toNat ([] : (List (Int × (Int × (Int × (Int × (Int × (Int × ((Int × (Int × Unit)) × Unit)))))))))
     (FvtoOpS N (y2, ())).bind fun r3 =>
     bif decide (0 ≤ v.2.1) then
     bif decide (v.2.1.toNat < v.2.2.1.length) then
     lvtoOpSS_0 N n (v.1, w64 (v.2.1 + (1 : Int)), v.2.2.1.set v.2.1.toNat r3.1, ())
     else none
     else none
     else none
     else none
    else
    some (v.2.2.1, ())
noncomputable def FvtoOpSS (N : Nat) (x : ((List (List (Int × (Int × (Int × (Int × (Int × (Int × ((Int × (Int × Unit)) × Unit))))))))) × Unit)) : Option ((List (List (Int × (Int × (Int × (Int × (Int × (Int × ((Int × (Int × Unit)) × Unit))))))))) × Unit) :=
  bif decide (0 ≤ (x.1.length : Int)) then
  bif decide ((x.1.length : Int).toNat ≤ lim) then
  let y1 := List.replicate (x.1.length : Int).toNat ([] : (List (Int × (Int × (Int × (Int × (Int × (Int × ((Int × (Int × Unit)) × Unit)))))))))
  (lvtoOpSS_0 N N (x.1, (0 : Int), y1, ())).bind fun o4 =>
  some (o4.1, ())
  else none
  else none
noncomputable def convtoOpSS (N : Nat) : Con := { f := 46, din := dinvtoOpSS, outs := outvtoOpSS, F := FvtoOpSS N }
noncomputable def XvtoOpSS (N : Nat) : Ctx := { E := EvtoOpSS N, H := HvtoOpSS, lp := [(0, { hd := dvtoOpSS_0, outs := ovtoOpSS_0, run := fun v => lvtoOpSS_0 N N v })], jn := [] }
noncomputable def bvtoOpSS_0 : Code := loopBody (codeOf Try.f46) 0
theorem FvtoOpSS_eq (N : Nat) (x : ((List (List (Int × (Int × (Int × (Int × (Int × (Int × ((Int × (Int × Unit)) × Unit))))))))) × Unit)) : evFn (XvtoOpSS N) Try.f46 dinvtoOpSS outvtoOpSS x = FvtoOpSS N x := by kernel_rfl
theorem lvtoOpSS_0_eq (N n : Nat) (v : ((List (List (Int × (Int × (Int × (Int × (Int × (Int × ((Int × (Int × Unit)) × Unit))))))))) × (Int × ((List (List (Int × (Int × (Int × (Int × (Int × (Int × ((Int × (Int × Unit)) × Unit))))))))) × Unit)))) : lvtoOpSS_0 N (n + 1) v = ev (XvtoOpSS N) bvtoOpSS_0 (roundK dvtoOpSS_0 ovtoOpSS_0 (lvtoOpSS_0 N n)) (dvtoOpSS_0.mk' v) := by kernel_rfl
theorem cxvtoOpSS (N : Nat) : CtxOk Try.prog (XvtoOpSS N) := ⟨⟨TE_ok, List.forall_mem_cons.2 ⟨(specvtoOpS N), fun k hk => absurd hk List.not_mem_nil⟩⟩, mixed⟩
theorem lpvtoOpSS_0 (N : Nat) : LoopOk Try.prog { hd := dvtoOpSS_0, outs := ovtoOpSS_0, run := fun v => lvtoOpSS_0 N N v } bvtoOpSS_0 :=
  loop_fuel (d := dvtoOpSS_0) (os := ovtoOpSS_0) (cxvtoOpSS N) (loops_at (ids := []) (by kernel_rfl) (trivial)) (lvtoOpSS_0 N) (fun _ => rfl) (fun n v => lvtoOpSS_0_eq N n v) (fun _ => N)
theorem specvtoOpSS (N : Nat) : Spec Try.prog (convtoOpSS N) :=
  Spec.of_eq (fn_spec (cxvtoOpSS N) (f := 46) (fn := Try.f46) (c := codeOf Try.f46) (by kernel_rfl) (by kernel_rfl) (by kernel_rfl) (loops_at (ids := [0]) (by kernel_rfl) ⟨lp_of (lpvtoOpSS_0 N), trivial⟩) (by kernel_rfl)) (fun x r h => (FvtoOpSS_eq N x).trans h)

/-! ### 150: spec.ConfigOk -/

noncomputable def dinsConfigOk : Desc := { n := 1, regs := [.one (.val (.pair (.int .i64) (.pair (.int .i64) (.pair (.int .i64) .unit))))], bx := [], pins := [] }
noncomputable def outsConfigOk : Outs := [(.ret, { n := 1, regs := [.one (.val .bool)], bx := [], pins := [] })]
noncomputable def HsConfigOk : Hints := [(0, [(0, { fz := true })])]
noncomputable def EsConfigOk (_N : Nat) : Env := { te := TE, cs := [] }
noncomputable def FsConfigOk (N : Nat) (x : ((Int × (Int × (Int × Unit))) × Unit)) : Option (Bool × Unit) :=
  bif decide (x.1.1 ≥ (3 : Int)) then
   bif decide (x.1.1 ≤ (12 : Int)) then
    bif decide (x.1.2.1 ≥ (1 : Int)) then
     bif decide (x.1.2.1 ≤ (3 : Int)) then
      bif decide (x.1.2.2.1 ≥ (0 : Int)) then
       some (decide (x.1.2.2.1 ≤ (100 : Int)), ())
      else
      some (false, ())
     else
     some (false, ())
    else
    some (false, ())
   else
   some (false, ())
  else
  some (false, ())
noncomputable def consConfigOk (N : Nat) : Con := { f := 150, din := dinsConfigOk, outs := outsConfigOk, F := FsConfigOk N }
noncomputable def XsConfigOk (N : Nat) : Ctx := { E := EsConfigOk N, H := HsConfigOk, lp := [], jn := [] }
theorem FsConfigOk_eq (N : Nat) (x : ((Int × (Int × (Int × Unit))) × Unit)) : evFn (XsConfigOk N) Try.f150 dinsConfigOk outsConfigOk x = FsConfigOk N x := by kernel_rfl
theorem cxsConfigOk (N : Nat) : CtxOk Try.prog (XsConfigOk N) := ⟨⟨TE_ok, fun k hk => absurd hk List.not_mem_nil⟩, mixed⟩
theorem specsConfigOk (N : Nat) : Spec Try.prog (consConfigOk N) :=
  Spec.of_eq (fn_spec (cxsConfigOk N) (f := 150) (fn := Try.f150) (c := codeOf Try.f150) (by kernel_rfl) (by kernel_rfl) (by kernel_rfl) (loops_at (ids := []) (by kernel_rfl) (trivial)) (by kernel_rfl)) (fun x r h => (FsConfigOk_eq N x).trans h)

/-! ### 137: spec.StoryOk -/

noncomputable def dinsStoryOk : Desc := { n := 3, regs := [.one (.val (.pair (.int .i64) (.pair (.int .i64) (.pair (.int .i64) .unit)))), .one (.val (.sl (.sl (.pair (.int .i64) (.pair (.int .i64) (.pair (.int .i64) (.pair (.int .i64) (.pair (.int .i64) (.pair (.int .i64) (.pair (.pair (.int .i64) (.pair (.int .i64) .unit)) .unit)))))))))), .one (.val (.sl (.int .i64)))], bx := [], pins := [] }
noncomputable def outsStoryOk : Outs := [(.ret, { n := 1, regs := [.one (.val .bool)], bx := [], pins := [] })]
noncomputable def HsStoryOk : Hints := [(0, [(0, { fz := true })])]
noncomputable def EsStoryOk (N : Nat) : Env := { te := TE, cs := [consConfigOk N] }
noncomputable def dsStoryOk_0 : Desc := { n := 35, regs := [u, .one (.val (.sl (.sl (.pair (.int .i64) (.pair (.int .i64) (.pair (.int .i64) (.pair (.int .i64) (.pair (.int .i64) (.pair (.int .i64) (.pair (.pair (.int .i64) (.pair (.int .i64) .unit)) .unit)))))))))), u, u, u, u, u, .one (.val (.int .i64))], bx := [], pins := [] }
noncomputable def osStoryOk_0 : Outs := [(.exit 0, { n := 35, regs := [], bx := [], pins := [] }), (.ret, { n := 35, regs := [u, u, u, u, u, u, .one (.val .bool)], bx := [], pins := [] })]
noncomputable def jsStoryOk_3 : Outs := [(.normal, { n := 35, regs := [u, .one (.val (.sl (.sl (.pair (.int .i64) (.pair (.int .i64) (.pair (.int .i64) (.pair (.int .i64) (.pair (.int .i64) (.pair (.int .i64) (.pair (.pair (.int .i64) (.pair (.int .i64) .unit)) .unit))))))))))], bx := [], pins := [] }), (.ret, { n := 35, regs := [u, u, u, u, u, u, .one (.val .bool)], bx := [], pins := [] })]
noncomputable def lsStoryOk_0 (N : Nat) : Nat → ((List (List (Int × (Int × (Int × (Int × (Int × (Int × ((Int × (Int × Unit)) × Unit))))))))) × (Int × Unit)) → Option (Unit ⊕ (Bool × Unit))
  | 0, _ => none
  | n + 1, v =>
    bif decide (v.2.1 < (v.1.length : Int)) then
     bif decide (0 ≤ v.2.1) then
     bif decide (v.2.1.toNat < v.1.length) then
     let y5 := v.1.getD v.2.1.toNat ([] : (List (Int × (Int × (Int × (Int × (Int × (Int × ((Int × (Int × Unit)) × Unit)))))))))
     let y6 := decide ((y5.length : Int) > (40 : Int))
     bif y6 then
      some (.inr ((false, ())))
     else
     lsStoryOk_0 N n (v.1, w64 (v.2.1 + (1 : Int)), ())
     else none
     else none
    else
    some (.inl ())
noncomputable def FsStoryOk (N : Nat) (x : ((Int × (Int × (Int × Unit))) × ((List (List (Int × (Int × (Int × (Int × (Int × (Int × ((Int × (Int × Unit)) × Unit))))))))) × ((List Int) × Unit)))) : Option (Bool × Unit) :=
  Option.bind (
   (FsConfigOk N (x.1, ())).bind fun r1 =>
   bif !r1.1 then
    some (.inr ((false, ())))
   else
   bif (x.2.1.length : Int) != x.1.2.1 then
    some (.inr ((false, ())))
   else
   let y2 := decide ((x.2.2.1.length : Int) > (4000 : Int))
   bif y2 then
    some (.inr ((false, ())))
   else
   some (.inl (x.2.1, ()))) fun o3 =>
  Sum.elim (fun o4 =>
   (lsStoryOk_0 N N (o4.1, (0 : Int), ())).bind fun o7 =>
   Sum.elim (fun o8 =>
    some (true, ())) (fun o9 =>
    some (o9.1, ())) o7) (fun o10 =>
   some (o10.1, ())) o3
noncomputable def consStoryOk (N : Nat) : Con := { f := 137, din := dinsStoryOk, outs := outsStoryOk, F := FsStoryOk N }
noncomputable def XsStoryOk (N : Nat) : Ctx := { E := EsStoryOk N, H := HsStoryOk, lp := [(0, { hd := dsStoryOk_0, outs := osStoryOk_0, run := fun v => lsStoryOk_0 N N v })], jn := [(3, jsStoryOk_3)] }
noncomputable def bsStoryOk_0 : Code := loopBody (codeOf Try.f137) 0
theorem FsStoryOk_eq (N : Nat) (x : ((Int × (Int × (Int × Unit))) × ((List (List (Int × (Int × (Int × (Int × (Int × (Int × ((Int × (Int × Unit)) × Unit))))))))) × ((List Int) × Unit)))) : evFn (XsStoryOk N) Try.f137 dinsStoryOk outsStoryOk x = FsStoryOk N x := by kernel_rfl
theorem lsStoryOk_0_eq (N n : Nat) (v : ((List (List (Int × (Int × (Int × (Int × (Int × (Int × ((Int × (Int × Unit)) × Unit))))))))) × (Int × Unit))) : lsStoryOk_0 N (n + 1) v = ev (XsStoryOk N) bsStoryOk_0 (roundK dsStoryOk_0 osStoryOk_0 (lsStoryOk_0 N n)) (dsStoryOk_0.mk' v) := by kernel_rfl
theorem cxsStoryOk (N : Nat) : CtxOk Try.prog (XsStoryOk N) := ⟨⟨TE_ok, List.forall_mem_cons.2 ⟨(specsConfigOk N), fun k hk => absurd hk List.not_mem_nil⟩⟩, mixed⟩
theorem lpsStoryOk_0 (N : Nat) : LoopOk Try.prog { hd := dsStoryOk_0, outs := osStoryOk_0, run := fun v => lsStoryOk_0 N N v } bsStoryOk_0 :=
  loop_fuel (d := dsStoryOk_0) (os := osStoryOk_0) (cxsStoryOk N) (loops_at (ids := []) (by kernel_rfl) (trivial)) (lsStoryOk_0 N) (fun _ => rfl) (fun n v => lsStoryOk_0_eq N n v) (fun _ => N)
theorem specsStoryOk (N : Nat) : Spec Try.prog (consStoryOk N) :=
  Spec.of_eq (fn_spec (cxsStoryOk N) (f := 137) (fn := Try.f137) (c := codeOf Try.f137) (by kernel_rfl) (by kernel_rfl) (by kernel_rfl) (loops_at (ids := [0]) (by kernel_rfl) ⟨lp_of (lpsStoryOk_0 N), trivial⟩) (by kernel_rfl)) (fun x r h => (FsStoryOk_eq N x).trans h)

/-! ### 93: spec.l19Ok -/

noncomputable def dinsl19Ok : Desc := { n := 2, regs := [.one (.val (.pair (.int .i64) (.pair (.int .i64) (.pair (.int .i64) .unit)))), .one (.val (.sl (.sl (.pair (.int .i64) (.pair (.int .i64) (.pair (.int .i64) (.pair (.int .i64) (.pair (.int .i64) (.pair (.int .i64) (.pair (.pair (.int .i64) (.pair (.int .i64) .unit)) .unit))))))))))], bx := [], pins := [] }
noncomputable def outsl19Ok : Outs := [(.ret, { n := 1, regs := [.one (.val .bool)], bx := [], pins := [] })]
noncomputable def Hsl19Ok : Hints := [(0, [(0, { fz := true })])]
noncomputable def Esl19Ok (N : Nat) : Env := { te := TE, cs := [consStoryOk N] }
noncomputable def dsl19Ok_0 : Desc := { n := 26, regs := [u, .one (.val (.sl (.sl (.pair (.int .i64) (.pair (.int .i64) (.pair (.int .i64) (.pair (.int .i64) (.pair (.int .i64) (.pair (.int .i64) (.pair (.pair (.int .i64) (.pair (.int .i64) .unit)) .unit)))))))))), u, u, u, .one (.val (.int .i64)), .one (.val (.int .i64))], bx := [], pins := [] }
noncomputable def osl19Ok_0 : Outs := [(.exit 0, { n := 26, regs := [u, u, u, u, u, .one (.val (.int .i64))], bx := [], pins := [] })]
noncomputable def lsl19Ok_0 (N : Nat) : Nat → ((List (List (Int × (Int × (Int × (Int × (Int × (Int × ((Int × (Int × Unit)) × Unit))))))))) × (Int × (Int × Unit))) → Option (Int × Unit)
  | 0, _ => none
  | n + 1, v =>
    let y2 := decide (v.2.2.1 < (v.1.length : Int))
    bif y2 then
     bif decide (0 ≤ v.2.2.1) then
     bif decide (v.2.2.1.toNat < v.1.length) then
     let y3 := v.1.getD v.2.2.1.toNat ([] : (List (Int × (Int × (Int × (Int × (Int × (Int × ((Int × (Int × Unit)) × Unit)))))))))
     lsl19Ok_0 N n (v.1, w64 (v.2.1 + (y3.length : Int)), w64 (v.2.2.1 + (1 : Int)), ())
     else none
     else none
    else
    some (v.2.1, ())
noncomputable def Fsl19Ok (N : Nat) (x : ((Int × (Int × (Int × Unit))) × ((List (List (Int × (Int × (Int × (Int × (Int × (Int × ((Int × (Int × Unit)) × Unit))))))))) × Unit))) : Option (Bool × Unit) :=
  (FsStoryOk N (x.1, x.2.1, ([] : (List Int)), ())).bind fun r1 =>
  bif !r1.1 then
   some (false, ())
  else
  (lsl19Ok_0 N N (x.2.1, (0 : Int), (0 : Int), ())).bind fun o4 =>
  some (decide (o4.1 ≤ (7 : Int)), ())
noncomputable def consl19Ok (N : Nat) : Con := { f := 93, din := dinsl19Ok, outs := outsl19Ok, F := Fsl19Ok N }
noncomputable def Xsl19Ok (N : Nat) : Ctx := { E := Esl19Ok N, H := Hsl19Ok, lp := [(0, { hd := dsl19Ok_0, outs := osl19Ok_0, run := fun v => lsl19Ok_0 N N v })], jn := [] }
noncomputable def bsl19Ok_0 : Code := loopBody (codeOf Try.f93) 0
theorem Fsl19Ok_eq (N : Nat) (x : ((Int × (Int × (Int × Unit))) × ((List (List (Int × (Int × (Int × (Int × (Int × (Int × ((Int × (Int × Unit)) × Unit))))))))) × Unit))) : evFn (Xsl19Ok N) Try.f93 dinsl19Ok outsl19Ok x = Fsl19Ok N x := by kernel_rfl
theorem lsl19Ok_0_eq (N n : Nat) (v : ((List (List (Int × (Int × (Int × (Int × (Int × (Int × ((Int × (Int × Unit)) × Unit))))))))) × (Int × (Int × Unit)))) : lsl19Ok_0 N (n + 1) v = ev (Xsl19Ok N) bsl19Ok_0 (roundK dsl19Ok_0 osl19Ok_0 (lsl19Ok_0 N n)) (dsl19Ok_0.mk' v) := by kernel_rfl
theorem cxsl19Ok (N : Nat) : CtxOk Try.prog (Xsl19Ok N) := ⟨⟨TE_ok, List.forall_mem_cons.2 ⟨(specsStoryOk N), fun k hk => absurd hk List.not_mem_nil⟩⟩, mixed⟩
theorem lpsl19Ok_0 (N : Nat) : LoopOk Try.prog { hd := dsl19Ok_0, outs := osl19Ok_0, run := fun v => lsl19Ok_0 N N v } bsl19Ok_0 :=
  loop_fuel (d := dsl19Ok_0) (os := osl19Ok_0) (cxsl19Ok N) (loops_at (ids := []) (by kernel_rfl) (trivial)) (lsl19Ok_0 N) (fun _ => rfl) (fun n v => lsl19Ok_0_eq N n v) (fun _ => N)
theorem specsl19Ok (N : Nat) : Spec Try.prog (consl19Ok N) :=
  Spec.of_eq (fn_spec (cxsl19Ok N) (f := 93) (fn := Try.f93) (c := codeOf Try.f93) (by kernel_rfl) (by kernel_rfl) (by kernel_rfl) (loops_at (ids := [0]) (by kernel_rfl) ⟨lp_of (lpsl19Ok_0 N), trivial⟩) (by kernel_rfl)) (fun x r h => (Fsl19Ok_eq N x).trans h)

/-! ### 94: spec.l19Count -/

noncomputable def dinsl19Count : Desc := { n := 1, regs := [.one (.lit (.row 0))], bx := [(0, .row (.int .i64))], pins := [] }
noncomputable def outsl19Count : Outs := [(.ret, { n := 1, regs := [.one (.val (.int .i64))], bx := [(0, .row (.int .i64))], pins := [.one (.lit (.row 0))] })]
noncomputable def Hsl19Count : Hints := []
noncomputable def dsl19Count_0 : Desc := { n := 39, regs := [.one (.lit (.row 0)), u, u, .one (.val (.int .i64)), .one (.val (.int .i64))], bx := [(0, .row (.int .i64))], pins := [.one (.lit (.row 0))] }
noncomputable def osl19Count_0 : Outs := [(.exit 0, { n := 39, regs := [u, u, u, .one (.val (.int .i64))], bx := [(0, .row (.int .i64))], pins := [.one (.lit (.row 0))] })]
noncomputable def lsl19Count_0 (N : Nat) (f_ : ((List Int) × Unit) → Option (Int × ((List Int) × Unit))) : Nat → (Int × (Int × ((List Int) × Unit))) → Option (Int × ((List Int) × Unit))
  | 0, _ => none
  | n + 1, v =>
    let y1 := decide (v.2.1 < (v.2.2.1.length : Int))
    bif y1 then
     bif decide (0 ≤ v.2.1) then
     bif decide (v.2.1.toNat < v.2.2.1.length) then
     let y2 := decide ((v.2.2.1.getD v.2.1.toNat (0 : Int)) > (0 : Int))
     bif y2 then
      bif decide (0 ≤ v.2.1) then
      bif decide (v.2.1.toNat < v.2.2.1.length) then
      let y3 := w64 ((v.2.2.1.getD v.2.1.toNat (0 : Int)) - (1 : Int))
      bif decide (0 ≤ v.2.1) then
      bif decide (v.2.1.toNat < v.2.2.1.length) then
      (f_ (v.2.2.1.set v.2.1.toNat y3, ())).bind fun r4 =>
      bif decide (0 ≤ v.2.1) then
      bif decide (v.2.1.toNat < r4.2.1.length) then
      let y5 := w64 ((r4.2.1.getD v.2.1.toNat (0 : Int)) + (1 : Int))
      bif decide (0 ≤ v.2.1) then
      bif decide (v.2.1.toNat < r4.2.1.length) then
      lsl19Count_0 N f_ n (w64 (v.1 + r4.1), w64 (v.2.1 + (1 : Int)), r4.2.1.set v.2.1.toNat y5, ())
      else none
      else none
      else none
      else none
      else none
      else none
      else none
      else none
     else
     lsl19Count_0 N f_ n (v.1, w64 (v.2.1 + (1 : Int)), v.2.2.1, ())
     else none
     else none
    else
    some (v.1, v.2.2.1, ())
noncomputable def Fsl19Count (N : Nat) : Nat → ((List Int) × Unit) → Option (Int × ((List Int) × Unit))
  | 0, _ => none
  | m_ + 1, x =>
  (lsl19Count_0 N (fun x_ => Fsl19Count N m_ x_) N ((0 : Int), (0 : Int), x.1, ())).bind fun o6 =>
  bif o6.1 == (0 : Int) then
   some ((1 : Int), o6.2.1, ())
  else
  some (o6.1, o6.2.1, ())
noncomputable def consl19Count (N : Nat) (m_ : Nat) : Con := { f := 94, din := dinsl19Count, outs := outsl19Count, F := Fsl19Count N m_ }
noncomputable def Esl19Count (N : Nat) (m_ : Nat) : Env := { te := TE, cs := [consl19Count N m_] }
noncomputable def Xsl19Count (N : Nat) (m_ : Nat) : Ctx := { E := Esl19Count N m_, H := Hsl19Count, lp := [(0, { hd := dsl19Count_0, outs := osl19Count_0, run := fun v => lsl19Count_0 N (fun x_ => Fsl19Count N m_ x_) N v })], jn := [] }
noncomputable def bsl19Count_0 : Code := loopBody (codeOf Try.f94) 0
theorem Fsl19Count_eq (N m_ : Nat) (x : ((List Int) × Unit)) : evFn (Xsl19Count N m_) Try.f94 dinsl19Count outsl19Count x = Fsl19Count N (m_ + 1) x := by kernel_rfl
theorem lsl19Count_0_eq (N m_ n : Nat) (v : (Int × (Int × ((List Int) × Unit)))) : lsl19Count_0 N (fun x_ => Fsl19Count N m_ x_) (n + 1) v = ev (Xsl19Count N m_) bsl19Count_0 (roundK dsl19Count_0 osl19Count_0 (lsl19Count_0 N (fun x_ => Fsl19Count N m_ x_) n)) (dsl19Count_0.mk' v) := by kernel_rfl
theorem cxsl19Count (N : Nat) (m_ : Nat) (hs : Spec Try.prog (consl19Count N m_)) : CtxOk Try.prog (Xsl19Count N m_) := ⟨⟨TE_ok, List.forall_mem_cons.2 ⟨hs, fun k hk => absurd hk List.not_mem_nil⟩⟩, mixed⟩
theorem lpsl19Count_0 (N : Nat) (m_ : Nat) (hs : Spec Try.prog (consl19Count N m_)) : LoopOk Try.prog { hd := dsl19Count_0, outs := osl19Count_0, run := fun v => lsl19Count_0 N (fun x_ => Fsl19Count N m_ x_) N v } bsl19Count_0 :=
  loop_fuel (d := dsl19Count_0) (os := osl19Count_0) (cxsl19Count N m_ hs) (loops_at (ids := []) (by kernel_rfl) (trivial)) (lsl19Count_0 N (fun x_ => Fsl19Count N m_ x_)) (fun _ => rfl) (fun n v => lsl19Count_0_eq N m_ n v) (fun _ => N)
theorem czsl19Count : CtxOk Try.prog { E := { te := TE, cs := [] }, H := [], lp := [], jn := [] } := ⟨⟨TE_ok, fun k hk => absurd hk List.not_mem_nil⟩, mixed⟩
theorem specsl19Count (N : Nat) : ∀ m_ : Nat, Spec Try.prog (consl19Count N m_)
  | 0 => Spec.of_eq (fn_spec (czsl19Count) (f := 94) (fn := Try.f94) (din := dinsl19Count) (os := outsl19Count) (c := codeOf Try.f94) (by kernel_rfl) (by kernel_rfl) (by kernel_rfl) (loops_at (ids := [0]) (by kernel_rfl) ⟨lp_none, trivial⟩) (by kernel_rfl)) (fun x r h => nomatch (show (none : Option _) = some r from h))
  | m_ + 1 => Spec.of_eq (fn_spec (cxsl19Count N m_ (specsl19Count N m_)) (f := 94) (fn := Try.f94) (c := codeOf Try.f94) (by kernel_rfl) (by kernel_rfl) (by kernel_rfl) (loops_at (ids := [0]) (by kernel_rfl) ⟨lp_of (lpsl19Count_0 N m_ (specsl19Count N m_)), trivial⟩) (by kernel_rfl)) (fun x r h => (Fsl19Count_eq N m_ x).trans h)

/-! ### 44: spec.AllCount -/

noncomputable def dinsAllCount : Desc := { n := 2, regs := [.one (.val (.pair (.int .i64) (.pair (.int .i64) (.pair (.int .i64) .unit)))), .one (.val (.sl (.sl (.pair (.int .i64) (.pair (.int .i64) (.pair (.int .i64) (.pair (.int .i64) (.pair (.int .i64) (.pair (.int .i64) (.pair (.pair (.int .i64) (.pair (.int .i64) .unit)) .unit))))))))))], bx := [], pins := [] }
noncomputable def outsAllCount : Outs := [(.ret, { n := 1, regs := [.one (.val (.int .i64))], bx := [], pins := [] })]
noncomputable def HsAllCount : Hints := [(0, [(0, { fz := true })]),
  (3, [(0, { nl := [(0, (.int .i64))] })]),
  (8, [(1, { con := 1, sg := [(0, 1038400)] })])]
noncomputable def EsAllCount (N : Nat) : Env := { te := TE, cs := [consl19Ok N, consl19Count N N] }
noncomputable def dsAllCount_0 : Desc := { n := 27, regs := [u, .one (.val (.sl (.sl (.pair (.int .i64) (.pair (.int .i64) (.pair (.int .i64) (.pair (.int .i64) (.pair (.int .i64) (.pair (.int .i64) (.pair (.pair (.int .i64) (.pair (.int .i64) .unit)) .unit)))))))))), u, u, u, .one (.lit (.row 1038400)), .one (.val (.int .i64))], bx := [(1038400, .row (.int .i64))], pins := [] }
noncomputable def osAllCount_0 : Outs := [(.exit 0, { n := 27, regs := [u, u, u, u, u, .one (.lit (.row 1038400))], bx := [(1038400, .row (.int .i64))], pins := [] })]
noncomputable def lsAllCount_0 (N : Nat) : Nat → ((List (List (Int × (Int × (Int × (Int × (Int × (Int × ((Int × (Int × Unit)) × Unit))))))))) × (Int × ((List Int) × Unit))) → Option ((List Int) × Unit)
  | 0, _ => none
  | n + 1, v =>
    bif decide (v.2.1 < (v.1.length : Int)) then
     bif decide (0 ≤ v.2.1) then
     bif decide (v.2.1.toNat < v.1.length) then
     let y2 := v.1.getD v.2.1.toNat ([] : (List (Int × (Int × (Int × (Int × (Int × (Int × ((Int × (Int × Unit)) × Unit)))))))))
     bif decide (v.2.2.1.length + [(y2.length : Int)].length ≤ lim) then
     lsAllCount_0 N n (v.1, w64 (v.2.1 + (1 : Int)), v.2.2.1 ++ [(y2.length : Int)], ())
     else none
     else none
     else none
    else
    some (v.2.2.1, ())
noncomputable def FsAllCount (N : Nat) (x : ((Int × (Int × (Int × Unit))) × ((List (List (Int × (Int × (Int × (Int × (Int × (Int × ((Int × (Int × Unit)) × Unit))))))))) × Unit))) : Option (Int × Unit) :=
  (Fsl19Ok N (x.1, x.2.1, ())).bind fun r1 =>
  bif !r1.1 then
   some ((0 : Int), ())
  else
  (lsAllCount_0 N N (x.2.1, (0 : Int), ([] : (List Int)), ())).bind fun o3 =>
  (Fsl19Count N N (o3.1, ())).bind fun r4 =>
  some (r4.1, ())
noncomputable def consAllCount (N : Nat) : Con := { f := 44, din := dinsAllCount, outs := outsAllCount, F := FsAllCount N }
noncomputable def XsAllCount (N : Nat) : Ctx := { E := EsAllCount N, H := HsAllCount, lp := [(0, { hd := dsAllCount_0, outs := osAllCount_0, run := fun v => lsAllCount_0 N N v })], jn := [] }
noncomputable def bsAllCount_0 : Code := loopBody (codeOf Try.f44) 0
theorem FsAllCount_eq (N : Nat) (x : ((Int × (Int × (Int × Unit))) × ((List (List (Int × (Int × (Int × (Int × (Int × (Int × ((Int × (Int × Unit)) × Unit))))))))) × Unit))) : evFn (XsAllCount N) Try.f44 dinsAllCount outsAllCount x = FsAllCount N x := by kernel_rfl
theorem lsAllCount_0_eq (N n : Nat) (v : ((List (List (Int × (Int × (Int × (Int × (Int × (Int × ((Int × (Int × Unit)) × Unit))))))))) × (Int × ((List Int) × Unit)))) : lsAllCount_0 N (n + 1) v = ev (XsAllCount N) bsAllCount_0 (roundK dsAllCount_0 osAllCount_0 (lsAllCount_0 N n)) (dsAllCount_0.mk' v) := by kernel_rfl
theorem cxsAllCount (N : Nat) : CtxOk Try.prog (XsAllCount N) := ⟨⟨TE_ok, List.forall_mem_cons.2 ⟨(specsl19Ok N), List.forall_mem_cons.2 ⟨(specsl19Count N N), fun k hk => absurd hk List.not_mem_nil⟩⟩⟩, mixed⟩
theorem lpsAllCount_0 (N : Nat) : LoopOk Try.prog { hd := dsAllCount_0, outs := osAllCount_0, run := fun v => lsAllCount_0 N N v } bsAllCount_0 :=
  loop_fuel (d := dsAllCount_0) (os := osAllCount_0) (cxsAllCount N) (loops_at (ids := []) (by kernel_rfl) (trivial)) (lsAllCount_0 N) (fun _ => rfl) (fun n v => lsAllCount_0_eq N n v) (fun _ => N)
theorem specsAllCount (N : Nat) : Spec Try.prog (consAllCount N) :=
  Spec.of_eq (fn_spec (cxsAllCount N) (f := 44) (fn := Try.f44) (c := codeOf Try.f44) (by kernel_rfl) (by kernel_rfl) (by kernel_rfl) (loops_at (ids := [0]) (by kernel_rfl) ⟨lp_of (lpsAllCount_0 N), trivial⟩) (by kernel_rfl)) (fun x r h => (FsAllCount_eq N x).trans h)

/-! ### 151: impl.ConfigOk -/

noncomputable def diniConfigOk : Desc := { n := 1, regs := [.one (.val (.pair (.int .i64) (.pair (.int .i64) (.pair (.int .i64) .unit))))], bx := [], pins := [] }
noncomputable def outiConfigOk : Outs := [(.ret, { n := 1, regs := [.one (.val .bool)], bx := [], pins := [] })]
noncomputable def HiConfigOk : Hints := [(0, [(0, { fz := true })])]
noncomputable def EiConfigOk (_N : Nat) : Env := { te := TE, cs := [] }
noncomputable def FiConfigOk (N : Nat) (x : ((Int × (Int × (Int × Unit))) × Unit)) : Option (Bool × Unit) :=
  bif decide (x.1.1 ≥ (3 : Int)) then
   bif decide (x.1.1 ≤ (12 : Int)) then
    bif decide (x.1.2.1 ≥ (1 : Int)) then
     bif decide (x.1.2.1 ≤ (3 : Int)) then
      bif decide (x.1.2.2.1 ≥ (0 : Int)) then
       some (decide (x.1.2.2.1 ≤ (100 : Int)), ())
      else
      some (false, ())
     else
     some (false, ())
    else
    some (false, ())
   else
   some (false, ())
  else
  some (false, ())
noncomputable def coniConfigOk (N : Nat) : Con := { f := 151, din := diniConfigOk, outs := outiConfigOk, F := FiConfigOk N }
noncomputable def XiConfigOk (N : Nat) : Ctx := { E := EiConfigOk N, H := HiConfigOk, lp := [], jn := [] }
theorem FiConfigOk_eq (N : Nat) (x : ((Int × (Int × (Int × Unit))) × Unit)) : evFn (XiConfigOk N) Try.f151 diniConfigOk outiConfigOk x = FiConfigOk N x := by kernel_rfl
theorem cxiConfigOk (N : Nat) : CtxOk Try.prog (XiConfigOk N) := ⟨⟨TE_ok, fun k hk => absurd hk List.not_mem_nil⟩, mixed⟩
theorem speciConfigOk (N : Nat) : Spec Try.prog (coniConfigOk N) :=
  Spec.of_eq (fn_spec (cxiConfigOk N) (f := 151) (fn := Try.f151) (c := codeOf Try.f151) (by kernel_rfl) (by kernel_rfl) (by kernel_rfl) (loops_at (ids := []) (by kernel_rfl) (trivial)) (by kernel_rfl)) (fun x r h => (FiConfigOk_eq N x).trans h)

/-! ### 153: impl.progsOk$1 -/

noncomputable def diniprogsOk_1 : Desc := { n := 1, regs := [.one (.val (.sl (.pair (.int .i64) (.pair (.int .i64) (.pair (.int .i64) (.pair (.int .i64) (.pair (.int .i64) (.pair (.int .i64) (.pair (.pair (.int .i64) (.pair (.int .i64) .unit)) .unit)))))))))], bx := [], pins := [] }
noncomputable def outiprogsOk_1 : Outs := [(.ret, { n := 1, regs := [.one (.val .bool)], bx := [], pins := [] })]
noncomputable def HiprogsOk_1 : Hints := []
noncomputable def EiprogsOk_1 (_N : Nat) : Env := { te := TE, cs := [] }
noncomputable def FiprogsOk_1 (N : Nat) (x : ((List (Int × (Int × (Int × (Int × (Int × (Int × ((Int × (Int × Unit)) × Unit)))))))) × Unit)) : Option (Bool × Unit) :=
  let y1 := decide ((x.1.length : Int) > (40 : Int))
  some (y1, ())
noncomputable def coniprogsOk_1 (N : Nat) : Con := { f := 153, din := diniprogsOk_1, outs := outiprogsOk_1, F := FiprogsOk_1 N }
noncomputable def XiprogsOk_1 (N : Nat) : Ctx := { E := EiprogsOk_1 N, H := HiprogsOk_1, lp := [], jn := [] }
theorem FiprogsOk_1_eq (N : Nat) (x : ((List (Int × (Int × (Int × (Int × (Int × (Int × ((Int × (Int × Unit)) × Unit)))))))) × Unit)) : evFn (XiprogsOk_1 N) Try.f153 diniprogsOk_1 outiprogsOk_1 x = FiprogsOk_1 N x := by kernel_rfl
theorem cxiprogsOk_1 (N : Nat) : CtxOk Try.prog (XiprogsOk_1 N) := ⟨⟨TE_ok, fun k hk => absurd hk List.not_mem_nil⟩, mixed⟩
theorem speciprogsOk_1 (N : Nat) : Spec Try.prog (coniprogsOk_1 N) :=
  Spec.of_eq (fn_spec (cxiprogsOk_1 N) (f := 153) (fn := Try.f153) (c := codeOf Try.f153) (by kernel_rfl) (by kernel_rfl) (by kernel_rfl) (loops_at (ids := []) (by kernel_rfl) (trivial)) (by kernel_rfl)) (fun x r h => (FiprogsOk_1_eq N x).trans h)

/-! ### 158: impl.Op] -/

noncomputable def dinkIndexFunc_SSOp_SOp_iprogsOk_1 : Desc := { n := 2, regs := [.one (.val (.sl (.sl (.pair (.int .i64) (.pair (.int .i64) (.pair (.int .i64) (.pair (.int .i64) (.pair (.int .i64) (.pair (.int .i64) (.pair (.pair (.int .i64) (.pair (.int .i64) .unit)) .unit)))))))))), .one (.clo 153 [])], bx := [], pins := [] }
noncomputable def outkIndexFunc_SSOp_SOp_iprogsOk_1 : Outs := [(.ret, { n := 1, regs := [.one (.val (.int .i64))], bx := [], pins := [] })]
noncomputable def HkIndexFunc_SSOp_SOp_iprogsOk_1 : Hints := []
noncomputable def EkIndexFunc_SSOp_SOp_iprogsOk_1 (N : Nat) : Env := { te := TE, cs := [coniprogsOk_1 N] }
noncomputable def dkIndexFunc_SSOp_SOp_iprogsOk_1_0 : Desc := { n := 19, regs := [.one (.val (.sl (.sl (.pair (.int .i64) (.pair (.int .i64) (.pair (.int .i64) (.pair (.int .i64) (.pair (.int .i64) (.pair (.int .i64) (.pair (.pair (.int .i64) (.pair (.int .i64) .unit)) .unit)))))))))), .one (.clo 153 []), u, u, u, u, u, .one (.val (.int .i64)), .one (.val (.int .i64))], bx := [], pins := [] }
noncomputable def okIndexFunc_SSOp_SOp_iprogsOk_1_0 : Outs := [(.exit 0, { n := 19, regs := [], bx := [], pins := [] }), (.ret, { n := 19, regs := [u, u, u, u, .one (.val (.int .i64))], bx := [], pins := [] })]
noncomputable def lkIndexFunc_SSOp_SOp_iprogsOk_1_0 (N : Nat) : Nat → ((List (List (Int × (Int × (Int × (Int × (Int × (Int × ((Int × (Int × Unit)) × Unit))))))))) × (Int × (Int × Unit))) → Option (Unit ⊕ (Int × Unit))
  | 0, _ => none
  | n + 1, v =>
    bif decide (v.2.2.1 < v.2.1) then
     bif decide (0 ≤ v.2.2.1) then
     bif decide (v.2.2.1.toNat < v.1.length) then
     let y1 := v.1.getD v.2.2.1.toNat ([] : (List (Int × (Int × (Int × (Int × (Int × (Int × ((Int × (Int × Unit)) × Unit)))))))))
     (FiprogsOk_1 N (y1, ())).bind fun r2 =>
     bif r2.1 then
      some (.inr ((v.2.2.1, ())))
     else
     lkIndexFunc_SSOp_SOp_iprogsOk_1_0 N n (v.1, v.2.1, w64 (v.2.2.1 + (1 : Int)), ())
     else none
     else none
    else
    some (.inl ())
noncomputable def FkIndexFunc_SSOp_SOp_iprogsOk_1 (N : Nat) (x : ((List (List (Int × (Int × (Int × (Int × (Int × (Int × ((Int × (Int × Unit)) × Unit))))))))) × Unit)) : Option (Int × Unit) :=
  (lkIndexFunc_SSOp_SOp_iprogsOk_1_0 N N (x.1, (x.1.length : Int), (0 : Int), ())).bind fun o3 =>
  Sum.elim (fun o4 =>
   some ((-1 : Int), ())) (fun o5 =>
   some (o5.1, ())) o3
noncomputable def conkIndexFunc_SSOp_SOp_iprogsOk_1 (N : Nat) : Con := { f := 158, din := dinkIndexFunc_SSOp_SOp_iprogsOk_1, outs := outkIndexFunc_SSOp_SOp_iprogsOk_1, F := FkIndexFunc_SSOp_SOp_iprogsOk_1 N }
noncomputable def XkIndexFunc_SSOp_SOp_iprogsOk_1 (N : Nat) : Ctx := { E := EkIndexFunc_SSOp_SOp_iprogsOk_1 N, H := HkIndexFunc_SSOp_SOp_iprogsOk_1, lp := [(0, { hd := dkIndexFunc_SSOp_SOp_iprogsOk_1_0, outs := okIndexFunc_SSOp_SOp_iprogsOk_1_0, run := fun v => lkIndexFunc_SSOp_SOp_iprogsOk_1_0 N N v })], jn := [] }
noncomputable def bkIndexFunc_SSOp_SOp_iprogsOk_1_0 : Code := loopBody (codeOf Try.f158) 0
theorem FkIndexFunc_SSOp_SOp_iprogsOk_1_eq (N : Nat) (x : ((List (List (Int × (Int × (Int × (Int × (Int × (Int × ((Int × (Int × Unit)) × Unit))))))))) × Unit)) : evFn (XkIndexFunc_SSOp_SOp_iprogsOk_1 N) Try.f158 dinkIndexFunc_SSOp_SOp_iprogsOk_1 outkIndexFunc_SSOp_SOp_iprogsOk_1 x = FkIndexFunc_SSOp_SOp_iprogsOk_1 N x := by kernel_rfl
theorem lkIndexFunc_SSOp_SOp_iprogsOk_1_0_eq (N n : Nat) (v : ((List (List (Int × (Int × (Int × (Int × (Int × (Int × ((Int × (Int × Unit)) × Unit))))))))) × (Int × (Int × Unit)))) : lkIndexFunc_SSOp_SOp_iprogsOk_1_0 N (n + 1) v = ev (XkIndexFunc_SSOp_SOp_iprogsOk_1 N) bkIndexFunc_SSOp_SOp_iprogsOk_1_0 (roundK dkIndexFunc_SSOp_SOp_iprogsOk_1_0 okIndexFunc_SSOp_SOp_iprogsOk_1_0 (lkIndexFunc_SSOp_SOp_iprogsOk_1_0 N n)) (dkIndexFunc_SSOp_SOp_iprogsOk_1_0.mk' v) := by kernel_rfl
theorem cxkIndexFunc_SSOp_SOp_iprogsOk_1 (N : Nat) : CtxOk Try.prog (XkIndexFunc_SSOp_SOp_iprogsOk_1 N) := ⟨⟨TE_ok, List.forall_mem_cons.2 ⟨(speciprogsOk_1 N), fun k hk => absurd hk List.not_mem_nil⟩⟩, mixed⟩
theorem lpkIndexFunc_SSOp_SOp_iprogsOk_1_0 (N : Nat) : LoopOk Try.prog { hd := dkIndexFunc_SSOp_SOp_iprogsOk_1_0, outs := okIndexFunc_SSOp_SOp_iprogsOk_1_0, run := fun v => lkIndexFunc_SSOp_SOp_iprogsOk_1_0 N N v } bkIndexFunc_SSOp_SOp_iprogsOk_1_0 :=
  loop_fuel (d := dkIndexFunc_SSOp_SOp_iprogsOk_1_0) (os := okIndexFunc_SSOp_SOp_iprogsOk_1_0) (cxkIndexFunc_SSOp_SOp_iprogsOk_1 N) (loops_at (ids := []) (by kernel_rfl) (trivial)) (lkIndexFunc_SSOp_SOp_iprogsOk_1_0 N) (fun _ => rfl) (fun n v => lkIndexFunc_SSOp_SOp_iprogsOk_1_0_eq N n v) (fun _ => N)
theorem speckIndexFunc_SSOp_SOp_iprogsOk_1 (N : Nat) : Spec Try.prog (conkIndexFunc_SSOp_SOp_iprogsOk_1 N) :=
  Spec.of_eq (fn_spec (cxkIndexFunc_SSOp_SOp_iprogsOk_1 N) (f := 158) (fn := Try.f158) (c := codeOf Try.f158) (by kernel_rfl) (by kernel_rfl) (by kernel_rfl) (loops_at (ids := [0]) (by kernel_rfl) ⟨lp_of (lpkIndexFunc_SSOp_SOp_iprogsOk_1_0 N), trivial⟩) (by kernel_rfl)) (fun x r h => (FkIndexFunc_SSOp_SOp_iprogsOk_1_eq N x).trans h)

/-! ### 152: impl.Op] -/

noncomputable def dinkContainsFunc_SSOp_SOp_iprogsOk_1 : Desc := { n := 2, regs := [.one (.val (.sl (.sl (.pair (.int .i64) (.pair (.int .i64) (.pair (.int .i64) (.pair (.int .i64) (.pair (.int .i64) (.pair (.int .i64) (.pair (.pair (.int .i64) (.pair (.int .i64) .unit)) .unit)))))))))), .one (.clo 153 [])], bx := [], pins := [] }
noncomputable def outkContainsFunc_SSOp_SOp_iprogsOk_1 : Outs := [(.ret, { n := 1, regs := [.one (.val .bool)], bx := [], pins := [] })]
noncomputable def HkContainsFunc_SSOp_SOp_iprogsOk_1 : Hints := []
noncomputable def EkContainsFunc_SSOp_SOp_iprogsOk_1 (N : Nat) : Env := { te := TE, cs := [conkIndexFunc_SSOp_SOp_iprogsOk_1 N] }
noncomputable def FkContainsFunc_SSOp_SOp_iprogsOk_1 (N : Nat) (x : ((List (List (Int × (Int × (Int × (Int × (Int × (Int × ((Int × (Int × Unit)) × Unit))))))))) × Unit)) : Option (Bool × Unit) :=
  (FkIndexFunc_SSOp_SOp_iprogsOk_1 N (x.1, ())).bind fun r1 =>
  some (decide (r1.1 ≥ (0 : Int)), ())
noncomputable def conkContainsFunc_SSOp_SOp_iprogsOk_1 (N : Nat) : Con := { f := 152, din := dinkContainsFunc_SSOp_SOp_iprogsOk_1, outs := outkContainsFunc_SSOp_SOp_iprogsOk_1, F := FkContainsFunc_SSOp_SOp_iprogsOk_1 N }
noncomputable def XkContainsFunc_SSOp_SOp_iprogsOk_1 (N : Nat) : Ctx := { E := EkContainsFunc_SSOp_SOp_iprogsOk_1 N, H := HkContainsFunc_SSOp_SOp_iprogsOk_1, lp := [], jn := [] }
theorem FkContainsFunc_SSOp_SOp_iprogsOk_1_eq (N : Nat) (x : ((List (List (Int × (Int × (Int × (Int × (Int × (Int × ((Int × (Int × Unit)) × Unit))))))))) × Unit)) : evFn (XkContainsFunc_SSOp_SOp_iprogsOk_1 N) Try.f152 dinkContainsFunc_SSOp_SOp_iprogsOk_1 outkContainsFunc_SSOp_SOp_iprogsOk_1 x = FkContainsFunc_SSOp_SOp_iprogsOk_1 N x := by kernel_rfl
theorem cxkContainsFunc_SSOp_SOp_iprogsOk_1 (N : Nat) : CtxOk Try.prog (XkContainsFunc_SSOp_SOp_iprogsOk_1 N) := ⟨⟨TE_ok, List.forall_mem_cons.2 ⟨(speckIndexFunc_SSOp_SOp_iprogsOk_1 N), fun k hk => absurd hk List.not_mem_nil⟩⟩, mixed⟩
theorem speckContainsFunc_SSOp_SOp_iprogsOk_1 (N : Nat) : Spec Try.prog (conkContainsFunc_SSOp_SOp_iprogsOk_1 N) :=
  Spec.of_eq (fn_spec (cxkContainsFunc_SSOp_SOp_iprogsOk_1 N) (f := 152) (fn := Try.f152) (c := codeOf Try.f152) (by kernel_rfl) (by kernel_rfl) (by kernel_rfl) (loops_at (ids := []) (by kernel_rfl) (trivial)) (by kernel_rfl)) (fun x r h => (FkContainsFunc_SSOp_SOp_iprogsOk_1_eq N x).trans h)

/-! ### 138: impl.progsOk -/

noncomputable def diniprogsOk : Desc := { n := 2, regs := [.one (.val (.pair (.int .i64) (.pair (.int .i64) (.pair (.int .i64) .unit)))), .one (.val (.sl (.sl (.pair (.int .i64) (.pair (.int .i64) (.pair (.int .i64) (.pair (.int .i64) (.pair (.int .i64) (.pair (.int .i64) (.pair (.pair (.int .i64) (.pair (.int .i64) .unit)) .unit))))))))))], bx := [], pins := [] }
noncomputable def outiprogsOk : Outs := [(.ret, { n := 1, regs := [.one (.val .bool)], bx := [], pins := [] })]
noncomputable def HiprogsOk : Hints := [(0, [(0, { fz := true })]),
  (1, [(11, { con := 1 })])]
noncomputable def EiprogsOk (N : Nat) : Env := { te := TE, cs := [coniConfigOk N, conkContainsFunc_SSOp_SOp_iprogsOk_1 N] }
noncomputable def FiprogsOk (N : Nat) (x : ((Int × (Int × (Int × Unit))) × ((List (List (Int × (Int × (Int × (Int × (Int × (Int × ((Int × (Int × Unit)) × Unit))))))))) × Unit))) : Option (Bool × Unit) :=
  (FiConfigOk N (x.1, ())).bind fun r1 =>
  bif r1.1 then
   bif (x.2.1.length : Int) == x.1.2.1 then
    (FkContainsFunc_SSOp_SOp_iprogsOk_1 N (x.2.1, ())).bind fun r2 =>
    some (!r2.1, ())
   else
   some (false, ())
  else
  some (false, ())
noncomputable def coniprogsOk (N : Nat) : Con := { f := 138, din := diniprogsOk, outs := outiprogsOk, F := FiprogsOk N }
noncomputable def XiprogsOk (N : Nat) : Ctx := { E := EiprogsOk N, H := HiprogsOk, lp := [], jn := [] }
theorem FiprogsOk_eq (N : Nat) (x : ((Int × (Int × (Int × Unit))) × ((List (List (Int × (Int × (Int × (Int × (Int × (Int × ((Int × (Int × Unit)) × Unit))))))))) × Unit))) : evFn (XiprogsOk N) Try.f138 diniprogsOk outiprogsOk x = FiprogsOk N x := by kernel_rfl
theorem cxiprogsOk (N : Nat) : CtxOk Try.prog (XiprogsOk N) := ⟨⟨TE_ok, List.forall_mem_cons.2 ⟨(speciConfigOk N), List.forall_mem_cons.2 ⟨(speckContainsFunc_SSOp_SOp_iprogsOk_1 N), fun k hk => absurd hk List.not_mem_nil⟩⟩⟩, mixed⟩
theorem speciprogsOk (N : Nat) : Spec Try.prog (coniprogsOk N) :=
  Spec.of_eq (fn_spec (cxiprogsOk N) (f := 138) (fn := Try.f138) (c := codeOf Try.f138) (by kernel_rfl) (by kernel_rfl) (by kernel_rfl) (loops_at (ids := []) (by kernel_rfl) (trivial)) (by kernel_rfl)) (fun x r h => (FiprogsOk_eq N x).trans h)

/-! ### 154: impl.Op] -/

noncomputable def dinkGrow_SOp_Op : Desc := { n := 2, regs := [.one (.lit .nil), .one (.val (.int .i64))], bx := [], pins := [] }
noncomputable def outkGrow_SOp_Op : Outs := [(.ret, { n := 1, regs := [.one (.lit (.row 1064320))], bx := [(1064320, .row (.pair (.int .i64) (.pair (.int .i64) (.pair (.int .i64) (.pair (.int .i64) (.pair (.int .i64) (.pair (.int .i64) (.pair (.pair (.int .i64) (.pair (.int .i64) .unit)) .unit))))))))], pins := [] })]
noncomputable def HkGrow_SOp_Op : Hints := [(5, [(8, { dp := true })]),
  (6, [(0, { nl := [(0, (.pair (.int .i64) (.pair (.int .i64) (.pair (.int .i64) (.pair (.int .i64) (.pair (.int .i64) (.pair (.int .i64) (.pair (.pair (.int .i64) (.pair (.int .i64) .unit)) .unit))))))))] })])]
noncomputable def EkGrow_SOp_Op (_N : Nat) : Env := { te := TE, cs := [] }
noncomputable def jkGrow_SOp_Op_3 : Outs := [(.normal, { n := 27, regs := [.one (.lit .nil), .one (.val (.int .i64))], bx := [], pins := [] })]
noncomputable def FkGrow_SOp_Op (N : Nat) (x : (Int × Unit)) : Option ((List (Int × (Int × (Int × (Int × (Int × (Int × ((Int × (Int × Unit)) × Unit)))))))) × Unit) :=
  Option.bind (
   bif decide (x.1 < (0 : Int)) then
    none
   else
   some (x.1, ())) fun o1 =>
  let y2 := w64 (o1.1 - (w64 ((0 : Int) - (0 : Int))))
  bif decide (y2 > (0 : Int)) then
   bif decide (0 ≤ (0 : Int)) then
   bif decide ((0 : Int) ≤ (0 : Int)) then
   bif decide (0 ≤ (0 : Int)) then
   bif decide ((0 : Int) ≤ (0 : Int)) then
   bif decide (0 ≤ y2) then
   bif decide (y2.toNat ≤ lim) then
   let y3 := List.replicate y2.toNat ((0 : Int), (0 : Int), (0 : Int), (0 : Int), (0 : Int), (0 : Int), ((0 : Int), (0 : Int), ()), ())
   bif decide (0 ≤ (0 : Int)) then
   bif decide ((0 : Int) ≤ (y3.length : Int)) then
   bif decide (0 ≤ (0 : Int)) then
   bif decide ((0 : Int) ≤ (0 : Int)) then
   let y4 := (y3.drop (0 : Int).toNat).take ((0 : Int).toNat - (0 : Int).toNat)
   some (y4, ())
   else none
   else none
   else none
   else none
   else none
   else none
   else none
   else none
   else none
   else none
  else
  let y5 := ([] : (List (Int × (Int × (Int × (Int × (Int × (Int × ((Int × (Int × Unit)) × Unit)))))))))
  some (y5, ())
noncomputable def conkGrow_SOp_Op (N : Nat) : Con := { f := 154, din := dinkGrow_SOp_Op, outs := outkGrow_SOp_Op, F := FkGrow_SOp_Op N }
noncomputable def XkGrow_SOp_Op (N : Nat) : Ctx := { E := EkGrow_SOp_Op N, H := HkGrow_SOp_Op, lp := [], jn := [(3, jkGrow_SOp_Op_3)] }
theorem FkGrow_SOp_Op_eq (N : Nat) (x : (Int × Unit)) : evFn (XkGrow_SOp_Op N) Try.f154 dinkGrow_SOp_Op outkGrow_SOp_Op x = FkGrow_SOp_Op N x := by kernel_rfl
theorem cxkGrow_SOp_Op (N : Nat) : CtxOk Try.prog (XkGrow_SOp_Op N) := ⟨⟨TE_ok, fun k hk => absurd hk List.not_mem_nil⟩, mixed⟩
theorem speckGrow_SOp_Op (N : Nat) : Spec Try.prog (conkGrow_SOp_Op N) :=
  Spec.of_eq (fn_spec (cxkGrow_SOp_Op N) (f := 154) (fn := Try.f154) (c := codeOf Try.f154) (by kernel_rfl) (by kernel_rfl) (by kernel_rfl) (loops_at (ids := []) (by kernel_rfl) (trivial)) (by kernel_rfl)) (fun x r h => (FkGrow_SOp_Op_eq N x).trans h)

/-! ### 139: impl.Op] -/

noncomputable def dinkConcat_SOp_Op : Desc := { n := 1, regs := [.one (.val (.sl (.sl (.pair (.int .i64) (.pair (.int .i64) (.pair (.int .i64) (.pair (.int .i64) (.pair (.int .i64) (.pair (.int .i64) (.pair (.pair (.int .i64) (.pair (.int .i64) .unit)) .unit))))))))))], bx := [], pins := [] }
noncomputable def outkConcat_SOp_Op : Outs := [(.ret, { n := 1, regs := [.one (.lit (.row 1115265))], bx := [(1115265, .row (.pair (.int .i64) (.pair (.int .i64) (.pair (.int .i64) (.pair (.int .i64) (.pair (.int .i64) (.pair (.int .i64) (.pair (.pair (.int .i64) (.pair (.int .i64) .unit)) .unit))))))))], pins := [] })]
noncomputable def HkConcat_SOp_Op : Hints := []
noncomputable def EkConcat_SOp_Op (N : Nat) : Env := { te := TE, cs := [conkGrow_SOp_Op N] }
noncomputable def dkConcat_SOp_Op_0 : Desc := { n := 36, regs := [.one (.val (.sl (.sl (.pair (.int .i64) (.pair (.int .i64) (.pair (.int .i64) (.pair (.int .i64) (.pair (.int .i64) (.pair (.int .i64) (.pair (.pair (.int .i64) (.pair (.int .i64) .unit)) .unit)))))))))), u, u, .one (.val (.int .i64)), u, u, u, u, u, .one (.val (.sl (.sl (.pair (.int .i64) (.pair (.int .i64) (.pair (.int .i64) (.pair (.int .i64) (.pair (.int .i64) (.pair (.int .i64) (.pair (.pair (.int .i64) (.pair (.int .i64) .unit)) .unit)))))))))), .one (.val (.int .i64)), .one (.val (.int .i64))], bx := [], pins := [] }
noncomputable def okConcat_SOp_Op_0 : Outs := [(.exit 0, { n := 36, regs := [.one (.val (.sl (.sl (.pair (.int .i64) (.pair (.int .i64) (.pair (.int .i64) (.pair (.int .i64) (.pair (.int .i64) (.pair (.int .i64) (.pair (.pair (.int .i64) (.pair (.int .i64) .unit)) .unit)))))))))), u, u, .one (.val (.int .i64))], bx := [], pins := [] })]
noncomputable def dkConcat_SOp_Op_2 : Desc := { n := 36, regs := [u, u, u, u, u, u, .one (.lit (.row 1115265)), u, u, u, u, u, u, u, u, u, u, u, u, u, u, u, u, u, u, .one (.val (.sl (.sl (.pair (.int .i64) (.pair (.int .i64) (.pair (.int .i64) (.pair (.int .i64) (.pair (.int .i64) (.pair (.int .i64) (.pair (.pair (.int .i64) (.pair (.int .i64) .unit)) .unit)))))))))), .one (.val (.int .i64)), .one (.val (.int .i64))], bx := [(1115265, .row (.pair (.int .i64) (.pair (.int .i64) (.pair (.int .i64) (.pair (.int .i64) (.pair (.int .i64) (.pair (.int .i64) (.pair (.pair (.int .i64) (.pair (.int .i64) .unit)) .unit))))))))], pins := [] }
noncomputable def okConcat_SOp_Op_2 : Outs := [(.exit 2, { n := 36, regs := [u, u, u, u, u, u, .one (.lit (.row 1115265))], bx := [(1115265, .row (.pair (.int .i64) (.pair (.int .i64) (.pair (.int .i64) (.pair (.int .i64) (.pair (.int .i64) (.pair (.int .i64) (.pair (.pair (.int .i64) (.pair (.int .i64) .unit)) .unit))))))))], pins := [] })]
noncomputable def lkConcat_SOp_Op_0 (N : Nat) : Nat → ((List (List (Int × (Int × (Int × (Int × (Int × (Int × ((Int × (Int × Unit)) × Unit))))))))) × (Int × ((List (List (Int × (Int × (Int × (Int × (Int × (Int × ((Int × (Int × Unit)) × Unit))))))))) × (Int × (Int × Unit))))) → Option ((List (List (Int × (Int × (Int × (Int × (Int × (Int × ((Int × (Int × Unit)) × Unit))))))))) × (Int × Unit))
  | 0, _ => none
  | n + 1, v =>
    bif decide (v.2.2.2.2.1 < v.2.2.2.1) then
     bif decide (0 ≤ v.2.2.2.2.1) then
     bif decide (v.2.2.2.2.1.toNat < v.2.2.1.length) then
     let y1 := v.2.2.1.getD v.2.2.2.2.1.toNat ([] : (List (Int × (Int × (Int × (Int × (Int × (Int × ((Int × (Int × Unit)) × Unit)))))))))
     let y2 := decide ((w64 (v.2.1 + (y1.length : Int))) < (0 : Int))
     bif y2 then
      none
     else
     lkConcat_SOp_Op_0 N n (v.1, w64 (v.2.1 + (y1.length : Int)), v.2.2.1, v.2.2.2.1, w64 (v.2.2.2.2.1 + (1 : Int)), ())
     else none
     else none
    else
    some (v.1, v.2.1, ())
noncomputable def lkConcat_SOp_Op_2 (N : Nat) : Nat → ((List (List (Int × (Int × (Int × (Int × (Int × (Int × ((Int × (Int × Unit)) × Unit))))))))) × (Int × (Int × ((List (Int × (Int × (Int × (Int × (Int × (Int × ((Int × (Int × Unit)) × Unit)))))))) × Unit)))) → Option ((List (Int × (Int × (Int × (Int × (Int × (Int × ((Int × (Int × Unit)) × Unit)))))))) × Unit)
  | 0, _ => none
  | n + 1, v =>
    bif decide (v.2.2.1 < v.2.1) then
     bif decide (0 ≤ v.2.2.1) then
     bif decide (v.2.2.1.toNat < v.1.length) then
     let y5 := v.1.getD v.2.2.1.toNat ([] : (List (Int × (Int × (Int × (Int × (Int × (Int × ((Int × (Int × Unit)) × Unit)))))))))
     bif decide (v.2.2.2.1.length + y5.length ≤ lim) then
     lkConcat_SOp_Op_2 N n (v.1, v.2.1, w64 (v.2.2.1 + (1 : Int)), v.2.2.2.1 ++ y5, ())
     else none
     else none
     else none
    else
    some (v.2.2.2.1, ())
noncomputable def FkConcat_SOp_Op (N : Nat) (x : ((List (List (Int × (Int × (Int × (Int × (Int × (Int × ((Int × (Int × Unit)) × Unit))))))))) × Unit)) : Option ((List (Int × (Int × (Int × (Int × (Int × (Int × ((Int × (Int × Unit)) × Unit)))))))) × Unit) :=
  (lkConcat_SOp_Op_0 N N (x.1, (0 : Int), x.1, (x.1.length : Int), (0 : Int), ())).bind fun o3 =>
  (FkGrow_SOp_Op N (o3.2.1, ())).bind fun r4 =>
  (lkConcat_SOp_Op_2 N N (o3.1, (o3.1.length : Int), (0 : Int), r4.1, ())).bind fun o6 =>
  some (o6.1, ())
noncomputable def conkConcat_SOp_Op (N : Nat) : Con := { f := 139, din := dinkConcat_SOp_Op, outs := outkConcat_SOp_Op, F := FkConcat_SOp_Op N }
noncomputable def XkConcat_SOp_Op (N : Nat) : Ctx := { E := EkConcat_SOp_Op N, H := HkConcat_SOp_Op, lp := [(0, { hd := dkConcat_SOp_Op_0, outs := okConcat_SOp_Op_0, run := fun v => lkConcat_SOp_Op_0 N N v }), (2, { hd := dkConcat_SOp_Op_2, outs := okConcat_SOp_Op_2, run := fun v => lkConcat_SOp_Op_2 N N v })], jn := [] }
noncomputable def bkConcat_SOp_Op_2 : Code := loopBody (codeOf Try.f139) 1
noncomputable def bkConcat_SOp_Op_0 : Code := loopBody (codeOf Try.f139) 0
theorem FkConcat_SOp_Op_eq (N : Nat) (x : ((List (List (Int × (Int × (Int × (Int × (Int × (Int × ((Int × (Int × Unit)) × Unit))))))))) × Unit)) : evFn (XkConcat_SOp_Op N) Try.f139 dinkConcat_SOp_Op outkConcat_SOp_Op x = FkConcat_SOp_Op N x := by kernel_rfl
theorem lkConcat_SOp_Op_0_eq (N n : Nat) (v : ((List (List (Int × (Int × (Int × (Int × (Int × (Int × ((Int × (Int × Unit)) × Unit))))))))) × (Int × ((List (List (Int × (Int × (Int × (Int × (Int × (Int × ((Int × (Int × Unit)) × Unit))))))))) × (Int × (Int × Unit)))))) : lkConcat_SOp_Op_0 N (n + 1) v = ev (XkConcat_SOp_Op N) bkConcat_SOp_Op_0 (roundK dkConcat_SOp_Op_0 okConcat_SOp_Op_0 (lkConcat_SOp_Op_0 N n)) (dkConcat_SOp_Op_0.mk' v) := by kernel_rfl
theorem lkConcat_SOp_Op_2_eq (N n : Nat) (v : ((List (List (Int × (Int × (Int × (Int × (Int × (Int × ((Int × (Int × Unit)) × Unit))))))))) × (Int × (Int × ((List (Int × (Int × (Int × (Int × (Int × (Int × ((Int × (Int × Unit)) × Unit)))))))) × Unit))))) : lkConcat_SOp_Op_2 N (n + 1) v = ev (XkConcat_SOp_Op N) bkConcat_SOp_Op_2 (roundK dkConcat_SOp_Op_2 okConcat_SOp_Op_2 (lkConcat_SOp_Op_2 N n)) (dkConcat_SOp_Op_2.mk' v) := by kernel_rfl
theorem cxkConcat_SOp_Op (N : Nat) : CtxOk Try.prog (XkConcat_SOp_Op N) := ⟨⟨TE_ok, List.forall_mem_cons.2 ⟨(speckGrow_SOp_Op N), fun k hk => absurd hk List.not_mem_nil⟩⟩, mixed⟩
theorem lpkConcat_SOp_Op_0 (N : Nat) : LoopOk Try.prog { hd := dkConcat_SOp_Op_0, outs := okConcat_SOp_Op_0, run := fun v => lkConcat_SOp_Op_0 N N v } bkConcat_SOp_Op_0 :=
  loop_fuel (d := dkConcat_SOp_Op_0) (os := okConcat_SOp_Op_0) (cxkConcat_SOp_Op N) (loops_at (ids := []) (by kernel_rfl) (trivial)) (lkConcat_SOp_Op_0 N) (fun _ => rfl) (fun n v => lkConcat_SOp_Op_0_eq N n v) (fun _ => N)
theorem lpkConcat_SOp_Op_2 (N : Nat) : LoopOk Try.prog { hd := dkConcat_SOp_Op_2, outs := okConcat_SOp_Op_2, run := fun v => lkConcat_SOp_Op_2 N N v } bkConcat_SOp_Op_2 :=
  loop_fuel (d := dkConcat_SOp_Op_2) (os := okConcat_SOp_Op_2) (cxkConcat_SOp_Op N) (loops_at (ids := []) (by kernel_rfl) (trivial)) (lkConcat_SOp_Op_2 N) (fun _ => rfl) (fun n v => lkConcat_SOp_Op_2_eq N n v) (fun _ => N)
theorem speckConcat_SOp_Op (N : Nat) : Spec Try.prog (conkConcat_SOp_Op N) :=
  Spec.of_eq (fn_spec (cxkConcat_SOp_Op N) (f := 139) (fn := Try.f139) (c := codeOf Try.f139) (by kernel_rfl) (by kernel_rfl) (by kernel_rfl) (loops_at (ids := [0, 2]) (by kernel_rfl) ⟨lp_of (lpkConcat_SOp_Op_0 N), ⟨lp_of (lpkConcat_SOp_Op_2 N), trivial⟩⟩) (by kernel_rfl)) (fun x r h => (FkConcat_SOp_Op_eq N x).trans h)

/-! ### 160: bits.Mul64 -/

noncomputable def dinmath_bits_Mul64 : Desc := { n := 2, regs := [.one (.val (.int .u64)), .one (.val (.int .u64))], bx := [], pins := [] }
noncomputable def outmath_bits_Mul64 : Outs := [(.ret, { n := 2, regs := [.one (.val (.int .u64)), .one (.val (.int .u64))], bx := [], pins := [] })]
noncomputable def Hmath_bits_Mul64 : Hints := []
noncomputable def Emath_bits_Mul64 (_N : Nat) : Env := { te := TE, cs := [] }
noncomputable def Fmath_bits_Mul64 (N : Nat) (x : (Int × (Int × Unit))) : Option (Int × (Int × Unit)) :=
  let y1 := IntKind.wrap .u64 (((bitsOf .u64 x.1 &&& bitsOf .u64 (4294967295 : Int)).toNat : Int))
  bif decide (0 ≤ (32 : Int)) then
  let y2 := Int.fdiv x.1 (2 ^ min (32 : Int).toNat 64)
  let y3 := IntKind.wrap .u64 (((bitsOf .u64 x.2.1 &&& bitsOf .u64 (4294967295 : Int)).toNat : Int))
  bif decide (0 ≤ (32 : Int)) then
  let y4 := Int.fdiv x.2.1 (2 ^ min (32 : Int).toNat 64)
  bif decide (0 ≤ (32 : Int)) then
  let y5 := Int.fdiv (IntKind.wrap .u64 (y1 * y3)) (2 ^ min (32 : Int).toNat 64)
  let y6 := IntKind.wrap .u64 ((IntKind.wrap .u64 (y2 * y3)) + y5)
  let y7 := IntKind.wrap .u64 (((bitsOf .u64 y6 &&& bitsOf .u64 (4294967295 : Int)).toNat : Int))
  bif decide (0 ≤ (32 : Int)) then
  let y8 := Int.fdiv y6 (2 ^ min (32 : Int).toNat 64)
  let y9 := IntKind.wrap .u64 (y7 + (IntKind.wrap .u64 (y1 * y4)))
  let y10 := IntKind.wrap .u64 ((IntKind.wrap .u64 (y2 * y4)) + y8)
  bif decide (0 ≤ (32 : Int)) then
  let y11 := Int.fdiv y9 (2 ^ min (32 : Int).toNat 64)
  some (IntKind.wrap .u64 (y10 + y11), IntKind.wrap .u64 (x.1 * x.2.1), ())
  else none
  else none
  else none
  else none
  else none
noncomputable def conmath_bits_Mul64 (N : Nat) : Con := { f := 160, din := dinmath_bits_Mul64, outs := outmath_bits_Mul64, F := Fmath_bits_Mul64 N }
noncomputable def Xmath_bits_Mul64 (N : Nat) : Ctx := { E := Emath_bits_Mul64 N, H := Hmath_bits_Mul64, lp := [], jn := [] }
theorem Fmath_bits_Mul64_eq (N : Nat) (x : (Int × (Int × Unit))) : evFn (Xmath_bits_Mul64 N) Try.f160 dinmath_bits_Mul64 outmath_bits_Mul64 x = Fmath_bits_Mul64 N x := by kernel_rfl
theorem cxmath_bits_Mul64 (N : Nat) : CtxOk Try.prog (Xmath_bits_Mul64 N) := ⟨⟨TE_ok, fun k hk => absurd hk List.not_mem_nil⟩, mixed⟩
theorem specmath_bits_Mul64 (N : Nat) : Spec Try.prog (conmath_bits_Mul64 N) :=
  Spec.of_eq (fn_spec (cxmath_bits_Mul64 N) (f := 160) (fn := Try.f160) (c := codeOf Try.f160) (by kernel_rfl) (by kernel_rfl) (by kernel_rfl) (loops_at (ids := []) (by kernel_rfl) (trivial)) (by kernel_rfl)) (fun x r h => (Fmath_bits_Mul64_eq N x).trans h)

/-! ### 156: bits.Mul -/

noncomputable def dinmath_bits_Mul : Desc := { n := 2, regs := [.one (.val (.int .u64)), .one (.val (.int .u64))], bx := [], pins := [] }
noncomputable def outmath_bits_Mul : Outs := [(.ret, { n := 2, regs := [.one (.val (.int .u64)), .one (.val (.int .u64))], bx := [], pins := [] })]
noncomputable def Hmath_bits_Mul : Hints := []
noncomputable def Emath_bits_Mul (N : Nat) : Env := { te := TE, cs := [conmath_bits_Mul64 N] }
noncomputable def Fmath_bits_Mul (N : Nat) (x : (Int × (Int × Unit))) : Option (Int × (Int × Unit)) :=
  (Fmath_bits_Mul64 N (x.1, x.2.1, ())).bind fun r1 =>
  some (r1.1, r1.2.1, ())
noncomputable def conmath_bits_Mul (N : Nat) : Con := { f := 156, din := dinmath_bits_Mul, outs := outmath_bits_Mul, F := Fmath_bits_Mul N }
noncomputable def Xmath_bits_Mul (N : Nat) : Ctx := { E := Emath_bits_Mul N, H := Hmath_bits_Mul, lp := [], jn := [] }
theorem Fmath_bits_Mul_eq (N : Nat) (x : (Int × (Int × Unit))) : evFn (Xmath_bits_Mul N) Try.f156 dinmath_bits_Mul outmath_bits_Mul x = Fmath_bits_Mul N x := by kernel_rfl
theorem cxmath_bits_Mul (N : Nat) : CtxOk Try.prog (Xmath_bits_Mul N) := ⟨⟨TE_ok, List.forall_mem_cons.2 ⟨(specmath_bits_Mul64 N), fun k hk => absurd hk List.not_mem_nil⟩⟩, mixed⟩
theorem specmath_bits_Mul (N : Nat) : Spec Try.prog (conmath_bits_Mul N) :=
  Spec.of_eq (fn_spec (cxmath_bits_Mul N) (f := 156) (fn := Try.f156) (c := codeOf Try.f156) (by kernel_rfl) (by kernel_rfl) (by kernel_rfl) (loops_at (ids := []) (by kernel_rfl) (trivial)) (by kernel_rfl)) (fun x r h => (Fmath_bits_Mul_eq N x).trans h)

/-! ### 145: slices.Repeat[[]int,int] -/

noncomputable def dinkRepeat_Sint_int : Desc := { n := 2, regs := [.one (.val (.sl (.int .i64))), .one (.val (.int .i64))], bx := [], pins := [] }
noncomputable def outkRepeat_Sint_int : Outs := [(.ret, { n := 1, regs := [.one (.lit (.row 1076928))], bx := [(1076928, .row (.int .i64))], pins := [] })]
noncomputable def HkRepeat_Sint_int : Hints := []
noncomputable def EkRepeat_Sint_int (N : Nat) : Env := { te := TE, cs := [conmath_bits_Mul N] }
noncomputable def dkRepeat_Sint_int_0 : Desc := { n := 48, regs := [u, u, u, u, u, u, u, .one (.lit (.row 1076928)), .one (.val (.int .i64))], bx := [(1076928, .row (.int .i64))], pins := [] }
noncomputable def okRepeat_Sint_int_0 : Outs := [(.exit 0, { n := 48, regs := [u, u, u, u, u, u, u, .one (.lit (.row 1076928))], bx := [(1076928, .row (.int .i64))], pins := [] })]
noncomputable def jkRepeat_Sint_int_3 : Outs := [(.normal, { n := 48, regs := [.one (.val (.sl (.int .i64))), .one (.val (.int .i64))], bx := [], pins := [] })]
noncomputable def jkRepeat_Sint_int_6 : Outs := [(.normal, { n := 48, regs := [.one (.val (.sl (.int .i64))), u, u, u, u, u, .one (.val (.int .u64))], bx := [], pins := [] })]
noncomputable def lkRepeat_Sint_int_0 (N : Nat) : Nat → (Int × ((List Int) × Unit)) → Option ((List Int) × Unit)
  | 0, _ => none
  | n + 1, v =>
    bif decide (v.1 < (v.2.1.length : Int)) then
     bif decide (0 ≤ (v.2.1.length : Int)) then
     bif decide ((v.2.1.length : Int) ≤ (v.2.1.length : Int)) then
     bif decide (0 ≤ v.1) then
     bif decide (v.1 ≤ (v.2.1.length : Int)) then
     bif decide (0 ≤ v.1) then
     bif decide (v.1 ≤ (v.2.1.length : Int)) then
     bif decide (0 ≤ (0 : Int)) then
     bif decide ((0 : Int) ≤ v.1) then
     let y8 := lay v.2.1 v.1.toNat (((v.2.1.drop ((0 : Int).toNat)).take (v.1.toNat - (0 : Int).toNat)).take ((v.2.1.length : Int).toNat - v.1.toNat))
     let y9 := ((min ((v.2.1.drop ((0 : Int).toNat)).take (v.1.toNat - (0 : Int).toNat)).length ((v.2.1.length : Int).toNat - v.1.toNat) : Nat) : Int)
     lkRepeat_Sint_int_0 N n (w64 (v.1 + y9), y8, ())
     else none
     else none
     else none
     else none
     else none
     else none
     else none
     else none
    else
    some (v.2.1, ())
noncomputable def FkRepeat_Sint_int (N : Nat) (x : ((List Int) × (Int × Unit))) : Option ((List Int) × Unit) :=
  Option.bind (
   bif decide (x.2.1 < (0 : Int)) then
    none
   else
   some (x.1, x.2.1, ())) fun o1 =>
  let y2 := IntKind.wrap .u64 ((o1.1.length : Int))
  (Fmath_bits_Mul N (y2, IntKind.wrap .u64 (o1.2.1), ())).bind fun r3 =>
  Option.bind (
   bif decide (r3.1 > (0 : Int)) then
    none
   else
   let y4 := decide (r3.2.1 > (9223372036854775807 : Int))
   bif y4 then
    none
   else
   some (o1.1, r3.2.1, ())) fun o5 =>
  bif decide (0 ≤ (w64 (o5.2.1))) then
  bif decide ((w64 (o5.2.1)).toNat ≤ lim) then
  let y6 := List.replicate (w64 (o5.2.1)).toNat (0 : Int)
  let y7 := ((min o5.1.length y6.length : Nat) : Int)
  (lkRepeat_Sint_int_0 N N (y7, lay y6 0 (o5.1.take y6.length), ())).bind fun o10 =>
  some (o10.1, ())
  else none
  else none
noncomputable def conkRepeat_Sint_int (N : Nat) : Con := { f := 145, din := dinkRepeat_Sint_int, outs := outkRepeat_Sint_int, F := FkRepeat_Sint_int N }
noncomputable def XkRepeat_Sint_int (N : Nat) : Ctx := { E := EkRepeat_Sint_int N, H := HkRepeat_Sint_int, lp := [(0, { hd := dkRepeat_Sint_int_0, outs := okRepeat_Sint_int_0, run := fun v => lkRepeat_Sint_int_0 N N v })], jn := [(3, jkRepeat_Sint_int_3), (6, jkRepeat_Sint_int_6)] }
noncomputable def bkRepeat_Sint_int_0 : Code := loopBody (codeOf Try.f145) 0
theorem FkRepeat_Sint_int_eq (N : Nat) (x : ((List Int) × (Int × Unit))) : evFn (XkRepeat_Sint_int N) Try.f145 dinkRepeat_Sint_int outkRepeat_Sint_int x = FkRepeat_Sint_int N x := by kernel_rfl
theorem lkRepeat_Sint_int_0_eq (N n : Nat) (v : (Int × ((List Int) × Unit))) : lkRepeat_Sint_int_0 N (n + 1) v = ev (XkRepeat_Sint_int N) bkRepeat_Sint_int_0 (roundK dkRepeat_Sint_int_0 okRepeat_Sint_int_0 (lkRepeat_Sint_int_0 N n)) (dkRepeat_Sint_int_0.mk' v) := by kernel_rfl
theorem cxkRepeat_Sint_int (N : Nat) : CtxOk Try.prog (XkRepeat_Sint_int N) := ⟨⟨TE_ok, List.forall_mem_cons.2 ⟨(specmath_bits_Mul N), fun k hk => absurd hk List.not_mem_nil⟩⟩, mixed⟩
theorem lpkRepeat_Sint_int_0 (N : Nat) : LoopOk Try.prog { hd := dkRepeat_Sint_int_0, outs := okRepeat_Sint_int_0, run := fun v => lkRepeat_Sint_int_0 N N v } bkRepeat_Sint_int_0 :=
  loop_fuel (d := dkRepeat_Sint_int_0) (os := okRepeat_Sint_int_0) (cxkRepeat_Sint_int N) (loops_at (ids := []) (by kernel_rfl) (trivial)) (lkRepeat_Sint_int_0 N) (fun _ => rfl) (fun n v => lkRepeat_Sint_int_0_eq N n v) (fun _ => N)
theorem speckRepeat_Sint_int (N : Nat) : Spec Try.prog (conkRepeat_Sint_int N) :=
  Spec.of_eq (fn_spec (cxkRepeat_Sint_int N) (f := 145) (fn := Try.f145) (c := codeOf Try.f145) (by kernel_rfl) (by kernel_rfl) (by kernel_rfl) (loops_at (ids := [0]) (by kernel_rfl) ⟨lp_of (lpkRepeat_Sint_int_0 N), trivial⟩) (by kernel_rfl)) (fun x r h => (FkRepeat_Sint_int_eq N x).trans h)

/-! ### 110: impl.none -/

noncomputable def dininone : Desc := { n := 1, regs := [.one (.val (.int .i64))], bx := [], pins := [] }
noncomputable def outinone : Outs := [(.ret, { n := 1, regs := [.one (.lit (.row 1012929))], bx := [(1012929, .row (.int .i64))], pins := [] })]
noncomputable def Hinone : Hints := []
noncomputable def Einone (N : Nat) : Env := { te := TE, cs := [conkRepeat_Sint_int N] }
noncomputable def Finone (N : Nat) (x : (Int × Unit)) : Option ((List Int) × Unit) :=
  (FkRepeat_Sint_int N ([(-1 : Int)], x.1, ())).bind fun r1 =>
  some (r1.1, ())
noncomputable def coninone (N : Nat) : Con := { f := 110, din := dininone, outs := outinone, F := Finone N }
noncomputable def Xinone (N : Nat) : Ctx := { E := Einone N, H := Hinone, lp := [], jn := [] }
theorem Finone_eq (N : Nat) (x : (Int × Unit)) : evFn (Xinone N) Try.f110 dininone outinone x = Finone N x := by kernel_rfl
theorem cxinone (N : Nat) : CtxOk Try.prog (Xinone N) := ⟨⟨TE_ok, List.forall_mem_cons.2 ⟨(speckRepeat_Sint_int N), fun k hk => absurd hk List.not_mem_nil⟩⟩, mixed⟩
theorem specinone (N : Nat) : Spec Try.prog (coninone N) :=
  Spec.of_eq (fn_spec (cxinone N) (f := 110) (fn := Try.f110) (c := codeOf Try.f110) (by kernel_rfl) (by kernel_rfl) (by kernel_rfl) (loops_at (ids := []) (by kernel_rfl) (trivial)) (by kernel_rfl)) (fun x r h => (Finone_eq N x).trans h)

/-! ### 121: impl.GraphNew -/

noncomputable def diniGraphNew : Desc := { n := 1, regs := [.one (.val (.int .i64))], bx := [], pins := [] }
noncomputable def outiGraphNew : Outs := [(.ret, { n := 2, regs := [.agg [.lit (.row 1038592), .lit (.row 1038658), .lit .nil], .one (.val .bool)], bx := [(1038592, .row (.pair (.sl (.int .i64)) (.pair (.sl (.int .i64)) .unit))), (1038658, .row (.sl (.int .i64)))], pins := [] })]
noncomputable def HiGraphNew : Hints := [(2, [(0, { nl := [(0, (.pair (.sl (.int .i64)) (.pair (.sl (.int .i64)) .unit))), (1, (.sl (.int .i64)))] })]),
  (3, [(3, { dp := true }), (4, { nl := [(1, (.sl (.int .i64)))] })]),
  (6, [(3, { dp := true }), (4, { dp := true })])]
noncomputable def EiGraphNew (N : Nat) : Env := { te := TE, cs := [coninone N] }
noncomputable def diGraphNew_0 : Desc := { n := 28, regs := [u, u, .one (.lit (.ptr 1000000 0)), u, .one (.lit (.ptr 1038720 0)), u, u, u, u, u, u, u, u, u, u, u, u, .one (.val (.int .i64)), .one (.val (.int .i64))], bx := [(1000000, .var [.lit .nil, .lit .nil, .lit .nil]), (1038720, .var [.lit (.row 1038592), .lit (.row 1038658), .lit .nil]), (1038592, .row (.pair (.sl (.int .i64)) (.pair (.sl (.int .i64)) .unit))), (1038658, .row (.sl (.int .i64)))], pins := [] }
noncomputable def oiGraphNew_0 : Outs := [(.exit 0, { n := 28, regs := [u, u, .one (.lit (.ptr 1000000 0)), u, .one (.lit (.ptr 1038720 0))], bx := [(1000000, .var [.lit .nil, .lit .nil, .lit .nil]), (1038720, .var [.lit (.row 1038592), .lit (.row 1038658), .lit .nil]), (1038592, .row (.pair (.sl (.int .i64)) (.pair (.sl (.int .i64)) .unit))), (1038658, .row (.sl (.int .i64)))], pins := [] })]
noncomputable def jiGraphNew_3 : Outs := [(.normal, { n := 28, regs := [.one (.val (.int .i64)), u, .one (.lit (.ptr 1000000 0))], bx := [(1000000, .var [.lit .nil, .lit .nil, .lit .nil])], pins := [] }), (.ret, { n := 28, regs := [u, u, .one (.lit (.ptr 1000000 0)), .one (.val .bool)], bx := [(1000000, .var [.lit (.row 1025601), .lit (.row 1025602), .lit .nil]), (1025601, .row (.pair (.sl (.int .i64)) (.pair (.sl (.int .i64)) .unit))), (1025602, .row (.sl (.int .i64)))], pins := [] })]
noncomputable def liGraphNew_0 (N : Nat) : Nat → (Int × (Int × ((List ((List Int) × ((List Int) × Unit))) × ((List (List Int)) × Unit)))) → Option ((List ((List Int) × ((List Int) × Unit))) × ((List (List Int)) × Unit))
  | 0, _ => none
  | n + 1, v =>
    bif decide (v.2.1 < v.1) then
     bif decide (v.2.2.2.1.length + [[(0 : Int)]].length ≤ lim) then
     liGraphNew_0 N n (v.1, w64 (v.2.1 + (1 : Int)), v.2.2.1, v.2.2.2.1 ++ [[(0 : Int)]], ())
     else none
    else
    some (v.2.2.1, v.2.2.2.1, ())
noncomputable def FiGraphNew (N : Nat) (x : (Int × Unit)) : Option (Bool × ((List ((List Int) × ((List Int) × Unit))) × ((List (List Int)) × Unit))) :=
  Option.bind (
   bif decide (x.1 < (1 : Int)) then
    let y1 := ([] : (List ((List Int) × ((List Int) × Unit))))
    some (.inr ((false, y1, ([] : (List (List Int))), ())))
   else
   bif decide (x.1 > (3 : Int)) then
    let y2 := ([] : (List ((List Int) × ((List Int) × Unit))))
    some (.inr ((false, y2, ([] : (List (List Int))), ())))
   else
   some (.inl (x.1, ()))) fun o3 =>
  Sum.elim (fun o4 =>
   (Finone N ((4 : Int), ())).bind fun r5 =>
   bif decide (0 ≤ (2 : Int)) then
   bif decide ((2 : Int).toNat ≤ lim) then
   let y6 := List.replicate (2 : Int).toNat (0 : Int)
   (liGraphNew_0 N N (o4.1, (0 : Int), [(r5.1, y6, ())], ([] : (List (List Int))), ())).bind fun o7 =>
   some (true, o7.1, o7.2.1, ())
   else none
   else none) (fun o8 =>
   some (o8.1, o8.2.1, o8.2.2.1, ())) o3
noncomputable def coniGraphNew (N : Nat) : Con := { f := 121, din := diniGraphNew, outs := outiGraphNew, F := FiGraphNew N }
noncomputable def XiGraphNew (N : Nat) : Ctx := { E := EiGraphNew N, H := HiGraphNew, lp := [(0, { hd := diGraphNew_0, outs := oiGraphNew_0, run := fun v => liGraphNew_0 N N v })], jn := [(3, jiGraphNew_3)] }
noncomputable def biGraphNew_0 : Code := loopBody (codeOf Try.f121) 0
theorem FiGraphNew_eq (N : Nat) (x : (Int × Unit)) : evFn (XiGraphNew N) Try.f121 diniGraphNew outiGraphNew x = FiGraphNew N x := by kernel_rfl
theorem liGraphNew_0_eq (N n : Nat) (v : (Int × (Int × ((List ((List Int) × ((List Int) × Unit))) × ((List (List Int)) × Unit))))) : liGraphNew_0 N (n + 1) v = ev (XiGraphNew N) biGraphNew_0 (roundK diGraphNew_0 oiGraphNew_0 (liGraphNew_0 N n)) (diGraphNew_0.mk' v) := by kernel_rfl
theorem cxiGraphNew (N : Nat) : CtxOk Try.prog (XiGraphNew N) := ⟨⟨TE_ok, List.forall_mem_cons.2 ⟨(specinone N), fun k hk => absurd hk List.not_mem_nil⟩⟩, mixed⟩
theorem lpiGraphNew_0 (N : Nat) : LoopOk Try.prog { hd := diGraphNew_0, outs := oiGraphNew_0, run := fun v => liGraphNew_0 N N v } biGraphNew_0 :=
  loop_fuel (d := diGraphNew_0) (os := oiGraphNew_0) (cxiGraphNew N) (loops_at (ids := []) (by kernel_rfl) (trivial)) (liGraphNew_0 N) (fun _ => rfl) (fun n v => liGraphNew_0_eq N n v) (fun _ => N)
theorem speciGraphNew (N : Nat) : Spec Try.prog (coniGraphNew N) :=
  Spec.of_eq (fn_spec (cxiGraphNew N) (f := 121) (fn := Try.f121) (c := codeOf Try.f121) (by kernel_rfl) (by kernel_rfl) (by kernel_rfl) (loops_at (ids := [0]) (by kernel_rfl) ⟨lp_of (lpiGraphNew_0 N), trivial⟩) (by kernel_rfl)) (fun x r h => (FiGraphNew_eq N x).trans h)

/-! ### 148: impl.Graph).leads$1 -/

noncomputable def diniGraph_leads_1 : Desc := { n := 3, regs := [.one (.val (.int .i64)), .one (.fpt (.int .i64)), .one (.fpt (.pair (.sl (.pair (.sl (.int .i64)) (.pair (.sl (.int .i64)) .unit))) (.pair (.sl (.sl (.int .i64))) (.pair (.sl (.int .i64)) .unit))))], bx := [], pins := [] }
noncomputable def outiGraph_leads_1 : Outs := [(.ret, { n := 1, regs := [.one (.val .bool)], bx := [], pins := [] })]
noncomputable def HiGraph_leads_1 : Hints := []
noncomputable def EiGraph_leads_1 (_N : Nat) : Env := { te := TE, cs := [] }
noncomputable def FiGraph_leads_1 (N : Nat) (x : (Int × (Int × (((List ((List Int) × ((List Int) × Unit))) × ((List (List Int)) × ((List Int) × Unit))) × Unit)))) : Option (Bool × Unit) :=
  bif decide (x.1 < x.2.1) then
   some (true, ())
  else
  let y1 := decide (x.1 ≥ (x.2.2.1.1.length : Int))
  some (y1, ())
noncomputable def coniGraph_leads_1 (N : Nat) : Con := { f := 148, din := diniGraph_leads_1, outs := outiGraph_leads_1, F := FiGraph_leads_1 N }
noncomputable def XiGraph_leads_1 (N : Nat) : Ctx := { E := EiGraph_leads_1 N, H := HiGraph_leads_1, lp := [], jn := [] }
theorem FiGraph_leads_1_eq (N : Nat) (x : (Int × (Int × (((List ((List Int) × ((List Int) × Unit))) × ((List (List Int)) × ((List Int) × Unit))) × Unit)))) : evFn (XiGraph_leads_1 N) Try.f148 diniGraph_leads_1 outiGraph_leads_1 x = FiGraph_leads_1 N x := by kernel_rfl
theorem cxiGraph_leads_1 (N : Nat) : CtxOk Try.prog (XiGraph_leads_1 N) := ⟨⟨TE_ok, fun k hk => absurd hk List.not_mem_nil⟩, mixed⟩
theorem speciGraph_leads_1 (N : Nat) : Spec Try.prog (coniGraph_leads_1 N) :=
  Spec.of_eq (fn_spec (cxiGraph_leads_1 N) (f := 148) (fn := Try.f148) (c := codeOf Try.f148) (by kernel_rfl) (by kernel_rfl) (by kernel_rfl) (loops_at (ids := []) (by kernel_rfl) (trivial)) (by kernel_rfl)) (fun x r h => (FiGraph_leads_1_eq N x).trans h)

/-! ### 157: slices.IndexFunc[[]int,int] -/

noncomputable def dinkIndexFunc_Sint_int_iGraph_leads_1 : Desc := { n := 2, regs := [.one (.val (.sl (.int .i64))), .one (.clo 148 [.inr (.int .i64), .inr (.pair (.sl (.pair (.sl (.int .i64)) (.pair (.sl (.int .i64)) .unit))) (.pair (.sl (.sl (.int .i64))) (.pair (.sl (.int .i64)) .unit)))])], bx := [], pins := [] }
noncomputable def outkIndexFunc_Sint_int_iGraph_leads_1 : Outs := [(.ret, { n := 1, regs := [.one (.val (.int .i64))], bx := [], pins := [] })]
noncomputable def HkIndexFunc_Sint_int_iGraph_leads_1 : Hints := []
noncomputable def EkIndexFunc_Sint_int_iGraph_leads_1 (N : Nat) : Env := { te := TE, cs := [coniGraph_leads_1 N] }
noncomputable def dkIndexFunc_Sint_int_iGraph_leads_1_0 : Desc := { n := 19, regs := [.one (.val (.sl (.int .i64))), .one (.clo 148 [.inr (.int .i64), .inr (.pair (.sl (.pair (.sl (.int .i64)) (.pair (.sl (.int .i64)) .unit))) (.pair (.sl (.sl (.int .i64))) (.pair (.sl (.int .i64)) .unit)))]), u, u, u, u, u, .one (.val (.int .i64)), .one (.val (.int .i64))], bx := [], pins := [] }
noncomputable def okIndexFunc_Sint_int_iGraph_leads_1_0 : Outs := [(.exit 0, { n := 19, regs := [], bx := [], pins := [] }), (.ret, { n := 19, regs := [u, u, u, u, .one (.val (.int .i64))], bx := [], pins := [] })]
noncomputable def lkIndexFunc_Sint_int_iGraph_leads_1_0 (N : Nat) : Nat → ((List Int) × (Int × (((List ((List Int) × ((List Int) × Unit))) × ((List (List Int)) × ((List Int) × Unit))) × (Int × (Int × Unit))))) → Option (Unit ⊕ (Int × Unit))
  | 0, _ => none
  | n + 1, v =>
    bif decide (v.2.2.2.2.1 < v.2.2.2.1) then
     bif decide (0 ≤ v.2.2.2.2.1) then
     bif decide (v.2.2.2.2.1.toNat < v.1.length) then
     (FiGraph_leads_1 N (v.1.getD v.2.2.2.2.1.toNat (0 : Int), v.2.1, v.2.2.1, ())).bind fun r1 =>
     bif r1.1 then
      some (.inr ((v.2.2.2.2.1, ())))
     else
     lkIndexFunc_Sint_int_iGraph_leads_1_0 N n (v.1, v.2.1, v.2.2.1, v.2.2.2.1, w64 (v.2.2.2.2.1 + (1 : Int)), ())
     else none
     else none
    else
    some (.inl ())
noncomputable def FkIndexFunc_Sint_int_iGraph_leads_1 (N : Nat) (x : ((List Int) × (Int × (((List ((List Int) × ((List Int) × Unit))) × ((List (List Int)) × ((List Int) × Unit))) × Unit)))) : Option (Int × Unit) :=
  (lkIndexFunc_Sint_int_iGraph_leads_1_0 N N (x.1, x.2.1, x.2.2.1, (x.1.length : Int), (0 : Int), ())).bind fun o2 =>
  Sum.elim (fun o3 =>
   some ((-1 : Int), ())) (fun o4 =>
   some (o4.1, ())) o2
noncomputable def conkIndexFunc_Sint_int_iGraph_leads_1 (N : Nat) : Con := { f := 157, din := dinkIndexFunc_Sint_int_iGraph_leads_1, outs := outkIndexFunc_Sint_int_iGraph_leads_1, F := FkIndexFunc_Sint_int_iGraph_leads_1 N }
noncomputable def XkIndexFunc_Sint_int_iGraph_leads_1 (N : Nat) : Ctx := { E := EkIndexFunc_Sint_int_iGraph_leads_1 N, H := HkIndexFunc_Sint_int_iGraph_leads_1, lp := [(0, { hd := dkIndexFunc_Sint_int_iGraph_leads_1_0, outs := okIndexFunc_Sint_int_iGraph_leads_1_0, run := fun v => lkIndexFunc_Sint_int_iGraph_leads_1_0 N N v })], jn := [] }
noncomputable def bkIndexFunc_Sint_int_iGraph_leads_1_0 : Code := loopBody (codeOf Try.f157) 0
theorem FkIndexFunc_Sint_int_iGraph_leads_1_eq (N : Nat) (x : ((List Int) × (Int × (((List ((List Int) × ((List Int) × Unit))) × ((List (List Int)) × ((List Int) × Unit))) × Unit)))) : evFn (XkIndexFunc_Sint_int_iGraph_leads_1 N) Try.f157 dinkIndexFunc_Sint_int_iGraph_leads_1 outkIndexFunc_Sint_int_iGraph_leads_1 x = FkIndexFunc_Sint_int_iGraph_leads_1 N x := by kernel_rfl
theorem lkIndexFunc_Sint_int_iGraph_leads_1_0_eq (N n : Nat) (v : ((List Int) × (Int × (((List ((List Int) × ((List Int) × Unit))) × ((List (List Int)) × ((List Int) × Unit))) × (Int × (Int × Unit)))))) : lkIndexFunc_Sint_int_iGraph_leads_1_0 N (n + 1) v = ev (XkIndexFunc_Sint_int_iGraph_leads_1 N) bkIndexFunc_Sint_int_iGraph_leads_1_0 (roundK dkIndexFunc_Sint_int_iGraph_leads_1_0 okIndexFunc_Sint_int_iGraph_leads_1_0 (lkIndexFunc_Sint_int_iGraph_leads_1_0 N n)) (dkIndexFunc_Sint_int_iGraph_leads_1_0.mk' v) := by kernel_rfl
theorem cxkIndexFunc_Sint_int_iGraph_leads_1 (N : Nat) : CtxOk Try.prog (XkIndexFunc_Sint_int_iGraph_leads_1 N) := ⟨⟨TE_ok, List.forall_mem_cons.2 ⟨(speciGraph_leads_1 N), fun k hk => absurd hk List.not_mem_nil⟩⟩, mixed⟩
theorem lpkIndexFunc_Sint_int_iGraph_leads_1_0 (N : Nat) : LoopOk Try.prog { hd := dkIndexFunc_Sint_int_iGraph_leads_1_0, outs := okIndexFunc_Sint_int_iGraph_leads_1_0, run := fun v => lkIndexFunc_Sint_int_iGraph_leads_1_0 N N v } bkIndexFunc_Sint_int_iGraph_leads_1_0 :=
  loop_fuel (d := dkIndexFunc_Sint_int_iGraph_leads_1_0) (os := okIndexFunc_Sint_int_iGraph_leads_1_0) (cxkIndexFunc_Sint_int_iGraph_leads_1 N) (loops_at (ids := []) (by kernel_rfl) (trivial)) (lkIndexFunc_Sint_int_iGraph_leads_1_0 N) (fun _ => rfl) (fun n v => lkIndexFunc_Sint_int_iGraph_leads_1_0_eq N n v) (fun _ => N)
theorem speckIndexFunc_Sint_int_iGraph_leads_1 (N : Nat) : Spec Try.prog (conkIndexFunc_Sint_int_iGraph_leads_1 N) :=
  Spec.of_eq (fn_spec (cxkIndexFunc_Sint_int_iGraph_leads_1 N) (f := 157) (fn := Try.f157) (c := codeOf Try.f157) (by kernel_rfl) (by kernel_rfl) (by kernel_rfl) (loops_at (ids := [0]) (by kernel_rfl) ⟨lp_of (lpkIndexFunc_Sint_int_iGraph_leads_1_0 N), trivial⟩) (by kernel_rfl)) (fun x r h => (FkIndexFunc_Sint_int_iGraph_leads_1_eq N x).trans h)

/-! ### 147: slices.ContainsFunc[[]int,int] -/

noncomputable def dinkContainsFunc_Sint_int_iGraph_leads_1 : Desc := { n := 2, regs := [.one (.val (.sl (.int .i64))), .one (.clo 148 [.inr (.int .i64), .inr (.pair (.sl (.pair (.sl (.int .i64)) (.pair (.sl (.int .i64)) .unit))) (.pair (.sl (.sl (.int .i64))) (.pair (.sl (.int .i64)) .unit)))])], bx := [], pins := [] }
noncomputable def outkContainsFunc_Sint_int_iGraph_leads_1 : Outs := [(.ret, { n := 1, regs := [.one (.val .bool)], bx := [], pins := [] })]
noncomputable def HkContainsFunc_Sint_int_iGraph_leads_1 : Hints := []
noncomputable def EkContainsFunc_Sint_int_iGraph_leads_1 (N : Nat) : Env := { te := TE, cs := [conkIndexFunc_Sint_int_iGraph_leads_1 N] }
noncomputable def FkContainsFunc_Sint_int_iGraph_leads_1 (N : Nat) (x : ((List Int) × (Int × (((List ((List Int) × ((List Int) × Unit))) × ((List (List Int)) × ((List Int) × Unit))) × Unit)))) : Option (Bool × Unit) :=
  (FkIndexFunc_Sint_int_iGraph_leads_1 N (x.1, x.2.1, x.2.2.1, ())).bind fun r1 =>
  some (decide (r1.1 ≥ (0 : Int)), ())
noncomputable def conkContainsFunc_Sint_int_iGraph_leads_1 (N : Nat) : Con := { f := 147, din := dinkContainsFunc_Sint_int_iGraph_leads_1, outs := outkContainsFunc_Sint_int_iGraph_leads_1, F := FkContainsFunc_Sint_int_iGraph_leads_1 N }
noncomputable def XkContainsFunc_Sint_int_iGraph_leads_1 (N : Nat) : Ctx := { E := EkContainsFunc_Sint_int_iGraph_leads_1 N, H := HkContainsFunc_Sint_int_iGraph_leads_1, lp := [], jn := [] }
theorem FkContainsFunc_Sint_int_iGraph_leads_1_eq (N : Nat) (x : ((List Int) × (Int × (((List ((List Int) × ((List Int) × Unit))) × ((List (List Int)) × ((List Int) × Unit))) × Unit)))) : evFn (XkContainsFunc_Sint_int_iGraph_leads_1 N) Try.f147 dinkContainsFunc_Sint_int_iGraph_leads_1 outkContainsFunc_Sint_int_iGraph_leads_1 x = FkContainsFunc_Sint_int_iGraph_leads_1 N x := by kernel_rfl
theorem cxkContainsFunc_Sint_int_iGraph_leads_1 (N : Nat) : CtxOk Try.prog (XkContainsFunc_Sint_int_iGraph_leads_1 N) := ⟨⟨TE_ok, List.forall_mem_cons.2 ⟨(speckIndexFunc_Sint_int_iGraph_leads_1 N), fun k hk => absurd hk List.not_mem_nil⟩⟩, mixed⟩
theorem speckContainsFunc_Sint_int_iGraph_leads_1 (N : Nat) : Spec Try.prog (conkContainsFunc_Sint_int_iGraph_leads_1 N) :=
  Spec.of_eq (fn_spec (cxkContainsFunc_Sint_int_iGraph_leads_1 N) (f := 147) (fn := Try.f147) (c := codeOf Try.f147) (by kernel_rfl) (by kernel_rfl) (by kernel_rfl) (loops_at (ids := []) (by kernel_rfl) (trivial)) (by kernel_rfl)) (fun x r h => (FkContainsFunc_Sint_int_iGraph_leads_1_eq N x).trans h)

/-! ### 126: impl.Graph).leads -/

noncomputable def diniGraph_leads : Desc := { n := 3, regs := [.one (.val (.pair (.sl (.pair (.sl (.int .i64)) (.pair (.sl (.int .i64)) .unit))) (.pair (.sl (.sl (.int .i64))) (.pair (.sl (.int .i64)) .unit)))), .one (.val (.sl (.int .i64))), .one (.val (.int .i64))], bx := [], pins := [] }
noncomputable def outiGraph_leads : Outs := [(.ret, { n := 1, regs := [.one (.val .bool)], bx := [], pins := [] })]
noncomputable def HiGraph_leads : Hints := [(0, [(0, { fz := true }), (1, { fz := true })])]
noncomputable def EiGraph_leads (N : Nat) : Env := { te := TE, cs := [conkContainsFunc_Sint_int_iGraph_leads_1 N] }
noncomputable def FiGraph_leads (N : Nat) (x : (((List ((List Int) × ((List Int) × Unit))) × ((List (List Int)) × ((List Int) × Unit))) × ((List Int) × (Int × Unit)))) : Option (Bool × Unit) :=
  (FkContainsFunc_Sint_int_iGraph_leads_1 N (x.2.1, x.2.2.1, x.1, ())).bind fun r1 =>
  some (!r1.1, ())
noncomputable def coniGraph_leads (N : Nat) : Con := { f := 126, din := diniGraph_leads, outs := outiGraph_leads, F := FiGraph_leads N }
noncomputable def XiGraph_leads (N : Nat) : Ctx := { E := EiGraph_leads N, H := HiGraph_leads, lp := [], jn := [] }
theorem FiGraph_leads_eq (N : Nat) (x : (((List ((List Int) × ((List Int) × Unit))) × ((List (List Int)) × ((List Int) × Unit))) × ((List Int) × (Int × Unit)))) : evFn (XiGraph_leads N) Try.f126 diniGraph_leads outiGraph_leads x = FiGraph_leads N x := by kernel_rfl
theorem cxiGraph_leads (N : Nat) : CtxOk Try.prog (XiGraph_leads N) := ⟨⟨TE_ok, List.forall_mem_cons.2 ⟨(speckContainsFunc_Sint_int_iGraph_leads_1 N), fun k hk => absurd hk List.not_mem_nil⟩⟩, mixed⟩
theorem speciGraph_leads (N : Nat) : Spec Try.prog (coniGraph_leads N) :=
  Spec.of_eq (fn_spec (cxiGraph_leads N) (f := 126) (fn := Try.f126) (c := codeOf Try.f126) (by kernel_rfl) (by kernel_rfl) (by kernel_rfl) (loops_at (ids := []) (by kernel_rfl) (trivial)) (by kernel_rfl)) (fun x r h => (FiGraph_leads_eq N x).trans h)

/-! ### 66: impl.GraphOk -/

noncomputable def diniGraphOk : Desc := { n := 1, regs := [.one (.val (.pair (.sl (.pair (.sl (.int .i64)) (.pair (.sl (.int .i64)) .unit))) (.pair (.sl (.sl (.int .i64))) (.pair (.sl (.int .i64)) .unit))))], bx := [], pins := [] }
noncomputable def outiGraphOk : Outs := [(.ret, { n := 1, regs := [.one (.val .bool)], bx := [], pins := [] })]
noncomputable def HiGraphOk : Hints := [(0, [(0, { fz := true })])]
noncomputable def EiGraphOk (N : Nat) : Env := { te := TE, cs := [coniGraph_leads N] }
noncomputable def diGraphOk_0 : Desc := { n := 78, regs := [u, .one (.fpt (.pair (.sl (.pair (.sl (.int .i64)) (.pair (.sl (.int .i64)) .unit))) (.pair (.sl (.sl (.int .i64))) (.pair (.sl (.int .i64)) .unit)))), u, u, u, u, u, u, u, u, u, u, u, u, u, u, u, u, u, u, u, u, u, u, u, u, u, u, u, u, u, u, u, u, u, u, u, .one (.val (.sl (.pair (.sl (.int .i64)) (.pair (.sl (.int .i64)) .unit)))), .one (.val (.int .i64)), .one (.val (.int .i64))], bx := [], pins := [] }
noncomputable def oiGraphOk_0 : Outs := [(.exit 0, { n := 78, regs := [u, .one (.fpt (.pair (.sl (.pair (.sl (.int .i64)) (.pair (.sl (.int .i64)) .unit))) (.pair (.sl (.sl (.int .i64))) (.pair (.sl (.int .i64)) .unit))))], bx := [], pins := [] }), (.ret, { n := 78, regs := [u, u, .one (.val .bool)], bx := [], pins := [] })]
noncomputable def diGraphOk_2 : Desc := { n := 78, regs := [u, .one (.fpt (.pair (.sl (.pair (.sl (.int .i64)) (.pair (.sl (.int .i64)) .unit))) (.pair (.sl (.sl (.int .i64))) (.pair (.sl (.int .i64)) .unit)))), u, u, u, u, u, u, u, u, u, u, u, u, u, u, u, u, u, u, u, u, u, u, u, u, u, u, u, u, u, u, u, u, u, u, u, u, u, u, u, u, u, u, u, u, u, u, u, u, u, u, u, u, u, u, u, u, u, u, u, u, .one (.val (.sl (.sl (.int .i64)))), .one (.val (.int .i64)), .one (.val (.int .i64))], bx := [], pins := [] }
noncomputable def oiGraphOk_2 : Outs := [(.exit 2, { n := 78, regs := [], bx := [], pins := [] }), (.ret, { n := 78, regs := [u, u, .one (.val .bool)], bx := [], pins := [] })]
noncomputable def jiGraphOk_3 : Outs := [(.normal, { n := 78, regs := [u, .one (.fpt (.pair (.sl (.pair (.sl (.int .i64)) (.pair (.sl (.int .i64)) .unit))) (.pair (.sl (.sl (.int .i64))) (.pair (.sl (.int .i64)) .unit))))], bx := [], pins := [] }), (.ret, { n := 78, regs := [u, u, .one (.val .bool)], bx := [], pins := [] })]
noncomputable def liGraphOk_0 (N : Nat) : Nat → (((List ((List Int) × ((List Int) × Unit))) × ((List (List Int)) × ((List Int) × Unit))) × ((List ((List Int) × ((List Int) × Unit))) × (Int × (Int × Unit)))) → Option ((((List ((List Int) × ((List Int) × Unit))) × ((List (List Int)) × ((List Int) × Unit))) × Unit) ⊕ (Bool × Unit))
  | 0, _ => none
  | n + 1, v =>
    bif decide (v.2.2.2.1 < v.2.2.1) then
     bif decide (0 ≤ v.2.2.2.1) then
     bif decide (v.2.2.2.1.toNat < v.2.1.length) then
     let y8 := v.2.1.getD v.2.2.2.1.toNat (([] : (List Int)), ([] : (List Int)), ())
     let y9 := decide ((y8.1.length : Int) > (4 : Int))
     bif y9 then
      some (.inr ((false, ())))
     else
     let y10 := decide ((y8.2.1.length : Int) > (4 : Int))
     bif y10 then
      some (.inr ((false, ())))
     else
     (FiGraph_leads N (v.1, y8.1, (-1 : Int), ())).bind fun r11 =>
     bif !r11.1 then
      some (.inr ((false, ())))
     else
     liGraphOk_0 N n (v.1, v.2.1, v.2.2.1, w64 (v.2.2.2.1 + (1 : Int)), ())
     else none
     else none
    else
    some (.inl (v.1, ()))
noncomputable def liGraphOk_2 (N : Nat) : Nat → (((List ((List Int) × ((List Int) × Unit))) × ((List (List Int)) × ((List Int) × Unit))) × ((List (List Int)) × (Int × (Int × Unit)))) → Option (Unit ⊕ (Bool × Unit))
  | 0, _ => none
  | n + 1, v =>
    bif decide (v.2.2.2.1 < v.2.2.1) then
     bif decide (0 ≤ v.2.2.2.1) then
     bif decide (v.2.2.2.1.toNat < v.2.1.length) then
     let y14 := v.2.1.getD v.2.2.2.1.toNat ([] : (List Int))
     let y15 := decide ((y14.length : Int) > (8 : Int))
     bif y15 then
      some (.inr ((false, ())))
     else
     (FiGraph_leads N (v.1, y14, (-1 : Int), ())).bind fun r16 =>
     bif !r16.1 then
      some (.inr ((false, ())))
     else
     liGraphOk_2 N n (v.1, v.2.1, v.2.2.1, w64 (v.2.2.2.1 + (1 : Int)), ())
     else none
     else none
    else
    some (.inl ())
noncomputable def FiGraphOk (N : Nat) (x : (((List ((List Int) × ((List Int) × Unit))) × ((List (List Int)) × ((List Int) × Unit))) × Unit)) : Option (Bool × Unit) :=
  Option.bind (
   let y1 := decide ((x.1.1.length : Int) > (200 : Int))
   bif y1 then
    some (.inr ((false, ())))
   else
   let y2 := decide ((x.1.2.1.length : Int) < (1 : Int))
   bif y2 then
    some (.inr ((false, ())))
   else
   let y3 := decide ((x.1.2.1.length : Int) > (3 : Int))
   bif y3 then
    some (.inr ((false, ())))
   else
   let y4 := decide ((x.1.2.2.1.length : Int) > (8 : Int))
   bif y4 then
    some (.inr ((false, ())))
   else
   (FiGraph_leads N (x.1, x.1.2.2.1, (0 : Int), ())).bind fun r5 =>
   bif !r5.1 then
    some (.inr ((false, ())))
   else
   some (.inl (x.1, ()))) fun o6 =>
  Sum.elim (fun o7 =>
   (liGraphOk_0 N N (o7.1, o7.1.1, (o7.1.1.length : Int), (0 : Int), ())).bind fun o12 =>
   Sum.elim (fun o13 =>
    (liGraphOk_2 N N (o13.1, o13.1.2.1, (o13.1.2.1.length : Int), (0 : Int), ())).bind fun o17 =>
    Sum.elim (fun o18 =>
     some (true, ())) (fun o19 =>
     some (o19.1, ())) o17) (fun o20 =>
    some (o20.1, ())) o12) (fun o21 =>
   some (o21.1, ())) o6
noncomputable def coniGraphOk (N : Nat) : Con := { f := 66, din := diniGraphOk, outs := outiGraphOk, F := FiGraphOk N }
noncomputable def XiGraphOk (N : Nat) : Ctx := { E := EiGraphOk N, H := HiGraphOk, lp := [(0, { hd := diGraphOk_0, outs := oiGraphOk_0, run := fun v => liGraphOk_0 N N v }), (2, { hd := diGraphOk_2, outs := oiGraphOk_2, run := fun v => liGraphOk_2 N N v })], jn := [(3, jiGraphOk_3)] }
noncomputable def biGraphOk_2 : Code := loopBody (codeOf Try.f66) 1
noncomputable def biGraphOk_0 : Code := loopBody (codeOf Try.f66) 0
theorem FiGraphOk_eq (N : Nat) (x : (((List ((List Int) × ((List Int) × Unit))) × ((List (List Int)) × ((List Int) × Unit))) × Unit)) : evFn (XiGraphOk N) Try.f66 diniGraphOk outiGraphOk x = FiGraphOk N x := by kernel_rfl
theorem liGraphOk_0_eq (N n : Nat) (v : (((List ((List Int) × ((List Int) × Unit))) × ((List (List Int)) × ((List Int) × Unit))) × ((List ((List Int) × ((List Int) × Unit))) × (Int × (Int × Unit))))) : liGraphOk_0 N (n + 1) v = ev (XiGraphOk N) biGraphOk_0 (roundK diGraphOk_0 oiGraphOk_0 (liGraphOk_0 N n)) (diGraphOk_0.mk' v) := by kernel_rfl
theorem liGraphOk_2_eq (N n : Nat) (v : (((List ((List Int) × ((List Int) × Unit))) × ((List (List Int)) × ((List Int) × Unit))) × ((List (List Int)) × (Int × (Int × Unit))))) : liGraphOk_2 N (n + 1) v = ev (XiGraphOk N) biGraphOk_2 (roundK diGraphOk_2 oiGraphOk_2 (liGraphOk_2 N n)) (diGraphOk_2.mk' v) := by kernel_rfl
theorem cxiGraphOk (N : Nat) : CtxOk Try.prog (XiGraphOk N) := ⟨⟨TE_ok, List.forall_mem_cons.2 ⟨(speciGraph_leads N), fun k hk => absurd hk List.not_mem_nil⟩⟩, mixed⟩
theorem lpiGraphOk_0 (N : Nat) : LoopOk Try.prog { hd := diGraphOk_0, outs := oiGraphOk_0, run := fun v => liGraphOk_0 N N v } biGraphOk_0 :=
  loop_fuel (d := diGraphOk_0) (os := oiGraphOk_0) (cxiGraphOk N) (loops_at (ids := []) (by kernel_rfl) (trivial)) (liGraphOk_0 N) (fun _ => rfl) (fun n v => liGraphOk_0_eq N n v) (fun _ => N)
theorem lpiGraphOk_2 (N : Nat) : LoopOk Try.prog { hd := diGraphOk_2, outs := oiGraphOk_2, run := fun v => liGraphOk_2 N N v } biGraphOk_2 :=
  loop_fuel (d := diGraphOk_2) (os := oiGraphOk_2) (cxiGraphOk N) (loops_at (ids := []) (by kernel_rfl) (trivial)) (liGraphOk_2 N) (fun _ => rfl) (fun n v => liGraphOk_2_eq N n v) (fun _ => N)
theorem speciGraphOk (N : Nat) : Spec Try.prog (coniGraphOk N) :=
  Spec.of_eq (fn_spec (cxiGraphOk N) (f := 66) (fn := Try.f66) (c := codeOf Try.f66) (by kernel_rfl) (by kernel_rfl) (by kernel_rfl) (loops_at (ids := [0, 2]) (by kernel_rfl) ⟨lp_of (lpiGraphOk_0 N), ⟨lp_of (lpiGraphOk_2 N), trivial⟩⟩) (by kernel_rfl)) (fun x r h => (FiGraphOk_eq N x).trans h)

/-! ### 143: impl.ShapeOk -/

noncomputable def diniShapeOk : Desc := { n := 1, regs := [.one (.val (.pair (.int .i64) (.pair (.int .i64) .unit)))], bx := [], pins := [] }
noncomputable def outiShapeOk : Outs := [(.ret, { n := 1, regs := [.one (.val .bool)], bx := [], pins := [] })]
noncomputable def HiShapeOk : Hints := [(0, [(0, { fz := true })])]
noncomputable def EiShapeOk (_N : Nat) : Env := { te := TE, cs := [] }
noncomputable def FiShapeOk (N : Nat) (x : ((Int × (Int × Unit)) × Unit)) : Option (Bool × Unit) :=
  bif decide (x.1.1 ≥ (0 : Int)) then
   bif decide (x.1.1 ≤ (4 : Int)) then
    bif decide (x.1.2.1 ≥ (0 : Int)) then
     some (decide (x.1.2.1 ≤ (4 : Int)), ())
    else
    some (false, ())
   else
   some (false, ())
  else
  some (false, ())
noncomputable def coniShapeOk (N : Nat) : Con := { f := 143, din := diniShapeOk, outs := outiShapeOk, F := FiShapeOk N }
noncomputable def XiShapeOk (N : Nat) : Ctx := { E := EiShapeOk N, H := HiShapeOk, lp := [], jn := [] }
theorem FiShapeOk_eq (N : Nat) (x : ((Int × (Int × Unit)) × Unit)) : evFn (XiShapeOk N) Try.f143 diniShapeOk outiShapeOk x = FiShapeOk N x := by kernel_rfl
theorem cxiShapeOk (N : Nat) : CtxOk Try.prog (XiShapeOk N) := ⟨⟨TE_ok, fun k hk => absurd hk List.not_mem_nil⟩, mixed⟩
theorem speciShapeOk (N : Nat) : Spec Try.prog (coniShapeOk N) :=
  Spec.of_eq (fn_spec (cxiShapeOk N) (f := 143) (fn := Try.f143) (c := codeOf Try.f143) (by kernel_rfl) (by kernel_rfl) (by kernel_rfl) (loops_at (ids := []) (by kernel_rfl) (trivial)) (by kernel_rfl)) (fun x r h => (FiShapeOk_eq N x).trans h)

/-! ### 106: impl.OpOk -/

noncomputable def diniOpOk : Desc := { n := 1, regs := [.one (.val (.pair (.int .i64) (.pair (.int .i64) (.pair (.int .i64) (.pair (.int .i64) (.pair (.int .i64) (.pair (.int .i64) (.pair (.pair (.int .i64) (.pair (.int .i64) .unit)) .unit))))))))], bx := [], pins := [] }
noncomputable def outiOpOk : Outs := [(.ret, { n := 1, regs := [.one (.val .bool)], bx := [], pins := [] })]
noncomputable def HiOpOk : Hints := [(0, [(0, { fz := true })])]
noncomputable def EiOpOk (N : Nat) : Env := { te := TE, cs := [coniShapeOk N] }
noncomputable def FiOpOk (N : Nat) (x : ((Int × (Int × (Int × (Int × (Int × (Int × ((Int × (Int × Unit)) × Unit))))))) × Unit)) : Option (Bool × Unit) :=
  bif decide (x.1.1 ≥ (1 : Int)) then
   bif decide (x.1.1 ≤ (11 : Int)) then
    bif x.1.1 != (1 : Int) then
     some (true, ())
    else
    (FiShapeOk N (x.1.2.2.2.2.2.2.1, ())).bind fun r1 =>
    some (r1.1, ())
   else
   some (false, ())
  else
  some (false, ())
noncomputable def coniOpOk (N : Nat) : Con := { f := 106, din := diniOpOk, outs := outiOpOk, F := FiOpOk N }
noncomputable def XiOpOk (N : Nat) : Ctx := { E := EiOpOk N, H := HiOpOk, lp := [], jn := [] }
theorem FiOpOk_eq (N : Nat) (x : ((Int × (Int × (Int × (Int × (Int × (Int × ((Int × (Int × Unit)) × Unit))))))) × Unit)) : evFn (XiOpOk N) Try.f106 diniOpOk outiOpOk x = FiOpOk N x := by kernel_rfl
theorem cxiOpOk (N : Nat) : CtxOk Try.prog (XiOpOk N) := ⟨⟨TE_ok, List.forall_mem_cons.2 ⟨(speciShapeOk N), fun k hk => absurd hk List.not_mem_nil⟩⟩, mixed⟩
theorem speciOpOk (N : Nat) : Spec Try.prog (coniOpOk N) :=
  Spec.of_eq (fn_spec (cxiOpOk N) (f := 106) (fn := Try.f106) (c := codeOf Try.f106) (by kernel_rfl) (by kernel_rfl) (by kernel_rfl) (loops_at (ids := []) (by kernel_rfl) (trivial)) (by kernel_rfl)) (fun x r h => (FiOpOk_eq N x).trans h)

/-! ### 82: slices.Clone[[]int,int] -/

noncomputable def dinkClone_Sint_int : Desc := { n := 1, regs := [.one (.val (.sl (.int .i64)))], bx := [], pins := [] }
noncomputable def outkClone_Sint_int : Outs := [(.ret, { n := 1, regs := [.one (.lit (.row 1025600))], bx := [(1025600, .row (.int .i64))], pins := [] })]
noncomputable def HkClone_Sint_int : Hints := [(2, [(0, { nl := [(0, (.int .i64))] })])]
noncomputable def EkClone_Sint_int (_N : Nat) : Env := { te := TE, cs := [] }
noncomputable def FkClone_Sint_int (N : Nat) (x : ((List Int) × Unit)) : Option ((List Int) × Unit) :=
  bif x.1.isEmpty then
   anyOf (2) fun i1 =>
    bif bif i1 == 0 then false else true then
     some (([] : (List Int)), ())
    else
    bif decide (([] : (List Int)).length + x.1.length ≤ lim) then
    some (([] : (List Int)) ++ x.1, ())
    else none
  else
  bif decide (([] : (List Int)).length + x.1.length ≤ lim) then
  some (([] : (List Int)) ++ x.1, ())
  else none
noncomputable def conkClone_Sint_int (N : Nat) : Con := { f := 82, din := dinkClone_Sint_int, outs := outkClone_Sint_int, F := FkClone_Sint_int N }
noncomputable def XkClone_Sint_int (N : Nat) : Ctx := { E := EkClone_Sint_int N, H := HkClone_Sint_int, lp := [], jn := [] }
theorem FkClone_Sint_int_eq (N : Nat) (x : ((List Int) × Unit)) : evFn (XkClone_Sint_int N) Try.f82 dinkClone_Sint_int outkClone_Sint_int x = FkClone_Sint_int N x := by kernel_rfl
theorem cxkClone_Sint_int (N : Nat) : CtxOk Try.prog (XkClone_Sint_int N) := ⟨⟨TE_ok, fun k hk => absurd hk List.not_mem_nil⟩, mixed⟩
theorem speckClone_Sint_int (N : Nat) : Spec Try.prog (conkClone_Sint_int N) :=
  Spec.of_eq (fn_spec (cxkClone_Sint_int N) (f := 82) (fn := Try.f82) (c := codeOf Try.f82) (by kernel_rfl) (by kernel_rfl) (by kernel_rfl) (loops_at (ids := []) (by kernel_rfl) (trivial)) (by kernel_rfl)) (fun x r h => (FkClone_Sint_int_eq N x).trans h)

/-! ### 107: impl.Graph).copy -/

noncomputable def diniGraph_copy : Desc := { n := 1, regs := [.one (.val (.pair (.sl (.pair (.sl (.int .i64)) (.pair (.sl (.int .i64)) .unit))) (.pair (.sl (.sl (.int .i64))) (.pair (.sl (.int .i64)) .unit))))], bx := [], pins := [] }
noncomputable def outiGraph_copy : Outs := [(.ret, { n := 1, regs := [.agg [.lit (.row 1012993), .lit (.row 1012994), .lit (.row 1012929)]], bx := [(1012993, .row (.pair (.sl (.int .i64)) (.pair (.sl (.int .i64)) .unit))), (1012994, .row (.sl (.int .i64))), (1012929, .row (.int .i64))], pins := [] })]
noncomputable def HiGraph_copy : Hints := [(0, [(0, { fz := true })]),
  (1, [(3, { nl := [(0, (.pair (.sl (.int .i64)) (.pair (.sl (.int .i64)) .unit))), (1, (.sl (.int .i64)))] })]),
  (5, [(9, { dp := true }), (10, { dp := true })]),
  (10, [(4, { dp := true }), (5, { dp := true })])]
noncomputable def EiGraph_copy (N : Nat) : Env := { te := TE, cs := [conkClone_Sint_int N] }
noncomputable def diGraph_copy_0 : Desc := { n := 48, regs := [u, .one (.fpt (.pair (.sl (.pair (.sl (.int .i64)) (.pair (.sl (.int .i64)) .unit))) (.pair (.sl (.sl (.int .i64))) (.pair (.sl (.int .i64)) .unit)))), .one (.lit (.ptr 1000064 0)), .one (.lit (.ptr 1013056 0)), u, u, u, u, u, u, u, u, u, .one (.val (.sl (.pair (.sl (.int .i64)) (.pair (.sl (.int .i64)) .unit)))), .one (.val (.int .i64)), .one (.val (.int .i64))], bx := [(1000064, .var [.lit .nil, .lit .nil, .lit .nil]), (1013056, .var [.lit (.row 1012993), .lit (.row 1012994), .lit (.row 1012929)]), (1012993, .row (.pair (.sl (.int .i64)) (.pair (.sl (.int .i64)) .unit))), (1012994, .row (.sl (.int .i64))), (1012929, .row (.int .i64))], pins := [] }
noncomputable def oiGraph_copy_0 : Outs := [(.exit 0, { n := 48, regs := [u, .one (.fpt (.pair (.sl (.pair (.sl (.int .i64)) (.pair (.sl (.int .i64)) .unit))) (.pair (.sl (.sl (.int .i64))) (.pair (.sl (.int .i64)) .unit)))), .one (.lit (.ptr 1000064 0)), .one (.lit (.ptr 1013056 0))], bx := [(1000064, .var [.lit .nil, .lit .nil, .lit .nil]), (1013056, .var [.lit (.row 1012993), .lit (.row 1012994), .lit (.row 1012929)]), (1012993, .row (.pair (.sl (.int .i64)) (.pair (.sl (.int .i64)) .unit))), (1012994, .row (.sl (.int .i64))), (1012929, .row (.int .i64))], pins := [] })]
noncomputable def diGraph_copy_2 : Desc := { n := 48, regs := [u, u, .one (.lit (.ptr 1000064 0)), .one (.lit (.ptr 1013056 0)), u, u, u, u, u, u, u, u, u, u, u, u, u, u, u, u, u, u, u, u, u, u, u, u, u, u, u, u, u, .one (.val (.sl (.sl (.int .i64)))), .one (.val (.int .i64)), .one (.val (.int .i64))], bx := [(1000064, .var [.lit .nil, .lit .nil, .lit .nil]), (1013056, .var [.lit (.row 1012993), .lit (.row 1012994), .lit (.row 1012929)]), (1012993, .row (.pair (.sl (.int .i64)) (.pair (.sl (.int .i64)) .unit))), (1012994, .row (.sl (.int .i64))), (1012929, .row (.int .i64))], pins := [] }
noncomputable def oiGraph_copy_2 : Outs := [(.exit 2, { n := 48, regs := [u, u, .one (.lit (.ptr 1000064 0)), .one (.lit (.ptr 1013056 0))], bx := [(1000064, .var [.lit .nil, .lit .nil, .lit .nil]), (1013056, .var [.lit (.row 1012993), .lit (.row 1012994), .lit (.row 1012929)]), (1012993, .row (.pair (.sl (.int .i64)) (.pair (.sl (.int .i64)) .unit))), (1012994, .row (.sl (.int .i64))), (1012929, .row (.int .i64))], pins := [] })]
noncomputable def liGraph_copy_0 (N : Nat) : Nat → (((List ((List Int) × ((List Int) × Unit))) × ((List (List Int)) × ((List Int) × Unit))) × ((List ((List Int) × ((List Int) × Unit))) × (Int × (Int × ((List ((List Int) × ((List Int) × Unit))) × ((List (List Int)) × ((List Int) × Unit))))))) → Option (((List ((List Int) × ((List Int) × Unit))) × ((List (List Int)) × ((List Int) × Unit))) × ((List ((List Int) × ((List Int) × Unit))) × ((List (List Int)) × ((List Int) × Unit))))
  | 0, _ => none
  | n + 1, v =>
    bif decide (v.2.2.2.1 < v.2.2.1) then
     bif decide (0 ≤ v.2.2.2.1) then
     bif decide (v.2.2.2.1.toNat < v.2.1.length) then
     let y3 := v.2.1.getD v.2.2.2.1.toNat (([] : (List Int)), ([] : (List Int)), ())
     (FkClone_Sint_int N (y3.1, ())).bind fun r4 =>
     (FkClone_Sint_int N (y3.2.1, ())).bind fun r5 =>
     bif decide (v.2.2.2.2.1.length + [(r4.1, r5.1, ())].length ≤ lim) then
     liGraph_copy_0 N n (v.1, v.2.1, v.2.2.1, w64 (v.2.2.2.1 + (1 : Int)), v.2.2.2.2.1 ++ [(r4.1, r5.1, ())], v.2.2.2.2.2.1, v.2.2.2.2.2.2.1, ())
     else none
     else none
     else none
    else
    some (v.1, v.2.2.2.2.1, v.2.2.2.2.2.1, v.2.2.2.2.2.2.1, ())
noncomputable def liGraph_copy_2 (N : Nat) : Nat → ((List (List Int)) × (Int × (Int × ((List ((List Int) × ((List Int) × Unit))) × ((List (List Int)) × ((List Int) × Unit)))))) → Option ((List ((List Int) × ((List Int) × Unit))) × ((List (List Int)) × ((List Int) × Unit)))
  | 0, _ => none
  | n + 1, v =>
    bif decide (v.2.2.1 < v.2.1) then
     bif decide (0 ≤ v.2.2.1) then
     bif decide (v.2.2.1.toNat < v.1.length) then
     let y7 := v.1.getD v.2.2.1.toNat ([] : (List Int))
     (FkClone_Sint_int N (y7, ())).bind fun r8 =>
     bif decide (v.2.2.2.2.1.length + [r8.1].length ≤ lim) then
     liGraph_copy_2 N n (v.1, v.2.1, w64 (v.2.2.1 + (1 : Int)), v.2.2.2.1, v.2.2.2.2.1 ++ [r8.1], v.2.2.2.2.2.1, ())
     else none
     else none
     else none
    else
    some (v.2.2.2.1, v.2.2.2.2.1, v.2.2.2.2.2.1, ())
noncomputable def FiGraph_copy (N : Nat) (x : (((List ((List Int) × ((List Int) × Unit))) × ((List (List Int)) × ((List Int) × Unit))) × Unit)) : Option ((List ((List Int) × ((List Int) × Unit))) × ((List (List Int)) × ((List Int) × Unit))) :=
  (FkClone_Sint_int N (x.1.2.2.1, ())).bind fun r1 =>
  let y2 := ([] : (List ((List Int) × ((List Int) × Unit))))
  (liGraph_copy_0 N N (x.1, x.1.1, (x.1.1.length : Int), (0 : Int), y2, ([] : (List (List Int))), r1.1, ())).bind fun o6 =>
  (liGraph_copy_2 N N (o6.1.2.1, (o6.1.2.1.length : Int), (0 : Int), o6.2.1, o6.2.2.1, o6.2.2.2.1, ())).bind fun o9 =>
  some (o9.1, o9.2.1, o9.2.2.1, ())
noncomputable def coniGraph_copy (N : Nat) : Con := { f := 107, din := diniGraph_copy, outs := outiGraph_copy, F := FiGraph_copy N }
noncomputable def XiGraph_copy (N : Nat) : Ctx := { E := EiGraph_copy N, H := HiGraph_copy, lp := [(0, { hd := diGraph_copy_0, outs := oiGraph_copy_0, run := fun v => liGraph_copy_0 N N v }), (2, { hd := diGraph_copy_2, outs := oiGraph_copy_2, run := fun v => liGraph_copy_2 N N v })], jn := [] }
noncomputable def biGraph_copy_2 : Code := loopBody (codeOf Try.f107) 1
noncomputable def biGraph_copy_0 : Code := loopBody (codeOf Try.f107) 0
theorem FiGraph_copy_eq (N : Nat) (x : (((List ((List Int) × ((List Int) × Unit))) × ((List (List Int)) × ((List Int) × Unit))) × Unit)) : evFn (XiGraph_copy N) Try.f107 diniGraph_copy outiGraph_copy x = FiGraph_copy N x := by kernel_rfl
theorem liGraph_copy_0_eq (N n : Nat) (v : (((List ((List Int) × ((List Int) × Unit))) × ((List (List Int)) × ((List Int) × Unit))) × ((List ((List Int) × ((List Int) × Unit))) × (Int × (Int × ((List ((List Int) × ((List Int) × Unit))) × ((List (List Int)) × ((List Int) × Unit)))))))) : liGraph_copy_0 N (n + 1) v = ev (XiGraph_copy N) biGraph_copy_0 (roundK diGraph_copy_0 oiGraph_copy_0 (liGraph_copy_0 N n)) (diGraph_copy_0.mk' v) := by kernel_rfl
theorem liGraph_copy_2_eq (N n : Nat) (v : ((List (List Int)) × (Int × (Int × ((List ((List Int) × ((List Int) × Unit))) × ((List (List Int)) × ((List Int) × Unit))))))) : liGraph_copy_2 N (n + 1) v = ev (XiGraph_copy N) biGraph_copy_2 (roundK diGraph_copy_2 oiGraph_copy_2 (liGraph_copy_2 N n)) (diGraph_copy_2.mk' v) := by kernel_rfl
theorem cxiGraph_copy (N : Nat) : CtxOk Try.prog (XiGraph_copy N) := ⟨⟨TE_ok, List.forall_mem_cons.2 ⟨(speckClone_Sint_int N), fun k hk => absurd hk List.not_mem_nil⟩⟩, mixed⟩
theorem lpiGraph_copy_0 (N : Nat) : LoopOk Try.prog { hd := diGraph_copy_0, outs := oiGraph_copy_0, run := fun v => liGraph_copy_0 N N v } biGraph_copy_0 :=
  loop_fuel (d := diGraph_copy_0) (os := oiGraph_copy_0) (cxiGraph_copy N) (loops_at (ids := []) (by kernel_rfl) (trivial)) (liGraph_copy_0 N) (fun _ => rfl) (fun n v => liGraph_copy_0_eq N n v) (fun _ => N)
theorem lpiGraph_copy_2 (N : Nat) : LoopOk Try.prog { hd := diGraph_copy_2, outs := oiGraph_copy_2, run := fun v => liGraph_copy_2 N N v } biGraph_copy_2 :=
  loop_fuel (d := diGraph_copy_2) (os := oiGraph_copy_2) (cxiGraph_copy N) (loops_at (ids := []) (by kernel_rfl) (trivial)) (liGraph_copy_2 N) (fun _ => rfl) (fun n v => liGraph_copy_2_eq N n v) (fun _ => N)
theorem speciGraph_copy (N : Nat) : Spec Try.prog (coniGraph_copy N) :=
  Spec.of_eq (fn_spec (cxiGraph_copy N) (f := 107) (fn := Try.f107) (c := codeOf Try.f107) (by kernel_rfl) (by kernel_rfl) (by kernel_rfl) (loops_at (ids := [0, 2]) (by kernel_rfl) ⟨lp_of (lpiGraph_copy_0 N), ⟨lp_of (lpiGraph_copy_2 N), trivial⟩⟩) (by kernel_rfl)) (fun x r h => (FiGraph_copy_eq N x).trans h)

/-! ### 144: impl.Op).handles -/

noncomputable def diniOp_handles : Desc := { n := 1, regs := [.one (.val (.pair (.int .i64) (.pair (.int .i64) (.pair (.int .i64) (.pair (.int .i64) (.pair (.int .i64) (.pair (.int .i64) (.pair (.pair (.int .i64) (.pair (.int .i64) .unit)) .unit))))))))], bx := [], pins := [] }
noncomputable def outiOp_handles : Outs := [(.ret, { n := 1, regs := [.one (.lit (.row 1051200))], bx := [(1051200, .row (.int .i64))], pins := [] })]
noncomputable def HiOp_handles : Hints := [(0, [(0, { fz := true })]),
  (4, [(0, { nl := [(0, (.int .i64))] })])]
noncomputable def EiOp_handles (_N : Nat) : Env := { te := TE, cs := [] }
noncomputable def FiOp_handles (N : Nat) (x : ((Int × (Int × (Int × (Int × (Int × (Int × ((Int × (Int × Unit)) × Unit))))))) × Unit)) : Option ((List Int) × Unit) :=
  bif x.1.1 == (1 : Int) then
   some (([] : (List Int)), ())
  else
  bif x.1.1 == (8 : Int) then
   some (([] : (List Int)), ())
  else
  bif x.1.1 == (3 : Int) then
   some ([x.1.2.1, x.1.2.2.1], ())
  else
  bif x.1.1 == (6 : Int) then
   some ([x.1.2.1, x.1.2.2.1], ())
  else
  bif x.1.1 == (7 : Int) then
   some ([x.1.2.1, x.1.2.2.1, x.1.2.2.2.1], ())
  else
  some ([x.1.2.1], ())
noncomputable def coniOp_handles (N : Nat) : Con := { f := 144, din := diniOp_handles, outs := outiOp_handles, F := FiOp_handles N }
noncomputable def XiOp_handles (N : Nat) : Ctx := { E := EiOp_handles N, H := HiOp_handles, lp := [], jn := [] }
theorem FiOp_handles_eq (N : Nat) (x : ((Int × (Int × (Int × (Int × (Int × (Int × ((Int × (Int × Unit)) × Unit))))))) × Unit)) : evFn (XiOp_handles N) Try.f144 diniOp_handles outiOp_handles x = FiOp_handles N x := by kernel_rfl
theorem cxiOp_handles (N : Nat) : CtxOk Try.prog (XiOp_handles N) := ⟨⟨TE_ok, fun k hk => absurd hk List.not_mem_nil⟩, mixed⟩
theorem speciOp_handles (N : Nat) : Spec Try.prog (coniOp_handles N) :=
  Spec.of_eq (fn_spec (cxiOp_handles N) (f := 144) (fn := Try.f144) (c := codeOf Try.f144) (by kernel_rfl) (by kernel_rfl) (by kernel_rfl) (loops_at (ids := []) (by kernel_rfl) (trivial)) (by kernel_rfl)) (fun x r h => (FiOp_handles_eq N x).trans h)

/-! ### 108: impl.Op).early -/

noncomputable def diniOp_early : Desc := { n := 3, regs := [.one (.val (.pair (.int .i64) (.pair (.int .i64) (.pair (.int .i64) (.pair (.int .i64) (.pair (.int .i64) (.pair (.int .i64) (.pair (.pair (.int .i64) (.pair (.int .i64) .unit)) .unit)))))))), .one (.val (.sl (.int .i64))), .one (.val (.int .i64))], bx := [], pins := [] }
noncomputable def outiOp_early : Outs := [(.ret, { n := 1, regs := [.one (.val (.int .i64))], bx := [], pins := [] })]
noncomputable def HiOp_early : Hints := [(0, [(0, { fz := true })])]
noncomputable def EiOp_early (N : Nat) : Env := { te := TE, cs := [coniOp_handles N] }
noncomputable def diOp_early_0 : Desc := { n := 61, regs := [u, .one (.val (.sl (.int .i64))), .one (.val (.int .i64)), .one (.fpt (.pair (.int .i64) (.pair (.int .i64) (.pair (.int .i64) (.pair (.int .i64) (.pair (.int .i64) (.pair (.int .i64) (.pair (.pair (.int .i64) (.pair (.int .i64) .unit)) .unit)))))))), u, u, u, u, u, u, .one (.lit (.row 1012865)), .one (.val (.int .i64)), .one (.val (.int .i64))], bx := [(1012865, .row (.int .i64))], pins := [] }
noncomputable def oiOp_early_0 : Outs := [(.exit 0, { n := 61, regs := [u, .one (.val (.sl (.int .i64))), .one (.val (.int .i64)), .one (.fpt (.pair (.int .i64) (.pair (.int .i64) (.pair (.int .i64) (.pair (.int .i64) (.pair (.int .i64) (.pair (.int .i64) (.pair (.pair (.int .i64) (.pair (.int .i64) .unit)) .unit))))))))], bx := [], pins := [] }), (.ret, { n := 61, regs := [u, u, u, u, u, u, .one (.val (.int .i64))], bx := [], pins := [] })]
noncomputable def jiOp_early_16 : Outs := [(.normal, { n := 61, regs := [u, .one (.val (.sl (.int .i64))), u, .one (.fpt (.pair (.int .i64) (.pair (.int .i64) (.pair (.int .i64) (.pair (.int .i64) (.pair (.int .i64) (.pair (.int .i64) (.pair (.pair (.int .i64) (.pair (.int .i64) .unit)) .unit))))))))], bx := [], pins := [] }), (.ret, { n := 61, regs := [u, u, u, u, u, u, .one (.val (.int .i64))], bx := [], pins := [] })]
noncomputable def liOp_early_0 (N : Nat) : Nat → ((List Int) × (Int × ((Int × (Int × (Int × (Int × (Int × (Int × ((Int × (Int × Unit)) × Unit))))))) × (Int × (Int × ((List Int) × Unit)))))) → Option (((List Int) × (Int × ((Int × (Int × (Int × (Int × (Int × (Int × ((Int × (Int × Unit)) × Unit))))))) × Unit))) ⊕ (Int × Unit))
  | 0, _ => none
  | n + 1, v =>
    bif decide (v.2.2.2.2.1 < v.2.2.2.1) then
     bif decide (0 ≤ v.2.2.2.2.1) then
     bif decide (v.2.2.2.2.1.toNat < v.2.2.2.2.2.1.length) then
     let y2 := v.2.2.2.2.2.1.getD v.2.2.2.2.1.toNat (0 : Int)
     bif decide (y2 < (0 : Int)) then
      some (.inr (((2 : Int), ())))
     else
     bif decide (y2 ≥ (v.1.length : Int)) then
      some (.inr (((2 : Int), ())))
     else
     liOp_early_0 N n (v.1, v.2.1, v.2.2.1, v.2.2.2.1, w64 (v.2.2.2.2.1 + (1 : Int)), v.2.2.2.2.2.1, ())
     else none
     else none
    else
    some (.inl (v.1, v.2.1, v.2.2.1, ()))
noncomputable def FiOp_early (N : Nat) (x : ((Int × (Int × (Int × (Int × (Int × (Int × ((Int × (Int × Unit)) × Unit))))))) × ((List Int) × (Int × Unit)))) : Option (Int × Unit) :=
  (FiOp_handles N (x.1, ())).bind fun r1 =>
  (liOp_early_0 N N (x.2.1, x.2.2.1, x.1, (r1.1.length : Int), (0 : Int), r1.1, ())).bind fun o3 =>
  Sum.elim (fun o4 =>
   Option.bind (
    bif o4.2.2.1.1 == (8 : Int) then
     bif (o4.1.length : Int) == (0 : Int) then
      some (.inr (((2 : Int), ())))
     else
     some (.inl (o4.1, o4.2.2.1, ()))
    else
    bif o4.2.2.1.1 == (1 : Int) then
     some (.inl (o4.1, o4.2.2.1, ()))
    else
    bif o4.2.2.1.1 == (6 : Int) then
     some (.inl (o4.1, o4.2.2.1, ()))
    else
    bif o4.2.2.1.1 == (9 : Int) then
     some (.inl (o4.1, o4.2.2.1, ()))
    else
    bif decide (0 ≤ o4.2.2.1.2.1) then
    bif decide (o4.2.2.1.2.1.toNat < o4.1.length) then
    let y5 := o4.1.getD o4.2.2.1.2.1.toNat (0 : Int)
    bif y5 == o4.2.1 then
     some (.inr (((3 : Int), ())))
    else
    some (.inl (o4.1, o4.2.2.1, ()))
    else none
    else none) fun o6 =>
   Sum.elim (fun o7 =>
    bif o7.2.1.1 == (1 : Int) then
     let y8 := decide ((o7.1.length : Int) ≥ (8 : Int))
     bif y8 then
      some ((5 : Int), ())
     else
     some ((0 : Int), ())
    else
    bif o7.2.1.1 == (2 : Int) then
     let y9 := decide ((o7.1.length : Int) ≥ (8 : Int))
     bif y9 then
      some ((5 : Int), ())
     else
     some ((0 : Int), ())
    else
    bif o7.2.1.1 == (9 : Int) then
     let y10 := decide ((o7.1.length : Int) ≥ (8 : Int))
     bif y10 then
      some ((5 : Int), ())
     else
     some ((0 : Int), ())
    else
    some ((0 : Int), ())) (fun o11 =>
    some (o11.1, ())) o6) (fun o12 =>
   some (o12.1, ())) o3
noncomputable def coniOp_early (N : Nat) : Con := { f := 108, din := diniOp_early, outs := outiOp_early, F := FiOp_early N }
noncomputable def XiOp_early (N : Nat) : Ctx := { E := EiOp_early N, H := HiOp_early, lp := [(0, { hd := diOp_early_0, outs := oiOp_early_0, run := fun v => liOp_early_0 N N v })], jn := [(16, jiOp_early_16)] }
noncomputable def biOp_early_0 : Code := loopBody (codeOf Try.f108) 0
theorem FiOp_early_eq (N : Nat) (x : ((Int × (Int × (Int × (Int × (Int × (Int × ((Int × (Int × Unit)) × Unit))))))) × ((List Int) × (Int × Unit)))) : evFn (XiOp_early N) Try.f108 diniOp_early outiOp_early x = FiOp_early N x := by kernel_rfl
theorem liOp_early_0_eq (N n : Nat) (v : ((List Int) × (Int × ((Int × (Int × (Int × (Int × (Int × (Int × ((Int × (Int × Unit)) × Unit))))))) × (Int × (Int × ((List Int) × Unit))))))) : liOp_early_0 N (n + 1) v = ev (XiOp_early N) biOp_early_0 (roundK diOp_early_0 oiOp_early_0 (liOp_early_0 N n)) (diOp_early_0.mk' v) := by kernel_rfl
theorem cxiOp_early (N : Nat) : CtxOk Try.prog (XiOp_early N) := ⟨⟨TE_ok, List.forall_mem_cons.2 ⟨(speciOp_handles N), fun k hk => absurd hk List.not_mem_nil⟩⟩, mixed⟩
theorem lpiOp_early_0 (N : Nat) : LoopOk Try.prog { hd := diOp_early_0, outs := oiOp_early_0, run := fun v => liOp_early_0 N N v } biOp_early_0 :=
  loop_fuel (d := diOp_early_0) (os := oiOp_early_0) (cxiOp_early N) (loops_at (ids := []) (by kernel_rfl) (trivial)) (liOp_early_0 N) (fun _ => rfl) (fun n v => liOp_early_0_eq N n v) (fun _ => N)
theorem speciOp_early (N : Nat) : Spec Try.prog (coniOp_early N) :=
  Spec.of_eq (fn_spec (cxiOp_early N) (f := 108) (fn := Try.f108) (c := codeOf Try.f108) (by kernel_rfl) (by kernel_rfl) (by kernel_rfl) (loops_at (ids := [0]) (by kernel_rfl) ⟨lp_of (lpiOp_early_0 N), trivial⟩) (by kernel_rfl)) (fun x r h => (FiOp_early_eq N x).trans h)

/-! ### 109: impl.Op).field -/

noncomputable def diniOp_field : Desc := { n := 3, regs := [.one (.val (.pair (.int .i64) (.pair (.int .i64) (.pair (.int .i64) (.pair (.int .i64) (.pair (.int .i64) (.pair (.int .i64) (.pair (.pair (.int .i64) (.pair (.int .i64) .unit)) .unit)))))))), .one (.val (.int .i64)), .one (.val (.int .i64))], bx := [], pins := [] }
noncomputable def outiOp_field : Outs := [(.ret, { n := 1, regs := [.one (.val .bool)], bx := [], pins := [] })]
noncomputable def HiOp_field : Hints := [(0, [(0, { fz := true })])]
noncomputable def EiOp_field (_N : Nat) : Env := { te := TE, cs := [] }
noncomputable def FiOp_field (N : Nat) (x : ((Int × (Int × (Int × (Int × (Int × (Int × ((Int × (Int × Unit)) × Unit))))))) × (Int × (Int × Unit)))) : Option (Bool × Unit) :=
  bif x.1.1 == (2 : Int) then
   bif decide (x.1.2.2.2.2.1 ≥ (0 : Int)) then
    some (decide (x.1.2.2.2.2.1 < x.2.1), ())
   else
   some (false, ())
  else
  bif x.1.1 == (3 : Int) then
   bif decide (x.1.2.2.2.2.1 ≥ (0 : Int)) then
    some (decide (x.1.2.2.2.2.1 < x.2.1), ())
   else
   some (false, ())
  else
  bif x.1.1 == (7 : Int) then
   bif decide (x.1.2.2.2.2.1 ≥ (0 : Int)) then
    some (decide (x.1.2.2.2.2.1 < x.2.1), ())
   else
   some (false, ())
  else
  bif x.1.1 == (4 : Int) then
   bif decide (x.1.2.2.2.2.1 ≥ (0 : Int)) then
    some (decide (x.1.2.2.2.2.1 < x.2.2.1), ())
   else
   some (false, ())
  else
  bif x.1.1 == (5 : Int) then
   bif decide (x.1.2.2.2.2.1 ≥ (0 : Int)) then
    some (decide (x.1.2.2.2.2.1 < x.2.2.1), ())
   else
   some (false, ())
  else
  some (true, ())
noncomputable def coniOp_field (N : Nat) : Con := { f := 109, din := diniOp_field, outs := outiOp_field, F := FiOp_field N }
noncomputable def XiOp_field (N : Nat) : Ctx := { E := EiOp_field N, H := HiOp_field, lp := [], jn := [] }
theorem FiOp_field_eq (N : Nat) (x : ((Int × (Int × (Int × (Int × (Int × (Int × ((Int × (Int × Unit)) × Unit))))))) × (Int × (Int × Unit)))) : evFn (XiOp_field N) Try.f109 diniOp_field outiOp_field x = FiOp_field N x := by kernel_rfl
theorem cxiOp_field (N : Nat) : CtxOk Try.prog (XiOp_field N) := ⟨⟨TE_ok, fun k hk => absurd hk List.not_mem_nil⟩, mixed⟩
theorem speciOp_field (N : Nat) : Spec Try.prog (coniOp_field N) :=
  Spec.of_eq (fn_spec (cxiOp_field N) (f := 109) (fn := Try.f109) (c := codeOf Try.f109) (by kernel_rfl) (by kernel_rfl) (by kernel_rfl) (loops_at (ids := []) (by kernel_rfl) (trivial)) (by kernel_rfl)) (fun x r h => (FiOp_field_eq N x).trans h)

/-! ### 111: impl.truth -/

noncomputable def dinitruth : Desc := { n := 1, regs := [.one (.val .bool)], bx := [], pins := [] }
noncomputable def outitruth : Outs := [(.ret, { n := 1, regs := [.one (.val (.int .i64))], bx := [], pins := [] })]
noncomputable def Hitruth : Hints := []
noncomputable def Eitruth (_N : Nat) : Env := { te := TE, cs := [] }
noncomputable def Fitruth (N : Nat) (x : (Bool × Unit)) : Option (Int × Unit) :=
  bif x.1 then
   some ((1 : Int), ())
  else
  some ((0 : Int), ())
noncomputable def conitruth (N : Nat) : Con := { f := 111, din := dinitruth, outs := outitruth, F := Fitruth N }
noncomputable def Xitruth (N : Nat) : Ctx := { E := Eitruth N, H := Hitruth, lp := [], jn := [] }
theorem Fitruth_eq (N : Nat) (x : (Bool × Unit)) : evFn (Xitruth N) Try.f111 dinitruth outitruth x = Fitruth N x := by kernel_rfl
theorem cxitruth (N : Nat) : CtxOk Try.prog (Xitruth N) := ⟨⟨TE_ok, fun k hk => absurd hk List.not_mem_nil⟩, mixed⟩
theorem specitruth (N : Nat) : Spec Try.prog (conitruth N) :=
  Spec.of_eq (fn_spec (cxitruth N) (f := 111) (fn := Try.f111) (c := codeOf Try.f111) (by kernel_rfl) (by kernel_rfl) (by kernel_rfl) (loops_at (ids := []) (by kernel_rfl) (trivial)) (by kernel_rfl)) (fun x r h => (Fitruth_eq N x).trans h)

/-! ### 112: impl.lastOf -/

noncomputable def dinilastOf : Desc := { n := 2, regs := [.one (.val (.sl (.int .i64))), .one (.val (.int .i64))], bx := [], pins := [] }
noncomputable def outilastOf : Outs := [(.ret, { n := 1, regs := [.one (.val (.int .i64))], bx := [], pins := [] })]
noncomputable def HilastOf : Hints := []
noncomputable def EilastOf (_N : Nat) : Env := { te := TE, cs := [] }
noncomputable def dilastOf_0 : Desc := { n := 20, regs := [.one (.val (.sl (.int .i64))), .one (.val (.int .i64)), u, u, u, .one (.val (.int .i64))], bx := [], pins := [] }
noncomputable def oilastOf_0 : Outs := [(.exit 0, { n := 20, regs := [], bx := [], pins := [] }), (.ret, { n := 20, regs := [u, u, u, u, .one (.val (.int .i64))], bx := [], pins := [] })]
noncomputable def lilastOf_0 (N : Nat) : Nat → ((List Int) × (Int × (Int × Unit))) → Option (Unit ⊕ (Int × Unit))
  | 0, _ => none
  | n + 1, v =>
    bif decide (v.2.2.1 ≥ (0 : Int)) then
     bif decide (0 ≤ v.2.2.1) then
     bif decide (v.2.2.1.toNat < v.1.length) then
     let y1 := (v.1.getD v.2.2.1.toNat (0 : Int)) == v.2.1
     bif y1 then
      some (.inr ((v.2.2.1, ())))
     else
     lilastOf_0 N n (v.1, v.2.1, w64 (v.2.2.1 - (1 : Int)), ())
     else none
     else none
    else
    some (.inl ())
noncomputable def FilastOf (N : Nat) (x : ((List Int) × (Int × Unit))) : Option (Int × Unit) :=
  (lilastOf_0 N N (x.1, x.2.1, w64 ((x.1.length : Int) - (1 : Int)), ())).bind fun o2 =>
  Sum.elim (fun o3 =>
   some ((-1 : Int), ())) (fun o4 =>
   some (o4.1, ())) o2
noncomputable def conilastOf (N : Nat) : Con := { f := 112, din := dinilastOf, outs := outilastOf, F := FilastOf N }
noncomputable def XilastOf (N : Nat) : Ctx := { E := EilastOf N, H := HilastOf, lp := [(0, { hd := dilastOf_0, outs := oilastOf_0, run := fun v => lilastOf_0 N N v })], jn := [] }
noncomputable def bilastOf_0 : Code := loopBody (codeOf Try.f112) 0
theorem FilastOf_eq (N : Nat) (x : ((List Int) × (Int × Unit))) : evFn (XilastOf N) Try.f112 dinilastOf outilastOf x = FilastOf N x := by kernel_rfl
theorem lilastOf_0_eq (N n : Nat) (v : ((List Int) × (Int × (Int × Unit)))) : lilastOf_0 N (n + 1) v = ev (XilastOf N) bilastOf_0 (roundK dilastOf_0 oilastOf_0 (lilastOf_0 N n)) (dilastOf_0.mk' v) := by kernel_rfl
theorem cxilastOf (N : Nat) : CtxOk Try.prog (XilastOf N) := ⟨⟨TE_ok, fun k hk => absurd hk List.not_mem_nil⟩, mixed⟩
theorem lpilastOf_0 (N : Nat) : LoopOk Try.prog { hd := dilastOf_0, outs := oilastOf_0, run := fun v => lilastOf_0 N N v } bilastOf_0 :=
  loop_fuel (d := dilastOf_0) (os := oilastOf_0) (cxilastOf N) (loops_at (ids := []) (by kernel_rfl) (trivial)) (lilastOf_0 N) (fun _ => rfl) (fun n v => lilastOf_0_eq N n v) (fun _ => N)
theorem specilastOf (N : Nat) : Spec Try.prog (conilastOf N) :=
  Spec.of_eq (fn_spec (cxilastOf N) (f := 112) (fn := Try.f112) (c := codeOf Try.f112) (by kernel_rfl) (by kernel_rfl) (by kernel_rfl) (loops_at (ids := [0]) (by kernel_rfl) ⟨lp_of (lpilastOf_0 N), trivial⟩) (by kernel_rfl)) (fun x r h => (FilastOf_eq N x).trans h)

/-! ### 113: slices.Delete[[]int,int] -/

noncomputable def dinkDelete_Sint_int : Desc := { n := 3, regs := [.one (.lit (.row 0)), .one (.val (.int .i64)), .one (.val (.int .i64))], bx := [(0, .row (.int .i64))], pins := [] }
noncomputable def outkDelete_Sint_int : Outs := [(.ret, { n := 1, regs := [.one (.lit (.row 0))], bx := [(0, .row (.int .i64))], pins := [] })]
noncomputable def HkDelete_Sint_int : Hints := [(7, [(1, { dp := true })])]
noncomputable def EkDelete_Sint_int (_N : Nat) : Env := { te := TE, cs := [] }
noncomputable def FkDelete_Sint_int (N : Nat) (x : (Int × (Int × ((List Int) × Unit)))) : Option ((List Int) × Unit) :=
  bif decide (0 ≤ x.1) then
  bif decide (x.1 ≤ x.2.1) then
  bif decide (x.2.1 ≤ (x.2.2.1.length : Int)) then
  bif decide ((x.2.2.1.length : Int) ≤ (x.2.2.1.length : Int)) then
  bif x.1 == x.2.1 then
   some (x.2.2.1, ())
  else
  bif decide (0 ≤ x.1) then
  bif decide (x.1 ≤ (x.2.2.1.length : Int)) then
  bif decide (0 ≤ (0 : Int)) then
  bif decide ((0 : Int) ≤ x.1) then
  bif decide (0 ≤ (x.2.2.1.length : Int)) then
  bif decide ((x.2.2.1.length : Int) ≤ (x.2.2.1.length : Int)) then
  bif decide (0 ≤ x.2.1) then
  bif decide (x.2.1 ≤ (x.2.2.1.length : Int)) then
  bif decide ((x.1.toNat - (0 : Int).toNat) + ((x.2.2.1.drop x.2.1.toNat).take ((x.2.2.1.length : Int).toNat - x.2.1.toNat)).length ≤ x.2.2.1.length) then
  let y1 := lay x.2.2.1 (x.1.toNat - (0 : Int).toNat) ((x.2.2.1.drop x.2.1.toNat).take ((x.2.2.1.length : Int).toNat - x.2.1.toNat))
  let y2 := ((((x.1.toNat - (0 : Int).toNat) + ((x.2.2.1.drop x.2.1.toNat).take ((x.2.2.1.length : Int).toNat - x.2.1.toNat)).length) : Nat) : Int)
  bif decide (0 ≤ (x.2.2.1.length : Int)) then
  bif decide ((x.2.2.1.length : Int) ≤ ((y1.length : Nat) : Int)) then
  bif decide (0 ≤ y2) then
  bif decide (y2 ≤ (x.2.2.1.length : Int)) then
  let y3 := lay y1 y2.toNat (List.replicate ((x.2.2.1.length : Int).toNat - y2.toNat) (0 : Int))
  let y4 := y3.take ((x.1.toNat - (0 : Int).toNat) + ((x.2.2.1.drop x.2.1.toNat).take ((x.2.2.1.length : Int).toNat - x.2.1.toNat)).length)
  some (y4, ())
  else none
  else none
  else none
  else none
  else none
  else none
  else none
  else none
  else none
  else none
  else none
  else none
  else none
  else none
  else none
  else none
  else none
noncomputable def conkDelete_Sint_int (N : Nat) : Con := { f := 113, din := dinkDelete_Sint_int, outs := outkDelete_Sint_int, F := FkDelete_Sint_int N }
noncomputable def XkDelete_Sint_int (N : Nat) : Ctx := { E := EkDelete_Sint_int N, H := HkDelete_Sint_int, lp := [], jn := [] }
theorem FkDelete_Sint_int_eq (N : Nat) (x : (Int × (Int × ((List Int) × Unit)))) : evFn (XkDelete_Sint_int N) Try.f113 dinkDelete_Sint_int outkDelete_Sint_int x = FkDelete_Sint_int N x := by kernel_rfl
theorem cxkDelete_Sint_int (N : Nat) : CtxOk Try.prog (XkDelete_Sint_int N) := ⟨⟨TE_ok, fun k hk => absurd hk List.not_mem_nil⟩, mixed⟩
theorem speckDelete_Sint_int (N : Nat) : Spec Try.prog (conkDelete_Sint_int N) :=
  Spec.of_eq (fn_spec (cxkDelete_Sint_int N) (f := 113) (fn := Try.f113) (c := codeOf Try.f113) (by kernel_rfl) (by kernel_rfl) (by kernel_rfl) (loops_at (ids := []) (by kernel_rfl) (trivial)) (by kernel_rfl)) (fun x r h => (FkDelete_Sint_int_eq N x).trans h)

/-! ### 51: impl.GraphDo -/

noncomputable def diniGraphDo : Desc := { n := 3, regs := [.one (.val (.pair (.sl (.pair (.sl (.int .i64)) (.pair (.sl (.int .i64)) .unit))) (.pair (.sl (.sl (.int .i64))) (.pair (.sl (.int .i64)) .unit)))), .one (.val (.int .i64)), .one (.val (.pair (.int .i64) (.pair (.int .i64) (.pair (.int .i64) (.pair (.int .i64) (.pair (.int .i64) (.pair (.int .i64) (.pair (.pair (.int .i64) (.pair (.int .i64) .unit)) .unit))))))))], bx := [], pins := [] }
noncomputable def outiGraphDo : Outs := [(.ret, { n := 3, regs := [.agg [.lit (.row 1038465), .lit (.row 1038466), .lit (.row 1038467)], .one (.val (.int .i64)), .one (.val (.int .i64))], bx := [(1038465, .row (.pair (.sl (.int .i64)) (.pair (.sl (.int .i64)) .unit))), (1038466, .row (.sl (.int .i64))), (1038467, .row (.int .i64))], pins := [] })]
noncomputable def HiGraphDo : Hints := [(0, [(0, { fz := true }), (1, { fz := true })]),
  (1, [(16, { con := 1 })]),
  (2, [(0, { nl := [(0, (.pair (.sl (.int .i64)) (.pair (.sl (.int .i64)) .unit))), (1, (.sl (.int .i64))), (2, (.int .i64))] })]),
  (3, [(1, { con := 2 })]),
  (5, [(4, { con := 3 })]),
  (14, [(11, { con := 4 })]),
  (21, [(5, { con := 5 }), (11, { dp := true }), (12, { dp := true })]),
  (31, [(10, { con := 6 })]),
  (45, [(3, { con := 7 })]),
  (48, [(5, { con := 8, sg := [(0, 1038467)] })])]
noncomputable def EiGraphDo (N : Nat) : Env := { te := TE, cs := [coniGraphOk N, coniOpOk N, coniGraph_copy N, coniOp_early N, coniOp_field N, coninone N, conitruth N, conilastOf N, conkDelete_Sint_int N] }
noncomputable def jiGraphDo_3 : Outs := [(.normal, { n := 272, regs := [u, .one (.val (.int .i64)), u, .one (.fpt (.pair (.sl (.pair (.sl (.int .i64)) (.pair (.sl (.int .i64)) .unit))) (.pair (.sl (.sl (.int .i64))) (.pair (.sl (.int .i64)) .unit)))), u, .one (.fpt (.pair (.int .i64) (.pair (.int .i64) (.pair (.int .i64) (.pair (.int .i64) (.pair (.int .i64) (.pair (.int .i64) (.pair (.pair (.int .i64) (.pair (.int .i64) .unit)) .unit)))))))), .one (.lit (.ptr 1000128 0))], bx := [(1000128, .var [.lit .nil, .lit .nil, .lit .nil])], pins := [] }), (.ret, { n := 272, regs := [u, u, u, u, u, u, .one (.lit (.ptr 1000128 0)), .one (.val (.int .i64)), .one (.val (.int .i64))], bx := [(1000128, .var [.lit (.row 1025601), .lit (.row 1025602), .lit (.row 1025603)]), (1025601, .row (.pair (.sl (.int .i64)) (.pair (.sl (.int .i64)) .unit))), (1025602, .row (.sl (.int .i64))), (1025603, .row (.int .i64))], pins := [] })]
noncomputable def jiGraphDo_12 : Outs := [(.normal, { n := 272, regs := [u, u, u, u, u, .one (.fpt (.pair (.int .i64) (.pair (.int .i64) (.pair (.int .i64) (.pair (.int .i64) (.pair (.int .i64) (.pair (.int .i64) (.pair (.pair (.int .i64) (.pair (.int .i64) .unit)) .unit)))))))), .one (.lit (.ptr 1000128 0)), u, u, .one (.lit (.ptr 1038528 0)), .one (.ept 1038466 0), u, .one (.lit .pnil), .one (.val (.int .i64))], bx := [(1000128, .var [.lit .nil, .lit .nil, .lit .nil]), (1038528, .var [.lit (.row 1038465), .lit (.row 1038466), .lit (.row 1038467)]), (1038465, .row (.pair (.sl (.int .i64)) (.pair (.sl (.int .i64)) .unit))), (1038466, .row (.sl (.int .i64))), (1038467, .row (.int .i64))], pins := [] })]
noncomputable def FiGraphDo (N : Nat) (x : (((List ((List Int) × ((List Int) × Unit))) × ((List (List Int)) × ((List Int) × Unit))) × (Int × ((Int × (Int × (Int × (Int × (Int × (Int × ((Int × (Int × Unit)) × Unit))))))) × Unit)))) : Option (Int × (Int × ((List ((List Int) × ((List Int) × Unit))) × ((List (List Int)) × ((List Int) × Unit))))) :=
  Option.bind (
   (FiGraphOk N (x.1, ())).bind fun r1 =>
   bif !r1.1 then
    let y2 := ([] : (List ((List Int) × ((List Int) × Unit))))
    some (.inr (((0 : Int), (1 : Int), y2, ([] : (List (List Int))), ([] : (List Int)), ())))
   else
   bif decide (x.2.1 < (0 : Int)) then
    let y3 := ([] : (List ((List Int) × ((List Int) × Unit))))
    some (.inr (((0 : Int), (1 : Int), y3, ([] : (List (List Int))), ([] : (List Int)), ())))
   else
   let y4 := decide (x.2.1 ≥ (x.1.2.1.length : Int))
   bif y4 then
    let y5 := ([] : (List ((List Int) × ((List Int) × Unit))))
    some (.inr (((0 : Int), (1 : Int), y5, ([] : (List (List Int))), ([] : (List Int)), ())))
   else
   (FiOpOk N (x.2.2.1, ())).bind fun r6 =>
   bif !r6.1 then
    let y7 := ([] : (List ((List Int) × ((List Int) × Unit))))
    some (.inr (((0 : Int), (1 : Int), y7, ([] : (List (List Int))), ([] : (List Int)), ())))
   else
   some (.inl (x.2.1, x.1, x.2.2.1, ()))) fun o8 =>
  Sum.elim (fun o9 =>
   (FiGraph_copy N (o9.2.1, ())).bind fun r10 =>
   bif decide (0 ≤ o9.1) then
   bif decide (o9.1.toNat < r10.2.1.length) then
   (FiOp_early N (o9.2.2.1, r10.2.1.getD o9.1.toNat ([] : (List Int)), (-1 : Int), ())).bind fun r11 =>
   bif r11.1 != (0 : Int) then
    some ((0 : Int), r11.1, r10.1, r10.2.1, r10.2.2.1, ())
   else
   Option.bind (
    bif o9.2.2.1.1 != (1 : Int) then
     bif o9.2.2.1.1 != (8 : Int) then
      bif decide (0 ≤ o9.2.2.1.2.1) then
      bif decide (o9.2.2.1.2.1.toNat < (r10.2.1.getD o9.1.toNat ([] : (List Int))).length) then
      let y12 := (r10.2.1.getD o9.1.toNat ([] : (List Int))).getD o9.2.2.1.2.1.toNat (0 : Int)
      some (o9.2.2.1, Int.ofNat o9.1.toNat, y12, r10.1, r10.2.1, r10.2.2.1, ())
      else none
      else none
     else
     some (o9.2.2.1, Int.ofNat o9.1.toNat, (-1 : Int), r10.1, r10.2.1, r10.2.2.1, ())
    else
    some (o9.2.2.1, Int.ofNat o9.1.toNat, (-1 : Int), r10.1, r10.2.1, r10.2.2.1, ())) fun o13 =>
   bif decide (o13.2.2.1 ≥ (0 : Int)) then
    bif decide (0 ≤ o13.2.2.1) then
    bif decide (o13.2.2.1.toNat < o13.2.2.2.1.length) then
    let y14 := (((o13.2.2.2.1.getD o13.2.2.1.toNat (([] : (List Int)), ([] : (List Int)), ())).1).length : Int)
    let y15 := ((((o13.2.2.2.1.getD o13.2.2.1.toNat (([] : (List Int)), ([] : (List Int)), ())).2).1).length : Int)
    (FiOp_field N (o13.1, y14, y15, ())).bind fun r16 =>
    bif !r16.1 then
     some ((0 : Int), (4 : Int), o13.2.2.2.1, o13.2.2.2.2.1, o13.2.2.2.2.2.1, ())
    else
    bif o13.1.1 == (1 : Int) then
     let y17 := (o13.2.2.2.1.length : Int) == (200 : Int)
     bif y17 then
      some ((0 : Int), (6 : Int), o13.2.2.2.1, o13.2.2.2.2.1, o13.2.2.2.2.2.1, ())
     else
     bif decide ((o13.2.2.2.2.1.getD o13.2.1.toNat ([] : (List Int))).length + [(o13.2.2.2.1.length : Int)].length ≤ lim) then
     let y18 := (o13.2.2.2.2.1.getD o13.2.1.toNat ([] : (List Int))) ++ [(o13.2.2.2.1.length : Int)]
     bif decide (o13.2.1.toNat = o13.2.1.toNat) then
     (Finone N (o13.1.2.2.2.2.2.2.1.1, ())).bind fun r19 =>
     bif decide (0 ≤ o13.1.2.2.2.2.2.2.1.2.1) then
     bif decide (o13.1.2.2.2.2.2.2.1.2.1.toNat ≤ lim) then
     let y20 := List.replicate o13.1.2.2.2.2.2.2.1.2.1.toNat (0 : Int)
     bif decide (o13.2.2.2.1.length + [(r19.1, y20, ())].length ≤ lim) then
     some ((0 : Int), (0 : Int), o13.2.2.2.1 ++ [(r19.1, y20, ())], o13.2.2.2.2.1.set o13.2.1.toNat y18, o13.2.2.2.2.2.1, ())
     else none
     else none
     else none
     else none
     else none
    else
    bif o13.1.1 == (2 : Int) then
     bif decide (0 ≤ o13.1.2.2.2.2.1) then
     bif decide (o13.1.2.2.2.2.1.toNat < ((o13.2.2.2.1.getD o13.2.2.1.toNat (([] : (List Int)), ([] : (List Int)), ())).1).length) then
     let y21 := ((o13.2.2.2.1.getD o13.2.2.1.toNat (([] : (List Int)), ([] : (List Int)), ())).1).getD o13.1.2.2.2.2.1.toNat (0 : Int)
     bif decide ((o13.2.2.2.2.1.getD o13.2.1.toNat ([] : (List Int))).length + [y21].length ≤ lim) then
     let y22 := (o13.2.2.2.2.1.getD o13.2.1.toNat ([] : (List Int))) ++ [y21]
     bif decide (o13.2.1.toNat = o13.2.1.toNat) then
     some ((0 : Int), (0 : Int), o13.2.2.2.1, o13.2.2.2.2.1.set o13.2.1.toNat y22, o13.2.2.2.2.2.1, ())
     else none
     else none
     else none
     else none
    else
    bif o13.1.1 == (3 : Int) then
     bif decide (0 ≤ o13.1.2.2.1) then
     bif decide (o13.1.2.2.1.toNat < (o13.2.2.2.2.1.getD o13.2.1.toNat ([] : (List Int))).length) then
     let y23 := (o13.2.2.2.2.1.getD o13.2.1.toNat ([] : (List Int))).getD o13.1.2.2.1.toNat (0 : Int)
     bif decide (0 ≤ o13.1.2.2.2.2.1) then
     bif decide (o13.1.2.2.2.2.1.toNat < ((o13.2.2.2.1.getD o13.2.2.1.toNat (([] : (List Int)), ([] : (List Int)), ())).1).length) then
     let y24 := o13.2.2.2.1.set o13.2.2.1.toNat (((o13.2.2.2.1.getD o13.2.2.1.toNat (([] : (List Int)), ([] : (List Int)), ())).1).set o13.1.2.2.2.2.1.toNat y23, (o13.2.2.2.1.getD o13.2.2.1.toNat (([] : (List Int)), ([] : (List Int)), ())).2)
     some ((0 : Int), (0 : Int), y24, o13.2.2.2.2.1, o13.2.2.2.2.2.1, ())
     else none
     else none
     else none
     else none
    else
    bif o13.1.1 == (4 : Int) then
     bif decide (0 ≤ o13.1.2.2.2.2.1) then
     bif decide (o13.1.2.2.2.2.1.toNat < (((o13.2.2.2.1.getD o13.2.2.1.toNat (([] : (List Int)), ([] : (List Int)), ())).2).1).length) then
     let y25 := o13.2.2.2.1.set o13.2.2.1.toNat ((o13.2.2.2.1.getD o13.2.2.1.toNat (([] : (List Int)), ([] : (List Int)), ())).1, (((o13.2.2.2.1.getD o13.2.2.1.toNat (([] : (List Int)), ([] : (List Int)), ())).2).1).set o13.1.2.2.2.2.1.toNat o13.1.2.2.2.2.2.1, ((o13.2.2.2.1.getD o13.2.2.1.toNat (([] : (List Int)), ([] : (List Int)), ())).2).2)
     some ((0 : Int), (0 : Int), y25, o13.2.2.2.2.1, o13.2.2.2.2.2.1, ())
     else none
     else none
    else
    bif o13.1.1 == (5 : Int) then
     bif decide (0 ≤ o13.1.2.2.2.2.1) then
     bif decide (o13.1.2.2.2.2.1.toNat < (((o13.2.2.2.1.getD o13.2.2.1.toNat (([] : (List Int)), ([] : (List Int)), ())).2).1).length) then
     let y26 := (((o13.2.2.2.1.getD o13.2.2.1.toNat (([] : (List Int)), ([] : (List Int)), ())).2).1).getD o13.1.2.2.2.2.1.toNat (0 : Int)
     some (y26, (0 : Int), o13.2.2.2.1, o13.2.2.2.2.1, o13.2.2.2.2.2.1, ())
     else none
     else none
    else
    bif o13.1.1 == (6 : Int) then
     bif decide (0 ≤ o13.1.2.2.1) then
     bif decide (o13.1.2.2.1.toNat < (o13.2.2.2.2.1.getD o13.2.1.toNat ([] : (List Int))).length) then
     let y27 := (o13.2.2.2.2.1.getD o13.2.1.toNat ([] : (List Int))).getD o13.1.2.2.1.toNat (0 : Int)
     (Fitruth N (o13.2.2.1 == y27, ())).bind fun r28 =>
     some (r28.1, (0 : Int), o13.2.2.2.1, o13.2.2.2.2.1, o13.2.2.2.2.2.1, ())
     else none
     else none
    else
    bif o13.1.1 == (7 : Int) then
     bif decide (0 ≤ o13.1.2.2.2.2.1) then
     bif decide (o13.1.2.2.2.2.1.toNat < ((o13.2.2.2.1.getD o13.2.2.1.toNat (([] : (List Int)), ([] : (List Int)), ())).1).length) then
     let y29 := ((o13.2.2.2.1.getD o13.2.2.1.toNat (([] : (List Int)), ([] : (List Int)), ())).1).getD o13.1.2.2.2.2.1.toNat (0 : Int)
     bif decide (0 ≤ o13.1.2.2.1) then
     bif decide (o13.1.2.2.1.toNat < (o13.2.2.2.2.1.getD o13.2.1.toNat ([] : (List Int))).length) then
     let y30 := (o13.2.2.2.2.1.getD o13.2.1.toNat ([] : (List Int))).getD o13.1.2.2.1.toNat (0 : Int)
     bif y29 != y30 then
      some ((0 : Int), (0 : Int), o13.2.2.2.1, o13.2.2.2.2.1, o13.2.2.2.2.2.1, ())
     else
     bif decide (0 ≤ o13.1.2.2.2.1) then
     bif decide (o13.1.2.2.2.1.toNat < (o13.2.2.2.2.1.getD o13.2.1.toNat ([] : (List Int))).length) then
     let y31 := (o13.2.2.2.2.1.getD o13.2.1.toNat ([] : (List Int))).getD o13.1.2.2.2.1.toNat (0 : Int)
     bif decide (0 ≤ o13.1.2.2.2.2.1) then
     bif decide (o13.1.2.2.2.2.1.toNat < ((o13.2.2.2.1.getD o13.2.2.1.toNat (([] : (List Int)), ([] : (List Int)), ())).1).length) then
     let y32 := o13.2.2.2.1.set o13.2.2.1.toNat (((o13.2.2.2.1.getD o13.2.2.1.toNat (([] : (List Int)), ([] : (List Int)), ())).1).set o13.1.2.2.2.2.1.toNat y31, (o13.2.2.2.1.getD o13.2.2.1.toNat (([] : (List Int)), ([] : (List Int)), ())).2)
     some ((1 : Int), (0 : Int), y32, o13.2.2.2.2.1, o13.2.2.2.2.2.1, ())
     else none
     else none
     else none
     else none
     else none
     else none
     else none
     else none
    else
    bif o13.1.1 == (8 : Int) then
     let y33 := ((o13.2.2.2.2.1.getD o13.2.1.toNat ([] : (List Int))).length : Int)
     bif decide (0 ≤ (w64 (y33 - (1 : Int)))) then
     bif decide ((w64 (y33 - (1 : Int))) ≤ ((o13.2.2.2.2.1.getD o13.2.1.toNat ([] : (List Int))).length : Int)) then
     bif decide (0 ≤ (0 : Int)) then
     bif decide ((0 : Int) ≤ (w64 (y33 - (1 : Int)))) then
     bif decide (o13.2.1.toNat = o13.2.1.toNat) then
     let y34 := o13.2.2.2.2.1.set o13.2.1.toNat ((o13.2.2.2.2.1.getD o13.2.1.toNat ([] : (List Int))).take ((w64 (y33 - (1 : Int))).toNat))
     some ((0 : Int), (0 : Int), o13.2.2.2.1, y34, o13.2.2.2.2.2.1, ())
     else none
     else none
     else none
     else none
     else none
    else
    bif o13.1.1 == (9 : Int) then
     bif decide ((o13.2.2.2.2.1.getD o13.2.1.toNat ([] : (List Int))).length + [o13.2.2.1].length ≤ lim) then
     let y35 := (o13.2.2.2.2.1.getD o13.2.1.toNat ([] : (List Int))) ++ [o13.2.2.1]
     bif decide (o13.2.1.toNat = o13.2.1.toNat) then
     some ((0 : Int), (0 : Int), o13.2.2.2.1, o13.2.2.2.2.1.set o13.2.1.toNat y35, o13.2.2.2.2.2.1, ())
     else none
     else none
    else
    bif o13.1.1 == (10 : Int) then
     let y36 := (o13.2.2.2.2.2.1.length : Int) == (8 : Int)
     bif y36 then
      some ((0 : Int), (7 : Int), o13.2.2.2.1, o13.2.2.2.2.1, o13.2.2.2.2.2.1, ())
     else
     bif decide (o13.2.2.2.2.2.1.length + [o13.2.2.1].length ≤ lim) then
     some ((0 : Int), (0 : Int), o13.2.2.2.1, o13.2.2.2.2.1, o13.2.2.2.2.2.1 ++ [o13.2.2.1], ())
     else none
    else
    bif o13.1.1 == (11 : Int) then
     (FilastOf N (o13.2.2.2.2.2.1, o13.2.2.1, ())).bind fun r37 =>
     bif decide (r37.1 < (0 : Int)) then
      some ((0 : Int), (7 : Int), o13.2.2.2.1, o13.2.2.2.2.1, o13.2.2.2.2.2.1, ())
     else
     (FkDelete_Sint_int N (r37.1, w64 (r37.1 + (1 : Int)), o13.2.2.2.2.2.1, ())).bind fun r38 =>
     some ((0 : Int), (0 : Int), o13.2.2.2.1, o13.2.2.2.2.1, r38.1, ())
    else
    some ((0 : Int), (0 : Int), o13.2.2.2.1, o13.2.2.2.2.1, o13.2.2.2.2.2.1, ())
    else none
    else none
   else
   bif o13.1.1 == (1 : Int) then
    let y39 := (o13.2.2.2.1.length : Int) == (200 : Int)
    bif y39 then
     some ((0 : Int), (6 : Int), o13.2.2.2.1, o13.2.2.2.2.1, o13.2.2.2.2.2.1, ())
    else
    bif decide ((o13.2.2.2.2.1.getD o13.2.1.toNat ([] : (List Int))).length + [(o13.2.2.2.1.length : Int)].length ≤ lim) then
    let y40 := (o13.2.2.2.2.1.getD o13.2.1.toNat ([] : (List Int))) ++ [(o13.2.2.2.1.length : Int)]
    bif decide (o13.2.1.toNat = o13.2.1.toNat) then
    (Finone N (o13.1.2.2.2.2.2.2.1.1, ())).bind fun r41 =>
    bif decide (0 ≤ o13.1.2.2.2.2.2.2.1.2.1) then
    bif decide (o13.1.2.2.2.2.2.2.1.2.1.toNat ≤ lim) then
    let y42 := List.replicate o13.1.2.2.2.2.2.2.1.2.1.toNat (0 : Int)
    bif decide (o13.2.2.2.1.length + [(r41.1, y42, ())].length ≤ lim) then
    some ((0 : Int), (0 : Int), o13.2.2.2.1 ++ [(r41.1, y42, ())], o13.2.2.2.2.1.set o13.2.1.toNat y40, o13.2.2.2.2.2.1, ())
    else none
    else none
    else none
    else none
    else none
   else
   bif o13.1.1 == (2 : Int) then
    none
   else
   bif o13.1.1 == (3 : Int) then
    none
   else
   bif o13.1.1 == (4 : Int) then
    none
   else
   bif o13.1.1 == (5 : Int) then
    none
   else
   bif o13.1.1 == (6 : Int) then
    bif decide (0 ≤ o13.1.2.2.1) then
    bif decide (o13.1.2.2.1.toNat < (o13.2.2.2.2.1.getD o13.2.1.toNat ([] : (List Int))).length) then
    let y43 := (o13.2.2.2.2.1.getD o13.2.1.toNat ([] : (List Int))).getD o13.1.2.2.1.toNat (0 : Int)
    (Fitruth N (o13.2.2.1 == y43, ())).bind fun r44 =>
    some (r44.1, (0 : Int), o13.2.2.2.1, o13.2.2.2.2.1, o13.2.2.2.2.2.1, ())
    else none
    else none
   else
   bif o13.1.1 == (7 : Int) then
    none
   else
   bif o13.1.1 == (8 : Int) then
    let y45 := ((o13.2.2.2.2.1.getD o13.2.1.toNat ([] : (List Int))).length : Int)
    bif decide (0 ≤ (w64 (y45 - (1 : Int)))) then
    bif decide ((w64 (y45 - (1 : Int))) ≤ ((o13.2.2.2.2.1.getD o13.2.1.toNat ([] : (List Int))).length : Int)) then
    bif decide (0 ≤ (0 : Int)) then
    bif decide ((0 : Int) ≤ (w64 (y45 - (1 : Int)))) then
    bif decide (o13.2.1.toNat = o13.2.1.toNat) then
    let y46 := o13.2.2.2.2.1.set o13.2.1.toNat ((o13.2.2.2.2.1.getD o13.2.1.toNat ([] : (List Int))).take ((w64 (y45 - (1 : Int))).toNat))
    some ((0 : Int), (0 : Int), o13.2.2.2.1, y46, o13.2.2.2.2.2.1, ())
    else none
    else none
    else none
    else none
    else none
   else
   bif o13.1.1 == (9 : Int) then
    bif decide ((o13.2.2.2.2.1.getD o13.2.1.toNat ([] : (List Int))).length + [o13.2.2.1].length ≤ lim) then
    let y47 := (o13.2.2.2.2.1.getD o13.2.1.toNat ([] : (List Int))) ++ [o13.2.2.1]
    bif decide (o13.2.1.toNat = o13.2.1.toNat) then
    some ((0 : Int), (0 : Int), o13.2.2.2.1, o13.2.2.2.2.1.set o13.2.1.toNat y47, o13.2.2.2.2.2.1, ())
    else none
    else none
   else
   bif o13.1.1 == (10 : Int) then
    let y48 := (o13.2.2.2.2.2.1.length : Int) == (8 : Int)
    bif y48 then
     some ((0 : Int), (7 : Int), o13.2.2.2.1, o13.2.2.2.2.1, o13.2.2.2.2.2.1, ())
    else
    bif decide (o13.2.2.2.2.2.1.length + [o13.2.2.1].length ≤ lim) then
    some ((0 : Int), (0 : Int), o13.2.2.2.1, o13.2.2.2.2.1, o13.2.2.2.2.2.1 ++ [o13.2.2.1], ())
    else none
   else
   bif o13.1.1 == (11 : Int) then
    (FilastOf N (o13.2.2.2.2.2.1, o13.2.2.1, ())).bind fun r49 =>
    bif decide (r49.1 < (0 : Int)) then
     some ((0 : Int), (7 : Int), o13.2.2.2.1, o13.2.2.2.2.1, o13.2.2.2.2.2.1, ())
    else
    (FkDelete_Sint_int N (r49.1, w64 (r49.1 + (1 : Int)), o13.2.2.2.2.2.1, ())).bind fun r50 =>
    some ((0 : Int), (0 : Int), o13.2.2.2.1, o13.2.2.2.2.1, r50.1, ())
   else
   some ((0 : Int), (0 : Int), o13.2.2.2.1, o13.2.2.2.2.1, o13.2.2.2.2.2.1, ())
   else none
   else none) (fun o51 =>
   some (o51.1, o51.2.1, o51.2.2.1, o51.2.2.2.1, o51.2.2.2.2.1, ())) o8
noncomputable def coniGraphDo (N : Nat) : Con := { f := 51, din := diniGraphDo, outs := outiGraphDo, F := FiGraphDo N }
noncomputable def XiGraphDo (N : Nat) : Ctx := { E := EiGraphDo N, H := HiGraphDo, lp := [], jn := [(3, jiGraphDo_3), (12, jiGraphDo_12)] }
theorem FiGraphDo_eq (N : Nat) (x : (((List ((List Int) × ((List Int) × Unit))) × ((List (List Int)) × ((List Int) × Unit))) × (Int × ((Int × (Int × (Int × (Int × (Int × (Int × ((Int × (Int × Unit)) × Unit))))))) × Unit)))) : evFn (XiGraphDo N) Try.f51 diniGraphDo outiGraphDo x = FiGraphDo N x := by kernel_rfl
theorem cxiGraphDo (N : Nat) : CtxOk Try.prog (XiGraphDo N) := ⟨⟨TE_ok, List.forall_mem_cons.2 ⟨(speciGraphOk N), List.forall_mem_cons.2 ⟨(speciOpOk N), List.forall_mem_cons.2 ⟨(speciGraph_copy N), List.forall_mem_cons.2 ⟨(speciOp_early N), List.forall_mem_cons.2 ⟨(speciOp_field N), List.forall_mem_cons.2 ⟨(specinone N), List.forall_mem_cons.2 ⟨(specitruth N), List.forall_mem_cons.2 ⟨(specilastOf N), List.forall_mem_cons.2 ⟨(speckDelete_Sint_int N), fun k hk => absurd hk List.not_mem_nil⟩⟩⟩⟩⟩⟩⟩⟩⟩⟩, mixed⟩
theorem speciGraphDo (N : Nat) : Spec Try.prog (coniGraphDo N) :=
  Spec.of_eq (fn_spec (cxiGraphDo N) (f := 51) (fn := Try.f51) (c := codeOf Try.f51) (by kernel_rfl) (by kernel_rfl) (by kernel_rfl) (loops_at (ids := []) (by kernel_rfl) (trivial)) (by kernel_rfl)) (fun x r h => (FiGraphDo_eq N x).trans h)

/-! ### 97: impl.AllCount$1 -/

noncomputable def diniAllCount_1 : Desc := { n := 2, regs := [.one (.val (.pair (.sl (.pair (.sl (.int .i64)) (.pair (.sl (.int .i64)) .unit))) (.pair (.sl (.sl (.int .i64))) (.pair (.sl (.int .i64)) .unit)))), .one (.lit (.ptr 64 0))], bx := [(64, .var [.val (.int .i64)])], pins := [] }
noncomputable def outiAllCount_1 : Outs := [(.ret, { n := 0, regs := [], bx := [(64, .var [.val (.int .i64)])], pins := [u, .one (.lit (.ptr 64 0))] })]
noncomputable def HiAllCount_1 : Hints := [(0, [(0, { fz := true })])]
noncomputable def EiAllCount_1 (_N : Nat) : Env := { te := TE, cs := [] }
noncomputable def FiAllCount_1 (N : Nat) (x : (((List ((List Int) × ((List Int) × Unit))) × ((List (List Int)) × ((List Int) × Unit))) × (Int × Unit))) : Option (Int × Unit) :=
  some (w64 (x.2.1 + (1 : Int)), ())
noncomputable def coniAllCount_1 (N : Nat) : Con := { f := 97, din := diniAllCount_1, outs := outiAllCount_1, F := FiAllCount_1 N }
noncomputable def XiAllCount_1 (N : Nat) : Ctx := { E := EiAllCount_1 N, H := HiAllCount_1, lp := [], jn := [] }
theorem FiAllCount_1_eq (N : Nat) (x : (((List ((List Int) × ((List Int) × Unit))) × ((List (List Int)) × ((List Int) × Unit))) × (Int × Unit))) : evFn (XiAllCount_1 N) Try.f97 diniAllCount_1 outiAllCount_1 x = FiAllCount_1 N x := by kernel_rfl
theorem cxiAllCount_1 (N : Nat) : CtxOk Try.prog (XiAllCount_1 N) := ⟨⟨TE_ok, fun k hk => absurd hk List.not_mem_nil⟩, mixed⟩
theorem speciAllCount_1 (N : Nat) : Spec Try.prog (coniAllCount_1 N) :=
  Spec.of_eq (fn_spec (cxiAllCount_1 N) (f := 97) (fn := Try.f97) (c := codeOf Try.f97) (by kernel_rfl) (by kernel_rfl) (by kernel_rfl) (loops_at (ids := []) (by kernel_rfl) (trivial)) (by kernel_rfl)) (fun x r h => (FiAllCount_1_eq N x).trans h)

/-! ### 140: impl.merged$1 -/

noncomputable def dinimerged_1_imerged_1_iAllCount_1 : Desc := { n := 5, regs := [.one (.val (.pair (.sl (.pair (.sl (.int .i64)) (.pair (.sl (.int .i64)) .unit))) (.pair (.sl (.sl (.int .i64))) (.pair (.sl (.int .i64)) .unit)))), .one (.fpt (.sl (.sl (.pair (.int .i64) (.pair (.int .i64) (.pair (.int .i64) (.pair (.int .i64) (.pair (.int .i64) (.pair (.int .i64) (.pair (.pair (.int .i64) (.pair (.int .i64) .unit)) .unit)))))))))), .one (.lit (.ptr 128 0)), .one (.lit (.ptr 192 0)), .one (.lit (.ptr 193 0))], bx := [(128, .var [.lit (.row 129)]), (129, .row (.int .i64)), (192, .var [.clo 140 [.inr (.sl (.sl (.pair (.int .i64) (.pair (.int .i64) (.pair (.int .i64) (.pair (.int .i64) (.pair (.int .i64) (.pair (.int .i64) (.pair (.pair (.int .i64) (.pair (.int .i64) .unit)) .unit))))))))), .inl 128, .inl 192, .inl 193]]), (193, .var [.clo 97 [.inl 194]]), (194, .var [.val (.int .i64)])], pins := [] }
noncomputable def outimerged_1_imerged_1_iAllCount_1 : Outs := [(.ret, { n := 0, regs := [], bx := [(128, .var [.lit (.row 129)]), (129, .row (.int .i64)), (192, .var [.clo 140 [.inr (.sl (.sl (.pair (.int .i64) (.pair (.int .i64) (.pair (.int .i64) (.pair (.int .i64) (.pair (.int .i64) (.pair (.int .i64) (.pair (.pair (.int .i64) (.pair (.int .i64) .unit)) .unit))))))))), .inl 128, .inl 192, .inl 193]]), (193, .var [.clo 97 [.inl 194]]), (194, .var [.val (.int .i64)])], pins := [u, u, .one (.lit (.ptr 128 0)), .one (.lit (.ptr 192 0)), .one (.lit (.ptr 193 0)), u, u, .one (.clo 97 [.inl 194])] })]
noncomputable def Himerged_1_imerged_1_iAllCount_1 : Hints := [(0, [(0, { fz := true })]),
  (12, [(2, { con := 1 })]),
  (16, [(2, { con := 2, sg := [(64, 194)] })])]
noncomputable def dimerged_1_imerged_1_iAllCount_1_0 : Desc := { n := 65, regs := [u, u, .one (.lit (.ptr 128 0)), .one (.lit (.ptr 192 0)), .one (.lit (.ptr 193 0)), .one (.fpt (.pair (.sl (.pair (.sl (.int .i64)) (.pair (.sl (.int .i64)) .unit))) (.pair (.sl (.sl (.int .i64))) (.pair (.sl (.int .i64)) .unit)))), .one (.val .bool), u, u, u, u, u, u, .one (.val (.sl (.sl (.pair (.int .i64) (.pair (.int .i64) (.pair (.int .i64) (.pair (.int .i64) (.pair (.int .i64) (.pair (.int .i64) (.pair (.pair (.int .i64) (.pair (.int .i64) .unit)) .unit)))))))))), .one (.val (.int .i64)), .one (.val (.int .i64))], bx := [(128, .var [.lit (.row 129)]), (129, .row (.int .i64)), (192, .var [.clo 140 [.inr (.sl (.sl (.pair (.int .i64) (.pair (.int .i64) (.pair (.int .i64) (.pair (.int .i64) (.pair (.int .i64) (.pair (.int .i64) (.pair (.pair (.int .i64) (.pair (.int .i64) .unit)) .unit))))))))), .inl 128, .inl 192, .inl 193]]), (193, .var [.clo 97 [.inl 194]]), (194, .var [.val (.int .i64)])], pins := [u, u, .one (.lit (.ptr 128 0)), .one (.lit (.ptr 192 0)), .one (.lit (.ptr 193 0)), u, u, .one (.clo 97 [.inl 194])] }
noncomputable def oimerged_1_imerged_1_iAllCount_1_0 : Outs := [(.exit 0, { n := 65, regs := [u, u, u, u, .one (.lit (.ptr 193 0)), .one (.fpt (.pair (.sl (.pair (.sl (.int .i64)) (.pair (.sl (.int .i64)) .unit))) (.pair (.sl (.sl (.int .i64))) (.pair (.sl (.int .i64)) .unit)))), .one (.val .bool)], bx := [(193, .var [.clo 97 [.inl 194]]), (194, .var [.val (.int .i64)]), (128, .var [.lit (.row 129)]), (129, .row (.int .i64)), (192, .var [.clo 140 [.inr (.sl (.sl (.pair (.int .i64) (.pair (.int .i64) (.pair (.int .i64) (.pair (.int .i64) (.pair (.int .i64) (.pair (.int .i64) (.pair (.pair (.int .i64) (.pair (.int .i64) .unit)) .unit))))))))), .inl 128, .inl 192, .inl 193]])], pins := [u, u, .one (.lit (.ptr 128 0)), .one (.lit (.ptr 192 0)), .one (.lit (.ptr 193 0)), u, u, .one (.clo 97 [.inl 194])] })]
noncomputable def jimerged_1_imerged_1_iAllCount_1_11 : Outs := [(.normal, { n := 65, regs := [u, u, .one (.lit (.ptr 128 0)), .one (.lit (.ptr 192 0)), .one (.lit (.ptr 193 0)), .one (.fpt (.pair (.sl (.pair (.sl (.int .i64)) (.pair (.sl (.int .i64)) .unit))) (.pair (.sl (.sl (.int .i64))) (.pair (.sl (.int .i64)) .unit)))), .one (.val .bool), .one (.val (.int .i64)), u, .one (.lit (.ptr 1089664 0)), u, u, u, .one (.val (.sl (.sl (.pair (.int .i64) (.pair (.int .i64) (.pair (.int .i64) (.pair (.int .i64) (.pair (.int .i64) (.pair (.int .i64) (.pair (.pair (.int .i64) (.pair (.int .i64) .unit)) .unit)))))))))), .one (.val (.int .i64)), .one (.val (.int .i64))], bx := [(128, .var [.lit (.row 129)]), (129, .row (.int .i64)), (192, .var [.clo 140 [.inr (.sl (.sl (.pair (.int .i64) (.pair (.int .i64) (.pair (.int .i64) (.pair (.int .i64) (.pair (.int .i64) (.pair (.int .i64) (.pair (.pair (.int .i64) (.pair (.int .i64) .unit)) .unit))))))))), .inl 128, .inl 192, .inl 193]]), (193, .var [.clo 97 [.inl 194]]), (194, .var [.val (.int .i64)]), (1089664, .var [.val (.sl (.pair (.sl (.int .i64)) (.pair (.sl (.int .i64)) .unit))), .val (.sl (.sl (.int .i64))), .val (.sl (.int .i64))])], pins := [u, u, .one (.lit (.ptr 128 0)), .one (.lit (.ptr 192 0)), .one (.lit (.ptr 193 0)), u, u, .one (.clo 97 [.inl 194])] })]
noncomputable def limerged_1_imerged_1_iAllCount_1_0 (N : Nat) (f_ : (((List ((List Int) × ((List Int) × Unit))) × ((List (List Int)) × ((List Int) × Unit))) × ((List (List (Int × (Int × (Int × (Int × (Int × (Int × ((Int × (Int × Unit)) × Unit))))))))) × ((List Int) × ((List (List (Int × (Int × (Int × (Int × (Int × (Int × ((Int × (Int × Unit)) × Unit))))))))) × (Int × Unit))))) → Option ((List Int) × ((List (List (Int × (Int × (Int × (Int × (Int × (Int × ((Int × (Int × Unit)) × Unit))))))))) × (Int × Unit)))) : Nat → (((List ((List Int) × ((List Int) × Unit))) × ((List (List Int)) × ((List Int) × Unit))) × (Bool × ((List (List (Int × (Int × (Int × (Int × (Int × (Int × ((Int × (Int × Unit)) × Unit))))))))) × (Int × (Int × ((List Int) × ((List (List (Int × (Int × (Int × (Int × (Int × (Int × ((Int × (Int × Unit)) × Unit))))))))) × (Int × Unit)))))))) → Option (((List ((List Int) × ((List Int) × Unit))) × ((List (List Int)) × ((List Int) × Unit))) × (Bool × (Int × ((List Int) × ((List (List (Int × (Int × (Int × (Int × (Int × (Int × ((Int × (Int × Unit)) × Unit))))))))) × Unit)))))
  | 0, _ => none
  | n + 1, v =>
    bif decide (v.2.2.2.2.1 < v.2.2.2.1) then
     bif decide (0 ≤ v.2.2.2.2.1) then
     bif decide (v.2.2.2.2.1.toNat < v.2.2.1.length) then
     let y1 := v.2.2.1.getD v.2.2.2.2.1.toNat ([] : (List (Int × (Int × (Int × (Int × (Int × (Int × ((Int × (Int × Unit)) × Unit)))))))))
     bif decide (0 ≤ v.2.2.2.2.1) then
     bif decide (v.2.2.2.2.1.toNat < v.2.2.2.2.2.1.length) then
     let y2 := v.2.2.2.2.2.1.getD v.2.2.2.2.1.toNat (0 : Int)
     bif y2 == (y1.length : Int) then
      limerged_1_imerged_1_iAllCount_1_0 N f_ n (v.1, v.2.1, v.2.2.1, v.2.2.2.1, w64 (v.2.2.2.2.1 + (1 : Int)), v.2.2.2.2.2.1, v.2.2.2.2.2.2.1, v.2.2.2.2.2.2.2.1, ())
     else
     Option.bind (
      bif decide (0 ≤ v.2.2.2.2.1) then
      bif decide (v.2.2.2.2.1.toNat < v.2.2.2.2.2.1.length) then
      let y3 := v.2.2.2.2.2.1.getD v.2.2.2.2.1.toNat (0 : Int)
      bif decide (0 ≤ y3) then
      bif decide (y3.toNat < y1.length) then
      let y4 := y1.getD y3.toNat ((0 : Int), (0 : Int), (0 : Int), (0 : Int), (0 : Int), (0 : Int), ((0 : Int), (0 : Int), ()), ())
      (FiGraphDo N (v.1, v.2.2.2.2.1, y4, ())).bind fun r5 =>
      bif r5.2.1 != (1 : Int) then
       some (v.1, false, v.2.2.2.2.1, v.2.2.1, v.2.2.2.1, v.2.2.2.2.1, v.2.2.2.2.2.1, v.2.2.2.2.2.2.1, v.2.2.2.2.2.2.2.1, r5.2.2.1, r5.2.2.2.1, r5.2.2.2.2.1, ())
      else
      some (v.1, false, v.2.2.2.2.1, v.2.2.1, v.2.2.2.1, v.2.2.2.2.1, v.2.2.2.2.2.1, v.2.2.2.2.2.2.1, v.2.2.2.2.2.2.2.1, v.1.1, v.1.2.1, v.1.2.2.1, ())
      else none
      else none
      else none
      else none) fun o6 =>
     bif decide (0 ≤ o6.2.2.1) then
     bif decide (o6.2.2.1.toNat < o6.2.2.2.2.2.2.1.length) then
     let y7 := o6.2.2.2.2.2.2.1.getD o6.2.2.1.toNat (0 : Int)
     bif decide (0 ≤ o6.2.2.1) then
     bif decide (o6.2.2.1.toNat < o6.2.2.2.2.2.2.1.length) then
     let y8 := o6.2.2.2.2.2.2.1.set o6.2.2.1.toNat (w64 (y7 + (1 : Int)))
     (f_ ((o6.2.2.2.2.2.2.2.2.2.1, o6.2.2.2.2.2.2.2.2.2.2.1, o6.2.2.2.2.2.2.2.2.2.2.2.1, ()), o6.2.2.2.2.2.2.2.1, y8, o6.2.2.2.2.2.2.2.1, o6.2.2.2.2.2.2.2.2.1, ())).bind fun r9 =>
     bif decide (0 ≤ o6.2.2.1) then
     bif decide (o6.2.2.1.toNat < r9.1.length) then
     let y10 := w64 ((r9.1.getD o6.2.2.1.toNat (0 : Int)) - (1 : Int))
     bif decide (0 ≤ o6.2.2.1) then
     bif decide (o6.2.2.1.toNat < r9.1.length) then
     limerged_1_imerged_1_iAllCount_1_0 N f_ n (o6.1, o6.2.1, o6.2.2.2.1, o6.2.2.2.2.1, w64 (o6.2.2.2.2.2.1 + (1 : Int)), r9.1.set o6.2.2.1.toNat y10, r9.2.1, r9.2.2.1, ())
     else none
     else none
     else none
     else none
     else none
     else none
     else none
     else none
     else none
     else none
     else none
     else none
    else
    some (v.1, v.2.1, v.2.2.2.2.2.2.2.1, v.2.2.2.2.2.1, v.2.2.2.2.2.2.1, ())
noncomputable def Fimerged_1_imerged_1_iAllCount_1 (N : Nat) : Nat → (((List ((List Int) × ((List Int) × Unit))) × ((List (List Int)) × ((List Int) × Unit))) × ((List (List (Int × (Int × (Int × (Int × (Int × (Int × ((Int × (Int × Unit)) × Unit))))))))) × ((List Int) × ((List (List (Int × (Int × (Int × (Int × (Int × (Int × ((Int × (Int × Unit)) × Unit))))))))) × (Int × Unit))))) → Option ((List Int) × ((List (List (Int × (Int × (Int × (Int × (Int × (Int × ((Int × (Int × Unit)) × Unit))))))))) × (Int × Unit)))
  | 0, _ => none
  | m_ + 1, x =>
  (limerged_1_imerged_1_iAllCount_1_0 N (fun x_ => Fimerged_1_imerged_1_iAllCount_1 N m_ x_) N (x.1, true, x.2.1, (x.2.1.length : Int), (0 : Int), x.2.2.1, x.2.2.2.1, x.2.2.2.2.1, ())).bind fun o11 =>
  bif o11.2.1 then
   (FiAllCount_1 N (o11.1, o11.2.2.1, ())).bind fun r12 =>
   some (o11.2.2.2.1, o11.2.2.2.2.1, r12.1, ())
  else
  some (o11.2.2.2.1, o11.2.2.2.2.1, o11.2.2.1, ())
noncomputable def conimerged_1_imerged_1_iAllCount_1 (N : Nat) (m_ : Nat) : Con := { f := 140, din := dinimerged_1_imerged_1_iAllCount_1, outs := outimerged_1_imerged_1_iAllCount_1, F := Fimerged_1_imerged_1_iAllCount_1 N m_ }
noncomputable def Eimerged_1_imerged_1_iAllCount_1 (N : Nat) (m_ : Nat) : Env := { te := TE, cs := [coniGraphDo N, conimerged_1_imerged_1_iAllCount_1 N m_, coniAllCount_1 N] }
noncomputable def Ximerged_1_imerged_1_iAllCount_1 (N : Nat) (m_ : Nat) : Ctx := { E := Eimerged_1_imerged_1_iAllCount_1 N m_, H := Himerged_1_imerged_1_iAllCount_1, lp := [(0, { hd := dimerged_1_imerged_1_iAllCount_1_0, outs := oimerged_1_imerged_1_iAllCount_1_0, run := fun v => limerged_1_imerged_1_iAllCount_1_0 N (fun x_ => Fimerged_1_imerged_1_iAllCount_1 N m_ x_) N v })], jn := [(11, jimerged_1_imerged_1_iAllCount_1_11)] }
noncomputable def bimerged_1_imerged_1_iAllCount_1_0 : Code := loopBody (codeOf Try.f140) 0
theorem Fimerged_1_imerged_1_iAllCount_1_eq (N m_ : Nat) (x : (((List ((List Int) × ((List Int) × Unit))) × ((List (List Int)) × ((List Int) × Unit))) × ((List (List (Int × (Int × (Int × (Int × (Int × (Int × ((Int × (Int × Unit)) × Unit))))))))) × ((List Int) × ((List (List (Int × (Int × (Int × (Int × (Int × (Int × ((Int × (Int × Unit)) × Unit))))))))) × (Int × Unit)))))) : evFn (Ximerged_1_imerged_1_iAllCount_1 N m_) Try.f140 dinimerged_1_imerged_1_iAllCount_1 outimerged_1_imerged_1_iAllCount_1 x = Fimerged_1_imerged_1_iAllCount_1 N (m_ + 1) x := by kernel_rfl
theorem limerged_1_imerged_1_iAllCount_1_0_eq (N m_ n : Nat) (v : (((List ((List Int) × ((List Int) × Unit))) × ((List (List Int)) × ((List Int) × Unit))) × (Bool × ((List (List (Int × (Int × (Int × (Int × (Int × (Int × ((Int × (Int × Unit)) × Unit))))))))) × (Int × (Int × ((List Int) × ((List (List (Int × (Int × (Int × (Int × (Int × (Int × ((Int × (Int × Unit)) × Unit))))))))) × (Int × Unit))))))))) : limerged_1_imerged_1_iAllCount_1_0 N (fun x_ => Fimerged_1_imerged_1_iAllCount_1 N m_ x_) (n + 1) v = ev (Ximerged_1_imerged_1_iAllCount_1 N m_) bimerged_1_imerged_1_iAllCount_1_0 (roundK dimerged_1_imerged_1_iAllCount_1_0 oimerged_1_imerged_1_iAllCount_1_0 (limerged_1_imerged_1_iAllCount_1_0 N (fun x_ => Fimerged_1_imerged_1_iAllCount_1 N m_ x_) n)) (dimerged_1_imerged_1_iAllCount_1_0.mk' v) := by kernel_rfl
theorem cximerged_1_imerged_1_iAllCount_1 (N : Nat) (m_ : Nat) (hs : Spec Try.prog (conimerged_1_imerged_1_iAllCount_1 N m_)) : CtxOk Try.prog (Ximerged_1_imerged_1_iAllCount_1 N m_) := ⟨⟨TE_ok, List.forall_mem_cons.2 ⟨(speciGraphDo N), List.forall_mem_cons.2 ⟨hs, List.forall_mem_cons.2 ⟨(speciAllCount_1 N), fun k hk => absurd hk List.not_mem_nil⟩⟩⟩⟩, mixed⟩
theorem lpimerged_1_imerged_1_iAllCount_1_0 (N : Nat) (m_ : Nat) (hs : Spec Try.prog (conimerged_1_imerged_1_iAllCount_1 N m_)) : LoopOk Try.prog { hd := dimerged_1_imerged_1_iAllCount_1_0, outs := oimerged_1_imerged_1_iAllCount_1_0, run := fun v => limerged_1_imerged_1_iAllCount_1_0 N (fun x_ => Fimerged_1_imerged_1_iAllCount_1 N m_ x_) N v } bimerged_1_imerged_1_iAllCount_1_0 :=
  loop_fuel (d := dimerged_1_imerged_1_iAllCount_1_0) (os := oimerged_1_imerged_1_iAllCount_1_0) (cximerged_1_imerged_1_iAllCount_1 N m_ hs) (loops_at (ids := []) (by kernel_rfl) (trivial)) (limerged_1_imerged_1_iAllCount_1_0 N (fun x_ => Fimerged_1_imerged_1_iAllCount_1 N m_ x_)) (fun _ => rfl) (fun n v => limerged_1_imerged_1_iAllCount_1_0_eq N m_ n v) (fun _ => N)
theorem czimerged_1_imerged_1_iAllCount_1 : CtxOk Try.prog { E := { te := TE, cs := [] }, H := [], lp := [], jn := [] } := ⟨⟨TE_ok, fun k hk => absurd hk List.not_mem_nil⟩, mixed⟩
theorem specimerged_1_imerged_1_iAllCount_1 (N : Nat) : ∀ m_ : Nat, Spec Try.prog (conimerged_1_imerged_1_iAllCount_1 N m_)
  | 0 => Spec.of_eq (fn_spec (czimerged_1_imerged_1_iAllCount_1) (f := 140) (fn := Try.f140) (din := dinimerged_1_imerged_1_iAllCount_1) (os := outimerged_1_imerged_1_iAllCount_1) (c := codeOf Try.f140) (by kernel_rfl) (by kernel_rfl) (by kernel_rfl) (loops_at (ids := [0]) (by kernel_rfl) ⟨lp_none, trivial⟩) (by kernel_rfl)) (fun x r h => nomatch (show (none : Option _) = some r from h))
  | m_ + 1 => Spec.of_eq (fn_spec (cximerged_1_imerged_1_iAllCount_1 N m_ (specimerged_1_imerged_1_iAllCount_1 N m_)) (f := 140) (fn := Try.f140) (c := codeOf Try.f140) (by kernel_rfl) (by kernel_rfl) (by kernel_rfl) (loops_at (ids := [0]) (by kernel_rfl) ⟨lp_of (lpimerged_1_imerged_1_iAllCount_1_0 N m_ (specimerged_1_imerged_1_iAllCount_1 N m_)), trivial⟩) (by kernel_rfl)) (fun x r h => (Fimerged_1_imerged_1_iAllCount_1_eq N m_ x).trans h)

/-! ### 96: impl.merged -/

noncomputable def dinimerged_iAllCount_1 : Desc := { n := 3, regs := [.one (.val (.pair (.int .i64) (.pair (.int .i64) (.pair (.int .i64) .unit)))), .one (.val (.sl (.sl (.pair (.int .i64) (.pair (.int .i64) (.pair (.int .i64) (.pair (.int .i64) (.pair (.int .i64) (.pair (.int .i64) (.pair (.pair (.int .i64) (.pair (.int .i64) .unit)) .unit)))))))))), .one (.clo 97 [.inl 128])], bx := [(128, .var [.val (.int .i64)])], pins := [] }
noncomputable def outimerged_iAllCount_1 : Outs := [(.ret, { n := 1, regs := [.one (.val .bool)], bx := [(128, .var [.val (.int .i64)])], pins := [u, u, .one (.clo 97 [.inl 128])] })]
noncomputable def Himerged_iAllCount_1 : Hints := [(0, [(0, { fz := true }), (1, { fz := true })]),
  (1, [(6, { con := 1 })]),
  (6, [(2, { con := 2 })]),
  (7, [(2, { con := 3, sg := [(128, 1038592), (129, 1038528), (192, 1051200), (193, 1000128), (194, 128)], pre := [.freeze 1076929, .freeze 1076930] })])]
noncomputable def Eimerged_iAllCount_1 (N : Nat) : Env := { te := TE, cs := [coniprogsOk N, conkConcat_SOp_Op N, coniGraphNew N, conimerged_1_imerged_1_iAllCount_1 N N] }
noncomputable def jimerged_iAllCount_1_3 : Outs := [(.normal, { n := 34, regs := [u, u, u, .one (.fpt (.pair (.int .i64) (.pair (.int .i64) (.pair (.int .i64) .unit)))), .one (.fpt (.sl (.sl (.pair (.int .i64) (.pair (.int .i64) (.pair (.int .i64) (.pair (.int .i64) (.pair (.int .i64) (.pair (.int .i64) (.pair (.pair (.int .i64) (.pair (.int .i64) .unit)) .unit)))))))))), .one (.lit (.ptr 1000128 0))], bx := [(1000128, .var [.clo 97 [.inl 128]]), (128, .var [.val (.int .i64)])], pins := [u, u, .one (.clo 97 [.inl 128])] }), (.ret, { n := 34, regs := [u, u, u, u, u, u, .one (.val .bool)], bx := [(128, .var [.val (.int .i64)])], pins := [u, u, .one (.clo 97 [.inl 128])] })]
noncomputable def Fimerged_iAllCount_1 (N : Nat) (x : ((Int × (Int × (Int × Unit))) × ((List (List (Int × (Int × (Int × (Int × (Int × (Int × ((Int × (Int × Unit)) × Unit))))))))) × (Int × Unit)))) : Option (Bool × (Int × Unit)) :=
  Option.bind (
   (FiprogsOk N (x.1, x.2.1, ())).bind fun r1 =>
   bif !r1.1 then
    some (.inr ((false, x.2.2.1, ())))
   else
   (FkConcat_SOp_Op N (x.2.1, ())).bind fun r2 =>
   let y3 := decide ((r2.1.length : Int) > (7 : Int))
   bif y3 then
    some (.inr ((false, x.2.2.1, ())))
   else
   some (.inl (x.1, x.2.1, x.2.2.1, ()))) fun o4 =>
  Sum.elim (fun o5 =>
   bif decide (0 ≤ (o5.2.1.length : Int)) then
   bif decide ((o5.2.1.length : Int).toNat ≤ lim) then
   let y6 := List.replicate (o5.2.1.length : Int).toNat (0 : Int)
   (FiGraphNew N (o5.1.2.1, ())).bind fun r7 =>
   (Fimerged_1_imerged_1_iAllCount_1 N N ((r7.2.1, r7.2.2.1, ([] : (List Int)), ()), o5.2.1, y6, o5.2.1, o5.2.2.1, ())).bind fun r8 =>
   some (true, r8.2.2.1, ())
   else none
   else none) (fun o9 =>
   some (o9.1, o9.2.1, ())) o4
noncomputable def conimerged_iAllCount_1 (N : Nat) : Con := { f := 96, din := dinimerged_iAllCount_1, outs := outimerged_iAllCount_1, F := Fimerged_iAllCount_1 N }
noncomputable def Ximerged_iAllCount_1 (N : Nat) : Ctx := { E := Eimerged_iAllCount_1 N, H := Himerged_iAllCount_1, lp := [], jn := [(3, jimerged_iAllCount_1_3)] }
theorem Fimerged_iAllCount_1_eq (N : Nat) (x : ((Int × (Int × (Int × Unit))) × ((List (List (Int × (Int × (Int × (Int × (Int × (Int × ((Int × (Int × Unit)) × Unit))))))))) × (Int × Unit)))) : evFn (Ximerged_iAllCount_1 N) Try.f96 dinimerged_iAllCount_1 outimerged_iAllCount_1 x = Fimerged_iAllCount_1 N x := by kernel_rfl
theorem cximerged_iAllCount_1 (N : Nat) : CtxOk Try.prog (Ximerged_iAllCount_1 N) := ⟨⟨TE_ok, List.forall_mem_cons.2 ⟨(speciprogsOk N), List.forall_mem_cons.2 ⟨(speckConcat_SOp_Op N), List.forall_mem_cons.2 ⟨(speciGraphNew N), List.forall_mem_cons.2 ⟨(specimerged_1_imerged_1_iAllCount_1 N N), fun k hk => absurd hk List.not_mem_nil⟩⟩⟩⟩⟩, mixed⟩
theorem specimerged_iAllCount_1 (N : Nat) : Spec Try.prog (conimerged_iAllCount_1 N) :=
  Spec.of_eq (fn_spec (cximerged_iAllCount_1 N) (f := 96) (fn := Try.f96) (c := codeOf Try.f96) (by kernel_rfl) (by kernel_rfl) (by kernel_rfl) (loops_at (ids := []) (by kernel_rfl) (trivial)) (by kernel_rfl)) (fun x r h => (Fimerged_iAllCount_1_eq N x).trans h)

/-! ### 47: impl.AllCount -/

noncomputable def diniAllCount : Desc := { n := 2, regs := [.one (.val (.pair (.int .i64) (.pair (.int .i64) (.pair (.int .i64) .unit)))), .one (.val (.sl (.sl (.pair (.int .i64) (.pair (.int .i64) (.pair (.int .i64) (.pair (.int .i64) (.pair (.int .i64) (.pair (.int .i64) (.pair (.pair (.int .i64) (.pair (.int .i64) .unit)) .unit))))))))))], bx := [], pins := [] }
noncomputable def outiAllCount : Outs := [(.ret, { n := 1, regs := [.one (.val (.int .i64))], bx := [], pins := [] })]
noncomputable def HiAllCount : Hints := [(0, [(0, { fz := true })]),
  (2, [(3, { sg := [(128, 1012800)] })])]
noncomputable def EiAllCount (N : Nat) : Env := { te := TE, cs := [conimerged_iAllCount_1 N] }
noncomputable def FiAllCount (N : Nat) (x : ((Int × (Int × (Int × Unit))) × ((List (List (Int × (Int × (Int × (Int × (Int × (Int × ((Int × (Int × Unit)) × Unit))))))))) × Unit))) : Option (Int × Unit) :=
  (Fimerged_iAllCount_1 N (x.1, x.2.1, (0 : Int), ())).bind fun r1 =>
  some (r1.2.1, ())
noncomputable def coniAllCount (N : Nat) : Con := { f := 47, din := diniAllCount, outs := outiAllCount, F := FiAllCount N }
noncomputable def XiAllCount (N : Nat) : Ctx := { E := EiAllCount N, H := HiAllCount, lp := [], jn := [] }
theorem FiAllCount_eq (N : Nat) (x : ((Int × (Int × (Int × Unit))) × ((List (List (Int × (Int × (Int × (Int × (Int × (Int × ((Int × (Int × Unit)) × Unit))))))))) × Unit))) : evFn (XiAllCount N) Try.f47 diniAllCount outiAllCount x = FiAllCount N x := by kernel_rfl
theorem cxiAllCount (N : Nat) : CtxOk Try.prog (XiAllCount N) := ⟨⟨TE_ok, List.forall_mem_cons.2 ⟨(specimerged_iAllCount_1 N), fun k hk => absurd hk List.not_mem_nil⟩⟩, mixed⟩
theorem speciAllCount (N : Nat) : Spec Try.prog (coniAllCount N) :=
  Spec.of_eq (fn_spec (cxiAllCount N) (f := 47) (fn := Try.f47) (c := codeOf Try.f47) (by kernel_rfl) (by kernel_rfl) (by kernel_rfl) (loops_at (ids := []) (by kernel_rfl) (trivial)) (by kernel_rfl)) (fun x r h => (FiAllCount_eq N x).trans h)

/-! ### 155: laws.eqShape -/

noncomputable def dinveqShape : Desc := { n := 2, regs := [.one (.val (.pair (.int .i64) (.pair (.int .i64) .unit))), .one (.val (.pair (.int .i64) (.pair (.int .i64) .unit)))], bx := [], pins := [] }
noncomputable def outveqShape : Outs := [(.ret, { n := 1, regs := [.one (.val .bool)], bx := [], pins := [] })]
noncomputable def HveqShape : Hints := [(0, [(0, { fz := true }), (1, { fz := true })])]
noncomputable def EveqShape (_N : Nat) : Env := { te := TE, cs := [] }
noncomputable def FveqShape (N : Nat) (x : ((Int × (Int × Unit)) × ((Int × (Int × Unit)) × Unit))) : Option (Bool × Unit) :=
  bif x.1.1 != x.2.1.1 then
   some (false, ())
  else
  bif x.1.2.1 != x.2.1.2.1 then
   some (false, ())
  else
  some (true, ())
noncomputable def conveqShape (N : Nat) : Con := { f := 155, din := dinveqShape, outs := outveqShape, F := FveqShape N }
noncomputable def XveqShape (N : Nat) : Ctx := { E := EveqShape N, H := HveqShape, lp := [], jn := [] }
theorem FveqShape_eq (N : Nat) (x : ((Int × (Int × Unit)) × ((Int × (Int × Unit)) × Unit))) : evFn (XveqShape N) Try.f155 dinveqShape outveqShape x = FveqShape N x := by kernel_rfl
theorem cxveqShape (N : Nat) : CtxOk Try.prog (XveqShape N) := ⟨⟨TE_ok, fun k hk => absurd hk List.not_mem_nil⟩, mixed⟩
theorem specveqShape (N : Nat) : Spec Try.prog (conveqShape N) :=
  Spec.of_eq (fn_spec (cxveqShape N) (f := 155) (fn := Try.f155) (c := codeOf Try.f155) (by kernel_rfl) (by kernel_rfl) (by kernel_rfl) (loops_at (ids := []) (by kernel_rfl) (trivial)) (by kernel_rfl)) (fun x r h => (FveqShape_eq N x).trans h)

/-! ### 141: laws.eqOp -/

noncomputable def dinveqOp : Desc := { n := 2, regs := [.one (.val (.pair (.int .i64) (.pair (.int .i64) (.pair (.int .i64) (.pair (.int .i64) (.pair (.int .i64) (.pair (.int .i64) (.pair (.pair (.int .i64) (.pair (.int .i64) .unit)) .unit)))))))), .one (.val (.pair (.int .i64) (.pair (.int .i64) (.pair (.int .i64) (.pair (.int .i64) (.pair (.int .i64) (.pair (.int .i64) (.pair (.pair (.int .i64) (.pair (.int .i64) .unit)) .unit))))))))], bx := [], pins := [] }
noncomputable def outveqOp : Outs := [(.ret, { n := 1, regs := [.one (.val .bool)], bx := [], pins := [] })]
noncomputable def HveqOp : Hints := [(0, [(0, { fz := true }), (1, { fz := true })])]
noncomputable def EveqOp (N : Nat) : Env := { te := TE, cs := [conveqShape N] }
noncomputable def FveqOp (N : Nat) (x : ((Int × (Int × (Int × (Int × (Int × (Int × ((Int × (Int × Unit)) × Unit))))))) × ((Int × (Int × (Int × (Int × (Int × (Int × ((Int × (Int × Unit)) × Unit))))))) × Unit))) : Option (Bool × Unit) :=
  bif x.1.1 != x.2.1.1 then
   some (false, ())
  else
  bif x.1.2.1 != x.2.1.2.1 then
   some (false, ())
  else
  bif x.1.2.2.1 != x.2.1.2.2.1 then
   some (false, ())
  else
  bif x.1.2.2.2.1 != x.2.1.2.2.2.1 then
   some (false, ())
  else
  bif x.1.2.2.2.2.1 != x.2.1.2.2.2.2.1 then
   some (false, ())
  else
  bif x.1.2.2.2.2.2.1 != x.2.1.2.2.2.2.2.1 then
   some (false, ())
  else
  (FveqShape N (x.1.2.2.2.2.2.2.1, x.2.1.2.2.2.2.2.2.1, ())).bind fun r1 =>
  bif !r1.1 then
   some (false, ())
  else
  some (true, ())
noncomputable def conveqOp (N : Nat) : Con := { f := 141, din := dinveqOp, outs := outveqOp, F := FveqOp N }
noncomputable def XveqOp (N : Nat) : Ctx := { E := EveqOp N, H := HveqOp, lp := [], jn := [] }
theorem FveqOp_eq (N : Nat) (x : ((Int × (Int × (Int × (Int × (Int × (Int × ((Int × (Int × Unit)) × Unit))))))) × ((Int × (Int × (Int × (Int × (Int × (Int × ((Int × (Int × Unit)) × Unit))))))) × Unit))) : evFn (XveqOp N) Try.f141 dinveqOp outveqOp x = FveqOp N x := by kernel_rfl
theorem cxveqOp (N : Nat) : CtxOk Try.prog (XveqOp N) := ⟨⟨TE_ok, List.forall_mem_cons.2 ⟨(specveqShape N), fun k hk => absurd hk List.not_mem_nil⟩⟩, mixed⟩
theorem specveqOp (N : Nat) : Spec Try.prog (conveqOp N) :=
  Spec.of_eq (fn_spec (cxveqOp N) (f := 141) (fn := Try.f141) (c := codeOf Try.f141) (by kernel_rfl) (by kernel_rfl) (by kernel_rfl) (loops_at (ids := []) (by kernel_rfl) (trivial)) (by kernel_rfl)) (fun x r h => (FveqOp_eq N x).trans h)

/-! ### 98: laws.eqOpS -/

noncomputable def dinveqOpS : Desc := { n := 2, regs := [.one (.val (.sl (.pair (.int .i64) (.pair (.int .i64) (.pair (.int .i64) (.pair (.int .i64) (.pair (.int .i64) (.pair (.int .i64) (.pair (.pair (.int .i64) (.pair (.int .i64) .unit)) .unit))))))))), .one (.val (.sl (.pair (.int .i64) (.pair (.int .i64) (.pair (.int .i64) (.pair (.int .i64) (.pair (.int .i64) (.pair (.int .i64) (.pair (.pair (.int .i64) (.pair (.int .i64) .unit)) .unit)))))))))], bx := [], pins := [] }
noncomputable def outveqOpS : Outs := [(.ret, { n := 1, regs := [.one (.val .bool)], bx := [], pins := [] })]
noncomputable def HveqOpS : Hints := []
noncomputable def EveqOpS (N : Nat) : Env := { te := TE, cs := [conveqOp N] }
noncomputable def dveqOpS_0 : Desc := { n := 27, regs := [.one (.val (.sl (.pair (.int .i64) (.pair (.int .i64) (.pair (.int .i64) (.pair (.int .i64) (.pair (.int .i64) (.pair (.int .i64) (.pair (.pair (.int .i64) (.pair (.int .i64) .unit)) .unit))))))))), .one (.val (.sl (.pair (.int .i64) (.pair (.int .i64) (.pair (.int .i64) (.pair (.int .i64) (.pair (.int .i64) (.pair (.int .i64) (.pair (.pair (.int .i64) (.pair (.int .i64) .unit)) .unit))))))))), u, u, u, .one (.val (.int .i64))], bx := [], pins := [] }
noncomputable def oveqOpS_0 : Outs := [(.exit 0, { n := 27, regs := [], bx := [], pins := [] }), (.ret, { n := 27, regs := [u, u, u, u, .one (.val .bool)], bx := [], pins := [] })]
noncomputable def lveqOpS_0 (N : Nat) : Nat → ((List (Int × (Int × (Int × (Int × (Int × (Int × ((Int × (Int × Unit)) × Unit)))))))) × ((List (Int × (Int × (Int × (Int × (Int × (Int × ((Int × (Int × Unit)) × Unit)))))))) × (Int × Unit))) → Option (Unit ⊕ (Bool × Unit))
  | 0, _ => none
  | n + 1, v =>
    let y2 := decide (v.2.2.1 < (v.1.length : Int))
    bif y2 then
     bif decide (0 ≤ v.2.2.1) then
     bif decide (v.2.2.1.toNat < v.1.length) then
     let y3 := v.1.getD v.2.2.1.toNat ((0 : Int), (0 : Int), (0 : Int), (0 : Int), (0 : Int), (0 : Int), ((0 : Int), (0 : Int), ()), ())
     bif decide (0 ≤ v.2.2.1) then
     bif decide (v.2.2.1.toNat < v.2.1.length) then
     let y4 := v.2.1.getD v.2.2.1.toNat ((0 : Int), (0 : Int), (0 : Int), (0 : Int), (0 : Int), (0 : Int), ((0 : Int), (0 : Int), ()), ())
     (FveqOp N (y3, y4, ())).bind fun r5 =>
     bif !r5.1 then
      some (.inr ((false, ())))
     else
     lveqOpS_0 N n (v.1, v.2.1, w64 (v.2.2.1 + (1 : Int)), ())
     else none
     else none
     else none
     else none
    else
    some (.inl ())
noncomputable def FveqOpS (N : Nat) (x : ((List (Int × (Int × (Int × (Int × (Int × (Int × ((Int × (Int × Unit)) × Unit)))))))) × ((List (Int × (Int × (Int × (Int × (Int × (Int × ((Int × (Int × Unit)) × Unit)))))))) × Unit))) : Option (Bool × Unit) :=
  let y1 := (x.1.length : Int) != (x.2.1.length : Int)
  bif y1 then
   some (false, ())
  else
  (lveqOpS_0 N N (x.1, x.2.1, (0 : Int), ())).bind fun o6 =>
  Sum.elim (fun o7 =>
   some (true, ())) (fun o8 =>
   some (o8.1, ())) o6
noncomputable def conveqOpS (N : Nat) : Con := { f := 98, din := dinveqOpS, outs := outveqOpS, F := FveqOpS N }
noncomputable def XveqOpS (N : Nat) : Ctx := { E := EveqOpS N, H := HveqOpS, lp := [(0, { hd := dveqOpS_0, outs := oveqOpS_0, run := fun v => lveqOpS_0 N N v })], jn := [] }
noncomputable def bveqOpS_0 : Code := loopBody (codeOf Try.f98) 0
theorem FveqOpS_eq (N : Nat) (x : ((List (Int × (Int × (Int × (Int × (Int × (Int × ((Int × (Int × Unit)) × Unit)))))))) × ((List (Int × (Int × (Int × (Int × (Int × (Int × ((Int × (Int × Unit)) × Unit)))))))) × Unit))) : evFn (XveqOpS N) Try.f98 dinveqOpS outveqOpS x = FveqOpS N x := by kernel_rfl
theorem lveqOpS_0_eq (N n : Nat) (v : ((List (Int × (Int × (Int × (Int × (Int × (Int × ((Int × (Int × Unit)) × Unit)))))))) × ((List (Int × (Int × (Int × (Int × (Int × (Int × ((Int × (Int × Unit)) × Unit)))))))) × (Int × Unit)))) : lveqOpS_0 N (n + 1) v = ev (XveqOpS N) bveqOpS_0 (roundK dveqOpS_0 oveqOpS_0 (lveqOpS_0 N n)) (dveqOpS_0.mk' v) := by kernel_rfl
theorem cxveqOpS (N : Nat) : CtxOk Try.prog (XveqOpS N) := ⟨⟨TE_ok, List.forall_mem_cons.2 ⟨(specveqOp N), fun k hk => absurd hk List.not_mem_nil⟩⟩, mixed⟩
theorem lpveqOpS_0 (N : Nat) : LoopOk Try.prog { hd := dveqOpS_0, outs := oveqOpS_0, run := fun v => lveqOpS_0 N N v } bveqOpS_0 :=
  loop_fuel (d := dveqOpS_0) (os := oveqOpS_0) (cxveqOpS N) (loops_at (ids := []) (by kernel_rfl) (trivial)) (lveqOpS_0 N) (fun _ => rfl) (fun n v => lveqOpS_0_eq N n v) (fun _ => N)
theorem specveqOpS (N : Nat) : Spec Try.prog (conveqOpS N) :=
  Spec.of_eq (fn_spec (cxveqOpS N) (f := 98) (fn := Try.f98) (c := codeOf Try.f98) (by kernel_rfl) (by kernel_rfl) (by kernel_rfl) (loops_at (ids := [0]) (by kernel_rfl) ⟨lp_of (lpveqOpS_0 N), trivial⟩) (by kernel_rfl)) (fun x r h => (FveqOpS_eq N x).trans h)

/-! ### 48: laws.eqOpSS -/

noncomputable def dinveqOpSS : Desc := { n := 2, regs := [.one (.val (.sl (.sl (.pair (.int .i64) (.pair (.int .i64) (.pair (.int .i64) (.pair (.int .i64) (.pair (.int .i64) (.pair (.int .i64) (.pair (.pair (.int .i64) (.pair (.int .i64) .unit)) .unit)))))))))), .one (.val (.sl (.sl (.pair (.int .i64) (.pair (.int .i64) (.pair (.int .i64) (.pair (.int .i64) (.pair (.int .i64) (.pair (.int .i64) (.pair (.pair (.int .i64) (.pair (.int .i64) .unit)) .unit))))))))))], bx := [], pins := [] }
noncomputable def outveqOpSS : Outs := [(.ret, { n := 1, regs := [.one (.val .bool)], bx := [], pins := [] })]
noncomputable def HveqOpSS : Hints := []
noncomputable def EveqOpSS (N : Nat) : Env := { te := TE, cs := [conveqOpS N] }
noncomputable def dveqOpSS_0 : Desc := { n := 27, regs := [.one (.val (.sl (.sl (.pair (.int .i64) (.pair (.int .i64) (.pair (.int .i64) (.pair (.int .i64) (.pair (.int .i64) (.pair (.int .i64) (.pair (.pair (.int .i64) (.pair (.int .i64) .unit)) .unit)))))))))), .one (.val (.sl (.sl (.pair (.int .i64) (.pair (.int .i64) (.pair (.int .i64) (.pair (.int .i64) (.pair (.int .i64) (.pair (.int .i64) (.pair (.pair (.int .i64) (.pair (.int .i64) .unit)) .unit)))))))))), u, u, u, .one (.val (.int .i64))], bx := [], pins := [] }
noncomputable def oveqOpSS_0 : Outs := [(.exit 0, { n := 27, regs := [], bx := [], pins := [] }), (.ret, { n := 27, regs := [u, u, u, u, .one (.val .bool)], bx := [], pins := [] })]
noncomputable def lveqOpSS_0 (N : Nat) : Nat → ((List (List (Int × (Int × (Int × (Int × (Int × (Int × ((Int × (Int × Unit)) × Unit))))))))) × ((List (List (Int × (Int × (Int × (Int × (Int × (Int × ((Int × (Int × Unit)) × Unit))))))))) × (Int × Unit))) → Option (Unit ⊕ (Bool × Unit))
  | 0, _ => none
  | n + 1, v =>
    let y2 := decide (v.2.2.1 < (v.1.length : Int))
    bif y2 then
     bif decide (0 ≤ v.2.2.1) then
     bif decide (v.2.2.1.toNat < v.1.length) then
     let y3 := v.1.getD v.2.2.1.toNat ([] : (List (Int × (Int × (Int × (Int × (Int × (Int × ((Int × (Int × Unit)) × Unit)))))))))
     bif decide (0 ≤ v.2.2.1) then
     bif decide (v.2.2.1.toNat < v.2.1.length) then
     let y4 := v.2.1.getD v.2.2.1.toNat ([] : (List (Int × (Int × (Int × (Int × (Int × (Int × ((Int × (Int × Unit)) × Unit)))))))))
     (FveqOpS N (y3, y4, ())).bind fun r5 =>
     bif !r5.1 then
      some (.inr ((false, ())))
     else
     lveqOpSS_0 N n (v.1, v.2.1, w64 (v.2.2.1 + (1 : Int)), ())
     else none
     else none
     else none
     else none
    else
    some (.inl ())
noncomputable def FveqOpSS (N : Nat) (x : ((List (List (Int × (Int × (Int × (Int × (Int × (Int × ((Int × (Int × Unit)) × Unit))))))))) × ((List (List (Int × (Int × (Int × (Int × (Int × (Int × ((Int × (Int × Unit)) × Unit))))))))) × Unit))) : Option (Bool × Unit) :=
  let y1 := (x.1.length : Int) != (x.2.1.length : Int)
  bif y1 then
   some (false, ())
  else
  (lveqOpSS_0 N N (x.1, x.2.1, (0 : Int), ())).bind fun o6 =>
  Sum.elim (fun o7 =>
   some (true, ())) (fun o8 =>
   some (o8.1, ())) o6
noncomputable def conveqOpSS (N : Nat) : Con := { f := 48, din := dinveqOpSS, outs := outveqOpSS, F := FveqOpSS N }
noncomputable def XveqOpSS (N : Nat) : Ctx := { E := EveqOpSS N, H := HveqOpSS, lp := [(0, { hd := dveqOpSS_0, outs := oveqOpSS_0, run := fun v => lveqOpSS_0 N N v })], jn := [] }
noncomputable def bveqOpSS_0 : Code := loopBody (codeOf Try.f48) 0
theorem FveqOpSS_eq (N : Nat) (x : ((List (List (Int × (Int × (Int × (Int × (Int × (Int × ((Int × (Int × Unit)) × Unit))))))))) × ((List (List (Int × (Int × (Int × (Int × (Int × (Int × ((Int × (Int × Unit)) × Unit))))))))) × Unit))) : evFn (XveqOpSS N) Try.f48 dinveqOpSS outveqOpSS x = FveqOpSS N x := by kernel_rfl
theorem lveqOpSS_0_eq (N n : Nat) (v : ((List (List (Int × (Int × (Int × (Int × (Int × (Int × ((Int × (Int × Unit)) × Unit))))))))) × ((List (List (Int × (Int × (Int × (Int × (Int × (Int × ((Int × (Int × Unit)) × Unit))))))))) × (Int × Unit)))) : lveqOpSS_0 N (n + 1) v = ev (XveqOpSS N) bveqOpSS_0 (roundK dveqOpSS_0 oveqOpSS_0 (lveqOpSS_0 N n)) (dveqOpSS_0.mk' v) := by kernel_rfl
theorem cxveqOpSS (N : Nat) : CtxOk Try.prog (XveqOpSS N) := ⟨⟨TE_ok, List.forall_mem_cons.2 ⟨(specveqOpS N), fun k hk => absurd hk List.not_mem_nil⟩⟩, mixed⟩
theorem lpveqOpSS_0 (N : Nat) : LoopOk Try.prog { hd := dveqOpSS_0, outs := oveqOpSS_0, run := fun v => lveqOpSS_0 N N v } bveqOpSS_0 :=
  loop_fuel (d := dveqOpSS_0) (os := oveqOpSS_0) (cxveqOpSS N) (loops_at (ids := []) (by kernel_rfl) (trivial)) (lveqOpSS_0 N) (fun _ => rfl) (fun n v => lveqOpSS_0_eq N n v) (fun _ => N)
theorem specveqOpSS (N : Nat) : Spec Try.prog (conveqOpSS N) :=
  Spec.of_eq (fn_spec (cxveqOpSS N) (f := 48) (fn := Try.f48) (c := codeOf Try.f48) (by kernel_rfl) (by kernel_rfl) (by kernel_rfl) (loops_at (ids := [0]) (by kernel_rfl) ⟨lp_of (lpveqOpSS_0 N), trivial⟩) (by kernel_rfl)) (fun x r h => (FveqOpSS_eq N x).trans h)

/-! ### 12: laws.FnExactAllCount -/

noncomputable def dinvFnExactAllCount : Desc := { n := 2, regs := [.one (.val (.pair (.int .i64) (.pair (.int .i64) (.pair (.int .i64) .unit)))), .one (.val (.sl (.sl (.pair (.int .i64) (.pair (.int .i64) (.pair (.int .i64) (.pair (.int .i64) (.pair (.int .i64) (.pair (.int .i64) (.pair (.pair (.int .i64) (.pair (.int .i64) .unit)) .unit))))))))))], bx := [], pins := [] }
noncomputable def outvFnExactAllCount : Outs := [(.ret, { n := 1, regs := [.one (.val .bool)], bx := [], pins := [] })]
noncomputable def HvFnExactAllCount : Hints := [(0, [(0, { fz := true })]),
  (5, [(1, { con := 1 }), (3, { con := 2 }), (4, { con := 3 })]),
  (6, [(1, { con := 2 })]),
  (7, [(1, { con := 1 }), (3, { con := 4 })]),
  (10, [(2, { con := 2 }), (3, { con := 5 })])]
noncomputable def EvFnExactAllCount (N : Nat) : Env := { te := TE, cs := [convszOpSS N, convtoConfig N, convtoOpSS N, consAllCount N, coniAllCount N, conveqOpSS N] }
noncomputable def FvFnExactAllCount (N : Nat) (x : ((Int × (Int × (Int × Unit))) × ((List (List (Int × (Int × (Int × (Int × (Int × (Int × ((Int × (Int × Unit)) × Unit))))))))) × Unit))) : Option (Bool × Unit) :=
  (FvszOpSS N (x.2.1, (1048576 : Int), ())).bind fun r1 =>
  bif decide (r1.1 < (0 : Int)) then
   some (true, ())
  else
  (FvtoConfig N (x.1, ())).bind fun r2 =>
  (FvtoOpSS N (x.2.1, ())).bind fun r3 =>
  (FsAllCount N ((r2.1, r2.2.1, r2.2.2.1, ()), r3.1, ())).bind fun r4 =>
  (FvtoOpSS N (x.2.1, ())).bind fun r5 =>
  (FvtoConfig N (x.1, ())).bind fun r6 =>
  (FiAllCount N ((r6.1, r6.2.1, r6.2.2.1, ()), r5.1, ())).bind fun r7 =>
  bif r7.1 != r4.1 then
   some (false, ())
  else
  (FvtoOpSS N (x.2.1, ())).bind fun r8 =>
  (FveqOpSS N (r5.1, r8.1, ())).bind fun r9 =>
  bif !r9.1 then
   some (false, ())
  else
  some (true, ())
noncomputable def convFnExactAllCount (N : Nat) : Con := { f := 12, din := dinvFnExactAllCount, outs := outvFnExactAllCount, F := FvFnExactAllCount N }
noncomputable def XvFnExactAllCount (N : Nat) : Ctx := { E := EvFnExactAllCount N, H := HvFnExactAllCount, lp := [], jn := [] }
theorem FvFnExactAllCount_eq (N : Nat) (x : ((Int × (Int × (Int × Unit))) × ((List (List (Int × (Int × (Int × (Int × (Int × (Int × ((Int × (Int × Unit)) × Unit))))))))) × Unit))) : evFn (XvFnExactAllCount N) Try.f12 dinvFnExactAllCount outvFnExactAllCount x = FvFnExactAllCount N x := by kernel_rfl
theorem cxvFnExactAllCount (N : Nat) : CtxOk Try.prog (XvFnExactAllCount N) := ⟨⟨TE_ok, List.forall_mem_cons.2 ⟨(specvszOpSS N), List.forall_mem_cons.2 ⟨(specvtoConfig N), List.forall_mem_cons.2 ⟨(specvtoOpSS N), List.forall_mem_cons.2 ⟨(specsAllCount N), List.forall_mem_cons.2 ⟨(speciAllCount N), List.forall_mem_cons.2 ⟨(specveqOpSS N), fun k hk => absurd hk List.not_mem_nil⟩⟩⟩⟩⟩⟩⟩, mixed⟩
theorem specvFnExactAllCount (N : Nat) : Spec Try.prog (convFnExactAllCount N) :=
  Spec.of_eq (fn_spec (cxvFnExactAllCount N) (f := 12) (fn := Try.f12) (c := codeOf Try.f12) (by kernel_rfl) (by kernel_rfl) (by kernel_rfl) (loops_at (ids := []) (by kernel_rfl) (trivial)) (by kernel_rfl)) (fun x r h => (FvFnExactAllCount_eq N x).trans h)

end Go.Fl

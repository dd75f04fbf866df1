/- Proved: for every input the law FnExactHistFits returns true and leaves its arguments as they were. Part 1: the functions that the law reaches, as plain functions, and plain laws about them; no conditions. -/
import Derived.Test.YtjlcdaggbpgpjaaK3
import Derived.Test.YtjlcdaggbpgpjaaProg
set_option linter.all false
set_option maxRecDepth 100000
set_option linter.all false
namespace Go.Fl
open Go Go.Proofs
noncomputable def TE : List (Nat × Ty) := [(3, (.int .i64)),
  (4, .bool),
  (23, (.sl (.sl (.int .i64)))),
  (24, (.sl (.int .i64))),
  (29, (.sl (.pair (.sl (.int .i64)) (.pair (.sl (.int .i64)) .unit)))),
  (31, (.pair (.sl (.pair (.sl (.int .i64)) (.pair (.sl (.int .i64)) .unit))) (.pair (.sl (.sl (.int .i64))) (.pair (.sl (.int .i64)) .unit)))),
  (44, (.sl .bool)),
  (47, (.pair (.sl (.int .i64)) (.pair (.sl (.int .i64)) .unit))),
  (55, (.hnd true)),
  (57, (.pair (.int .i64) (.pair (.int .i64) (.pair (.int .i64) .unit)))),
  (58, (.sl (.sl (.pair (.int .i64) (.pair (.int .i64) (.pair (.int .i64) (.pair (.int .i64) (.pair (.int .i64) (.pair (.int .i64) (.pair (.pair (.int .i64) (.pair (.int .i64) .unit)) .unit)))))))))),
  (61, (.pair (.int .i64) (.pair (.int .i64) (.pair (.int .i64) .unit)))),
  (63, (.sl (.sl (.pair (.int .i64) (.pair (.int .i64) (.pair (.int .i64) (.pair (.int .i64) (.pair (.int .i64) (.pair (.int .i64) (.pair (.pair (.int .i64) (.pair (.int .i64) .unit)) .unit)))))))))),
  (68, (.pair (.int .i64) (.pair (.int .i64) .unit))),
  (70, (.pair (.int .i64) (.pair (.int .i64) (.pair (.int .i64) (.pair (.int .i64) (.pair (.int .i64) (.pair (.int .i64) (.pair (.pair (.int .i64) (.pair (.int .i64) .unit)) .unit)))))))),
  (72, (.pair (.int .i64) (.pair (.int .i64) .unit))),
  (74, (.pair (.int .i64) (.pair (.int .i64) (.pair (.int .i64) (.pair (.int .i64) (.pair (.int .i64) (.pair (.int .i64) (.pair (.pair (.int .i64) (.pair (.int .i64) .unit)) .unit)))))))),
  (77, (.sl (.pair (.int .i64) (.pair (.int .i64) (.pair (.int .i64) (.pair (.int .i64) (.pair (.int .i64) (.pair (.int .i64) .unit)))))))),
  (80, (.sl (.pair (.int .i64) (.pair (.int .i64) (.pair (.int .i64) (.pair (.int .i64) (.pair (.int .i64) (.pair (.int .i64) .unit)))))))),
  (97, (.hnd true)),
  (113, (.sl (.pair (.int .i64) (.pair (.int .i64) (.pair (.int .i64) (.pair (.int .i64) (.pair (.int .i64) (.pair (.int .i64) (.pair (.pair (.int .i64) (.pair (.int .i64) .unit)) .unit))))))))),
  (115, (.sl (.pair (.int .i64) (.pair (.int .i64) (.pair (.int .i64) (.pair (.int .i64) (.pair (.int .i64) (.pair (.int .i64) (.pair (.pair (.int .i64) (.pair (.int .i64) .unit)) .unit))))))))),
  (138, (.pair (.int .i64) (.pair (.int .i64) (.pair (.int .i64) (.pair (.int .i64) (.pair (.int .i64) (.pair (.int .i64) .unit))))))),
  (140, (.pair (.int .i64) (.pair (.int .i64) (.pair (.int .i64) (.pair (.int .i64) (.pair (.int .i64) (.pair (.int .i64) .unit))))))),
  (162, (.hnd true)),
  (165, (.int .u64)),
  (173, (.int .u64))]
theorem TE_ok : TyOk Try.prog TE := tysB_spec (by kernel_rfl)
theorem mixed : Try.prog.follows .mixedOrders = true := by kernel_rfl

/-! ### 92: laws.szOpS -/

noncomputable def dinvszOpS : Desc := { n := 2, regs := [.one (.val (.sl (.pair (.int .i64) (.pair (.int .i64) (.pair (.int .i64) (.pair (.int .i64) (.pair (.int .i64) (.pair (.int .i64) (.pair (.pair (.int .i64) (.pair (.int .i64) .unit)) .unit))))))))), .one (.val (.int .i64))], bx := [], pins := [] }
noncomputable def outvszOpS : Outs := [(.ret, { n := 1, regs := [.one (.val (.int .i64))], bx := [], pins := [] })]
noncomputable def HvszOpS : Hints := []
noncomputable def EvszOpS (_N : Nat) : Env := { te := TE, cs := [] }
noncomputable def FvszOpS (N : Nat) (x : ((List (Int × (Int × (Int × (Int × (Int × (Int × ((Int × (Int × Unit)) × Unit)))))))) × (Int × Unit))) : Option (Int × Unit) :=
  let y1 := decide ((w64 (x.2.1 - (x.1.length : Int))) < (0 : Int))
  bif y1 then
   some ((-1 : Int), ())
  else
  some (w64 (x.2.1 - (x.1.length : Int)), ())
noncomputable def convszOpS (N : Nat) : Con := { f := 92, din := dinvszOpS, outs := outvszOpS, F := FvszOpS N }
noncomputable def XvszOpS (N : Nat) : Ctx := { E := EvszOpS N, H := HvszOpS, lp := [], jn := [] }
theorem FvszOpS_eq (N : Nat) (x : ((List (Int × (Int × (Int × (Int × (Int × (Int × ((Int × (Int × Unit)) × Unit)))))))) × (Int × Unit))) : evFn (XvszOpS N) Try.f92 dinvszOpS outvszOpS x = FvszOpS N x := by kernel_rfl
theorem cxvszOpS (N : Nat) : CtxOk Try.prog (XvszOpS N) := ⟨⟨TE_ok, fun k hk => absurd hk List.not_mem_nil⟩, mixed⟩
theorem specvszOpS (N : Nat) : Spec Try.prog (convszOpS N) :=
  Spec.of_eq (fn_spec (cxvszOpS N) (f := 92) (fn := Try.f92) (c := codeOf Try.f92) (by kernel_rfl) (by kernel_rfl) (by kernel_rfl) (loops_at (ids := []) (by kernel_rfl) (trivial)) (by kernel_rfl)) (fun x r h => (FvszOpS_eq N x).trans h)

/-! ### 43: laws.szOpSS -/

noncomputable def dinvszOpSS : Desc := { n := 2, regs := [.one (.val (.sl (.sl (.pair (.int .i64) (.pair (.int .i64) (.pair (.int .i64) (.pair (.int .i64) (.pair (.int .i64) (.pair (.int .i64) (.pair (.pair (.int .i64) (.pair (.int .i64) .unit)) .unit)))))))))), .one (.val (.int .i64))], bx := [], pins := [] }
noncomputable def outvszOpSS : Outs := [(.ret, { n := 1, regs := [.one (.val (.int .i64))], bx := [], pins := [] })]
noncomputable def HvszOpSS : Hints := []
noncomputable def EvszOpSS (N : Nat) : Env := { te := TE, cs := [convszOpS N] }
noncomputable def dvszOpSS_0 : Desc := { n := 27, regs := [.one (.val (.sl (.sl (.pair (.int .i64) (.pair (.int .i64) (.pair (.int .i64) (.pair (.int .i64) (.pair (.int .i64) (.pair (.int .i64) (.pair (.pair (.int .i64) (.pair (.int .i64) .unit)) .unit)))))))))), .one (.val (.int .i64)), u, u, u, .one (.val (.int .i64))], bx := [], pins := [] }
noncomputable def ovszOpSS_0 : Outs := [(.exit 0, { n := 27, regs := [u, .one (.val (.int .i64))], bx := [], pins := [] }), (.ret, { n := 27, regs := [u, u, u, u, .one (.val (.int .i64))], bx := [], pins := [] })]
noncomputable def lvszOpSS_0 (N : Nat) : Nat → ((List (List (Int × (Int × (Int × (Int × (Int × (Int × ((Int × (Int × Unit)) × Unit))))))))) × (Int × (Int × Unit))) → Option ((Int × Unit) ⊕ (Int × Unit))
  | 0, _ => none
  | n + 1, v =>
    let y2 := decide (v.2.2.1 < (v.1.length : Int))
    bif y2 then
     bif decide (0 ≤ v.2.2.1) then
     bif decide (v.2.2.1.toNat < v.1.length) then
     let y3 := v.1.getD v.2.2.1.toNat ([] : (List (Int × (Int × (Int × (Int × (Int × (Int × ((Int × (Int × Unit)) × Unit)))))))))
     (FvszOpS N (y3, v.2.1, ())).bind fun r4 =>
     bif decide (r4.1 < (0 : Int)) then
      some (.inr (((-1 : Int), ())))
     else
     lvszOpSS_0 N n (v.1, r4.1, w64 (v.2.2.1 + (1 : Int)), ())
     else none
     else none
    else
    some (.inl (v.2.1, ()))
noncomputable def FvszOpSS (N : Nat) (x : ((List (List (Int × (Int × (Int × (Int × (Int × (Int × ((Int × (Int × Unit)) × Unit))))))))) × (Int × Unit))) : Option (Int × Unit) :=
  let y1 := decide ((w64 (x.2.1 - (x.1.length : Int))) < (0 : Int))
  bif y1 then
   some ((-1 : Int), ())
  else
  (lvszOpSS_0 N N (x.1, w64 (x.2.1 - (x.1.length : Int)), (0 : Int), ())).bind fun o5 =>
  Sum.elim (fun o6 =>
   some (o6.1, ())) (fun o7 =>
   some (o7.1, ())) o5
noncomputable def convszOpSS (N : Nat) : Con := { f := 43, din := dinvszOpSS, outs := outvszOpSS, F := FvszOpSS N }
noncomputable def XvszOpSS (N : Nat) : Ctx := { E := EvszOpSS N, H := HvszOpSS, lp := [(0, { hd := dvszOpSS_0, outs := ovszOpSS_0, run := fun v => lvszOpSS_0 N N v })], jn := [] }
noncomputable def bvszOpSS_0 : Code := loopBody (codeOf Try.f43) 0
theorem FvszOpSS_eq (N : Nat) (x : ((List (List (Int × (Int × (Int × (Int × (Int × (Int × ((Int × (Int × Unit)) × Unit))))))))) × (Int × Unit))) : evFn (XvszOpSS N) Try.f43 dinvszOpSS outvszOpSS x = FvszOpSS N x := by kernel_rfl
theorem lvszOpSS_0_eq (N n : Nat) (v : ((List (List (Int × (Int × (Int × (Int × (Int × (Int × ((Int × (Int × Unit)) × Unit))))))))) × (Int × (Int × Unit)))) : lvszOpSS_0 N (n + 1) v = ev (XvszOpSS N) bvszOpSS_0 (roundK dvszOpSS_0 ovszOpSS_0 (lvszOpSS_0 N n)) (dvszOpSS_0.mk' v) := by kernel_rfl
theorem cxvszOpSS (N : Nat) : CtxOk Try.prog (XvszOpSS N) := ⟨⟨TE_ok, List.forall_mem_cons.2 ⟨(specvszOpS N), fun k hk => absurd hk List.not_mem_nil⟩⟩, mixed⟩
theorem lpvszOpSS_0 (N : Nat) : LoopOk Try.prog { hd := dvszOpSS_0, outs := ovszOpSS_0, run := fun v => lvszOpSS_0 N N v } bvszOpSS_0 :=
  loop_fuel (d := dvszOpSS_0) (os := ovszOpSS_0) (cxvszOpSS N) (loops_at (ids := []) (by kernel_rfl) (trivial)) (lvszOpSS_0 N) (fun _ => rfl) (fun n v => lvszOpSS_0_eq N n v) (fun _ => N)
theorem specvszOpSS (N : Nat) : Spec Try.prog (convszOpSS N) :=
  Spec.of_eq (fn_spec (cxvszOpSS N) (f := 43) (fn := Try.f43) (c := codeOf Try.f43) (by kernel_rfl) (by kernel_rfl) (by kernel_rfl) (loops_at (ids := [0]) (by kernel_rfl) ⟨lp_of (lpvszOpSS_0 N), trivial⟩) (by kernel_rfl)) (fun x r h => (FvszOpSS_eq N x).trans h)

/-! ### 52: laws.szCallS -/

noncomputable def dinvszCallS : Desc := { n := 2, regs := [.one (.val (.sl (.pair (.int .i64) (.pair (.int .i64) (.pair (.int .i64) (.pair (.int .i64) (.pair (.int .i64) (.pair (.int .i64) .unit)))))))), .one (.val (.int .i64))], bx := [], pins := [] }
noncomputable def outvszCallS : Outs := [(.ret, { n := 1, regs := [.one (.val (.int .i64))], bx := [], pins := [] })]
noncomputable def HvszCallS : Hints := []
noncomputable def EvszCallS (_N : Nat) : Env := { te := TE, cs := [] }
noncomputable def FvszCallS (N : Nat) (x : ((List (Int × (Int × (Int × (Int × (Int × (Int × Unit))))))) × (Int × Unit))) : Option (Int × Unit) :=
  let y1 := decide ((w64 (x.2.1 - (x.1.length : Int))) < (0 : Int))
  bif y1 then
   some ((-1 : Int), ())
  else
  some (w64 (x.2.1 - (x.1.length : Int)), ())
noncomputable def convszCallS (N : Nat) : Con := { f := 52, din := dinvszCallS, outs := outvszCallS, F := FvszCallS N }
noncomputable def XvszCallS (N : Nat) : Ctx := { E := EvszCallS N, H := HvszCallS, lp := [], jn := [] }
theorem FvszCallS_eq (N : Nat) (x : ((List (Int × (Int × (Int × (Int × (Int × (Int × Unit))))))) × (Int × Unit))) : evFn (XvszCallS N) Try.f52 dinvszCallS outvszCallS x = FvszCallS N x := by kernel_rfl
theorem cxvszCallS (N : Nat) : CtxOk Try.prog (XvszCallS N) := ⟨⟨TE_ok, fun k hk => absurd hk List.not_mem_nil⟩, mixed⟩
theorem specvszCallS (N : Nat) : Spec Try.prog (convszCallS N) :=
  Spec.of_eq (fn_spec (cxvszCallS N) (f := 52) (fn := Try.f52) (c := codeOf Try.f52) (by kernel_rfl) (by kernel_rfl) (by kernel_rfl) (loops_at (ids := []) (by kernel_rfl) (trivial)) (by kernel_rfl)) (fun x r h => (FvszCallS_eq N x).trans h)

/-! ### 45: laws.toConfig -/

noncomputable def dinvtoConfig : Desc := { n := 1, regs := [.one (.val (.pair (.int .i64) (.pair (.int .i64) (.pair (.int .i64) .unit))))], bx := [], pins := [] }
noncomputable def outvtoConfig : Outs := [(.ret, { n := 1, regs := [.agg [.val (.int .i64), .val (.int .i64), .val (.int .i64)]], bx := [], pins := [] })]
noncomputable def HvtoConfig : Hints := [(0, [(0, { fz := true })])]
noncomputable def EvtoConfig (_N : Nat) : Env := { te := TE, cs := [] }
noncomputable def FvtoConfig (N : Nat) (x : ((Int × (Int × (Int × Unit))) × Unit)) : Option (Int × (Int × (Int × Unit))) :=
  some (x.1.1, x.1.2.1, x.1.2.2.1, ())
noncomputable def convtoConfig (N : Nat) : Con := { f := 45, din := dinvtoConfig, outs := outvtoConfig, F := FvtoConfig N }
noncomputable def XvtoConfig (N : Nat) : Ctx := { E := EvtoConfig N, H := HvtoConfig, lp := [], jn := [] }
theorem FvtoConfig_eq (N : Nat) (x : ((Int × (Int × (Int × Unit))) × Unit)) : evFn (XvtoConfig N) Try.f45 dinvtoConfig outvtoConfig x = FvtoConfig N x := by kernel_rfl
theorem cxvtoConfig (N : Nat) : CtxOk Try.prog (XvtoConfig N) := ⟨⟨TE_ok, fun k hk => absurd hk List.not_mem_nil⟩, mixed⟩
theorem specvtoConfig (N : Nat) : Spec Try.prog (convtoConfig N) :=
  Spec.of_eq (fn_spec (cxvtoConfig N) (f := 45) (fn := Try.f45) (c := codeOf Try.f45) (by kernel_rfl) (by kernel_rfl) (by kernel_rfl) (loops_at (ids := []) (by kernel_rfl) (trivial)) (by kernel_rfl)) (fun x r h => (FvtoConfig_eq N x).trans h)

/-! ### 105: laws.toShape -/

noncomputable def dinvtoShape : Desc := { n := 1, regs := [.one (.val (.pair (.int .i64) (.pair (.int .i64) .unit)))], bx := [], pins := [] }
noncomputable def outvtoShape : Outs := [(.ret, { n := 1, regs := [.agg [.val (.int .i64), .val (.int .i64)]], bx := [], pins := [] })]
noncomputable def HvtoShape : Hints := [(0, [(0, { fz := true })])]
noncomputable def EvtoShape (_N : Nat) : Env := { te := TE, cs := [] }
noncomputable def FvtoShape (N : Nat) (x : ((Int × (Int × Unit)) × Unit)) : Option (Int × (Int × Unit)) :=
  some (x.1.1, x.1.2.1, ())
noncomputable def convtoShape (N : Nat) : Con := { f := 105, din := dinvtoShape, outs := outvtoShape, F := FvtoShape N }
noncomputable def XvtoShape (N : Nat) : Ctx := { E := EvtoShape N, H := HvtoShape, lp := [], jn := [] }
theorem FvtoShape_eq (N : Nat) (x : ((Int × (Int × Unit)) × Unit)) : evFn (XvtoShape N) Try.f105 dinvtoShape outvtoShape x = FvtoShape N x := by kernel_rfl
theorem cxvtoShape (N : Nat) : CtxOk Try.prog (XvtoShape N) := ⟨⟨TE_ok, fun k hk => absurd hk List.not_mem_nil⟩, mixed⟩
theorem specvtoShape (N : Nat) : Spec Try.prog (convtoShape N) :=
  Spec.of_eq (fn_spec (cxvtoShape N) (f := 105) (fn := Try.f105) (c := codeOf Try.f105) (by kernel_rfl) (by kernel_rfl) (by kernel_rfl) (loops_at (ids := []) (by kernel_rfl) (trivial)) (by kernel_rfl)) (fun x r h => (FvtoShape_eq N x).trans h)

/-! ### 50: laws.toOp -/

noncomputable def dinvtoOp : Desc := { n := 1, regs := [.one (.val (.pair (.int .i64) (.pair (.int .i64) (.pair (.int .i64) (.pair (.int .i64) (.pair (.int .i64) (.pair (.int .i64) (.pair (.pair (.int .i64) (.pair (.int .i64) .unit)) .unit))))))))], bx := [], pins := [] }
noncomputable def outvtoOp : Outs := [(.ret, { n := 1, regs := [.agg [.val (.int .i64), .val (.int .i64), .val (.int .i64), .val (.int .i64), .val (.int .i64), .val (.int .i64), .val (.int .i64), .val (.int .i64)]], bx := [], pins := [] })]
noncomputable def HvtoOp : Hints := [(0, [(0, { fz := true })])]
noncomputable def EvtoOp (N : Nat) : Env := { te := TE, cs := [convtoShape N] }
noncomputable def FvtoOp (N : Nat) (x : ((Int × (Int × (Int × (Int × (Int × (Int × ((Int × (Int × Unit)) × Unit))))))) × Unit)) : Option (Int × (Int × (Int × (Int × (Int × (Int × (Int × (Int × Unit)))))))) :=
  (FvtoShape N (x.1.2.2.2.2.2.2.1, ())).bind fun r1 =>
  some (x.1.1, x.1.2.1, x.1.2.2.1, x.1.2.2.2.1, x.1.2.2.2.2.1, x.1.2.2.2.2.2.1, r1.1, r1.2.1, ())
noncomputable def convtoOp (N : Nat) : Con := { f := 50, din := dinvtoOp, outs := outvtoOp, F := FvtoOp N }
noncomputable def XvtoOp (N : Nat) : Ctx := { E := EvtoOp N, H := HvtoOp, lp := [], jn := [] }
theorem FvtoOp_eq (N : Nat) (x : ((Int × (Int × (Int × (Int × (Int × (Int × ((Int × (Int × Unit)) × Unit))))))) × Unit)) : evFn (XvtoOp N) Try.f50 dinvtoOp outvtoOp x = FvtoOp N x := by kernel_rfl
theorem cxvtoOp (N : Nat) : CtxOk Try.prog (XvtoOp N) := ⟨⟨TE_ok, List.forall_mem_cons.2 ⟨(specvtoShape N), fun k hk => absurd hk List.not_mem_nil⟩⟩, mixed⟩
theorem specvtoOp (N : Nat) : Spec Try.prog (convtoOp N) :=
  Spec.of_eq (fn_spec (cxvtoOp N) (f := 50) (fn := Try.f50) (c := codeOf Try.f50) (by kernel_rfl) (by kernel_rfl) (by kernel_rfl) (loops_at (ids := []) (by kernel_rfl) (trivial)) (by kernel_rfl)) (fun x r h => (FvtoOp_eq N x).trans h)

/-! ### 95: laws.toOpS -/

noncomputable def dinvtoOpS : Desc := { n := 1, regs := [.one (.val (.sl (.pair (.int .i64) (.pair (.int .i64) (.pair (.int .i64) (.pair (.int .i64) (.pair (.int .i64) (.pair (.int .i64) (.pair (.pair (.int .i64) (.pair (.int .i64) .unit)) .unit)))))))))], bx := [], pins := [] }
noncomputable def outvtoOpS : Outs := [(.ret, { n := 1, regs := [.one (.lit (.row 1012928))], bx := [(1012928, .row (.pair (.int .i64) (.pair (.int .i64) (.pair (.int .i64) (.pair (.int .i64) (.pair (.int .i64) (.pair (.int .i64) (.pair (.pair (.int .i64) (.pair (.int .i64) .unit)) .unit))))))))], pins := [] })]
noncomputable def HvtoOpS : Hints := []
noncomputable def EvtoOpS (N : Nat) : Env := { te := TE, cs := [convtoOp N] }
noncomputable def dvtoOpS_0 : Desc := { n := 23, regs := [.one (.val (.sl (.pair (.int .i64) (.pair (.int .i64) (.pair (.int .i64) (.pair (.int .i64) (.pair (.int .i64) (.pair (.int .i64) (.pair (.pair (.int .i64) (.pair (.int .i64) .unit)) .unit))))))))), u, u, .one (.lit (.row 1012928)), .one (.val (.int .i64))], bx := [(1012928, .row (.pair (.int .i64) (.pair (.int .i64) (.pair (.int .i64) (.pair (.int .i64) (.pair (.int .i64) (.pair (.int .i64) (.pair (.pair (.int .i64) (.pair (.int .i64) .unit)) .unit))))))))], pins := [] }
noncomputable def ovtoOpS_0 : Outs := [(.exit 0, { n := 23, regs := [u, u, u, .one (.lit (.row 1012928))], bx := [(1012928, .row (.pair (.int .i64) (.pair (.int .i64) (.pair (.int .i64) (.pair (.int .i64) (.pair (.int .i64) (.pair (.int .i64) (.pair (.pair (.int .i64) (.pair (.int .i64) .unit)) .unit))))))))], pins := [] })]
noncomputable def lvtoOpS_0 (N : Nat) : Nat → ((List (Int × (Int × (Int × (Int × (Int × (Int × ((Int × (Int × Unit)) × Unit)))))))) × (Int × ((List (Int × (Int × (Int × (Int × (Int × (Int × ((Int × (Int × Unit)) × Unit)))))))) × Unit))) → Option ((List (Int × (Int × (Int × (Int × (Int × (Int × ((Int × (Int × Unit)) × Unit)))))))) × Unit)
  | 0, _ => none
  | n + 1, v =>
    bif decide (v.2.1 < (v.1.length : Int)) then
     bif decide (0 ≤ v.2.1) then
     bif decide (v.2.1.toNat < v.1.length) then
     let y2 := v.1.getD v.2.1.toNat ((0 : Int), (0 : Int), (0 : Int), (0 : Int), (0 : Int), (0 : Int), ((0 : Int), (0 : Int), ()), ())
     (FvtoOp N (y2, ())).bind fun r3 =>
     bif decide (0 ≤ v.2.1) then
     bif decide (v.2.1.toNat < v.2.2.1.length) then
     let y4 := v.2.2.1.set v.2.1.toNat (r3.1, r3.2.1, r3.2.2.1, r3.2.2.2.1, r3.2.2.2.2.1, r3.2.2.2.2.2.1, (r3.2.2.2.2.2.2.1, r3.2.2.2.2.2.2.2.1, ()), ())
     lvtoOpS_0 N n (v.1, w64 (v.2.1 + (1 : Int)), y4, ())
     else none
     else none
     else none
     else none
    else
    some (v.2.2.1, ())
noncomputable def FvtoOpS (N : Nat) (x : ((List (Int × (Int × (Int × (Int × (Int × (Int × ((Int × (Int × Unit)) × Unit)))))))) × Unit)) : Option ((List (Int × (Int × (Int × (Int × (Int × (Int × ((Int × (Int × Unit)) × Unit)))))))) × Unit) :=
  bif decide (0 ≤ (x.1.length : Int)) then
  bif decide ((x.1.length : Int).toNat ≤ lim) then
  let y1 := List.replicate (x.1.length : Int).toNat ((0 : Int), (0 : Int), (0 : Int), (0 : Int), (0 : Int), (0 : Int), ((0 : Int), (0 : Int), ()), ())
  (lvtoOpS_0 N N (x.1, (0 : Int), y1, ())).bind fun o5 =>
  some (o5.1, ())
  else none
  else none
noncomputable def convtoOpS (N : Nat) : Con := { f := 95, din := dinvtoOpS, outs := outvtoOpS, F := FvtoOpS N }
noncomputable def XvtoOpS (N : Nat) : Ctx := { E := EvtoOpS N, H := HvtoOpS, lp := [(0, { hd := dvtoOpS_0, outs := ovtoOpS_0, run := fun v => lvtoOpS_0 N N v })], jn := [] }
noncomputable def bvtoOpS_0 : Code := loopBody (codeOf Try.f95) 0
theorem FvtoOpS_eq (N : Nat) (x : ((List (Int × (Int × (Int × (Int × (Int × (Int × ((Int × (Int × Unit)) × Unit)))))))) × Unit)) : evFn (XvtoOpS N) Try.f95 dinvtoOpS outvtoOpS x = FvtoOpS N x := by kernel_rfl
theorem lvtoOpS_0_eq (N n : Nat) (v : ((List (Int × (Int × (Int × (Int × (Int × (Int × ((Int × (Int × Unit)) × Unit)))))))) × (Int × ((List (Int × (Int × (Int × (Int × (Int × (Int × ((Int × (Int × Unit)) × Unit)))))))) × Unit)))) : lvtoOpS_0 N (n + 1) v = ev (XvtoOpS N) bvtoOpS_0 (roundK dvtoOpS_0 ovtoOpS_0 (lvtoOpS_0 N n)) (dvtoOpS_0.mk' v) := by kernel_rfl
theorem cxvtoOpS (N : Nat) : CtxOk Try.prog (XvtoOpS N) := ⟨⟨TE_ok, List.forall_mem_cons.2 ⟨(specvtoOp N), fun k hk => absurd hk List.not_mem_nil⟩⟩, mixed⟩
theorem lpvtoOpS_0 (N : Nat) : LoopOk Try.prog { hd := dvtoOpS_0, outs := ovtoOpS_0, run := fun v => lvtoOpS_0 N N v } bvtoOpS_0 :=
  loop_fuel (d := dvtoOpS_0) (os := ovtoOpS_0) (cxvtoOpS N) (loops_at (ids := []) (by kernel_rfl) (trivial)) (lvtoOpS_0 N) (fun _ => rfl) (fun n v => lvtoOpS_0_eq N n v) (fun _ => N)
theorem specvtoOpS (N : Nat) : Spec Try.prog (convtoOpS N) :=
  Spec.of_eq (fn_spec (cxvtoOpS N) (f := 95) (fn := Try.f95) (c := codeOf Try.f95) (by kernel_rfl) (by kernel_rfl) (by kernel_rfl) (loops_at (ids := [0]) (by kernel_rfl) ⟨lp_of (lpvtoOpS_0 N), trivial⟩) (by kernel_rfl)) (fun x r h => (FvtoOpS_eq N x).trans h)

/-! ### 46: laws.toOpSS -/

noncomputable def dinvtoOpSS : Desc := { n := 1, regs := [.one (.val (.sl (.sl (.pair (.int .i64) (.pair (.int .i64) (.pair (.int .i64) (.pair (.int .i64) (.pair (.int .i64) (.pair (.int .i64) (.pair (.pair (.int .i64) (.pair (.int .i64) .unit)) .unit))))))))))], bx := [], pins := [] }
noncomputable def outvtoOpSS : Outs := [(.ret, { n := 1, regs := [.one (.lit (.row 1012928))], bx := [(1012928, .row (.sl (.pair (.int .i64) (.pair (.int .i64) (.pair (.int .i64) (.pair (.int .i64) (.pair (.int .i64) (.pair (.int .i64) (.pair (.pair (.int .i64) (.pair (.int .i64) .unit)) .unit)))))))))], pins := [] })]
noncomputable def HvtoOpSS : Hints := [(1, [(2, { dp := true })])]
noncomputable def EvtoOpSS (N : Nat) : Env := { te := TE, cs := [convtoOpS N] }
noncomputable def dvtoOpSS_0 : Desc := { n := 23, regs := [.one (.val (.sl (.sl (.pair (.int .i64) (.pair (.int .i64) (.pair (.int .i64) (.pair (.int .i64) (.pair (.int .i64) (.pair (.int .i64) (.pair (.pair (.int .i64) (.pair (.int .i64) .unit)) .unit)))))))))), u, u, .one (.lit (.row 1012928)), .one (.val (.int .i64))], bx := [(1012928, .row (.sl (.pair (.int .i64) (.pair (.int .i64) (.pair (.int .i64) (.pair (.int .i64) (.pair (.int .i64) (.pair (.int .i64) (.pair (.pair (.int .i64) (.pair (.int .i64) .unit)) .unit)))))))))], pins := [] }
noncomputable def ovtoOpSS_0 : Outs := [(.exit 0, { n := 23, regs := [u, u, u, .one (.lit (.row 1012928))], bx := [(1012928, .row (.sl (.pair (.int .i64) (.pair (.int .i64) (.pair (.int .i64) (.pair (.int .i64) (.pair (.int .i64) (.pair (.int .i64) (.pair (.pair (.int .i64) (.pair (.int .i64) .unit)) .unit)))))))))], pins := [] })]
noncomputable def lvtoOpSS_0 (N : Nat) : Nat → ((List (List (Int × (Int × (Int × (Int × (Int × (Int × ((Int × (Int × Unit)) × Unit))))))))) × (Int × ((List (List (Int × (Int × (Int × (Int × (Int × (Int × ((Int × (Int × Unit)) × Unit))))))))) × Unit))) → Option ((List (List (Int × (Int × (Int × (Int × (Int × (Int × ((Int × (Int × Unit)) × Unit))))))))) × Unit)
  | 0, _ => none
  | n + 1, v =>
    bif decide (v.2.1 < (v.1.length : Int)) then
     bif decide (0 ≤ v.2.1) then
     bif decide (v.2.1.toNat < v.1.length) then
     let y2 := v.1.getD v.2.1.toNat ([] : (List (Int × (Int × (Int × (Int × (Int × (Int × ((Int × (Int × Unit)) × Unit)))))))))
     (FvtoOpS N (y2, ())).bind fun r3 =>
     bif decide (0 ≤ v.2.1) then
     bif decide (v.2.1.toNat < v.2.2.1.length) then
     lvtoOpSS_0 N n (v.1, w64 (v.2.1 + (1 : Int)), v.2.2.1.set v.2.1.toNat r3.1, ())
     else none
     else none
     else none
     else none
    else
    some (v.2.2.1, ())
noncomputable def FvtoOpSS (N : Nat) (x : ((List (List (Int × (Int × (Int × (Int × (Int × (Int × ((Int × (Int × Unit)) × Unit))))))))) × Unit)) : Option ((List (List (Int × (Int × (Int × (Int × (Int × (Int × ((Int × (Int × Unit)) × Unit))))))))) × Unit) :=
  bif decide (0 ≤ (x.1.length : Int)) then
  bif decide ((x.1.length : Int).toNat ≤ lim) then
  let y1 := List.replicate (x.1.length : Int).toNat ([] : (List (Int × (Int × (Int × (Int × (Int × (Int × ((Int × (Int × Unit)) × Unit)))))))))
  (lvtoOpSS_0 N N (x.1, (0 : Int), y1, ())).bind fun o4 =>
  some (o4.1, ())
  else none
  else none
noncomputable def convtoOpSS (N : Nat) : Con := { f := 46, din := dinvtoOpSS, outs := outvtoOpSS, F := FvtoOpSS N }
noncomputable def XvtoOpSS (N : Nat) : Ctx := { E := EvtoOpSS N, H := HvtoOpSS, lp := [(0, { hd := dvtoOpSS_0, outs := ovtoOpSS_0, run := fun v => lvtoOpSS_0 N N v })], jn := [] }
noncomputable def bvtoOpSS_0 : Code := loopBody (codeOf Try.f46) 0
theorem FvtoOpSS_eq (N : Nat) (x : ((List (List (Int × (Int × (Int × (Int × (Int × (Int × ((Int × (Int × Unit)) × Unit))))))))) × Unit)) : evFn (XvtoOpSS N) Try.f46 dinvtoOpSS outvtoOpSS x = FvtoOpSS N x := by kernel_rfl
theorem lvtoOpSS_0_eq (N n : Nat) (v : ((List (List (Int × (Int × (Int × (Int × (Int × (Int × ((Int × (Int × Unit)) × Unit))))))))) × (Int × ((List (List (Int × (Int × (Int × (Int × (Int × (Int × ((Int × (Int × Unit)) × Unit))))))))) × Unit)))) : lvtoOpSS_0 N (n + 1) v = ev (XvtoOpSS N) bvtoOpSS_0 (roundK dvtoOpSS_0 ovtoOpSS_0 (lvtoOpSS_0 N n)) (dvtoOpSS_0.mk' v) := by kernel_rfl
theorem cxvtoOpSS (N : Nat) : CtxOk Try.prog (XvtoOpSS N) := ⟨⟨TE_ok, List.forall_mem_cons.2 ⟨(specvtoOpS N), fun k hk => absurd hk List.not_mem_nil⟩⟩, mixed⟩
theorem lpvtoOpSS_0 (N : Nat) : LoopOk Try.prog { hd := dvtoOpSS_0, outs := ovtoOpSS_0, run := fun v => lvtoOpSS_0 N N v } bvtoOpSS_0 :=
  loop_fuel (d := dvtoOpSS_0) (os := ovtoOpSS_0) (cxvtoOpSS N) (loops_at (ids := []) (by kernel_rfl) (trivial)) (lvtoOpSS_0 N) (fun _ => rfl) (fun n v => lvtoOpSS_0_eq N n v) (fun _ => N)
theorem specvtoOpSS (N : Nat) : Spec Try.prog (convtoOpSS N) :=
  Spec.of_eq (fn_spec (cxvtoOpSS N) (f := 46) (fn := Try.f46) (c := codeOf Try.f46) (by kernel_rfl) (by kernel_rfl) (by kernel_rfl) (loops_at (ids := [0]) (by kernel_rfl) ⟨lp_of (lpvtoOpSS_0 N), trivial⟩) (by kernel_rfl)) (fun x r h => (FvtoOpSS_eq N x).trans h)

/-! ### 117: laws.toCall -/

noncomputable def dinvtoCall : Desc := { n := 1, regs := [.one (.val (.pair (.int .i64) (.pair (.int .i64) (.pair (.int .i64) (.pair (.int .i64) (.pair (.int .i64) (.pair (.int .i64) .unit)))))))], bx := [], pins := [] }
noncomputable def outvtoCall : Outs := [(.ret, { n := 1, regs := [.agg [.val (.int .i64), .val (.int .i64), .val (.int .i64), .val (.int .i64), .val (.int .i64), .val (.int .i64)]], bx := [], pins := [] })]
noncomputable def HvtoCall : Hints := [(0, [(0, { fz := true })])]
noncomputable def EvtoCall (_N : Nat) : Env := { te := TE, cs := [] }
noncomputable def FvtoCall (N : Nat) (x : ((Int × (Int × (Int × (Int × (Int × (Int × Unit)))))) × Unit)) : Option (Int × (Int × (Int × (Int × (Int × (Int × Unit)))))) :=
  some (x.1.1, x.1.2.1, x.1.2.2.1, x.1.2.2.2.1, x.1.2.2.2.2.1, x.1.2.2.2.2.2.1, ())
noncomputable def convtoCall (N : Nat) : Con := { f := 117, din := dinvtoCall, outs := outvtoCall, F := FvtoCall N }
noncomputable def XvtoCall (N : Nat) : Ctx := { E := EvtoCall N, H := HvtoCall, lp := [], jn := [] }
theorem FvtoCall_eq (N : Nat) (x : ((Int × (Int × (Int × (Int × (Int × (Int × Unit)))))) × Unit)) : evFn (XvtoCall N) Try.f117 dinvtoCall outvtoCall x = FvtoCall N x := by kernel_rfl
theorem cxvtoCall (N : Nat) : CtxOk Try.prog (XvtoCall N) := ⟨⟨TE_ok, fun k hk => absurd hk List.not_mem_nil⟩, mixed⟩
theorem specvtoCall (N : Nat) : Spec Try.prog (convtoCall N) :=
  Spec.of_eq (fn_spec (cxvtoCall N) (f := 117) (fn := Try.f117) (c := codeOf Try.f117) (by kernel_rfl) (by kernel_rfl) (by kernel_rfl) (loops_at (ids := []) (by kernel_rfl) (trivial)) (by kernel_rfl)) (fun x r h => (FvtoCall_eq N x).trans h)

/-! ### 54: laws.toCallS -/

noncomputable def dinvtoCallS : Desc := { n := 1, regs := [.one (.val (.sl (.pair (.int .i64) (.pair (.int .i64) (.pair (.int .i64) (.pair (.int .i64) (.pair (.int .i64) (.pair (.int .i64) .unit))))))))], bx := [], pins := [] }
noncomputable def outvtoCallS : Outs := [(.ret, { n := 1, regs := [.one (.lit (.row 1012928))], bx := [(1012928, .row (.pair (.int .i64) (.pair (.int .i64) (.pair (.int .i64) (.pair (.int .i64) (.pair (.int .i64) (.pair (.int .i64) .unit)))))))], pins := [] })]
noncomputable def HvtoCallS : Hints := []
noncomputable def EvtoCallS (N : Nat) : Env := { te := TE, cs := [convtoCall N] }
noncomputable def dvtoCallS_0 : Desc := { n := 23, regs := [.one (.val (.sl (.pair (.int .i64) (.pair (.int .i64) (.pair (.int .i64) (.pair (.int .i64) (.pair (.int .i64) (.pair (.int .i64) .unit)))))))), u, u, .one (.lit (.row 1012928)), .one (.val (.int .i64))], bx := [(1012928, .row (.pair (.int .i64) (.pair (.int .i64) (.pair (.int .i64) (.pair (.int .i64) (.pair (.int .i64) (.pair (.int .i64) .unit)))))))], pins := [] }
noncomputable def ovtoCallS_0 : Outs := [(.exit 0, { n := 23, regs := [u, u, u, .one (.lit (.row 1012928))], bx := [(1012928, .row (.pair (.int .i64) (.pair (.int .i64) (.pair (.int .i64) (.pair (.int .i64) (.pair (.int .i64) (.pair (.int .i64) .unit)))))))], pins := [] })]
noncomputable def lvtoCallS_0 (N : Nat) : Nat → ((List (Int × (Int × (Int × (Int × (Int × (Int × Unit))))))) × (Int × ((List (Int × (Int × (Int × (Int × (Int × (Int × Unit))))))) × Unit))) → Option ((List (Int × (Int × (Int × (Int × (Int × (Int × Unit))))))) × Unit)
  | 0, _ => none
  | n + 1, v =>
    bif decide (v.2.1 < (v.1.length : Int)) then
     bif decide (0 ≤ v.2.1) then
     bif decide (v.2.1.toNat < v.1.length) then
     let y2 := v.1.getD v.2.1.toNat ((0 : Int), (0 : Int), (0 : Int), (0 : Int), (0 : Int), (0 : Int), ())
     (FvtoCall N (y2, ())).bind fun r3 =>
     bif decide (0 ≤ v.2.1) then
     bif decide (v.2.1.toNat < v.2.2.1.length) then
     let y4 := v.2.2.1.set v.2.1.toNat (r3.1, r3.2.1, r3.2.2.1, r3.2.2.2.1, r3.2.2.2.2.1, r3.2.2.2.2.2.1, ())
     lvtoCallS_0 N n (v.1, w64 (v.2.1 + (1 : Int)), y4, ())
     else none
     else none
     else none
     else none
    else
    some (v.2.2.1, ())
noncomputable def FvtoCallS (N : Nat) (x : ((List (Int × (Int × (Int × (Int × (Int × (Int × Unit))))))) × Unit)) : Option ((List (Int × (Int × (Int × (Int × (Int × (Int × Unit))))))) × Unit) :=
  bif decide (0 ≤ (x.1.length : Int)) then
  bif decide ((x.1.length : Int).toNat ≤ lim) then
  let y1 := List.replicate (x.1.length : Int).toNat ((0 : Int), (0 : Int), (0 : Int), (0 : Int), (0 : Int), (0 : Int), ())
  (lvtoCallS_0 N N (x.1, (0 : Int), y1, ())).bind fun o5 =>
  some (o5.1, ())
  else none
  else none
noncomputable def convtoCallS (N : Nat) : Con := { f := 54, din := dinvtoCallS, outs := outvtoCallS, F := FvtoCallS N }
noncomputable def XvtoCallS (N : Nat) : Ctx := { E := EvtoCallS N, H := HvtoCallS, lp := [(0, { hd := dvtoCallS_0, outs := ovtoCallS_0, run := fun v => lvtoCallS_0 N N v })], jn := [] }
noncomputable def bvtoCallS_0 : Code := loopBody (codeOf Try.f54) 0
theorem FvtoCallS_eq (N : Nat) (x : ((List (Int × (Int × (Int × (Int × (Int × (Int × Unit))))))) × Unit)) : evFn (XvtoCallS N) Try.f54 dinvtoCallS outvtoCallS x = FvtoCallS N x := by kernel_rfl
theorem lvtoCallS_0_eq (N n : Nat) (v : ((List (Int × (Int × (Int × (Int × (Int × (Int × Unit))))))) × (Int × ((List (Int × (Int × (Int × (Int × (Int × (Int × Unit))))))) × Unit)))) : lvtoCallS_0 N (n + 1) v = ev (XvtoCallS N) bvtoCallS_0 (roundK dvtoCallS_0 ovtoCallS_0 (lvtoCallS_0 N n)) (dvtoCallS_0.mk' v) := by kernel_rfl
theorem cxvtoCallS (N : Nat) : CtxOk Try.prog (XvtoCallS N) := ⟨⟨TE_ok, List.forall_mem_cons.2 ⟨(specvtoCall N), fun k hk => absurd hk List.not_mem_nil⟩⟩, mixed⟩
theorem lpvtoCallS_0 (N : Nat) : LoopOk Try.prog { hd := dvtoCallS_0, outs := ovtoCallS_0, run := fun v => lvtoCallS_0 N N v } bvtoCallS_0 :=
  loop_fuel (d := dvtoCallS_0) (os := ovtoCallS_0) (cxvtoCallS N) (loops_at (ids := []) (by kernel_rfl) (trivial)) (lvtoCallS_0 N) (fun _ => rfl) (fun n v => lvtoCallS_0_eq N n v) (fun _ => N)
theorem specvtoCallS (N : Nat) : Spec Try.prog (convtoCallS N) :=
  Spec.of_eq (fn_spec (cxvtoCallS N) (f := 54) (fn := Try.f54) (c := codeOf Try.f54) (by kernel_rfl) (by kernel_rfl) (by kernel_rfl) (loops_at (ids := [0]) (by kernel_rfl) ⟨lp_of (lpvtoCallS_0 N), trivial⟩) (by kernel_rfl)) (fun x r h => (FvtoCallS_eq N x).trans h)

/-! ### 150: spec.ConfigOk -/

noncomputable def dinsConfigOk : Desc := { n := 1, regs := [.one (.val (.pair (.int .i64) (.pair (.int .i64) (.pair (.int .i64) .unit))))], bx := [], pins := [] }
noncomputable def outsConfigOk : Outs := [(.ret, { n := 1, regs := [.one (.val .bool)], bx := [], pins := [] })]
noncomputable def HsConfigOk : Hints := [(0, [(0, { fz := true })])]
noncomputable def EsConfigOk (_N : Nat) : Env := { te := TE, cs := [] }
noncomputable def FsConfigOk (N : Nat) (x : ((Int × (Int × (Int × Unit))) × Unit)) : Option (Bool × Unit) :=
  bif decide (x.1.1 ≥ (3 : Int)) then
   bif decide (x.1.1 ≤ (12 : Int)) then
    bif decide (x.1.2.1 ≥ (1 : Int)) then
     bif decide (x.1.2.1 ≤ (3 : Int)) then
      bif decide (x.1.2.2.1 ≥ (0 : Int)) then
       some (decide (x.1.2.2.1 ≤ (100 : Int)), ())
      else
      some (false, ())
     else
     some (false, ())
    else
    some (false, ())
   else
   some (false, ())
  else
  some (false, ())
noncomputable def consConfigOk (N : Nat) : Con := { f := 150, din := dinsConfigOk, outs := outsConfigOk, F := FsConfigOk N }
noncomputable def XsConfigOk (N : Nat) : Ctx := { E := EsConfigOk N, H := HsConfigOk, lp := [], jn := [] }
theorem FsConfigOk_eq (N : Nat) (x : ((Int × (Int × (Int × Unit))) × Unit)) : evFn (XsConfigOk N) Try.f150 dinsConfigOk outsConfigOk x = FsConfigOk N x := by kernel_rfl
theorem cxsConfigOk (N : Nat) : CtxOk Try.prog (XsConfigOk N) := ⟨⟨TE_ok, fun k hk => absurd hk List.not_mem_nil⟩, mixed⟩
theorem specsConfigOk (N : Nat) : Spec Try.prog (consConfigOk N) :=
  Spec.of_eq (fn_spec (cxsConfigOk N) (f := 150) (fn := Try.f150) (c := codeOf Try.f150) (by kernel_rfl) (by kernel_rfl) (by kernel_rfl) (loops_at (ids := []) (by kernel_rfl) (trivial)) (by kernel_rfl)) (fun x r h => (FsConfigOk_eq N x).trans h)

/-! ### 137: spec.StoryOk -/

noncomputable def dinsStoryOk : Desc := { n := 3, regs := [.one (.val (.pair (.int .i64) (.pair (.int .i64) (.pair (.int .i64) .unit)))), .one (.val (.sl (.sl (.pair (.int .i64) (.pair (.int .i64) (.pair (.int .i64) (.pair (.int .i64) (.pair (.int .i64) (.pair (.int .i64) (.pair (.pair (.int .i64) (.pair (.int .i64) .unit)) .unit)))))))))), .one (.val (.sl (.int .i64)))], bx := [], pins := [] }
noncomputable def outsStoryOk : Outs := [(.ret, { n := 1, regs := [.one (.val .bool)], bx := [], pins := [] })]
noncomputable def HsStoryOk : Hints := [(0, [(0, { fz := true })])]
noncomputable def EsStoryOk (N : Nat) : Env := { te := TE, cs := [consConfigOk N] }
noncomputable def dsStoryOk_0 : Desc := { n := 35, regs := [u, .one (.val (.sl (.sl (.pair (.int .i64) (.pair (.int .i64) (.pair (.int .i64) (.pair (.int .i64) (.pair (.int .i64) (.pair (.int .i64) (.pair (.pair (.int .i64) (.pair (.int .i64) .unit)) .unit)))))))))), u, u, u, u, u, .one (.val (.int .i64))], bx := [], pins := [] }
noncomputable def osStoryOk_0 : Outs := [(.exit 0, { n := 35, regs := [], bx := [], pins := [] }), (.ret, { n := 35, regs := [u, u, u, u, u, u, .one (.val .bool)], bx := [], pins := [] })]
noncomputable def jsStoryOk_3 : Outs := [(.normal, { n := 35, regs := [u, .one (.val (.sl (.sl (.pair (.int .i64) (.pair (.int .i64) (.pair (.int .i64) (.pair (.int .i64) (.pair (.int .i64) (.pair (.int .i64) (.pair (.pair (.int .i64) (.pair (.int .i64) .unit)) .unit))))))))))], bx := [], pins := [] }), (.ret, { n := 35, regs := [u, u, u, u, u, u, .one (.val .bool)], bx := [], pins := [] })]
noncomputable def lsStoryOk_0 (N : Nat) : Nat → ((List (List (Int × (Int × (Int × (Int × (Int × (Int × ((Int × (Int × Unit)) × Unit))))))))) × (Int × Unit)) → Option (Unit ⊕ (Bool × Unit))
  | 0, _ => none
  | n + 1, v =>
    bif decide (v.2.1 < (v.1.length : Int)) then
     bif decide (0 ≤ v.2.1) then
     bif decide (v.2.1.toNat < v.1.length) then
     let y5 := v.1.getD v.2.1.toNat ([] : (List (Int × (Int × (Int × (Int × (Int × (Int × ((Int × (Int × Unit)) × Unit)))))))))
     let y6 := decide ((y5.length : Int) > (40 : Int))
     bif y6 then
      some (.inr ((false, ())))
     else
     lsStoryOk_0 N n (v.1, w64 (v.2.1 + (1 : Int)), ())
     else none
     else none
    else
    some (.inl ())
noncomputable def FsStoryOk (N : Nat) (x : ((Int × (Int × (Int × Unit))) × ((List (List (Int × (Int × (Int × (Int × (Int × (Int × ((Int × (Int × Unit)) × Unit))))))))) × ((List Int) × Unit)))) : Option (Bool × Unit) :=
  Option.bind (
   (FsConfigOk N (x.1, ())).bind fun r1 =>
   bif !r1.1 then
    some (.inr ((false, ())))
   else
   bif (x.2.1.length : Int) != x.1.2.1 then
    some (.inr ((false, ())))
   else
   let y2 := decide ((x.2.2.1.length : Int) > (4000 : Int))
   bif y2 then
    some (.inr ((false, ())))
   else
   some (.inl (x.2.1, ()))) fun o3 =>
  Sum.elim (fun o4 =>
   (lsStoryOk_0 N N (o4.1, (0 : Int), ())).bind fun o7 =>
   Sum.elim (fun o8 =>
    some (true, ())) (fun o9 =>
    some (o9.1, ())) o7) (fun o10 =>
   some (o10.1, ())) o3
noncomputable def consStoryOk (N : Nat) : Con := { f := 137, din := dinsStoryOk, outs := outsStoryOk, F := FsStoryOk N }
noncomputable def XsStoryOk (N : Nat) : Ctx := { E := EsStoryOk N, H := HsStoryOk, lp := [(0, { hd := dsStoryOk_0, outs := osStoryOk_0, run := fun v => lsStoryOk_0 N N v })], jn := [(3, jsStoryOk_3)] }
noncomputable def bsStoryOk_0 : Code := loopBody (codeOf Try.f137) 0
theorem FsStoryOk_eq (N : Nat) (x : ((Int × (Int × (Int × Unit))) × ((List (List (Int × (Int × (Int × (Int × (Int × (Int × ((Int × (Int × Unit)) × Unit))))))))) × ((List Int) × Unit)))) : evFn (XsStoryOk N) Try.f137 dinsStoryOk outsStoryOk x = FsStoryOk N x := by kernel_rfl
theorem lsStoryOk_0_eq (N n : Nat) (v : ((List (List (Int × (Int × (Int × (Int × (Int × (Int × ((Int × (Int × Unit)) × Unit))))))))) × (Int × Unit))) : lsStoryOk_0 N (n + 1) v = ev (XsStoryOk N) bsStoryOk_0 (roundK dsStoryOk_0 osStoryOk_0 (lsStoryOk_0 N n)) (dsStoryOk_0.mk' v) := by kernel_rfl
theorem cxsStoryOk (N : Nat) : CtxOk Try.prog (XsStoryOk N) := ⟨⟨TE_ok, List.forall_mem_cons.2 ⟨(specsConfigOk N), fun k hk => absurd hk List.not_mem_nil⟩⟩, mixed⟩
theorem lpsStoryOk_0 (N : Nat) : LoopOk Try.prog { hd := dsStoryOk_0, outs := osStoryOk_0, run := fun v => lsStoryOk_0 N N v } bsStoryOk_0 :=
  loop_fuel (d := dsStoryOk_0) (os := osStoryOk_0) (cxsStoryOk N) (loops_at (ids := []) (by kernel_rfl) (trivial)) (lsStoryOk_0 N) (fun _ => rfl) (fun n v => lsStoryOk_0_eq N n v) (fun _ => N)
theorem specsStoryOk (N : Nat) : Spec Try.prog (consStoryOk N) :=
  Spec.of_eq (fn_spec (cxsStoryOk N) (f := 137) (fn := Try.f137) (c := codeOf Try.f137) (by kernel_rfl) (by kernel_rfl) (by kernel_rfl) (loops_at (ids := [0]) (by kernel_rfl) ⟨lp_of (lpsStoryOk_0 N), trivial⟩) (by kernel_rfl)) (fun x r h => (FsStoryOk_eq N x).trans h)

/-! ### 114: spec.HistOk -/

noncomputable def dinsHistOk : Desc := { n := 3, regs := [.one (.val (.pair (.int .i64) (.pair (.int .i64) (.pair (.int .i64) .unit)))), .one (.val (.sl (.sl (.pair (.int .i64) (.pair (.int .i64) (.pair (.int .i64) (.pair (.int .i64) (.pair (.int .i64) (.pair (.int .i64) (.pair (.pair (.int .i64) (.pair (.int .i64) .unit)) .unit)))))))))), .one (.val (.sl (.pair (.int .i64) (.pair (.int .i64) (.pair (.int .i64) (.pair (.int .i64) (.pair (.int .i64) (.pair (.int .i64) .unit))))))))], bx := [], pins := [] }
noncomputable def outsHistOk : Outs := [(.ret, { n := 1, regs := [.one (.val .bool)], bx := [], pins := [] })]
noncomputable def HsHistOk : Hints := [(0, [(0, { fz := true })])]
noncomputable def EsHistOk (N : Nat) : Env := { te := TE, cs := [consStoryOk N] }
noncomputable def dsHistOk_0 : Desc := { n := 146, regs := [u, .one (.val (.sl (.sl (.pair (.int .i64) (.pair (.int .i64) (.pair (.int .i64) (.pair (.int .i64) (.pair (.int .i64) (.pair (.int .i64) (.pair (.pair (.int .i64) (.pair (.int .i64) .unit)) .unit)))))))))), .one (.val (.sl (.pair (.int .i64) (.pair (.int .i64) (.pair (.int .i64) (.pair (.int .i64) (.pair (.int .i64) (.pair (.int .i64) .unit)))))))), .one (.fpt (.pair (.int .i64) (.pair (.int .i64) (.pair (.int .i64) .unit)))), u, u, u, .one (.lit (.row 1038528)), .one (.lit (.row 1051328)), .one (.val (.int .i64))], bx := [(1038528, .row (.int .i64)), (1051328, .row (.int .i64))], pins := [] }
noncomputable def osHistOk_0 : Outs := [(.exit 0, { n := 146, regs := [], bx := [], pins := [] }), (.ret, { n := 146, regs := [u, u, u, u, u, u, .one (.val .bool)], bx := [], pins := [] })]
noncomputable def jsHistOk_11 : Outs := [(.normal, { n := 146, regs := [u, .one (.val (.sl (.sl (.pair (.int .i64) (.pair (.int .i64) (.pair (.int .i64) (.pair (.int .i64) (.pair (.int .i64) (.pair (.int .i64) (.pair (.pair (.int .i64) (.pair (.int .i64) .unit)) .unit)))))))))), .one (.val (.sl (.pair (.int .i64) (.pair (.int .i64) (.pair (.int .i64) (.pair (.int .i64) (.pair (.int .i64) (.pair (.int .i64) .unit)))))))), .one (.fpt (.pair (.int .i64) (.pair (.int .i64) (.pair (.int .i64) .unit)))), u, u, u, .one (.lit (.row 1038528)), .one (.lit (.row 1051328)), .one (.val (.int .i64)), .one (.lit (.ptr 1102656 0))], bx := [(1038528, .row (.int .i64)), (1051328, .row (.int .i64)), (1102656, .var [.val (.int .i64), .val (.int .i64), .val (.int .i64), .val (.int .i64), .val (.int .i64), .val (.int .i64)])], pins := [] }), (.ret, { n := 146, regs := [u, u, u, u, u, u, .one (.val .bool)], bx := [], pins := [] })]
noncomputable def jsHistOk_13 : Outs := [(.normal, { n := 146, regs := [u, .one (.val (.sl (.sl (.pair (.int .i64) (.pair (.int .i64) (.pair (.int .i64) (.pair (.int .i64) (.pair (.int .i64) (.pair (.int .i64) (.pair (.pair (.int .i64) (.pair (.int .i64) .unit)) .unit)))))))))), .one (.val (.sl (.pair (.int .i64) (.pair (.int .i64) (.pair (.int .i64) (.pair (.int .i64) (.pair (.int .i64) (.pair (.int .i64) .unit)))))))), .one (.fpt (.pair (.int .i64) (.pair (.int .i64) (.pair (.int .i64) .unit)))), u, u, u, .one (.lit (.row 1038528)), .one (.lit (.row 1051328)), .one (.val (.int .i64)), .one (.lit (.ptr 1102656 0))], bx := [(1038528, .row (.int .i64)), (1051328, .row (.int .i64)), (1102656, .var [.val (.int .i64), .val (.int .i64), .val (.int .i64), .val (.int .i64), .val (.int .i64), .val (.int .i64)])], pins := [] }), (.ret, { n := 146, regs := [u, u, u, u, u, u, .one (.val .bool)], bx := [], pins := [] })]
noncomputable def jsHistOk_15 : Outs := [(.normal, { n := 146, regs := [u, .one (.val (.sl (.sl (.pair (.int .i64) (.pair (.int .i64) (.pair (.int .i64) (.pair (.int .i64) (.pair (.int .i64) (.pair (.int .i64) (.pair (.pair (.int .i64) (.pair (.int .i64) .unit)) .unit)))))))))), .one (.val (.sl (.pair (.int .i64) (.pair (.int .i64) (.pair (.int .i64) (.pair (.int .i64) (.pair (.int .i64) (.pair (.int .i64) .unit)))))))), .one (.fpt (.pair (.int .i64) (.pair (.int .i64) (.pair (.int .i64) .unit)))), u, u, u, .one (.lit (.row 1038528)), .one (.lit (.row 1051328)), .one (.val (.int .i64)), .one (.lit (.ptr 1102656 0))], bx := [(1038528, .row (.int .i64)), (1051328, .row (.int .i64)), (1102656, .var [.val (.int .i64), .val (.int .i64), .val (.int .i64), .val (.int .i64), .val (.int .i64), .val (.int .i64)])], pins := [] }), (.ret, { n := 146, regs := [u, u, u, u, u, u, .one (.val .bool)], bx := [], pins := [] })]
noncomputable def lsHistOk_0 (N : Nat) : Nat → ((List (List (Int × (Int × (Int × (Int × (Int × (Int × ((Int × (Int × Unit)) × Unit))))))))) × ((List (Int × (Int × (Int × (Int × (Int × (Int × Unit))))))) × ((Int × (Int × (Int × Unit))) × (Int × ((List Int) × ((List Int) × Unit)))))) → Option (Unit ⊕ (Bool × Unit))
  | 0, _ => none
  | n + 1, v =>
    let y4 := decide (v.2.2.2.1 < (v.2.1.length : Int))
    bif y4 then
     bif decide (0 ≤ v.2.2.2.1) then
     bif decide (v.2.2.2.1.toNat < v.2.1.length) then
     let y5 := v.2.1.getD v.2.2.2.1.toNat ((0 : Int), (0 : Int), (0 : Int), (0 : Int), (0 : Int), (0 : Int), ())
     Option.bind (
      bif decide (y5.1 < (0 : Int)) then
       some (.inr ((false, ())))
      else
      bif decide (y5.1 ≥ v.2.2.1.2.1) then
       some (.inr ((false, ())))
      else
      bif decide (0 ≤ y5.1) then
      bif decide (y5.1.toNat < v.2.2.2.2.1.length) then
      let y6 := v.2.2.2.2.1.getD y5.1.toNat (0 : Int)
      bif y5.2.1 != y6 then
       some (.inr ((false, ())))
      else
      bif decide (0 ≤ y5.1) then
      bif decide (y5.1.toNat < v.1.length) then
      let y7 := v.1.getD y5.1.toNat ([] : (List (Int × (Int × (Int × (Int × (Int × (Int × ((Int × (Int × Unit)) × Unit)))))))))
      bif decide (y5.2.1 ≥ (y7.length : Int)) then
       some (.inr ((false, ())))
      else
      bif decide (0 ≤ y5.1) then
      bif decide (y5.1.toNat < v.2.2.2.2.2.1.length) then
      let y8 := v.2.2.2.2.2.1.getD y5.1.toNat (0 : Int)
      bif decide (y8 < (0 : Int)) then
       some (.inr ((false, ())))
      else
      some (.inl (v.1, v.2.1, v.2.2.1, v.2.2.2.1, v.2.2.2.2.1, v.2.2.2.2.2.1, y5.1, y5.2.1, y5.2.2.1, y5.2.2.2.1, y5.2.2.2.2.1, y5.2.2.2.2.2.1, ()))
      else none
      else none
      else none
      else none
      else none
      else none) fun o9 =>
     Sum.elim (fun o10 =>
      Option.bind (
       bif decide (0 ≤ o10.2.2.2.2.2.2.1) then
       bif decide (o10.2.2.2.2.2.2.1.toNat < o10.2.2.2.2.2.1.length) then
       let y11 := o10.2.2.2.2.2.1.getD o10.2.2.2.2.2.2.1.toNat (0 : Int)
       bif decide (o10.2.2.2.2.2.2.2.2.1 < y11) then
        some (.inr ((false, ())))
       else
       bif decide (o10.2.2.2.1 > (0 : Int)) then
        bif decide (0 ≤ (w64 (o10.2.2.2.1 - (1 : Int)))) then
        bif decide ((w64 (o10.2.2.2.1 - (1 : Int))).toNat < o10.2.1.length) then
        let y12 := o10.2.1.getD ((w64 (o10.2.2.2.1 - (1 : Int))).toNat) ((0 : Int), (0 : Int), (0 : Int), (0 : Int), (0 : Int), (0 : Int), ())
        let y13 := decide (y12.2.2.1 ≥ o10.2.2.2.2.2.2.2.2.1)
        bif y13 then
         some (.inr ((false, ())))
        else
        let y14 := decide (o10.2.2.2.2.2.2.2.2.2.1 ≥ (0 : Int))
        bif y14 then
         let y15 := decide (o10.2.2.2.2.2.2.2.2.2.1 < o10.2.2.2.2.2.2.2.2.1)
         bif y15 then
          some (.inr ((false, ())))
         else
         let y16 := decide (o10.2.2.2.2.2.2.2.2.2.1 < (-1 : Int))
         bif y16 then
          some (.inr ((false, ())))
         else
         some (.inl (o10.1, o10.2.1, o10.2.2.1, o10.2.2.2.1, o10.2.2.2.2.1, o10.2.2.2.2.2.1, o10.2.2.2.2.2.2.1, o10.2.2.2.2.2.2.2.1, o10.2.2.2.2.2.2.2.2.1, o10.2.2.2.2.2.2.2.2.2.1, o10.2.2.2.2.2.2.2.2.2.2.1, o10.2.2.2.2.2.2.2.2.2.2.2.1, ()))
        else
        let y17 := decide (o10.2.2.2.2.2.2.2.2.2.1 < (-1 : Int))
        bif y17 then
         some (.inr ((false, ())))
        else
        some (.inl (o10.1, o10.2.1, o10.2.2.1, o10.2.2.2.1, o10.2.2.2.2.1, o10.2.2.2.2.2.1, o10.2.2.2.2.2.2.1, o10.2.2.2.2.2.2.2.1, o10.2.2.2.2.2.2.2.2.1, o10.2.2.2.2.2.2.2.2.2.1, o10.2.2.2.2.2.2.2.2.2.2.1, o10.2.2.2.2.2.2.2.2.2.2.2.1, ()))
        else none
        else none
       else
       let y18 := decide (o10.2.2.2.2.2.2.2.2.2.1 ≥ (0 : Int))
       bif y18 then
        let y19 := decide (o10.2.2.2.2.2.2.2.2.2.1 < o10.2.2.2.2.2.2.2.2.1)
        bif y19 then
         some (.inr ((false, ())))
        else
        let y20 := decide (o10.2.2.2.2.2.2.2.2.2.1 < (-1 : Int))
        bif y20 then
         some (.inr ((false, ())))
        else
        some (.inl (o10.1, o10.2.1, o10.2.2.1, o10.2.2.2.1, o10.2.2.2.2.1, o10.2.2.2.2.2.1, o10.2.2.2.2.2.2.1, o10.2.2.2.2.2.2.2.1, o10.2.2.2.2.2.2.2.2.1, o10.2.2.2.2.2.2.2.2.2.1, o10.2.2.2.2.2.2.2.2.2.2.1, o10.2.2.2.2.2.2.2.2.2.2.2.1, ()))
       else
       let y21 := decide (o10.2.2.2.2.2.2.2.2.2.1 < (-1 : Int))
       bif y21 then
        some (.inr ((false, ())))
       else
       some (.inl (o10.1, o10.2.1, o10.2.2.1, o10.2.2.2.1, o10.2.2.2.2.1, o10.2.2.2.2.2.1, o10.2.2.2.2.2.2.1, o10.2.2.2.2.2.2.2.1, o10.2.2.2.2.2.2.2.2.1, o10.2.2.2.2.2.2.2.2.2.1, o10.2.2.2.2.2.2.2.2.2.2.1, o10.2.2.2.2.2.2.2.2.2.2.2.1, ()))
       else none
       else none) fun o22 =>
      Sum.elim (fun o23 =>
       Option.bind (
        let y24 := decide (o23.2.2.2.2.2.2.2.2.2.1 < (0 : Int))
        bif y24 then
         let y25 := o23.2.2.2.2.2.2.2.2.2.2.1 != (0 : Int)
         bif y25 then
          some (.inr ((false, ())))
         else
         let y26 := o23.2.2.2.2.2.2.2.2.2.2.2.1 != (0 : Int)
         bif y26 then
          some (.inr ((false, ())))
         else
         some (.inl (o23.1, o23.2.1, o23.2.2.1, o23.2.2.2.1, o23.2.2.2.2.1, o23.2.2.2.2.2.1, o23.2.2.2.2.2.2.1, o23.2.2.2.2.2.2.2.1, o23.2.2.2.2.2.2.2.2.1, o23.2.2.2.2.2.2.2.2.2.1, o23.2.2.2.2.2.2.2.2.2.2.1, o23.2.2.2.2.2.2.2.2.2.2.2.1, ()))
        else
        some (.inl (o23.1, o23.2.1, o23.2.2.1, o23.2.2.2.1, o23.2.2.2.2.1, o23.2.2.2.2.2.1, o23.2.2.2.2.2.2.1, o23.2.2.2.2.2.2.2.1, o23.2.2.2.2.2.2.2.2.1, o23.2.2.2.2.2.2.2.2.2.1, o23.2.2.2.2.2.2.2.2.2.2.1, o23.2.2.2.2.2.2.2.2.2.2.2.1, ()))) fun o27 =>
       Sum.elim (fun o28 =>
        let y29 := w64 (o28.2.2.2.2.2.2.2.1 + (1 : Int))
        bif decide (0 ≤ o28.2.2.2.2.2.2.1) then
        bif decide (o28.2.2.2.2.2.2.1.toNat < o28.2.2.2.2.1.length) then
        let y30 := o28.2.2.2.2.1.set o28.2.2.2.2.2.2.1.toNat y29
        bif decide (0 ≤ o28.2.2.2.2.2.2.1) then
        bif decide (o28.2.2.2.2.2.2.1.toNat < o28.2.2.2.2.2.1.length) then
        let y31 := o28.2.2.2.2.2.1.set o28.2.2.2.2.2.2.1.toNat o28.2.2.2.2.2.2.2.2.2.1
        let y32 := decide (o28.2.2.2.2.2.2.2.2.2.1 ≥ (0 : Int))
        bif y32 then
         let y33 := w64 (o28.2.2.2.2.2.2.2.2.2.1 + (1 : Int))
         bif decide (0 ≤ o28.2.2.2.2.2.2.1) then
         bif decide (o28.2.2.2.2.2.2.1.toNat < y31.length) then
         lsHistOk_0 N n (o28.1, o28.2.1, o28.2.2.1, w64 (o28.2.2.2.1 + (1 : Int)), y30, y31.set o28.2.2.2.2.2.2.1.toNat y33, ())
         else none
         else none
        else
        lsHistOk_0 N n (o28.1, o28.2.1, o28.2.2.1, w64 (o28.2.2.2.1 + (1 : Int)), y30, y31, ())
        else none
        else none
        else none
        else none) (fun o34 =>
        some (.inr ((o34.1, ())))) o27) (fun o35 =>
       some (.inr ((o35.1, ())))) o22) (fun o36 =>
      some (.inr ((o36.1, ())))) o9
     else none
     else none
    else
    some (.inl ())
noncomputable def FsHistOk (N : Nat) (x : ((Int × (Int × (Int × Unit))) × ((List (List (Int × (Int × (Int × (Int × (Int × (Int × ((Int × (Int × Unit)) × Unit))))))))) × ((List (Int × (Int × (Int × (Int × (Int × (Int × Unit))))))) × Unit)))) : Option (Bool × Unit) :=
  (FsStoryOk N (x.1, x.2.1, ([] : (List Int)), ())).bind fun r1 =>
  bif !r1.1 then
   some (false, ())
  else
  bif decide (0 ≤ x.1.2.1) then
  bif decide (x.1.2.1.toNat ≤ lim) then
  let y2 := List.replicate x.1.2.1.toNat (0 : Int)
  bif decide (0 ≤ x.1.2.1) then
  bif decide (x.1.2.1.toNat ≤ lim) then
  let y3 := List.replicate x.1.2.1.toNat (0 : Int)
  (lsHistOk_0 N N (x.2.1, x.2.2.1, x.1, (0 : Int), y2, y3, ())).bind fun o37 =>
  Sum.elim (fun o38 =>
   some (true, ())) (fun o39 =>
   some (o39.1, ())) o37
  else none
  else none
  else none
  else none
noncomputable def consHistOk (N : Nat) : Con := { f := 114, din := dinsHistOk, outs := outsHistOk, F := FsHistOk N }
noncomputable def XsHistOk (N : Nat) : Ctx := { E := EsHistOk N, H := HsHistOk, lp := [(0, { hd := dsHistOk_0, outs := osHistOk_0, run := fun v => lsHistOk_0 N N v })], jn := [(11, jsHistOk_11), (13, jsHistOk_13), (15, jsHistOk_15)] }
noncomputable def bsHistOk_0 : Code := loopBody (codeOf Try.f114) 0
theorem FsHistOk_eq (N : Nat) (x : ((Int × (Int × (Int × Unit))) × ((List (List (Int × (Int × (Int × (Int × (Int × (Int × ((Int × (Int × Unit)) × Unit))))))))) × ((List (Int × (Int × (Int × (Int × (Int × (Int × Unit))))))) × Unit)))) : evFn (XsHistOk N) Try.f114 dinsHistOk outsHistOk x = FsHistOk N x := by kernel_rfl
theorem lsHistOk_0_eq (N n : Nat) (v : ((List (List (Int × (Int × (Int × (Int × (Int × (Int × ((Int × (Int × Unit)) × Unit))))))))) × ((List (Int × (Int × (Int × (Int × (Int × (Int × Unit))))))) × ((Int × (Int × (Int × Unit))) × (Int × ((List Int) × ((List Int) × Unit))))))) : lsHistOk_0 N (n + 1) v = ev (XsHistOk N) bsHistOk_0 (roundK dsHistOk_0 osHistOk_0 (lsHistOk_0 N n)) (dsHistOk_0.mk' v) := by kernel_rfl
theorem cxsHistOk (N : Nat) : CtxOk Try.prog (XsHistOk N) := ⟨⟨TE_ok, List.forall_mem_cons.2 ⟨(specsStoryOk N), fun k hk => absurd hk List.not_mem_nil⟩⟩, mixed⟩
theorem lpsHistOk_0 (N : Nat) : LoopOk Try.prog { hd := dsHistOk_0, outs := osHistOk_0, run := fun v => lsHistOk_0 N N v } bsHistOk_0 :=
  loop_fuel (d := dsHistOk_0) (os := osHistOk_0) (cxsHistOk N) (loops_at (ids := []) (by kernel_rfl) (trivial)) (lsHistOk_0 N) (fun _ => rfl) (fun n v => lsHistOk_0_eq N n v) (fun _ => N)
theorem specsHistOk (N : Nat) : Spec Try.prog (consHistOk N) :=
  Spec.of_eq (fn_spec (cxsHistOk N) (f := 114) (fn := Try.f114) (c := codeOf Try.f114) (by kernel_rfl) (by kernel_rfl) (by kernel_rfl) (loops_at (ids := [0]) (by kernel_rfl) ⟨lp_of (lpsHistOk_0 N), trivial⟩) (by kernel_rfl)) (fun x r h => (FsHistOk_eq N x).trans h)

/-! ### 115: spec.GraphNew -/

noncomputable def dinsGraphNew : Desc := { n := 1, regs := [.one (.val (.int .i64))], bx := [], pins := [] }
noncomputable def outsGraphNew : Outs := [(.ret, { n := 2, regs := [.agg [.lit (.row 1102464), .lit (.row 1102530), .lit .nil], .one (.val .bool)], bx := [(1102464, .row (.pair (.sl (.int .i64)) (.pair (.sl (.int .i64)) .unit))), (1102530, .row (.sl (.int .i64)))], pins := [] })]
noncomputable def HsGraphNew : Hints := [(2, [(0, { nl := [(0, (.pair (.sl (.int .i64)) (.pair (.sl (.int .i64)) .unit))), (1, (.sl (.int .i64)))] })]),
  (3, [(1, { nl := [(0, (.int .i64))] })]),
  (8, [(1, { dp := true }), (2, { nl := [(1, (.sl (.int .i64)))] })]),
  (12, [(3, { dp := true }), (4, { dp := true })])]
noncomputable def EsGraphNew (_N : Nat) : Env := { te := TE, cs := [] }
noncomputable def dsGraphNew_0 : Desc := { n := 41, regs := [.one (.val (.int .i64)), u, .one (.lit (.ptr 1000000 0)), u, .one (.lit (.ptr 1038528 0)), .one (.val (.int .i64))], bx := [(1000000, .var [.lit .nil, .lit .nil, .lit .nil]), (1038528, .var [.lit (.row 1038465), .lit (.row 1038400)]), (1038465, .row (.int .i64)), (1038400, .row (.int .i64))], pins := [] }
noncomputable def osGraphNew_0 : Outs := [(.exit 0, { n := 41, regs := [.one (.val (.int .i64)), u, .one (.lit (.ptr 1000000 0)), u, .one (.lit (.ptr 1038528 0))], bx := [(1000000, .var [.lit .nil, .lit .nil, .lit .nil]), (1038528, .var [.lit (.row 1038465), .lit (.row 1038400)]), (1038465, .row (.int .i64)), (1038400, .row (.int .i64))], pins := [] })]
noncomputable def dsGraphNew_2 : Desc := { n := 41, regs := [.one (.val (.int .i64)), u, .one (.lit (.ptr 1000000 0)), u, u, u, .one (.lit (.ptr 1102592 0)), .one (.val (.int .i64))], bx := [(1000000, .var [.lit .nil, .lit .nil, .lit .nil]), (1102592, .var [.lit (.row 1102464), .lit (.row 1102530), .lit .nil]), (1102464, .row (.pair (.sl (.int .i64)) (.pair (.sl (.int .i64)) .unit))), (1102530, .row (.sl (.int .i64)))], pins := [] }
noncomputable def osGraphNew_2 : Outs := [(.exit 2, { n := 41, regs := [u, u, .one (.lit (.ptr 1000000 0)), u, u, u, .one (.lit (.ptr 1102592 0))], bx := [(1000000, .var [.lit .nil, .lit .nil, .lit .nil]), (1102592, .var [.lit (.row 1102464), .lit (.row 1102530), .lit .nil]), (1102464, .row (.pair (.sl (.int .i64)) (.pair (.sl (.int .i64)) .unit))), (1102530, .row (.sl (.int .i64)))], pins := [] })]
noncomputable def jsGraphNew_3 : Outs := [(.normal, { n := 41, regs := [.one (.val (.int .i64)), u, .one (.lit (.ptr 1000000 0))], bx := [(1000000, .var [.lit .nil, .lit .nil, .lit .nil])], pins := [] }), (.ret, { n := 41, regs := [u, u, .one (.lit (.ptr 1000000 0)), .one (.val .bool)], bx := [(1000000, .var [.lit (.row 1025601), .lit (.row 1025602), .lit .nil]), (1025601, .row (.pair (.sl (.int .i64)) (.pair (.sl (.int .i64)) .unit))), (1025602, .row (.sl (.int .i64)))], pins := [] })]
noncomputable def lsGraphNew_0 (N : Nat) : Nat → (Int × (Int × ((List Int) × ((List Int) × Unit)))) → Option (Int × ((List Int) × ((List Int) × Unit)))
  | 0, _ => none
  | n + 1, v =>
    bif decide (v.2.1 < (4 : Int)) then
     bif decide (v.2.2.1.length + [(-1 : Int)].length ≤ lim) then
     lsGraphNew_0 N n (v.1, w64 (v.2.1 + (1 : Int)), v.2.2.1 ++ [(-1 : Int)], v.2.2.2.1, ())
     else none
    else
    some (v.1, v.2.2.1, v.2.2.2.1, ())
noncomputable def lsGraphNew_2 (N : Nat) : Nat → (Int × (Int × ((List ((List Int) × ((List Int) × Unit))) × ((List (List Int)) × Unit)))) → Option ((List ((List Int) × ((List Int) × Unit))) × ((List (List Int)) × Unit))
  | 0, _ => none
  | n + 1, v =>
    bif decide (v.2.1 < v.1) then
     bif decide (v.2.2.2.1.length + [[(0 : Int)]].length ≤ lim) then
     lsGraphNew_2 N n (v.1, w64 (v.2.1 + (1 : Int)), v.2.2.1, v.2.2.2.1 ++ [[(0 : Int)]], ())
     else none
    else
    some (v.2.2.1, v.2.2.2.1, ())
noncomputable def FsGraphNew (N : Nat) (x : (Int × Unit)) : Option (Bool × ((List ((List Int) × ((List Int) × Unit))) × ((List (List Int)) × Unit))) :=
  Option.bind (
   bif decide (x.1 < (1 : Int)) then
    let y1 := ([] : (List ((List Int) × ((List Int) × Unit))))
    some (.inr ((false, y1, ([] : (List (List Int))), ())))
   else
   bif decide (x.1 > (3 : Int)) then
    let y2 := ([] : (List ((List Int) × ((List Int) × Unit))))
    some (.inr ((false, y2, ([] : (List (List Int))), ())))
   else
   some (.inl (x.1, ()))) fun o3 =>
  Sum.elim (fun o4 =>
   bif decide (0 ≤ (2 : Int)) then
   bif decide ((2 : Int).toNat ≤ lim) then
   let y5 := List.replicate (2 : Int).toNat (0 : Int)
   (lsGraphNew_0 N N (o4.1, (0 : Int), ([] : (List Int)), y5, ())).bind fun o6 =>
   (lsGraphNew_2 N N (o6.1, (0 : Int), [(o6.2.1, o6.2.2.1, ())], ([] : (List (List Int))), ())).bind fun o7 =>
   some (true, o7.1, o7.2.1, ())
   else none
   else none) (fun o8 =>
   some (o8.1, o8.2.1, o8.2.2.1, ())) o3
noncomputable def consGraphNew (N : Nat) : Con := { f := 115, din := dinsGraphNew, outs := outsGraphNew, F := FsGraphNew N }
noncomputable def XsGraphNew (N : Nat) : Ctx := { E := EsGraphNew N, H := HsGraphNew, lp := [(0, { hd := dsGraphNew_0, outs := osGraphNew_0, run := fun v => lsGraphNew_0 N N v }), (2, { hd := dsGraphNew_2, outs := osGraphNew_2, run := fun v => lsGraphNew_2 N N v })], jn := [(3, jsGraphNew_3)] }
noncomputable def bsGraphNew_2 : Code := loopBody (codeOf Try.f115) 1
noncomputable def bsGraphNew_0 : Code := loopBody (codeOf Try.f115) 0
theorem FsGraphNew_eq (N : Nat) (x : (Int × Unit)) : evFn (XsGraphNew N) Try.f115 dinsGraphNew outsGraphNew x = FsGraphNew N x := by kernel_rfl
theorem lsGraphNew_0_eq (N n : Nat) (v : (Int × (Int × ((List Int) × ((List Int) × Unit))))) : lsGraphNew_0 N (n + 1) v = ev (XsGraphNew N) bsGraphNew_0 (roundK dsGraphNew_0 osGraphNew_0 (lsGraphNew_0 N n)) (dsGraphNew_0.mk' v) := by kernel_rfl
theorem lsGraphNew_2_eq (N n : Nat) (v : (Int × (Int × ((List ((List Int) × ((List Int) × Unit))) × ((List (List Int)) × Unit))))) : lsGraphNew_2 N (n + 1) v = ev (XsGraphNew N) bsGraphNew_2 (roundK dsGraphNew_2 osGraphNew_2 (lsGraphNew_2 N n)) (dsGraphNew_2.mk' v) := by kernel_rfl
theorem cxsGraphNew (N : Nat) : CtxOk Try.prog (XsGraphNew N) := ⟨⟨TE_ok, fun k hk => absurd hk List.not_mem_nil⟩, mixed⟩
theorem lpsGraphNew_0 (N : Nat) : LoopOk Try.prog { hd := dsGraphNew_0, outs := osGraphNew_0, run := fun v => lsGraphNew_0 N N v } bsGraphNew_0 :=
  loop_fuel (d := dsGraphNew_0) (os := osGraphNew_0) (cxsGraphNew N) (loops_at (ids := []) (by kernel_rfl) (trivial)) (lsGraphNew_0 N) (fun _ => rfl) (fun n v => lsGraphNew_0_eq N n v) (fun _ => N)
theorem lpsGraphNew_2 (N : Nat) : LoopOk Try.prog { hd := dsGraphNew_2, outs := osGraphNew_2, run := fun v => lsGraphNew_2 N N v } bsGraphNew_2 :=
  loop_fuel (d := dsGraphNew_2) (os := osGraphNew_2) (cxsGraphNew N) (loops_at (ids := []) (by kernel_rfl) (trivial)) (lsGraphNew_2 N) (fun _ => rfl) (fun n v => lsGraphNew_2_eq N n v) (fun _ => N)
theorem specsGraphNew (N : Nat) : Spec Try.prog (consGraphNew N) :=
  Spec.of_eq (fn_spec (cxsGraphNew N) (f := 115) (fn := Try.f115) (c := codeOf Try.f115) (by kernel_rfl) (by kernel_rfl) (by kernel_rfl) (loops_at (ids := [0, 2]) (by kernel_rfl) ⟨lp_of (lpsGraphNew_0 N), ⟨lp_of (lpsGraphNew_2 N), trivial⟩⟩) (by kernel_rfl)) (fun x r h => (FsGraphNew_eq N x).trans h)

/-! ### 146: spec.l14May -/

noncomputable def dinsl14May : Desc := { n := 3, regs := [.one (.val (.sl (.pair (.int .i64) (.pair (.int .i64) (.pair (.int .i64) (.pair (.int .i64) (.pair (.int .i64) (.pair (.int .i64) .unit)))))))), .one (.val (.sl .bool)), .one (.val (.int .i64))], bx := [], pins := [] }
noncomputable def outsl14May : Outs := [(.ret, { n := 1, regs := [.one (.val .bool)], bx := [], pins := [] })]
noncomputable def Hsl14May : Hints := []
noncomputable def Esl14May (_N : Nat) : Env := { te := TE, cs := [] }
noncomputable def dsl14May_0 : Desc := { n := 49, regs := [.one (.val (.sl (.pair (.int .i64) (.pair (.int .i64) (.pair (.int .i64) (.pair (.int .i64) (.pair (.int .i64) (.pair (.int .i64) .unit)))))))), .one (.val (.sl .bool)), .one (.val (.int .i64)), u, u, u, u, .one (.val (.int .i64))], bx := [], pins := [] }
noncomputable def osl14May_0 : Outs := [(.exit 0, { n := 49, regs := [], bx := [], pins := [] }), (.ret, { n := 49, regs := [u, u, u, u, u, u, .one (.val .bool)], bx := [], pins := [] })]
noncomputable def lsl14May_0 (N : Nat) : Nat → ((List (Int × (Int × (Int × (Int × (Int × (Int × Unit))))))) × ((List Bool) × (Int × (Int × Unit)))) → Option (Unit ⊕ (Bool × Unit))
  | 0, _ => none
  | n + 1, v =>
    let y1 := decide (v.2.2.2.1 < (v.1.length : Int))
    bif y1 then
     bif v.2.2.2.1 != v.2.2.1 then
      bif decide (0 ≤ v.2.2.2.1) then
      bif decide (v.2.2.2.1.toNat < v.2.1.length) then
      bif !(v.2.1.getD v.2.2.2.1.toNat false) then
       bif decide (0 ≤ v.2.2.2.1) then
       bif decide (v.2.2.2.1.toNat < v.1.length) then
       let y2 := v.1.getD v.2.2.2.1.toNat ((0 : Int), (0 : Int), (0 : Int), (0 : Int), (0 : Int), (0 : Int), ())
       bif decide (y2.2.2.2.1 ≥ (0 : Int)) then
        bif decide (0 ≤ v.2.2.2.1) then
        bif decide (v.2.2.2.1.toNat < v.1.length) then
        let y3 := v.1.getD v.2.2.2.1.toNat ((0 : Int), (0 : Int), (0 : Int), (0 : Int), (0 : Int), (0 : Int), ())
        bif decide (0 ≤ v.2.2.1) then
        bif decide (v.2.2.1.toNat < v.1.length) then
        let y4 := v.1.getD v.2.2.1.toNat ((0 : Int), (0 : Int), (0 : Int), (0 : Int), (0 : Int), (0 : Int), ())
        bif decide (y3.2.2.2.1 < y4.2.2.1) then
         some (.inr ((false, ())))
        else
        lsl14May_0 N n (v.1, v.2.1, v.2.2.1, w64 (v.2.2.2.1 + (1 : Int)), ())
        else none
        else none
        else none
        else none
       else
       lsl14May_0 N n (v.1, v.2.1, v.2.2.1, w64 (v.2.2.2.1 + (1 : Int)), ())
       else none
       else none
      else
      lsl14May_0 N n (v.1, v.2.1, v.2.2.1, w64 (v.2.2.2.1 + (1 : Int)), ())
      else none
      else none
     else
     lsl14May_0 N n (v.1, v.2.1, v.2.2.1, w64 (v.2.2.2.1 + (1 : Int)), ())
    else
    some (.inl ())
noncomputable def Fsl14May (N : Nat) (x : ((List (Int × (Int × (Int × (Int × (Int × (Int × Unit))))))) × ((List Bool) × (Int × Unit)))) : Option (Bool × Unit) :=
  bif decide (0 ≤ x.2.2.1) then
  bif decide (x.2.2.1.toNat < x.2.1.length) then
  bif x.2.1.getD x.2.2.1.toNat false then
   some (false, ())
  else
  (lsl14May_0 N N (x.1, x.2.1, x.2.2.1, (0 : Int), ())).bind fun o5 =>
  Sum.elim (fun o6 =>
   some (true, ())) (fun o7 =>
   some (o7.1, ())) o5
  else none
  else none
noncomputable def consl14May (N : Nat) : Con := { f := 146, din := dinsl14May, outs := outsl14May, F := Fsl14May N }
noncomputable def Xsl14May (N : Nat) : Ctx := { E := Esl14May N, H := Hsl14May, lp := [(0, { hd := dsl14May_0, outs := osl14May_0, run := fun v => lsl14May_0 N N v })], jn := [] }
noncomputable def bsl14May_0 : Code := loopBody (codeOf Try.f146) 0
theorem Fsl14May_eq (N : Nat) (x : ((List (Int × (Int × (Int × (Int × (Int × (Int × Unit))))))) × ((List Bool) × (Int × Unit)))) : evFn (Xsl14May N) Try.f146 dinsl14May outsl14May x = Fsl14May N x := by kernel_rfl
theorem lsl14May_0_eq (N n : Nat) (v : ((List (Int × (Int × (Int × (Int × (Int × (Int × Unit))))))) × ((List Bool) × (Int × (Int × Unit))))) : lsl14May_0 N (n + 1) v = ev (Xsl14May N) bsl14May_0 (roundK dsl14May_0 osl14May_0 (lsl14May_0 N n)) (dsl14May_0.mk' v) := by kernel_rfl
theorem cxsl14May (N : Nat) : CtxOk Try.prog (Xsl14May N) := ⟨⟨TE_ok, fun k hk => absurd hk List.not_mem_nil⟩, mixed⟩
theorem lpsl14May_0 (N : Nat) : LoopOk Try.prog { hd := dsl14May_0, outs := osl14May_0, run := fun v => lsl14May_0 N N v } bsl14May_0 :=
  loop_fuel (d := dsl14May_0) (os := osl14May_0) (cxsl14May N) (loops_at (ids := []) (by kernel_rfl) (trivial)) (lsl14May_0 N) (fun _ => rfl) (fun n v => lsl14May_0_eq N n v) (fun _ => N)
theorem specsl14May (N : Nat) : Spec Try.prog (consl14May N) :=
  Spec.of_eq (fn_spec (cxsl14May N) (f := 146) (fn := Try.f146) (c := codeOf Try.f146) (by kernel_rfl) (by kernel_rfl) (by kernel_rfl) (loops_at (ids := [0]) (by kernel_rfl) ⟨lp_of (lpsl14May_0 N), trivial⟩) (by kernel_rfl)) (fun x r h => (Fsl14May_eq N x).trans h)

/-! ### 91: spec.l5Refs -/

noncomputable def dinsl5Refs : Desc := { n := 2, regs := [.one (.val (.sl (.int .i64))), .one (.val (.int .i64))], bx := [], pins := [] }
noncomputable def outsl5Refs : Outs := [(.ret, { n := 1, regs := [.one (.val .bool)], bx := [], pins := [] })]
noncomputable def Hsl5Refs : Hints := []
noncomputable def Esl5Refs (_N : Nat) : Env := { te := TE, cs := [] }
noncomputable def dsl5Refs_0 : Desc := { n := 25, regs := [.one (.val (.sl (.int .i64))), .one (.val (.int .i64)), u, u, u, .one (.val (.int .i64))], bx := [], pins := [] }
noncomputable def osl5Refs_0 : Outs := [(.exit 0, { n := 25, regs := [], bx := [], pins := [] }), (.ret, { n := 25, regs := [u, u, u, u, .one (.val .bool)], bx := [], pins := [] })]
noncomputable def lsl5Refs_0 (N : Nat) : Nat → ((List Int) × (Int × (Int × Unit))) → Option (Unit ⊕ (Bool × Unit))
  | 0, _ => none
  | n + 1, v =>
    let y1 := decide (v.2.2.1 < (v.1.length : Int))
    bif y1 then
     bif decide (0 ≤ v.2.2.1) then
     bif decide (v.2.2.1.toNat < v.1.length) then
     let y2 := decide ((v.1.getD v.2.2.1.toNat (0 : Int)) < (-1 : Int))
     bif y2 then
      some (.inr ((false, ())))
     else
     bif decide (0 ≤ v.2.2.1) then
     bif decide (v.2.2.1.toNat < v.1.length) then
     let y3 := decide ((v.1.getD v.2.2.1.toNat (0 : Int)) ≥ v.2.1)
     bif y3 then
      some (.inr ((false, ())))
     else
     lsl5Refs_0 N n (v.1, v.2.1, w64 (v.2.2.1 + (1 : Int)), ())
     else none
     else none
     else none
     else none
    else
    some (.inl ())
noncomputable def Fsl5Refs (N : Nat) (x : ((List Int) × (Int × Unit))) : Option (Bool × Unit) :=
  (lsl5Refs_0 N N (x.1, x.2.1, (0 : Int), ())).bind fun o4 =>
  Sum.elim (fun o5 =>
   some (true, ())) (fun o6 =>
   some (o6.1, ())) o4
noncomputable def consl5Refs (N : Nat) : Con := { f := 91, din := dinsl5Refs, outs := outsl5Refs, F := Fsl5Refs N }
noncomputable def Xsl5Refs (N : Nat) : Ctx := { E := Esl5Refs N, H := Hsl5Refs, lp := [(0, { hd := dsl5Refs_0, outs := osl5Refs_0, run := fun v => lsl5Refs_0 N N v })], jn := [] }
noncomputable def bsl5Refs_0 : Code := loopBody (codeOf Try.f91) 0
theorem Fsl5Refs_eq (N : Nat) (x : ((List Int) × (Int × Unit))) : evFn (Xsl5Refs N) Try.f91 dinsl5Refs outsl5Refs x = Fsl5Refs N x := by kernel_rfl
theorem lsl5Refs_0_eq (N n : Nat) (v : ((List Int) × (Int × (Int × Unit)))) : lsl5Refs_0 N (n + 1) v = ev (Xsl5Refs N) bsl5Refs_0 (roundK dsl5Refs_0 osl5Refs_0 (lsl5Refs_0 N n)) (dsl5Refs_0.mk' v) := by kernel_rfl
theorem cxsl5Refs (N : Nat) : CtxOk Try.prog (Xsl5Refs N) := ⟨⟨TE_ok, fun k hk => absurd hk List.not_mem_nil⟩, mixed⟩
theorem lpsl5Refs_0 (N : Nat) : LoopOk Try.prog { hd := dsl5Refs_0, outs := osl5Refs_0, run := fun v => lsl5Refs_0 N N v } bsl5Refs_0 :=
  loop_fuel (d := dsl5Refs_0) (os := osl5Refs_0) (cxsl5Refs N) (loops_at (ids := []) (by kernel_rfl) (trivial)) (lsl5Refs_0 N) (fun _ => rfl) (fun n v => lsl5Refs_0_eq N n v) (fun _ => N)
theorem specsl5Refs (N : Nat) : Spec Try.prog (consl5Refs N) :=
  Spec.of_eq (fn_spec (cxsl5Refs N) (f := 91) (fn := Try.f91) (c := codeOf Try.f91) (by kernel_rfl) (by kernel_rfl) (by kernel_rfl) (loops_at (ids := [0]) (by kernel_rfl) ⟨lp_of (lpsl5Refs_0 N), trivial⟩) (by kernel_rfl)) (fun x r h => (Fsl5Refs_eq N x).trans h)

/-! ### 42: spec.GraphOk -/

noncomputable def dinsGraphOk : Desc := { n := 1, regs := [.one (.val (.pair (.sl (.pair (.sl (.int .i64)) (.pair (.sl (.int .i64)) .unit))) (.pair (.sl (.sl (.int .i64))) (.pair (.sl (.int .i64)) .unit))))], bx := [], pins := [] }
noncomputable def outsGraphOk : Outs := [(.ret, { n := 1, regs := [.one (.val .bool)], bx := [], pins := [] })]
noncomputable def HsGraphOk : Hints := [(0, [(0, { fz := true })])]
noncomputable def EsGraphOk (N : Nat) : Env := { te := TE, cs := [consl5Refs N] }
noncomputable def dsGraphOk_0 : Desc := { n := 105, regs := [u, .one (.fpt (.pair (.sl (.pair (.sl (.int .i64)) (.pair (.sl (.int .i64)) .unit))) (.pair (.sl (.sl (.int .i64))) (.pair (.sl (.int .i64)) .unit)))), u, .one (.val (.int .i64))], bx := [], pins := [] }
noncomputable def osGraphOk_0 : Outs := [(.exit 0, { n := 105, regs := [u, .one (.fpt (.pair (.sl (.pair (.sl (.int .i64)) (.pair (.sl (.int .i64)) .unit))) (.pair (.sl (.sl (.int .i64))) (.pair (.sl (.int .i64)) .unit))))], bx := [], pins := [] }), (.ret, { n := 105, regs := [u, u, .one (.val .bool)], bx := [], pins := [] })]
noncomputable def dsGraphOk_2 : Desc := { n := 105, regs := [u, .one (.fpt (.pair (.sl (.pair (.sl (.int .i64)) (.pair (.sl (.int .i64)) .unit))) (.pair (.sl (.sl (.int .i64))) (.pair (.sl (.int .i64)) .unit)))), u, u, u, .one (.val (.int .i64))], bx := [], pins := [] }
noncomputable def osGraphOk_2 : Outs := [(.exit 2, { n := 105, regs := [u, .one (.fpt (.pair (.sl (.pair (.sl (.int .i64)) (.pair (.sl (.int .i64)) .unit))) (.pair (.sl (.sl (.int .i64))) (.pair (.sl (.int .i64)) .unit))))], bx := [], pins := [] }), (.ret, { n := 105, regs := [u, u, .one (.val .bool)], bx := [], pins := [] })]
noncomputable def dsGraphOk_4 : Desc := { n := 105, regs := [u, .one (.fpt (.pair (.sl (.pair (.sl (.int .i64)) (.pair (.sl (.int .i64)) .unit))) (.pair (.sl (.sl (.int .i64))) (.pair (.sl (.int .i64)) .unit)))), u, u, u, u, .one (.val (.int .i64))], bx := [], pins := [] }
noncomputable def osGraphOk_4 : Outs := [(.exit 4, { n := 105, regs := [u, .one (.fpt (.pair (.sl (.pair (.sl (.int .i64)) (.pair (.sl (.int .i64)) .unit))) (.pair (.sl (.sl (.int .i64))) (.pair (.sl (.int .i64)) .unit))))], bx := [], pins := [] }), (.ret, { n := 105, regs := [u, u, .one (.val .bool)], bx := [], pins := [] })]
noncomputable def jsGraphOk_3 : Outs := [(.normal, { n := 105, regs := [u, .one (.fpt (.pair (.sl (.pair (.sl (.int .i64)) (.pair (.sl (.int .i64)) .unit))) (.pair (.sl (.sl (.int .i64))) (.pair (.sl (.int .i64)) .unit))))], bx := [], pins := [] }), (.ret, { n := 105, regs := [u, u, .one (.val .bool)], bx := [], pins := [] })]
noncomputable def lsGraphOk_0 (N : Nat) : Nat → (((List ((List Int) × ((List Int) × Unit))) × ((List (List Int)) × ((List Int) × Unit))) × (Int × Unit)) → Option ((((List ((List Int) × ((List Int) × Unit))) × ((List (List Int)) × ((List Int) × Unit))) × Unit) ⊕ (Bool × Unit))
  | 0, _ => none
  | n + 1, v =>
    let y6 := decide (v.2.1 < (v.1.1.length : Int))
    bif y6 then
     bif decide (0 ≤ v.2.1) then
     bif decide (v.2.1.toNat < v.1.1.length) then
     let y7 := v.1.1.getD v.2.1.toNat (([] : (List Int)), ([] : (List Int)), ())
     let y8 := decide ((y7.1.length : Int) > (4 : Int))
     bif y8 then
      some (.inr ((false, ())))
     else
     let y9 := decide ((y7.2.1.length : Int) > (4 : Int))
     bif y9 then
      some (.inr ((false, ())))
     else
     (Fsl5Refs N (y7.1, (v.1.1.length : Int), ())).bind fun r10 =>
     bif !r10.1 then
      some (.inr ((false, ())))
     else
     lsGraphOk_0 N n (v.1, w64 (v.2.1 + (1 : Int)), ())
     else none
     else none
    else
    some (.inl (v.1, ()))
noncomputable def lsGraphOk_2 (N : Nat) : Nat → (((List ((List Int) × ((List Int) × Unit))) × ((List (List Int)) × ((List Int) × Unit))) × (Int × Unit)) → Option ((((List ((List Int) × ((List Int) × Unit))) × ((List (List Int)) × ((List Int) × Unit))) × Unit) ⊕ (Bool × Unit))
  | 0, _ => none
  | n + 1, v =>
    let y13 := decide (v.2.1 < (v.1.2.1.length : Int))
    bif y13 then
     bif decide (0 ≤ v.2.1) then
     bif decide (v.2.1.toNat < v.1.2.1.length) then
     let y14 := v.1.2.1.getD v.2.1.toNat ([] : (List Int))
     let y15 := decide ((y14.length : Int) > (8 : Int))
     bif y15 then
      some (.inr ((false, ())))
     else
     bif decide (0 ≤ v.2.1) then
     bif decide (v.2.1.toNat < v.1.2.1.length) then
     let y16 := v.1.2.1.getD v.2.1.toNat ([] : (List Int))
     (Fsl5Refs N (y16, (v.1.1.length : Int), ())).bind fun r17 =>
     bif !r17.1 then
      some (.inr ((false, ())))
     else
     lsGraphOk_2 N n (v.1, w64 (v.2.1 + (1 : Int)), ())
     else none
     else none
     else none
     else none
    else
    some (.inl (v.1, ()))
noncomputable def lsGraphOk_4 (N : Nat) : Nat → (((List ((List Int) × ((List Int) × Unit))) × ((List (List Int)) × ((List Int) × Unit))) × (Int × Unit)) → Option ((((List ((List Int) × ((List Int) × Unit))) × ((List (List Int)) × ((List Int) × Unit))) × Unit) ⊕ (Bool × Unit))
  | 0, _ => none
  | n + 1, v =>
    let y20 := decide (v.2.1 < (v.1.2.2.1.length : Int))
    bif y20 then
     bif decide (0 ≤ v.2.1) then
     bif decide (v.2.1.toNat < v.1.2.2.1.length) then
     let y21 := decide ((v.1.2.2.1.getD v.2.1.toNat (0 : Int)) < (0 : Int))
     bif y21 then
      some (.inr ((false, ())))
     else
     lsGraphOk_4 N n (v.1, w64 (v.2.1 + (1 : Int)), ())
     else none
     else none
    else
    some (.inl (v.1, ()))
noncomputable def FsGraphOk (N : Nat) (x : (((List ((List Int) × ((List Int) × Unit))) × ((List (List Int)) × ((List Int) × Unit))) × Unit)) : Option (Bool × Unit) :=
  Option.bind (
   let y1 := decide ((x.1.1.length : Int) > (200 : Int))
   bif y1 then
    some (.inr ((false, ())))
   else
   let y2 := decide ((x.1.2.1.length : Int) < (1 : Int))
   bif y2 then
    some (.inr ((false, ())))
   else
   let y3 := decide ((x.1.2.1.length : Int) > (3 : Int))
   bif y3 then
    some (.inr ((false, ())))
   else
   some (.inl (x.1, ()))) fun o4 =>
  Sum.elim (fun o5 =>
   (lsGraphOk_0 N N (o5.1, (0 : Int), ())).bind fun o11 =>
   Sum.elim (fun o12 =>
    (lsGraphOk_2 N N (o12.1, (0 : Int), ())).bind fun o18 =>
    Sum.elim (fun o19 =>
     (lsGraphOk_4 N N (o19.1, (0 : Int), ())).bind fun o22 =>
     Sum.elim (fun o23 =>
      let y24 := decide ((o23.1.2.2.1.length : Int) ≤ (8 : Int))
      bif y24 then
       (Fsl5Refs N (o23.1.2.2.1, (o23.1.1.length : Int), ())).bind fun r25 =>
       some (r25.1, ())
      else
      some (false, ())) (fun o26 =>
      some (o26.1, ())) o22) (fun o27 =>
     some (o27.1, ())) o18) (fun o28 =>
    some (o28.1, ())) o11) (fun o29 =>
   some (o29.1, ())) o4
noncomputable def consGraphOk (N : Nat) : Con := { f := 42, din := dinsGraphOk, outs := outsGraphOk, F := FsGraphOk N }
noncomputable def XsGraphOk (N : Nat) : Ctx := { E := EsGraphOk N, H := HsGraphOk, lp := [(0, { hd := dsGraphOk_0, outs := osGraphOk_0, run := fun v => lsGraphOk_0 N N v }), (2, { hd := dsGraphOk_2, outs := osGraphOk_2, run := fun v => lsGraphOk_2 N N v }), (4, { hd := dsGraphOk_4, outs := osGraphOk_4, run := fun v => lsGraphOk_4 N N v })], jn := [(3, jsGraphOk_3)] }
noncomputable def bsGraphOk_4 : Code := loopBody (codeOf Try.f42) 2
noncomputable def bsGraphOk_2 : Code := loopBody (codeOf Try.f42) 1
noncomputable def bsGraphOk_0 : Code := loopBody (codeOf Try.f42) 0
theorem FsGraphOk_eq (N : Nat) (x : (((List ((List Int) × ((List Int) × Unit))) × ((List (List Int)) × ((List Int) × Unit))) × Unit)) : evFn (XsGraphOk N) Try.f42 dinsGraphOk outsGraphOk x = FsGraphOk N x := by kernel_rfl
theorem lsGraphOk_0_eq (N n : Nat) (v : (((List ((List Int) × ((List Int) × Unit))) × ((List (List Int)) × ((List Int) × Unit))) × (Int × Unit))) : lsGraphOk_0 N (n + 1) v = ev (XsGraphOk N) bsGraphOk_0 (roundK dsGraphOk_0 osGraphOk_0 (lsGraphOk_0 N n)) (dsGraphOk_0.mk' v) := by kernel_rfl
theorem lsGraphOk_2_eq (N n : Nat) (v : (((List ((List Int) × ((List Int) × Unit))) × ((List (List Int)) × ((List Int) × Unit))) × (Int × Unit))) : lsGraphOk_2 N (n + 1) v = ev (XsGraphOk N) bsGraphOk_2 (roundK dsGraphOk_2 osGraphOk_2 (lsGraphOk_2 N n)) (dsGraphOk_2.mk' v) := by kernel_rfl
theorem lsGraphOk_4_eq (N n : Nat) (v : (((List ((List Int) × ((List Int) × Unit))) × ((List (List Int)) × ((List Int) × Unit))) × (Int × Unit))) : lsGraphOk_4 N (n + 1) v = ev (XsGraphOk N) bsGraphOk_4 (roundK dsGraphOk_4 osGraphOk_4 (lsGraphOk_4 N n)) (dsGraphOk_4.mk' v) := by kernel_rfl
theorem cxsGraphOk (N : Nat) : CtxOk Try.prog (XsGraphOk N) := ⟨⟨TE_ok, List.forall_mem_cons.2 ⟨(specsl5Refs N), fun k hk => absurd hk List.not_mem_nil⟩⟩, mixed⟩
theorem lpsGraphOk_0 (N : Nat) : LoopOk Try.prog { hd := dsGraphOk_0, outs := osGraphOk_0, run := fun v => lsGraphOk_0 N N v } bsGraphOk_0 :=
  loop_fuel (d := dsGraphOk_0) (os := osGraphOk_0) (cxsGraphOk N) (loops_at (ids := []) (by kernel_rfl) (trivial)) (lsGraphOk_0 N) (fun _ => rfl) (fun n v => lsGraphOk_0_eq N n v) (fun _ => N)
theorem lpsGraphOk_2 (N : Nat) : LoopOk Try.prog { hd := dsGraphOk_2, outs := osGraphOk_2, run := fun v => lsGraphOk_2 N N v } bsGraphOk_2 :=
  loop_fuel (d := dsGraphOk_2) (os := osGraphOk_2) (cxsGraphOk N) (loops_at (ids := []) (by kernel_rfl) (trivial)) (lsGraphOk_2 N) (fun _ => rfl) (fun n v => lsGraphOk_2_eq N n v) (fun _ => N)
theorem lpsGraphOk_4 (N : Nat) : LoopOk Try.prog { hd := dsGraphOk_4, outs := osGraphOk_4, run := fun v => lsGraphOk_4 N N v } bsGraphOk_4 :=
  loop_fuel (d := dsGraphOk_4) (os := osGraphOk_4) (cxsGraphOk N) (loops_at (ids := []) (by kernel_rfl) (trivial)) (lsGraphOk_4 N) (fun _ => rfl) (fun n v => lsGraphOk_4_eq N n v) (fun _ => N)
theorem specsGraphOk (N : Nat) : Spec Try.prog (consGraphOk N) :=
  Spec.of_eq (fn_spec (cxsGraphOk N) (f := 42) (fn := Try.f42) (c := codeOf Try.f42) (by kernel_rfl) (by kernel_rfl) (by kernel_rfl) (loops_at (ids := [0, 2, 4]) (by kernel_rfl) ⟨lp_of (lpsGraphOk_0 N), ⟨lp_of (lpsGraphOk_2 N), ⟨lp_of (lpsGraphOk_4 N), trivial⟩⟩⟩) (by kernel_rfl)) (fun x r h => (FsGraphOk_eq N x).trans h)

/-! ### 142: spec.ShapeOk -/

noncomputable def dinsShapeOk : Desc := { n := 1, regs := [.one (.val (.pair (.int .i64) (.pair (.int .i64) .unit)))], bx := [], pins := [] }
noncomputable def outsShapeOk : Outs := [(.ret, { n := 1, regs := [.one (.val .bool)], bx := [], pins := [] })]
noncomputable def HsShapeOk : Hints := [(0, [(0, { fz := true })])]
noncomputable def EsShapeOk (_N : Nat) : Env := { te := TE, cs := [] }
noncomputable def FsShapeOk (N : Nat) (x : ((Int × (Int × Unit)) × Unit)) : Option (Bool × Unit) :=
  bif decide (x.1.1 ≥ (0 : Int)) then
   bif decide (x.1.1 ≤ (4 : Int)) then
    bif decide (x.1.2.1 ≥ (0 : Int)) then
     some (decide (x.1.2.1 ≤ (4 : Int)), ())
    else
    some (false, ())
   else
   some (false, ())
  else
  some (false, ())
noncomputable def consShapeOk (N : Nat) : Con := { f := 142, din := dinsShapeOk, outs := outsShapeOk, F := FsShapeOk N }
noncomputable def XsShapeOk (N : Nat) : Ctx := { E := EsShapeOk N, H := HsShapeOk, lp := [], jn := [] }
theorem FsShapeOk_eq (N : Nat) (x : ((Int × (Int × Unit)) × Unit)) : evFn (XsShapeOk N) Try.f142 dinsShapeOk outsShapeOk x = FsShapeOk N x := by kernel_rfl
theorem cxsShapeOk (N : Nat) : CtxOk Try.prog (XsShapeOk N) := ⟨⟨TE_ok, fun k hk => absurd hk List.not_mem_nil⟩, mixed⟩
theorem specsShapeOk (N : Nat) : Spec Try.prog (consShapeOk N) :=
  Spec.of_eq (fn_spec (cxsShapeOk N) (f := 142) (fn := Try.f142) (c := codeOf Try.f142) (by kernel_rfl) (by kernel_rfl) (by kernel_rfl) (loops_at (ids := []) (by kernel_rfl) (trivial)) (by kernel_rfl)) (fun x r h => (FsShapeOk_eq N x).trans h)

/-! ### 99: spec.OpOk -/

noncomputable def dinsOpOk : Desc := { n := 1, regs := [.one (.val (.pair (.int .i64) (.pair (.int .i64) (.pair (.int .i64) (.pair (.int .i64) (.pair (.int .i64) (.pair (.int .i64) (.pair (.pair (.int .i64) (.pair (.int .i64) .unit)) .unit))))))))], bx := [], pins := [] }
noncomputable def outsOpOk : Outs := [(.ret, { n := 1, regs := [.one (.val .bool)], bx := [], pins := [] })]
noncomputable def HsOpOk : Hints := [(0, [(0, { fz := true })])]
noncomputable def EsOpOk (N : Nat) : Env := { te := TE, cs := [consShapeOk N] }
noncomputable def FsOpOk (N : Nat) (x : ((Int × (Int × (Int × (Int × (Int × (Int × ((Int × (Int × Unit)) × Unit))))))) × Unit)) : Option (Bool × Unit) :=
  bif decide (x.1.1 ≥ (1 : Int)) then
   bif decide (x.1.1 ≤ (11 : Int)) then
    bif x.1.1 != (1 : Int) then
     some (true, ())
    else
    (FsShapeOk N (x.1.2.2.2.2.2.2.1, ())).bind fun r1 =>
    some (r1.1, ())
   else
   some (false, ())
  else
  some (false, ())
noncomputable def consOpOk (N : Nat) : Con := { f := 99, din := dinsOpOk, outs := outsOpOk, F := FsOpOk N }
noncomputable def XsOpOk (N : Nat) : Ctx := { E := EsOpOk N, H := HsOpOk, lp := [], jn := [] }
theorem FsOpOk_eq (N : Nat) (x : ((Int × (Int × (Int × (Int × (Int × (Int × ((Int × (Int × Unit)) × Unit))))))) × Unit)) : evFn (XsOpOk N) Try.f99 dinsOpOk outsOpOk x = FsOpOk N x := by kernel_rfl
theorem cxsOpOk (N : Nat) : CtxOk Try.prog (XsOpOk N) := ⟨⟨TE_ok, List.forall_mem_cons.2 ⟨(specsShapeOk N), fun k hk => absurd hk List.not_mem_nil⟩⟩, mixed⟩
theorem specsOpOk (N : Nat) : Spec Try.prog (consOpOk N) :=
  Spec.of_eq (fn_spec (cxsOpOk N) (f := 99) (fn := Try.f99) (c := codeOf Try.f99) (by kernel_rfl) (by kernel_rfl) (by kernel_rfl) (loops_at (ids := []) (by kernel_rfl) (trivial)) (by kernel_rfl)) (fun x r h => (FsOpOk_eq N x).trans h)

/-! ### 79: spec.l5Ints -/

noncomputable def dinsl5Ints : Desc := { n := 1, regs := [.one (.val (.sl (.int .i64)))], bx := [], pins := [] }
noncomputable def outsl5Ints : Outs := [(.ret, { n := 1, regs := [.one (.lit (.row 1012800))], bx := [(1012800, .row (.int .i64))], pins := [] })]
noncomputable def Hsl5Ints : Hints := []
noncomputable def Esl5Ints (_N : Nat) : Env := { te := TE, cs := [] }
noncomputable def Fsl5Ints (N : Nat) (x : ((List Int) × Unit)) : Option ((List Int) × Unit) :=
  bif decide (([] : (List Int)).length + x.1.length ≤ lim) then
  some (([] : (List Int)) ++ x.1, ())
  else none
noncomputable def consl5Ints (N : Nat) : Con := { f := 79, din := dinsl5Ints, outs := outsl5Ints, F := Fsl5Ints N }
noncomputable def Xsl5Ints (N : Nat) : Ctx := { E := Esl5Ints N, H := Hsl5Ints, lp := [], jn := [] }
theorem Fsl5Ints_eq (N : Nat) (x : ((List Int) × Unit)) : evFn (Xsl5Ints N) Try.f79 dinsl5Ints outsl5Ints x = Fsl5Ints N x := by kernel_rfl
theorem cxsl5Ints (N : Nat) : CtxOk Try.prog (Xsl5Ints N) := ⟨⟨TE_ok, fun k hk => absurd hk List.not_mem_nil⟩, mixed⟩
theorem specsl5Ints (N : Nat) : Spec Try.prog (consl5Ints N) :=
  Spec.of_eq (fn_spec (cxsl5Ints N) (f := 79) (fn := Try.f79) (c := codeOf Try.f79) (by kernel_rfl) (by kernel_rfl) (by kernel_rfl) (loops_at (ids := []) (by kernel_rfl) (trivial)) (by kernel_rfl)) (fun x r h => (Fsl5Ints_eq N x).trans h)

/-! ### 62: spec.l5Copy -/

noncomputable def dinsl5Copy : Desc := { n := 1, regs := [.one (.val (.pair (.sl (.pair (.sl (.int .i64)) (.pair (.sl (.int .i64)) .unit))) (.pair (.sl (.sl (.int .i64))) (.pair (.sl (.int .i64)) .unit))))], bx := [], pins := [] }
noncomputable def outsl5Copy : Outs := [(.ret, { n := 1, regs := [.agg [.lit (.row 1012993), .lit (.row 1012994), .lit (.row 1012929)]], bx := [(1012993, .row (.pair (.sl (.int .i64)) (.pair (.sl (.int .i64)) .unit))), (1012994, .row (.sl (.int .i64))), (1012929, .row (.int .i64))], pins := [] })]
noncomputable def Hsl5Copy : Hints := [(0, [(0, { fz := true })]),
  (1, [(3, { nl := [(0, (.pair (.sl (.int .i64)) (.pair (.sl (.int .i64)) .unit))), (1, (.sl (.int .i64)))] })]),
  (5, [(17, { dp := true }), (18, { dp := true })]),
  (9, [(8, { dp := true }), (9, { dp := true })])]
noncomputable def Esl5Copy (N : Nat) : Env := { te := TE, cs := [consl5Ints N] }
noncomputable def dsl5Copy_0 : Desc := { n := 56, regs := [u, .one (.fpt (.pair (.sl (.pair (.sl (.int .i64)) (.pair (.sl (.int .i64)) .unit))) (.pair (.sl (.sl (.int .i64))) (.pair (.sl (.int .i64)) .unit)))), .one (.lit (.ptr 1000064 0)), .one (.lit (.ptr 1013056 0)), .one (.val (.int .i64))], bx := [(1000064, .var [.lit .nil, .lit .nil, .lit .nil]), (1013056, .var [.lit (.row 1012993), .lit (.row 1012994), .lit (.row 1012929)]), (1012993, .row (.pair (.sl (.int .i64)) (.pair (.sl (.int .i64)) .unit))), (1012994, .row (.sl (.int .i64))), (1012929, .row (.int .i64))], pins := [] }
noncomputable def osl5Copy_0 : Outs := [(.exit 0, { n := 56, regs := [u, .one (.fpt (.pair (.sl (.pair (.sl (.int .i64)) (.pair (.sl (.int .i64)) .unit))) (.pair (.sl (.sl (.int .i64))) (.pair (.sl (.int .i64)) .unit)))), .one (.lit (.ptr 1000064 0)), .one (.lit (.ptr 1013056 0))], bx := [(1000064, .var [.lit .nil, .lit .nil, .lit .nil]), (1013056, .var [.lit (.row 1012993), .lit (.row 1012994), .lit (.row 1012929)]), (1012993, .row (.pair (.sl (.int .i64)) (.pair (.sl (.int .i64)) .unit))), (1012994, .row (.sl (.int .i64))), (1012929, .row (.int .i64))], pins := [] })]
noncomputable def dsl5Copy_2 : Desc := { n := 56, regs := [u, .one (.fpt (.pair (.sl (.pair (.sl (.int .i64)) (.pair (.sl (.int .i64)) .unit))) (.pair (.sl (.sl (.int .i64))) (.pair (.sl (.int .i64)) .unit)))), .one (.lit (.ptr 1000064 0)), .one (.lit (.ptr 1013056 0)), u, .one (.val (.int .i64))], bx := [(1000064, .var [.lit .nil, .lit .nil, .lit .nil]), (1013056, .var [.lit (.row 1012993), .lit (.row 1012994), .lit (.row 1012929)]), (1012993, .row (.pair (.sl (.int .i64)) (.pair (.sl (.int .i64)) .unit))), (1012994, .row (.sl (.int .i64))), (1012929, .row (.int .i64))], pins := [] }
noncomputable def osl5Copy_2 : Outs := [(.exit 2, { n := 56, regs := [u, u, .one (.lit (.ptr 1000064 0)), .one (.lit (.ptr 1013056 0))], bx := [(1000064, .var [.lit .nil, .lit .nil, .lit .nil]), (1013056, .var [.lit (.row 1012993), .lit (.row 1012994), .lit (.row 1012929)]), (1012993, .row (.pair (.sl (.int .i64)) (.pair (.sl (.int .i64)) .unit))), (1012994, .row (.sl (.int .i64))), (1012929, .row (.int .i64))], pins := [] })]
noncomputable def lsl5Copy_0 (N : Nat) : Nat → (((List ((List Int) × ((List Int) × Unit))) × ((List (List Int)) × ((List Int) × Unit))) × (Int × ((List ((List Int) × ((List Int) × Unit))) × ((List (List Int)) × ((List Int) × Unit))))) → Option (((List ((List Int) × ((List Int) × Unit))) × ((List (List Int)) × ((List Int) × Unit))) × ((List ((List Int) × ((List Int) × Unit))) × ((List (List Int)) × ((List Int) × Unit))))
  | 0, _ => none
  | n + 1, v =>
    let y3 := decide (v.2.1 < (v.1.1.length : Int))
    bif y3 then
     bif decide (0 ≤ v.2.1) then
     bif decide (v.2.1.toNat < v.1.1.length) then
     let y4 := v.1.1.getD v.2.1.toNat (([] : (List Int)), ([] : (List Int)), ())
     (Fsl5Ints N (y4.1, ())).bind fun r5 =>
     bif decide (0 ≤ v.2.1) then
     bif decide (v.2.1.toNat < v.1.1.length) then
     let y6 := v.1.1.getD v.2.1.toNat (([] : (List Int)), ([] : (List Int)), ())
     (Fsl5Ints N (y6.2.1, ())).bind fun r7 =>
     bif decide (v.2.2.1.length + [(r5.1, r7.1, ())].length ≤ lim) then
     lsl5Copy_0 N n (v.1, w64 (v.2.1 + (1 : Int)), v.2.2.1 ++ [(r5.1, r7.1, ())], v.2.2.2.1, v.2.2.2.2.1, ())
     else none
     else none
     else none
     else none
     else none
    else
    some (v.1, v.2.2.1, v.2.2.2.1, v.2.2.2.2.1, ())
noncomputable def lsl5Copy_2 (N : Nat) : Nat → (((List ((List Int) × ((List Int) × Unit))) × ((List (List Int)) × ((List Int) × Unit))) × (Int × ((List ((List Int) × ((List Int) × Unit))) × ((List (List Int)) × ((List Int) × Unit))))) → Option ((List ((List Int) × ((List Int) × Unit))) × ((List (List Int)) × ((List Int) × Unit)))
  | 0, _ => none
  | n + 1, v =>
    let y9 := decide (v.2.1 < (v.1.2.1.length : Int))
    bif y9 then
     bif decide (0 ≤ v.2.1) then
     bif decide (v.2.1.toNat < v.1.2.1.length) then
     let y10 := v.1.2.1.getD v.2.1.toNat ([] : (List Int))
     (Fsl5Ints N (y10, ())).bind fun r11 =>
     bif decide (v.2.2.2.1.length + [r11.1].length ≤ lim) then
     lsl5Copy_2 N n (v.1, w64 (v.2.1 + (1 : Int)), v.2.2.1, v.2.2.2.1 ++ [r11.1], v.2.2.2.2.1, ())
     else none
     else none
     else none
    else
    some (v.2.2.1, v.2.2.2.1, v.2.2.2.2.1, ())
noncomputable def Fsl5Copy (N : Nat) (x : (((List ((List Int) × ((List Int) × Unit))) × ((List (List Int)) × ((List Int) × Unit))) × Unit)) : Option ((List ((List Int) × ((List Int) × Unit))) × ((List (List Int)) × ((List Int) × Unit))) :=
  (Fsl5Ints N (x.1.2.2.1, ())).bind fun r1 =>
  let y2 := ([] : (List ((List Int) × ((List Int) × Unit))))
  (lsl5Copy_0 N N (x.1, (0 : Int), y2, ([] : (List (List Int))), r1.1, ())).bind fun o8 =>
  (lsl5Copy_2 N N (o8.1, (0 : Int), o8.2.1, o8.2.2.1, o8.2.2.2.1, ())).bind fun o12 =>
  some (o12.1, o12.2.1, o12.2.2.1, ())
noncomputable def consl5Copy (N : Nat) : Con := { f := 62, din := dinsl5Copy, outs := outsl5Copy, F := Fsl5Copy N }
noncomputable def Xsl5Copy (N : Nat) : Ctx := { E := Esl5Copy N, H := Hsl5Copy, lp := [(0, { hd := dsl5Copy_0, outs := osl5Copy_0, run := fun v => lsl5Copy_0 N N v }), (2, { hd := dsl5Copy_2, outs := osl5Copy_2, run := fun v => lsl5Copy_2 N N v })], jn := [] }
noncomputable def bsl5Copy_2 : Code := loopBody (codeOf Try.f62) 1
noncomputable def bsl5Copy_0 : Code := loopBody (codeOf Try.f62) 0
theorem Fsl5Copy_eq (N : Nat) (x : (((List ((List Int) × ((List Int) × Unit))) × ((List (List Int)) × ((List Int) × Unit))) × Unit)) : evFn (Xsl5Copy N) Try.f62 dinsl5Copy outsl5Copy x = Fsl5Copy N x := by kernel_rfl
theorem lsl5Copy_0_eq (N n : Nat) (v : (((List ((List Int) × ((List Int) × Unit))) × ((List (List Int)) × ((List Int) × Unit))) × (Int × ((List ((List Int) × ((List Int) × Unit))) × ((List (List Int)) × ((List Int) × Unit)))))) : lsl5Copy_0 N (n + 1) v = ev (Xsl5Copy N) bsl5Copy_0 (roundK dsl5Copy_0 osl5Copy_0 (lsl5Copy_0 N n)) (dsl5Copy_0.mk' v) := by kernel_rfl
theorem lsl5Copy_2_eq (N n : Nat) (v : (((List ((List Int) × ((List Int) × Unit))) × ((List (List Int)) × ((List Int) × Unit))) × (Int × ((List ((List Int) × ((List Int) × Unit))) × ((List (List Int)) × ((List Int) × Unit)))))) : lsl5Copy_2 N (n + 1) v = ev (Xsl5Copy N) bsl5Copy_2 (roundK dsl5Copy_2 osl5Copy_2 (lsl5Copy_2 N n)) (dsl5Copy_2.mk' v) := by kernel_rfl
theorem cxsl5Copy (N : Nat) : CtxOk Try.prog (Xsl5Copy N) := ⟨⟨TE_ok, List.forall_mem_cons.2 ⟨(specsl5Ints N), fun k hk => absurd hk List.not_mem_nil⟩⟩, mixed⟩
theorem lpsl5Copy_0 (N : Nat) : LoopOk Try.prog { hd := dsl5Copy_0, outs := osl5Copy_0, run := fun v => lsl5Copy_0 N N v } bsl5Copy_0 :=
  loop_fuel (d := dsl5Copy_0) (os := osl5Copy_0) (cxsl5Copy N) (loops_at (ids := []) (by kernel_rfl) (trivial)) (lsl5Copy_0 N) (fun _ => rfl) (fun n v => lsl5Copy_0_eq N n v) (fun _ => N)
theorem lpsl5Copy_2 (N : Nat) : LoopOk Try.prog { hd := dsl5Copy_2, outs := osl5Copy_2, run := fun v => lsl5Copy_2 N N v } bsl5Copy_2 :=
  loop_fuel (d := dsl5Copy_2) (os := osl5Copy_2) (cxsl5Copy N) (loops_at (ids := []) (by kernel_rfl) (trivial)) (lsl5Copy_2 N) (fun _ => rfl) (fun n v => lsl5Copy_2_eq N n v) (fun _ => N)
theorem specsl5Copy (N : Nat) : Spec Try.prog (consl5Copy N) :=
  Spec.of_eq (fn_spec (cxsl5Copy N) (f := 62) (fn := Try.f62) (c := codeOf Try.f62) (by kernel_rfl) (by kernel_rfl) (by kernel_rfl) (loops_at (ids := [0, 2]) (by kernel_rfl) ⟨lp_of (lpsl5Copy_0 N), ⟨lp_of (lpsl5Copy_2 N), trivial⟩⟩) (by kernel_rfl)) (fun x r h => (Fsl5Copy_eq N x).trans h)

/-! ### 101: spec.l5Fields -/

noncomputable def dinsl5Fields : Desc := { n := 1, regs := [.one (.val (.int .i64))], bx := [], pins := [] }
noncomputable def outsl5Fields : Outs := [(.ret, { n := 1, regs := [.one (.val .bool)], bx := [], pins := [] })]
noncomputable def Hsl5Fields : Hints := []
noncomputable def Esl5Fields (_N : Nat) : Env := { te := TE, cs := [] }
noncomputable def Fsl5Fields (N : Nat) (x : (Int × Unit)) : Option (Bool × Unit) :=
  bif x.1 == (2 : Int) then
   some (true, ())
  else
  bif x.1 == (3 : Int) then
   some (true, ())
  else
  bif x.1 == (4 : Int) then
   some (true, ())
  else
  bif x.1 == (5 : Int) then
   some (true, ())
  else
  some (x.1 == (7 : Int), ())
noncomputable def consl5Fields (N : Nat) : Con := { f := 101, din := dinsl5Fields, outs := outsl5Fields, F := Fsl5Fields N }
noncomputable def Xsl5Fields (N : Nat) : Ctx := { E := Esl5Fields N, H := Hsl5Fields, lp := [], jn := [] }
theorem Fsl5Fields_eq (N : Nat) (x : (Int × Unit)) : evFn (Xsl5Fields N) Try.f101 dinsl5Fields outsl5Fields x = Fsl5Fields N x := by kernel_rfl
theorem cxsl5Fields (N : Nat) : CtxOk Try.prog (Xsl5Fields N) := ⟨⟨TE_ok, fun k hk => absurd hk List.not_mem_nil⟩, mixed⟩
theorem specsl5Fields (N : Nat) : Spec Try.prog (consl5Fields N) :=
  Spec.of_eq (fn_spec (cxsl5Fields N) (f := 101) (fn := Try.f101) (c := codeOf Try.f101) (by kernel_rfl) (by kernel_rfl) (by kernel_rfl) (loops_at (ids := []) (by kernel_rfl) (trivial)) (by kernel_rfl)) (fun x r h => (Fsl5Fields_eq N x).trans h)

/-! ### 100: spec.l5Begin -/

noncomputable def dinsl5Begin : Desc := { n := 3, regs := [.one (.val (.pair (.int .i64) (.pair (.int .i64) (.pair (.int .i64) (.pair (.int .i64) (.pair (.int .i64) (.pair (.int .i64) (.pair (.pair (.int .i64) (.pair (.int .i64) .unit)) .unit)))))))), .one (.val (.sl (.int .i64))), .one (.val (.int .i64))], bx := [], pins := [] }
noncomputable def outsl5Begin : Outs := [(.ret, { n := 1, regs := [.one (.val (.int .i64))], bx := [], pins := [] })]
noncomputable def Hsl5Begin : Hints := [(0, [(0, { fz := true })])]
noncomputable def Esl5Begin (N : Nat) : Env := { te := TE, cs := [consl5Fields N] }
noncomputable def jsl5Begin_3 : Outs := [(.normal, { n := 107, regs := [u, .one (.val (.sl (.int .i64))), .one (.val (.int .i64)), .one (.fpt (.pair (.int .i64) (.pair (.int .i64) (.pair (.int .i64) (.pair (.int .i64) (.pair (.int .i64) (.pair (.int .i64) (.pair (.pair (.int .i64) (.pair (.int .i64) .unit)) .unit)))))))), u, u, u, .one (.val (.int .i64)), .one (.val .bool)], bx := [], pins := [] })]
noncomputable def jsl5Begin_4 : Outs := [(.normal, { n := 107, regs := [u, .one (.val (.sl (.int .i64))), .one (.val (.int .i64)), .one (.fpt (.pair (.int .i64) (.pair (.int .i64) (.pair (.int .i64) (.pair (.int .i64) (.pair (.int .i64) (.pair (.int .i64) (.pair (.pair (.int .i64) (.pair (.int .i64) .unit)) .unit)))))))), u, u, u, .one (.val (.int .i64)), .one (.val .bool), .one (.val .bool)], bx := [], pins := [] })]
noncomputable def jsl5Begin_5 : Outs := [(.normal, { n := 107, regs := [u, .one (.val (.sl (.int .i64))), .one (.val (.int .i64)), .one (.fpt (.pair (.int .i64) (.pair (.int .i64) (.pair (.int .i64) (.pair (.int .i64) (.pair (.int .i64) (.pair (.int .i64) (.pair (.pair (.int .i64) (.pair (.int .i64) .unit)) .unit)))))))), u, u, u, .one (.val (.int .i64)), .one (.val .bool), .one (.val .bool), .one (.val .bool)], bx := [], pins := [] })]
noncomputable def jsl5Begin_25 : Outs := [(.normal, { n := 107, regs := [u, .one (.val (.sl (.int .i64))), .one (.val (.int .i64)), .one (.fpt (.pair (.int .i64) (.pair (.int .i64) (.pair (.int .i64) (.pair (.int .i64) (.pair (.int .i64) (.pair (.int .i64) (.pair (.pair (.int .i64) (.pair (.int .i64) .unit)) .unit)))))))), u, u, u, .one (.val (.int .i64)), .one (.val .bool), .one (.val .bool), .one (.val .bool)], bx := [], pins := [] })]
noncomputable def jsl5Begin_27 : Outs := [(.normal, { n := 107, regs := [u, .one (.val (.sl (.int .i64))), .one (.val (.int .i64)), .one (.fpt (.pair (.int .i64) (.pair (.int .i64) (.pair (.int .i64) (.pair (.int .i64) (.pair (.int .i64) (.pair (.int .i64) (.pair (.pair (.int .i64) (.pair (.int .i64) .unit)) .unit)))))))), u, u, u, .one (.val (.int .i64))], bx := [], pins := [] }), (.ret, { n := 107, regs := [u, u, u, u, u, u, .one (.val (.int .i64))], bx := [], pins := [] })]
noncomputable def jsl5Begin_29 : Outs := [(.normal, { n := 107, regs := [u, u, u, .one (.fpt (.pair (.int .i64) (.pair (.int .i64) (.pair (.int .i64) (.pair (.int .i64) (.pair (.int .i64) (.pair (.int .i64) (.pair (.pair (.int .i64) (.pair (.int .i64) .unit)) .unit)))))))), u, u, u, .one (.val (.int .i64))], bx := [], pins := [] }), (.ret, { n := 107, regs := [u, u, u, u, u, u, .one (.val (.int .i64))], bx := [], pins := [] })]
noncomputable def Fsl5Begin (N : Nat) (x : ((Int × (Int × (Int × (Int × (Int × (Int × ((Int × (Int × Unit)) × Unit))))))) × ((List Int) × (Int × Unit)))) : Option (Int × Unit) :=
  Option.bind (
   bif decide (x.1.2.1 ≥ (0 : Int)) then
    let y1 := decide (x.1.2.1 < (x.2.1.length : Int))
    some (x.2.1, x.2.2.1, x.1, (x.2.1.length : Int), y1, ())
   else
   some (x.2.1, x.2.2.1, x.1, (x.2.1.length : Int), false, ())) fun o2 =>
  Option.bind (
   bif decide (o2.2.2.1.2.2.1 ≥ (0 : Int)) then
    some (o2.1, o2.2.1, o2.2.2.1, o2.2.2.2.1, o2.2.2.2.2.1, decide (o2.2.2.1.2.2.1 < o2.2.2.2.1), ())
   else
   some (o2.1, o2.2.1, o2.2.2.1, o2.2.2.2.1, o2.2.2.2.2.1, false, ())) fun o3 =>
  Option.bind (
   let y4 := decide (o3.2.2.1.2.2.2.1 ≥ (0 : Int))
   bif y4 then
    let y5 := decide (o3.2.2.1.2.2.2.1 < o3.2.2.2.1)
    some (o3.1, o3.2.1, o3.2.2.1, o3.2.2.2.1, o3.2.2.2.2.1, o3.2.2.2.2.2.1, y5, ())
   else
   some (o3.1, o3.2.1, o3.2.2.1, o3.2.2.2.1, o3.2.2.2.2.1, o3.2.2.2.2.2.1, false, ())) fun o6 =>
  Option.bind (
   bif o6.2.2.1.1 == (1 : Int) then
    some (o6.1, o6.2.1, o6.2.2.1, o6.2.2.2.1, true, true, true, ())
   else
   bif o6.2.2.1.1 == (8 : Int) then
    some (o6.1, o6.2.1, o6.2.2.1, o6.2.2.2.1, decide (o6.2.2.2.1 > (0 : Int)), true, true, ())
   else
   bif o6.2.2.1.1 == (2 : Int) then
    some (o6.1, o6.2.1, o6.2.2.1, o6.2.2.2.1, o6.2.2.2.2.1, true, true, ())
   else
   bif o6.2.2.1.1 == (4 : Int) then
    some (o6.1, o6.2.1, o6.2.2.1, o6.2.2.2.1, o6.2.2.2.2.1, true, true, ())
   else
   bif o6.2.2.1.1 == (5 : Int) then
    some (o6.1, o6.2.1, o6.2.2.1, o6.2.2.2.1, o6.2.2.2.2.1, true, true, ())
   else
   bif o6.2.2.1.1 == (9 : Int) then
    some (o6.1, o6.2.1, o6.2.2.1, o6.2.2.2.1, o6.2.2.2.2.1, true, true, ())
   else
   bif o6.2.2.1.1 == (10 : Int) then
    some (o6.1, o6.2.1, o6.2.2.1, o6.2.2.2.1, o6.2.2.2.2.1, true, true, ())
   else
   bif o6.2.2.1.1 == (11 : Int) then
    some (o6.1, o6.2.1, o6.2.2.1, o6.2.2.2.1, o6.2.2.2.2.1, true, true, ())
   else
   bif o6.2.2.1.1 == (3 : Int) then
    some (o6.1, o6.2.1, o6.2.2.1, o6.2.2.2.1, o6.2.2.2.2.1, o6.2.2.2.2.2.1, true, ())
   else
   bif o6.2.2.1.1 == (6 : Int) then
    some (o6.1, o6.2.1, o6.2.2.1, o6.2.2.2.1, o6.2.2.2.2.1, o6.2.2.2.2.2.1, true, ())
   else
   some (o6.1, o6.2.1, o6.2.2.1, o6.2.2.2.1, o6.2.2.2.2.1, o6.2.2.2.2.2.1, o6.2.2.2.2.2.2.1, ())) fun o7 =>
  Option.bind (
   bif !o7.2.2.2.2.1 then
    some (.inr (((2 : Int), ())))
   else
   bif !o7.2.2.2.2.2.1 then
    some (.inr (((2 : Int), ())))
   else
   bif !o7.2.2.2.2.2.2.1 then
    some (.inr (((2 : Int), ())))
   else
   some (.inl (o7.1, o7.2.1, o7.2.2.1, o7.2.2.2.1, ()))) fun o8 =>
  Sum.elim (fun o9 =>
   Option.bind (
    (Fsl5Fields N (o9.2.2.1.1, ())).bind fun r10 =>
    bif r10.1 then
     bif decide (0 ≤ o9.2.2.1.2.1) then
     bif decide (o9.2.2.1.2.1.toNat < o9.1.length) then
     let y11 := o9.1.getD o9.2.2.1.2.1.toNat (0 : Int)
     bif y11 == o9.2.1 then
      some (.inr (((3 : Int), ())))
     else
     some (.inl (o9.2.2.1, o9.2.2.2.1, ()))
     else none
     else none
    else
    bif o9.2.2.1.1 == (10 : Int) then
     bif decide (0 ≤ o9.2.2.1.2.1) then
     bif decide (o9.2.2.1.2.1.toNat < o9.1.length) then
     let y12 := o9.1.getD o9.2.2.1.2.1.toNat (0 : Int)
     bif y12 == o9.2.1 then
      some (.inr (((3 : Int), ())))
     else
     some (.inl (o9.2.2.1, o9.2.2.2.1, ()))
     else none
     else none
    else
    bif o9.2.2.1.1 == (11 : Int) then
     bif decide (0 ≤ o9.2.2.1.2.1) then
     bif decide (o9.2.2.1.2.1.toNat < o9.1.length) then
     let y13 := o9.1.getD o9.2.2.1.2.1.toNat (0 : Int)
     bif y13 == o9.2.1 then
      some (.inr (((3 : Int), ())))
     else
     some (.inl (o9.2.2.1, o9.2.2.2.1, ()))
     else none
     else none
    else
    some (.inl (o9.2.2.1, o9.2.2.2.1, ()))) fun o14 =>
   Sum.elim (fun o15 =>
    bif o15.1.1 == (1 : Int) then
     bif o15.2.1 == (8 : Int) then
      some ((5 : Int), ())
     else
     some ((0 : Int), ())
    else
    bif o15.1.1 == (2 : Int) then
     bif o15.2.1 == (8 : Int) then
      some ((5 : Int), ())
     else
     some ((0 : Int), ())
    else
    bif o15.1.1 == (9 : Int) then
     bif o15.2.1 == (8 : Int) then
      some ((5 : Int), ())
     else
     some ((0 : Int), ())
    else
    some ((0 : Int), ())) (fun o16 =>
    some (o16.1, ())) o14) (fun o17 =>
   some (o17.1, ())) o8
noncomputable def consl5Begin (N : Nat) : Con := { f := 100, din := dinsl5Begin, outs := outsl5Begin, F := Fsl5Begin N }
noncomputable def Xsl5Begin (N : Nat) : Ctx := { E := Esl5Begin N, H := Hsl5Begin, lp := [], jn := [(3, jsl5Begin_3), (4, jsl5Begin_4), (5, jsl5Begin_5), (25, jsl5Begin_25), (27, jsl5Begin_27), (29, jsl5Begin_29)] }
theorem Fsl5Begin_eq (N : Nat) (x : ((Int × (Int × (Int × (Int × (Int × (Int × ((Int × (Int × Unit)) × Unit))))))) × ((List Int) × (Int × Unit)))) : evFn (Xsl5Begin N) Try.f100 dinsl5Begin outsl5Begin x = Fsl5Begin N x := by kernel_rfl
theorem cxsl5Begin (N : Nat) : CtxOk Try.prog (Xsl5Begin N) := ⟨⟨TE_ok, List.forall_mem_cons.2 ⟨(specsl5Fields N), fun k hk => absurd hk List.not_mem_nil⟩⟩, mixed⟩
theorem specsl5Begin (N : Nat) : Spec Try.prog (consl5Begin N) :=
  Spec.of_eq (fn_spec (cxsl5Begin N) (f := 100) (fn := Try.f100) (c := codeOf Try.f100) (by kernel_rfl) (by kernel_rfl) (by kernel_rfl) (loops_at (ids := []) (by kernel_rfl) (trivial)) (by kernel_rfl)) (fun x r h => (Fsl5Begin_eq N x).trans h)

/-! ### 102: spec.l5Field -/

noncomputable def dinsl5Field : Desc := { n := 3, regs := [.one (.val (.pair (.int .i64) (.pair (.int .i64) (.pair (.int .i64) (.pair (.int .i64) (.pair (.int .i64) (.pair (.int .i64) (.pair (.pair (.int .i64) (.pair (.int .i64) .unit)) .unit)))))))), .one (.val (.int .i64)), .one (.val (.int .i64))], bx := [], pins := [] }
noncomputable def outsl5Field : Outs := [(.ret, { n := 1, regs := [.one (.val .bool)], bx := [], pins := [] })]
noncomputable def Hsl5Field : Hints := [(0, [(0, { fz := true })])]
noncomputable def Esl5Field (_N : Nat) : Env := { te := TE, cs := [] }
noncomputable def jsl5Field_3 : Outs := [(.normal, { n := 33, regs := [u, .one (.val (.int .i64)), u, .one (.fpt (.pair (.int .i64) (.pair (.int .i64) (.pair (.int .i64) (.pair (.int .i64) (.pair (.int .i64) (.pair (.int .i64) (.pair (.pair (.int .i64) (.pair (.int .i64) .unit)) .unit))))))))], bx := [], pins := [] }), (.ret, { n := 33, regs := [u, u, u, u, u, u, .one (.val .bool)], bx := [], pins := [] })]
noncomputable def Fsl5Field (N : Nat) (x : ((Int × (Int × (Int × (Int × (Int × (Int × ((Int × (Int × Unit)) × Unit))))))) × (Int × (Int × Unit)))) : Option (Bool × Unit) :=
  Option.bind (
   bif x.1.1 == (4 : Int) then
    bif decide (x.1.2.2.2.2.1 ≥ (0 : Int)) then
     some (.inr ((decide (x.1.2.2.2.2.1 < x.2.2.1), ())))
    else
    some (.inr ((false, ())))
   else
   bif x.1.1 == (5 : Int) then
    bif decide (x.1.2.2.2.2.1 ≥ (0 : Int)) then
     some (.inr ((decide (x.1.2.2.2.2.1 < x.2.2.1), ())))
    else
    some (.inr ((false, ())))
   else
   some (.inl (x.2.1, x.1, ()))) fun o1 =>
  Sum.elim (fun o2 =>
   let y3 := decide (o2.2.1.2.2.2.2.1 ≥ (0 : Int))
   bif y3 then
    some (decide (o2.2.1.2.2.2.2.1 < o2.1), ())
   else
   some (false, ())) (fun o4 =>
   some (o4.1, ())) o1
noncomputable def consl5Field (N : Nat) : Con := { f := 102, din := dinsl5Field, outs := outsl5Field, F := Fsl5Field N }
noncomputable def Xsl5Field (N : Nat) : Ctx := { E := Esl5Field N, H := Hsl5Field, lp := [], jn := [(3, jsl5Field_3)] }
theorem Fsl5Field_eq (N : Nat) (x : ((Int × (Int × (Int × (Int × (Int × (Int × ((Int × (Int × Unit)) × Unit))))))) × (Int × (Int × Unit)))) : evFn (Xsl5Field N) Try.f102 dinsl5Field outsl5Field x = Fsl5Field N x := by kernel_rfl
theorem cxsl5Field (N : Nat) : CtxOk Try.prog (Xsl5Field N) := ⟨⟨TE_ok, fun k hk => absurd hk List.not_mem_nil⟩, mixed⟩
theorem specsl5Field (N : Nat) : Spec Try.prog (consl5Field N) :=
  Spec.of_eq (fn_spec (cxsl5Field N) (f := 102) (fn := Try.f102) (c := codeOf Try.f102) (by kernel_rfl) (by kernel_rfl) (by kernel_rfl) (loops_at (ids := []) (by kernel_rfl) (trivial)) (by kernel_rfl)) (fun x r h => (Fsl5Field_eq N x).trans h)

/-! ### 103: spec.l5Pins -/

noncomputable def dinsl5Pins : Desc := { n := 3, regs := [.one (.val (.sl (.int .i64))), .one (.val (.int .i64)), .one (.val (.int .i64))], bx := [], pins := [] }
noncomputable def outsl5Pins : Outs := [(.ret, { n := 2, regs := [.one (.lit (.row 1038400)), .one (.val .bool)], bx := [(1038400, .row (.int .i64))], pins := [] })]
noncomputable def Hsl5Pins : Hints := [(3, [(0, { nl := [(0, (.int .i64))] })]),
  (12, [(0, { nl := [(0, (.int .i64))] })])]
noncomputable def Esl5Pins (N : Nat) : Env := { te := TE, cs := [consl5Ints N] }
noncomputable def dsl5Pins_0 : Desc := { n := 44, regs := [.one (.val (.sl (.int .i64))), u, .one (.val (.int .i64)), u, u, u, u, u, .one (.val (.int .i64)), .one (.val (.int .i64))], bx := [], pins := [] }
noncomputable def osl5Pins_0 : Outs := [(.exit 0, { n := 44, regs := [.one (.val (.sl (.int .i64))), u, u, u, u, u, u, u, .one (.val (.int .i64))], bx := [], pins := [] })]
noncomputable def lsl5Pins_0 (N : Nat) : Nat → ((List Int) × (Int × (Int × (Int × Unit)))) → Option ((List Int) × (Int × Unit))
  | 0, _ => none
  | n + 1, v =>
    let y2 := decide (v.2.2.2.1 < (v.1.length : Int))
    bif y2 then
     bif decide (0 ≤ v.2.2.2.1) then
     bif decide (v.2.2.2.1.toNat < v.1.length) then
     let y3 := (v.1.getD v.2.2.2.1.toNat (0 : Int)) == v.2.1
     bif y3 then
      lsl5Pins_0 N n (v.1, v.2.1, v.2.2.2.1, w64 (v.2.2.2.1 + (1 : Int)), ())
     else
     lsl5Pins_0 N n (v.1, v.2.1, v.2.2.1, w64 (v.2.2.2.1 + (1 : Int)), ())
     else none
     else none
    else
    some (v.1, v.2.2.1, ())
noncomputable def Fsl5Pins (N : Nat) (x : ((List Int) × (Int × (Int × Unit)))) : Option (Bool × ((List Int) × Unit)) :=
  bif x.2.1 == (10 : Int) then
   bif (x.1.length : Int) == (8 : Int) then
    some (false, ([] : (List Int)), ())
   else
   (Fsl5Ints N (x.1, ())).bind fun r1 =>
   bif decide (r1.1.length + [x.2.2.1].length ≤ lim) then
   some (true, r1.1 ++ [x.2.2.1], ())
   else none
  else
  (lsl5Pins_0 N N (x.1, x.2.2.1, (-1 : Int), (0 : Int), ())).bind fun o4 =>
  bif decide (o4.2.1 < (0 : Int)) then
   some (false, ([] : (List Int)), ())
  else
  bif decide (0 ≤ o4.2.1) then
  bif decide (o4.2.1 ≤ (o4.1.length : Int)) then
  bif decide (0 ≤ (0 : Int)) then
  bif decide ((0 : Int) ≤ o4.2.1) then
  let y5 := (o4.1.drop (0 : Int).toNat).take (o4.2.1.toNat - (0 : Int).toNat)
  (Fsl5Ints N (y5, ())).bind fun r6 =>
  bif decide (0 ≤ (o4.1.length : Int)) then
  bif decide ((o4.1.length : Int) ≤ (o4.1.length : Int)) then
  bif decide (0 ≤ (w64 (o4.2.1 + (1 : Int)))) then
  bif decide ((w64 (o4.2.1 + (1 : Int))) ≤ (o4.1.length : Int)) then
  let y7 := (o4.1.drop (w64 (o4.2.1 + (1 : Int))).toNat).take ((o4.1.length : Int).toNat - (w64 (o4.2.1 + (1 : Int))).toNat)
  bif decide (r6.1.length + y7.length ≤ lim) then
  some (true, r6.1 ++ y7, ())
  else none
  else none
  else none
  else none
  else none
  else none
  else none
  else none
  else none
noncomputable def consl5Pins (N : Nat) : Con := { f := 103, din := dinsl5Pins, outs := outsl5Pins, F := Fsl5Pins N }
noncomputable def Xsl5Pins (N : Nat) : Ctx := { E := Esl5Pins N, H := Hsl5Pins, lp := [(0, { hd := dsl5Pins_0, outs := osl5Pins_0, run := fun v => lsl5Pins_0 N N v })], jn := [] }
noncomputable def bsl5Pins_0 : Code := loopBody (codeOf Try.f103) 0
theorem Fsl5Pins_eq (N : Nat) (x : ((List Int) × (Int × (Int × Unit)))) : evFn (Xsl5Pins N) Try.f103 dinsl5Pins outsl5Pins x = Fsl5Pins N x := by kernel_rfl
theorem lsl5Pins_0_eq (N n : Nat) (v : ((List Int) × (Int × (Int × (Int × Unit))))) : lsl5Pins_0 N (n + 1) v = ev (Xsl5Pins N) bsl5Pins_0 (roundK dsl5Pins_0 osl5Pins_0 (lsl5Pins_0 N n)) (dsl5Pins_0.mk' v) := by kernel_rfl
theorem cxsl5Pins (N : Nat) : CtxOk Try.prog (Xsl5Pins N) := ⟨⟨TE_ok, List.forall_mem_cons.2 ⟨(specsl5Ints N), fun k hk => absurd hk List.not_mem_nil⟩⟩, mixed⟩
theorem lpsl5Pins_0 (N : Nat) : LoopOk Try.prog { hd := dsl5Pins_0, outs := osl5Pins_0, run := fun v => lsl5Pins_0 N N v } bsl5Pins_0 :=
  loop_fuel (d := dsl5Pins_0) (os := osl5Pins_0) (cxsl5Pins N) (loops_at (ids := []) (by kernel_rfl) (trivial)) (lsl5Pins_0 N) (fun _ => rfl) (fun n v => lsl5Pins_0_eq N n v) (fun _ => N)
theorem specsl5Pins (N : Nat) : Spec Try.prog (consl5Pins N) :=
  Spec.of_eq (fn_spec (cxsl5Pins N) (f := 103) (fn := Try.f103) (c := codeOf Try.f103) (by kernel_rfl) (by kernel_rfl) (by kernel_rfl) (loops_at (ids := [0]) (by kernel_rfl) ⟨lp_of (lpsl5Pins_0 N), trivial⟩) (by kernel_rfl)) (fun x r h => (Fsl5Pins_eq N x).trans h)

/-! ### 104: spec.l5One -/

noncomputable def dinsl5One : Desc := { n := 1, regs := [.one (.val .bool)], bx := [], pins := [] }
noncomputable def outsl5One : Outs := [(.ret, { n := 1, regs := [.one (.val (.int .i64))], bx := [], pins := [] })]
noncomputable def Hsl5One : Hints := []
noncomputable def Esl5One (_N : Nat) : Env := { te := TE, cs := [] }
noncomputable def Fsl5One (N : Nat) (x : (Bool × Unit)) : Option (Int × Unit) :=
  bif x.1 then
   some ((1 : Int), ())
  else
  some ((0 : Int), ())
noncomputable def consl5One (N : Nat) : Con := { f := 104, din := dinsl5One, outs := outsl5One, F := Fsl5One N }
noncomputable def Xsl5One (N : Nat) : Ctx := { E := Esl5One N, H := Hsl5One, lp := [], jn := [] }
theorem Fsl5One_eq (N : Nat) (x : (Bool × Unit)) : evFn (Xsl5One N) Try.f104 dinsl5One outsl5One x = Fsl5One N x := by kernel_rfl
theorem cxsl5One (N : Nat) : CtxOk Try.prog (Xsl5One N) := ⟨⟨TE_ok, fun k hk => absurd hk List.not_mem_nil⟩, mixed⟩
theorem specsl5One (N : Nat) : Spec Try.prog (consl5One N) :=
  Spec.of_eq (fn_spec (cxsl5One N) (f := 104) (fn := Try.f104) (c := codeOf Try.f104) (by kernel_rfl) (by kernel_rfl) (by kernel_rfl) (loops_at (ids := []) (by kernel_rfl) (trivial)) (by kernel_rfl)) (fun x r h => (Fsl5One_eq N x).trans h)

/-! ### 49: spec.GraphDo -/

noncomputable def dinsGraphDo : Desc := { n := 3, regs := [.one (.val (.pair (.sl (.pair (.sl (.int .i64)) (.pair (.sl (.int .i64)) .unit))) (.pair (.sl (.sl (.int .i64))) (.pair (.sl (.int .i64)) .unit)))), .one (.val (.int .i64)), .one (.val (.pair (.int .i64) (.pair (.int .i64) (.pair (.int .i64) (.pair (.int .i64) (.pair (.int .i64) (.pair (.int .i64) (.pair (.pair (.int .i64) (.pair (.int .i64) .unit)) .unit))))))))], bx := [], pins := [] }
noncomputable def outsGraphDo : Outs := [(.ret, { n := 3, regs := [.agg [.lit (.row 1038465), .lit (.row 1038466), .lit (.row 1141377)], .one (.val (.int .i64)), .one (.val (.int .i64))], bx := [(1038465, .row (.pair (.sl (.int .i64)) (.pair (.sl (.int .i64)) .unit))), (1038466, .row (.sl (.int .i64))), (1141377, .row (.int .i64))], pins := [] })]
noncomputable def HsGraphDo : Hints := [(0, [(0, { fz := true }), (1, { fz := true })]),
  (1, [(16, { con := 1 })]),
  (2, [(0, { nl := [(0, (.pair (.sl (.int .i64)) (.pair (.sl (.int .i64)) .unit))), (1, (.sl (.int .i64))), (2, (.int .i64))] })]),
  (3, [(1, { con := 2 })]),
  (5, [(2, { con := 3 })]),
  (6, [(5, { con := 4 }), (31, { con := 5 })]),
  (11, [(9, { con := 6 })]),
  (20, [(4, { nl := [(0, (.int .i64))] })]),
  (25, [(3, { dp := true }), (4, { dp := true })]),
  (36, [(11, { con := 7 })])]
noncomputable def EsGraphDo (N : Nat) : Env := { te := TE, cs := [consGraphOk N, consOpOk N, consl5Copy N, consl5Begin N, consl5Fields N, consl5Field N, consl5Pins N, consl5One N] }
noncomputable def dsGraphDo_1 : Desc := { n := 323, regs := [u, .one (.val (.int .i64)), u, u, u, .one (.fpt (.pair (.int .i64) (.pair (.int .i64) (.pair (.int .i64) (.pair (.int .i64) (.pair (.int .i64) (.pair (.int .i64) (.pair (.pair (.int .i64) (.pair (.int .i64) .unit)) .unit)))))))), .one (.lit (.ptr 1000128 0)), u, u, .one (.lit (.ptr 1038528 0)), .one (.nrow 1038466 0), u, u, u, .one (.val (.int .i64)), .one (.lit (.ptr 1256320 0)), .one (.val (.int .i64))], bx := [(1000128, .var [.lit .nil, .lit .nil, .lit .nil]), (1038528, .var [.lit (.row 1038465), .lit (.row 1038466), .lit (.row 1141377)]), (1038465, .row (.pair (.sl (.int .i64)) (.pair (.sl (.int .i64)) .unit))), (1038466, .row (.sl (.int .i64))), (1141377, .row (.int .i64)), (1256320, .var [.lit (.row 1256257), .lit (.row 1256192)]), (1256257, .row (.int .i64)), (1256192, .row (.int .i64))], pins := [] }
noncomputable def osGraphDo_1 : Outs := [(.exit 1, { n := 323, regs := [u, .one (.val (.int .i64)), u, u, u, u, .one (.lit (.ptr 1000128 0)), u, u, .one (.lit (.ptr 1038528 0)), .one (.nrow 1038466 0), u, u, u, .one (.val (.int .i64)), .one (.lit (.ptr 1256320 0))], bx := [(1000128, .var [.lit .nil, .lit .nil, .lit .nil]), (1038528, .var [.lit (.row 1038465), .lit (.row 1038466), .lit (.row 1141377)]), (1038465, .row (.pair (.sl (.int .i64)) (.pair (.sl (.int .i64)) .unit))), (1038466, .row (.sl (.int .i64))), (1141377, .row (.int .i64)), (1256320, .var [.lit (.row 1256257), .lit (.row 1256192)]), (1256257, .row (.int .i64)), (1256192, .row (.int .i64))], pins := [] })]
noncomputable def jsGraphDo_3 : Outs := [(.normal, { n := 323, regs := [u, .one (.val (.int .i64)), u, .one (.fpt (.pair (.sl (.pair (.sl (.int .i64)) (.pair (.sl (.int .i64)) .unit))) (.pair (.sl (.sl (.int .i64))) (.pair (.sl (.int .i64)) .unit)))), u, .one (.fpt (.pair (.int .i64) (.pair (.int .i64) (.pair (.int .i64) (.pair (.int .i64) (.pair (.int .i64) (.pair (.int .i64) (.pair (.pair (.int .i64) (.pair (.int .i64) .unit)) .unit)))))))), .one (.lit (.ptr 1000128 0))], bx := [(1000128, .var [.lit .nil, .lit .nil, .lit .nil])], pins := [] }), (.ret, { n := 323, regs := [u, u, u, u, u, u, .one (.lit (.ptr 1000128 0)), .one (.val (.int .i64)), .one (.val (.int .i64))], bx := [(1000128, .var [.lit (.row 1025601), .lit (.row 1025602), .lit (.row 1025603)]), (1025601, .row (.pair (.sl (.int .i64)) (.pair (.sl (.int .i64)) .unit))), (1025602, .row (.sl (.int .i64))), (1025603, .row (.int .i64))], pins := [] })]
noncomputable def jsGraphDo_8 : Outs := [(.normal, { n := 323, regs := [u, .one (.val (.int .i64)), u, u, u, .one (.fpt (.pair (.int .i64) (.pair (.int .i64) (.pair (.int .i64) (.pair (.int .i64) (.pair (.int .i64) (.pair (.int .i64) (.pair (.pair (.int .i64) (.pair (.int .i64) .unit)) .unit)))))))), .one (.lit (.ptr 1000128 0)), u, u, .one (.lit (.ptr 1038528 0)), .one (.nrow 1038466 0), .one (.val (.int .i64))], bx := [(1000128, .var [.lit .nil, .lit .nil, .lit .nil]), (1038528, .var [.lit (.row 1038465), .lit (.row 1038466), .lit (.row 1038467)]), (1038465, .row (.pair (.sl (.int .i64)) (.pair (.sl (.int .i64)) .unit))), (1038466, .row (.sl (.int .i64))), (1038467, .row (.int .i64))], pins := [] })]
noncomputable def jsGraphDo_10 : Outs := [(.normal, { n := 323, regs := [u, .one (.val (.int .i64)), u, u, u, .one (.fpt (.pair (.int .i64) (.pair (.int .i64) (.pair (.int .i64) (.pair (.int .i64) (.pair (.int .i64) (.pair (.int .i64) (.pair (.pair (.int .i64) (.pair (.int .i64) .unit)) .unit)))))))), .one (.lit (.ptr 1000128 0)), u, u, .one (.lit (.ptr 1038528 0)), .one (.nrow 1038466 0), .one (.val (.int .i64))], bx := [(1000128, .var [.lit .nil, .lit .nil, .lit .nil]), (1038528, .var [.lit (.row 1038465), .lit (.row 1038466), .lit (.row 1038467)]), (1038465, .row (.pair (.sl (.int .i64)) (.pair (.sl (.int .i64)) .unit))), (1038466, .row (.sl (.int .i64))), (1038467, .row (.int .i64))], pins := [] })]
noncomputable def jsGraphDo_15 : Outs := [(.normal, { n := 323, regs := [u, .one (.val (.int .i64)), u, u, u, .one (.fpt (.pair (.int .i64) (.pair (.int .i64) (.pair (.int .i64) (.pair (.int .i64) (.pair (.int .i64) (.pair (.int .i64) (.pair (.pair (.int .i64) (.pair (.int .i64) .unit)) .unit)))))))), .one (.lit (.ptr 1000128 0)), u, u, .one (.lit (.ptr 1038528 0)), .one (.nrow 1038466 0), .one (.val (.int .i64))], bx := [(1000128, .var [.lit .nil, .lit .nil, .lit .nil]), (1038528, .var [.lit (.row 1038465), .lit (.row 1038466), .lit (.row 1141377)]), (1038465, .row (.pair (.sl (.int .i64)) (.pair (.sl (.int .i64)) .unit))), (1038466, .row (.sl (.int .i64))), (1141377, .row (.int .i64))], pins := [] }), (.ret, { n := 323, regs := [u, u, u, u, u, u, .one (.lit (.ptr 1000128 0)), .one (.val (.int .i64)), .one (.val (.int .i64))], bx := [(1000128, .var [.lit (.row 1038465), .lit (.row 1038466), .lit (.row 1038467)]), (1038465, .row (.pair (.sl (.int .i64)) (.pair (.sl (.int .i64)) .unit))), (1038466, .row (.sl (.int .i64))), (1038467, .row (.int .i64))], pins := [] })]
noncomputable def jsGraphDo_45 : Outs := [(.normal, { n := 323, regs := [u, u, u, u, u, u, .one (.lit (.ptr 1000128 0)), u, u, .one (.lit (.ptr 1038528 0)), u, u, u, u, .one (.val (.int .i64))], bx := [(1000128, .var [.lit .nil, .lit .nil, .lit .nil]), (1038528, .var [.lit (.row 1038465), .lit (.row 1038466), .lit (.row 1141377)]), (1038465, .row (.pair (.sl (.int .i64)) (.pair (.sl (.int .i64)) .unit))), (1038466, .row (.sl (.int .i64))), (1141377, .row (.int .i64))], pins := [] })]
noncomputable def lsGraphDo_1 (N : Nat) : Nat → (Int × ((Int × (Int × (Int × (Int × (Int × (Int × ((Int × (Int × Unit)) × Unit))))))) × (Int × (Int × (Int × ((List ((List Int) × ((List Int) × Unit))) × ((List (List Int)) × ((List Int) × ((List Int) × ((List Int) × Unit)))))))))) → Option (Int × (Int × (Int × ((List ((List Int) × ((List Int) × Unit))) × ((List (List Int)) × ((List Int) × ((List Int) × ((List Int) × Unit))))))))
  | 0, _ => none
  | n + 1, v =>
    let y28 := decide (v.2.2.2.2.1 < v.2.1.2.2.2.2.2.2.1.1)
    bif y28 then
     bif decide (v.2.2.2.2.2.2.2.2.1.length + [(-1 : Int)].length ≤ lim) then
     lsGraphDo_1 N n (v.1, v.2.1, Int.ofNat v.2.2.1.toNat, v.2.2.2.1, w64 (v.2.2.2.2.1 + (1 : Int)), v.2.2.2.2.2.1, v.2.2.2.2.2.2.1, v.2.2.2.2.2.2.2.1, v.2.2.2.2.2.2.2.2.1 ++ [(-1 : Int)], v.2.2.2.2.2.2.2.2.2.1, ())
     else none
    else
    some (v.1, Int.ofNat v.2.2.1.toNat, v.2.2.2.1, v.2.2.2.2.2.1, v.2.2.2.2.2.2.1, v.2.2.2.2.2.2.2.1, v.2.2.2.2.2.2.2.2.1, v.2.2.2.2.2.2.2.2.2.1, ())
noncomputable def FsGraphDo (N : Nat) (x : (((List ((List Int) × ((List Int) × Unit))) × ((List (List Int)) × ((List Int) × Unit))) × (Int × ((Int × (Int × (Int × (Int × (Int × (Int × ((Int × (Int × Unit)) × Unit))))))) × Unit)))) : Option (Int × (Int × ((List ((List Int) × ((List Int) × Unit))) × ((List (List Int)) × ((List Int) × Unit))))) :=
  Option.bind (
   (FsGraphOk N (x.1, ())).bind fun r1 =>
   bif !r1.1 then
    let y2 := ([] : (List ((List Int) × ((List Int) × Unit))))
    some (.inr (((0 : Int), (1 : Int), y2, ([] : (List (List Int))), ([] : (List Int)), ())))
   else
   bif decide (x.2.1 < (0 : Int)) then
    let y3 := ([] : (List ((List Int) × ((List Int) × Unit))))
    some (.inr (((0 : Int), (1 : Int), y3, ([] : (List (List Int))), ([] : (List Int)), ())))
   else
   let y4 := decide (x.2.1 ≥ (x.1.2.1.length : Int))
   bif y4 then
    let y5 := ([] : (List ((List Int) × ((List Int) × Unit))))
    some (.inr (((0 : Int), (1 : Int), y5, ([] : (List (List Int))), ([] : (List Int)), ())))
   else
   (FsOpOk N (x.2.2.1, ())).bind fun r6 =>
   bif !r6.1 then
    let y7 := ([] : (List ((List Int) × ((List Int) × Unit))))
    some (.inr (((0 : Int), (1 : Int), y7, ([] : (List (List Int))), ([] : (List Int)), ())))
   else
   some (.inl (x.2.1, x.1, x.2.2.1, ()))) fun o8 =>
  Sum.elim (fun o9 =>
   (Fsl5Copy N (o9.2.1, ())).bind fun r10 =>
   bif decide (0 ≤ o9.1) then
   bif decide (o9.1.toNat < r10.2.1.length) then
   (Fsl5Begin N (o9.2.2.1, r10.2.1.getD o9.1.toNat ([] : (List Int)), (-1 : Int), ())).bind fun r11 =>
   Option.bind (
    bif r11.1 == (0 : Int) then
     (Fsl5Fields N (o9.2.2.1.1, ())).bind fun r12 =>
     bif r12.1 then
      bif decide (0 ≤ o9.2.2.1.2.1) then
      bif decide (o9.2.2.1.2.1.toNat < (r10.2.1.getD o9.1.toNat ([] : (List Int))).length) then
      let y13 := (r10.2.1.getD o9.1.toNat ([] : (List Int))).getD o9.2.2.1.2.1.toNat (0 : Int)
      bif decide (0 ≤ y13) then
      bif decide (y13.toNat < r10.1.length) then
      let y14 := (((r10.1.getD y13.toNat (([] : (List Int)), ([] : (List Int)), ())).1).length : Int)
      bif decide (0 ≤ o9.2.2.1.2.1) then
      bif decide (o9.2.2.1.2.1.toNat < (r10.2.1.getD o9.1.toNat ([] : (List Int))).length) then
      let y15 := (r10.2.1.getD o9.1.toNat ([] : (List Int))).getD o9.2.2.1.2.1.toNat (0 : Int)
      bif decide (0 ≤ y15) then
      bif decide (y15.toNat < r10.1.length) then
      let y16 := ((((r10.1.getD y15.toNat (([] : (List Int)), ([] : (List Int)), ())).2).1).length : Int)
      (Fsl5Field N (o9.2.2.1, y14, y16, ())).bind fun r17 =>
      bif !r17.1 then
       some (o9.1, o9.2.2.1, Int.ofNat o9.1.toNat, (4 : Int), r10.1, r10.2.1, r10.2.2.1, ())
      else
      some (o9.1, o9.2.2.1, Int.ofNat o9.1.toNat, r11.1, r10.1, r10.2.1, r10.2.2.1, ())
      else none
      else none
      else none
      else none
      else none
      else none
      else none
      else none
     else
     some (o9.1, o9.2.2.1, Int.ofNat o9.1.toNat, r11.1, r10.1, r10.2.1, r10.2.2.1, ())
    else
    some (o9.1, o9.2.2.1, Int.ofNat o9.1.toNat, r11.1, r10.1, r10.2.1, r10.2.2.1, ())) fun o18 =>
   Option.bind (
    bif o18.2.2.2.1 == (0 : Int) then
     bif o18.2.1.1 == (1 : Int) then
      let y19 := (o18.2.2.2.2.1.length : Int) == (200 : Int)
      bif y19 then
       some (o18.1, o18.2.1, Int.ofNat o18.2.2.1.toNat, (6 : Int), o18.2.2.2.2.1, o18.2.2.2.2.2.1, o18.2.2.2.2.2.2.1, ())
      else
      some (o18.1, o18.2.1, Int.ofNat o18.2.2.1.toNat, o18.2.2.2.1, o18.2.2.2.2.1, o18.2.2.2.2.2.1, o18.2.2.2.2.2.2.1, ())
     else
     some (o18.1, o18.2.1, Int.ofNat o18.2.2.1.toNat, o18.2.2.2.1, o18.2.2.2.2.1, o18.2.2.2.2.2.1, o18.2.2.2.2.2.2.1, ())
    else
    some (o18.1, o18.2.1, Int.ofNat o18.2.2.1.toNat, o18.2.2.2.1, o18.2.2.2.2.1, o18.2.2.2.2.2.1, o18.2.2.2.2.2.2.1, ())) fun o20 =>
   Option.bind (
    bif o20.2.2.2.1 == (0 : Int) then
     bif o20.2.1.1 == (10 : Int) then
      bif decide (0 ≤ o20.2.1.2.1) then
      bif decide (o20.2.1.2.1.toNat < (o20.2.2.2.2.2.1.getD o20.2.2.1.toNat ([] : (List Int))).length) then
      let y21 := (o20.2.2.2.2.2.1.getD o20.2.2.1.toNat ([] : (List Int))).getD o20.2.1.2.1.toNat (0 : Int)
      (Fsl5Pins N (o20.2.2.2.2.2.2.1, o20.2.1.1, y21, ())).bind fun r22 =>
      bif !r22.1 then
       some (.inr (((0 : Int), (7 : Int), o20.2.2.2.2.1, o20.2.2.2.2.2.1, o20.2.2.2.2.2.2.1, ())))
      else
      some (.inl (o20.1, o20.2.1, Int.ofNat o20.2.2.1.toNat, o20.2.2.2.1, o20.2.2.2.2.1, o20.2.2.2.2.2.1, r22.2.1, ()))
      else none
      else none
     else
     bif o20.2.1.1 == (11 : Int) then
      bif decide (0 ≤ o20.2.1.2.1) then
      bif decide (o20.2.1.2.1.toNat < (o20.2.2.2.2.2.1.getD o20.2.2.1.toNat ([] : (List Int))).length) then
      let y23 := (o20.2.2.2.2.2.1.getD o20.2.2.1.toNat ([] : (List Int))).getD o20.2.1.2.1.toNat (0 : Int)
      (Fsl5Pins N (o20.2.2.2.2.2.2.1, o20.2.1.1, y23, ())).bind fun r24 =>
      bif !r24.1 then
       some (.inr (((0 : Int), (7 : Int), o20.2.2.2.2.1, o20.2.2.2.2.2.1, o20.2.2.2.2.2.2.1, ())))
      else
      some (.inl (o20.1, o20.2.1, Int.ofNat o20.2.2.1.toNat, o20.2.2.2.1, o20.2.2.2.2.1, o20.2.2.2.2.2.1, r24.2.1, ()))
      else none
      else none
     else
     some (.inl (o20.1, o20.2.1, Int.ofNat o20.2.2.1.toNat, o20.2.2.2.1, o20.2.2.2.2.1, o20.2.2.2.2.2.1, o20.2.2.2.2.2.2.1, ()))
    else
    some (.inl (o20.1, o20.2.1, Int.ofNat o20.2.2.1.toNat, o20.2.2.2.1, o20.2.2.2.2.1, o20.2.2.2.2.2.1, o20.2.2.2.2.2.2.1, ()))) fun o25 =>
   Sum.elim (fun o26 =>
    bif o26.2.2.2.1 != (0 : Int) then
     some ((0 : Int), o26.2.2.2.1, o26.2.2.2.2.1, o26.2.2.2.2.2.1, o26.2.2.2.2.2.2.1, ())
    else
    Option.bind (
     bif o26.2.1.1 == (1 : Int) then
      bif decide (0 ≤ o26.2.1.2.2.2.2.2.2.1.2.1) then
      bif decide (o26.2.1.2.2.2.2.2.2.1.2.1.toNat ≤ lim) then
      let y27 := List.replicate o26.2.1.2.2.2.2.2.2.1.2.1.toNat (0 : Int)
      (lsGraphDo_1 N N (o26.1, o26.2.1, Int.ofNat o26.2.2.1.toNat, (0 : Int), (0 : Int), o26.2.2.2.2.1, o26.2.2.2.2.2.1, o26.2.2.2.2.2.2.1, ([] : (List Int)), y27, ())).bind fun o29 =>
      let y30 := [(o29.2.2.2.2.2.2.1, o29.2.2.2.2.2.2.2.1, ())]
      bif decide (o29.2.2.2.1.length + y30.length ≤ lim) then
      let y31 := w64 (((o29.2.2.2.1 ++ y30).length : Int) - (1 : Int))
      bif decide ((o29.2.2.2.2.1.getD o29.2.1.toNat ([] : (List Int))).length + [y31].length ≤ lim) then
      let y32 := (o29.2.2.2.2.1.getD o29.2.1.toNat ([] : (List Int))) ++ [y31]
      bif decide (0 ≤ o29.1) then
      bif decide (o29.1.toNat < o29.2.2.2.2.1.length) then
      bif decide (o29.2.1.toNat = o29.1.toNat) then
      some (o29.2.2.1, o29.2.2.2.1 ++ y30, o29.2.2.2.2.1.set o29.1.toNat y32, o29.2.2.2.2.2.1, ())
      else none
      else none
      else none
      else none
      else none
      else none
      else none
     else
     bif o26.2.1.1 == (2 : Int) then
      bif decide (0 ≤ o26.2.1.2.1) then
      bif decide (o26.2.1.2.1.toNat < (o26.2.2.2.2.2.1.getD o26.2.2.1.toNat ([] : (List Int))).length) then
      let y33 := (o26.2.2.2.2.2.1.getD o26.2.2.1.toNat ([] : (List Int))).getD o26.2.1.2.1.toNat (0 : Int)
      bif decide (0 ≤ y33) then
      bif decide (y33.toNat < o26.2.2.2.2.1.length) then
      bif decide (0 ≤ o26.2.1.2.2.2.2.1) then
      bif decide (o26.2.1.2.2.2.2.1.toNat < ((o26.2.2.2.2.1.getD y33.toNat (([] : (List Int)), ([] : (List Int)), ())).1).length) then
      let y34 := ((o26.2.2.2.2.1.getD y33.toNat (([] : (List Int)), ([] : (List Int)), ())).1).getD o26.2.1.2.2.2.2.1.toNat (0 : Int)
      bif decide ((o26.2.2.2.2.2.1.getD o26.2.2.1.toNat ([] : (List Int))).length + [y34].length ≤ lim) then
      let y35 := (o26.2.2.2.2.2.1.getD o26.2.2.1.toNat ([] : (List Int))) ++ [y34]
      bif decide (0 ≤ o26.1) then
      bif decide (o26.1.toNat < o26.2.2.2.2.2.1.length) then
      bif decide (o26.2.2.1.toNat = o26.1.toNat) then
      some ((0 : Int), o26.2.2.2.2.1, o26.2.2.2.2.2.1.set o26.1.toNat y35, o26.2.2.2.2.2.2.1, ())
      else none
      else none
      else none
      else none
      else none
      else none
      else none
      else none
      else none
      else none
     else
     bif o26.2.1.1 == (3 : Int) then
      bif decide (0 ≤ o26.2.1.2.1) then
      bif decide (o26.2.1.2.1.toNat < (o26.2.2.2.2.2.1.getD o26.2.2.1.toNat ([] : (List Int))).length) then
      let y36 := (o26.2.2.2.2.2.1.getD o26.2.2.1.toNat ([] : (List Int))).getD o26.2.1.2.1.toNat (0 : Int)
      bif decide (0 ≤ y36) then
      bif decide (y36.toNat < o26.2.2.2.2.1.length) then
      bif decide (0 ≤ o26.2.1.2.2.1) then
      bif decide (o26.2.1.2.2.1.toNat < (o26.2.2.2.2.2.1.getD o26.2.2.1.toNat ([] : (List Int))).length) then
      let y37 := (o26.2.2.2.2.2.1.getD o26.2.2.1.toNat ([] : (List Int))).getD o26.2.1.2.2.1.toNat (0 : Int)
      bif decide (0 ≤ o26.2.1.2.2.2.2.1) then
      bif decide (o26.2.1.2.2.2.2.1.toNat < ((o26.2.2.2.2.1.getD y36.toNat (([] : (List Int)), ([] : (List Int)), ())).1).length) then
      let y38 := o26.2.2.2.2.1.set y36.toNat (((o26.2.2.2.2.1.getD y36.toNat (([] : (List Int)), ([] : (List Int)), ())).1).set o26.2.1.2.2.2.2.1.toNat y37, (o26.2.2.2.2.1.getD y36.toNat (([] : (List Int)), ([] : (List Int)), ())).2)
      some ((0 : Int), y38, o26.2.2.2.2.2.1, o26.2.2.2.2.2.2.1, ())
      else none
      else none
      else none
      else none
      else none
      else none
      else none
      else none
     else
     bif o26.2.1.1 == (4 : Int) then
      bif decide (0 ≤ o26.2.1.2.1) then
      bif decide (o26.2.1.2.1.toNat < (o26.2.2.2.2.2.1.getD o26.2.2.1.toNat ([] : (List Int))).length) then
      let y39 := (o26.2.2.2.2.2.1.getD o26.2.2.1.toNat ([] : (List Int))).getD o26.2.1.2.1.toNat (0 : Int)
      bif decide (0 ≤ y39) then
      bif decide (y39.toNat < o26.2.2.2.2.1.length) then
      bif decide (0 ≤ o26.2.1.2.2.2.2.1) then
      bif decide (o26.2.1.2.2.2.2.1.toNat < (((o26.2.2.2.2.1.getD y39.toNat (([] : (List Int)), ([] : (List Int)), ())).2).1).length) then
      let y40 := o26.2.2.2.2.1.set y39.toNat ((o26.2.2.2.2.1.getD y39.toNat (([] : (List Int)), ([] : (List Int)), ())).1, (((o26.2.2.2.2.1.getD y39.toNat (([] : (List Int)), ([] : (List Int)), ())).2).1).set o26.2.1.2.2.2.2.1.toNat o26.2.1.2.2.2.2.2.1, ((o26.2.2.2.2.1.getD y39.toNat (([] : (List Int)), ([] : (List Int)), ())).2).2)
      some ((0 : Int), y40, o26.2.2.2.2.2.1, o26.2.2.2.2.2.2.1, ())
      else none
      else none
      else none
      else none
      else none
      else none
     else
     bif o26.2.1.1 == (5 : Int) then
      bif decide (0 ≤ o26.2.1.2.1) then
      bif decide (o26.2.1.2.1.toNat < (o26.2.2.2.2.2.1.getD o26.2.2.1.toNat ([] : (List Int))).length) then
      let y41 := (o26.2.2.2.2.2.1.getD o26.2.2.1.toNat ([] : (List Int))).getD o26.2.1.2.1.toNat (0 : Int)
      bif decide (0 ≤ y41) then
      bif decide (y41.toNat < o26.2.2.2.2.1.length) then
      bif decide (0 ≤ o26.2.1.2.2.2.2.1) then
      bif decide (o26.2.1.2.2.2.2.1.toNat < (((o26.2.2.2.2.1.getD y41.toNat (([] : (List Int)), ([] : (List Int)), ())).2).1).length) then
      let y42 := (((o26.2.2.2.2.1.getD y41.toNat (([] : (List Int)), ([] : (List Int)), ())).2).1).getD o26.2.1.2.2.2.2.1.toNat (0 : Int)
      some (y42, o26.2.2.2.2.1, o26.2.2.2.2.2.1, o26.2.2.2.2.2.2.1, ())
      else none
      else none
      else none
      else none
      else none
      else none
     else
     bif o26.2.1.1 == (6 : Int) then
      bif decide (0 ≤ o26.2.1.2.1) then
      bif decide (o26.2.1.2.1.toNat < (o26.2.2.2.2.2.1.getD o26.2.2.1.toNat ([] : (List Int))).length) then
      let y43 := (o26.2.2.2.2.2.1.getD o26.2.2.1.toNat ([] : (List Int))).getD o26.2.1.2.1.toNat (0 : Int)
      bif decide (0 ≤ o26.2.1.2.2.1) then
      bif decide (o26.2.1.2.2.1.toNat < (o26.2.2.2.2.2.1.getD o26.2.2.1.toNat ([] : (List Int))).length) then
      let y44 := (o26.2.2.2.2.2.1.getD o26.2.2.1.toNat ([] : (List Int))).getD o26.2.1.2.2.1.toNat (0 : Int)
      (Fsl5One N (y43 == y44, ())).bind fun r45 =>
      some (r45.1, o26.2.2.2.2.1, o26.2.2.2.2.2.1, o26.2.2.2.2.2.2.1, ())
      else none
      else none
      else none
      else none
     else
     bif o26.2.1.1 == (7 : Int) then
      bif decide (0 ≤ o26.2.1.2.1) then
      bif decide (o26.2.1.2.1.toNat < (o26.2.2.2.2.2.1.getD o26.2.2.1.toNat ([] : (List Int))).length) then
      let y46 := (o26.2.2.2.2.2.1.getD o26.2.2.1.toNat ([] : (List Int))).getD o26.2.1.2.1.toNat (0 : Int)
      bif decide (0 ≤ y46) then
      bif decide (y46.toNat < o26.2.2.2.2.1.length) then
      bif decide (0 ≤ o26.2.1.2.2.2.2.1) then
      bif decide (o26.2.1.2.2.2.2.1.toNat < ((o26.2.2.2.2.1.getD y46.toNat (([] : (List Int)), ([] : (List Int)), ())).1).length) then
      let y47 := ((o26.2.2.2.2.1.getD y46.toNat (([] : (List Int)), ([] : (List Int)), ())).1).getD o26.2.1.2.2.2.2.1.toNat (0 : Int)
      bif decide (0 ≤ o26.2.1.2.2.1) then
      bif decide (o26.2.1.2.2.1.toNat < (o26.2.2.2.2.2.1.getD o26.2.2.1.toNat ([] : (List Int))).length) then
      let y48 := (o26.2.2.2.2.2.1.getD o26.2.2.1.toNat ([] : (List Int))).getD o26.2.1.2.2.1.toNat (0 : Int)
      bif y47 == y48 then
       bif decide (0 ≤ o26.2.1.2.1) then
       bif decide (o26.2.1.2.1.toNat < (o26.2.2.2.2.2.1.getD o26.2.2.1.toNat ([] : (List Int))).length) then
       let y49 := (o26.2.2.2.2.2.1.getD o26.2.2.1.toNat ([] : (List Int))).getD o26.2.1.2.1.toNat (0 : Int)
       bif decide (0 ≤ y49) then
       bif decide (y49.toNat < o26.2.2.2.2.1.length) then
       bif decide (0 ≤ o26.2.1.2.2.2.1) then
       bif decide (o26.2.1.2.2.2.1.toNat < (o26.2.2.2.2.2.1.getD o26.2.2.1.toNat ([] : (List Int))).length) then
       let y50 := (o26.2.2.2.2.2.1.getD o26.2.2.1.toNat ([] : (List Int))).getD o26.2.1.2.2.2.1.toNat (0 : Int)
       bif decide (0 ≤ o26.2.1.2.2.2.2.1) then
       bif decide (o26.2.1.2.2.2.2.1.toNat < ((o26.2.2.2.2.1.getD y49.toNat (([] : (List Int)), ([] : (List Int)), ())).1).length) then
       let y51 := o26.2.2.2.2.1.set y49.toNat (((o26.2.2.2.2.1.getD y49.toNat (([] : (List Int)), ([] : (List Int)), ())).1).set o26.2.1.2.2.2.2.1.toNat y50, (o26.2.2.2.2.1.getD y49.toNat (([] : (List Int)), ([] : (List Int)), ())).2)
       some ((1 : Int), y51, o26.2.2.2.2.2.1, o26.2.2.2.2.2.2.1, ())
       else none
       else none
       else none
       else none
       else none
       else none
       else none
       else none
      else
      some ((0 : Int), o26.2.2.2.2.1, o26.2.2.2.2.2.1, o26.2.2.2.2.2.2.1, ())
      else none
      else none
      else none
      else none
      else none
      else none
      else none
      else none
     else
     bif o26.2.1.1 == (8 : Int) then
      let y52 := ((o26.2.2.2.2.2.1.getD o26.2.2.1.toNat ([] : (List Int))).length : Int)
      bif decide (0 ≤ (w64 (y52 - (1 : Int)))) then
      bif decide ((w64 (y52 - (1 : Int))) ≤ ((o26.2.2.2.2.2.1.getD o26.2.2.1.toNat ([] : (List Int))).length : Int)) then
      bif decide (0 ≤ (0 : Int)) then
      bif decide ((0 : Int) ≤ (w64 (y52 - (1 : Int)))) then
      bif decide (0 ≤ o26.1) then
      bif decide (o26.1.toNat < o26.2.2.2.2.2.1.length) then
      bif decide (o26.2.2.1.toNat = o26.1.toNat) then
      let y53 := o26.2.2.2.2.2.1.set o26.1.toNat ((o26.2.2.2.2.2.1.getD o26.1.toNat ([] : (List Int))).take ((w64 (y52 - (1 : Int))).toNat))
      some ((0 : Int), o26.2.2.2.2.1, y53, o26.2.2.2.2.2.2.1, ())
      else none
      else none
      else none
      else none
      else none
      else none
      else none
     else
     bif o26.2.1.1 == (9 : Int) then
      bif decide (0 ≤ o26.2.1.2.1) then
      bif decide (o26.2.1.2.1.toNat < (o26.2.2.2.2.2.1.getD o26.2.2.1.toNat ([] : (List Int))).length) then
      let y54 := (o26.2.2.2.2.2.1.getD o26.2.2.1.toNat ([] : (List Int))).getD o26.2.1.2.1.toNat (0 : Int)
      bif decide ((o26.2.2.2.2.2.1.getD o26.2.2.1.toNat ([] : (List Int))).length + [y54].length ≤ lim) then
      let y55 := (o26.2.2.2.2.2.1.getD o26.2.2.1.toNat ([] : (List Int))) ++ [y54]
      bif decide (0 ≤ o26.1) then
      bif decide (o26.1.toNat < o26.2.2.2.2.2.1.length) then
      bif decide (o26.2.2.1.toNat = o26.1.toNat) then
      some ((0 : Int), o26.2.2.2.2.1, o26.2.2.2.2.2.1.set o26.1.toNat y55, o26.2.2.2.2.2.2.1, ())
      else none
      else none
      else none
      else none
      else none
      else none
     else
     some ((0 : Int), o26.2.2.2.2.1, o26.2.2.2.2.2.1, o26.2.2.2.2.2.2.1, ())) fun o56 =>
    some (o56.1, (0 : Int), o56.2.1, o56.2.2.1, o56.2.2.2.1, ())) (fun o57 =>
    some (o57.1, o57.2.1, o57.2.2.1, o57.2.2.2.1, o57.2.2.2.2.1, ())) o25
   else none
   else none) (fun o58 =>
   some (o58.1, o58.2.1, o58.2.2.1, o58.2.2.2.1, o58.2.2.2.2.1, ())) o8
noncomputable def consGraphDo (N : Nat) : Con := { f := 49, din := dinsGraphDo, outs := outsGraphDo, F := FsGraphDo N }
noncomputable def XsGraphDo (N : Nat) : Ctx := { E := EsGraphDo N, H := HsGraphDo, lp := [(1, { hd := dsGraphDo_1, outs := osGraphDo_1, run := fun v => lsGraphDo_1 N N v })], jn := [(3, jsGraphDo_3), (8, jsGraphDo_8), (10, jsGraphDo_10), (15, jsGraphDo_15), (45, jsGraphDo_45)] }
noncomputable def bsGraphDo_1 : Code := loopBody (codeOf Try.f49) 0
theorem FsGraphDo_eq (N : Nat) (x : (((List ((List Int) × ((List Int) × Unit))) × ((List (List Int)) × ((List Int) × Unit))) × (Int × ((Int × (Int × (Int × (Int × (Int × (Int × ((Int × (Int × Unit)) × Unit))))))) × Unit)))) : evFn (XsGraphDo N) Try.f49 dinsGraphDo outsGraphDo x = FsGraphDo N x := by kernel_rfl
theorem lsGraphDo_1_eq (N n : Nat) (v : (Int × ((Int × (Int × (Int × (Int × (Int × (Int × ((Int × (Int × Unit)) × Unit))))))) × (Int × (Int × (Int × ((List ((List Int) × ((List Int) × Unit))) × ((List (List Int)) × ((List Int) × ((List Int) × ((List Int) × Unit))))))))))) : lsGraphDo_1 N (n + 1) v = ev (XsGraphDo N) bsGraphDo_1 (roundK dsGraphDo_1 osGraphDo_1 (lsGraphDo_1 N n)) (dsGraphDo_1.mk' v) := by kernel_rfl
theorem cxsGraphDo (N : Nat) : CtxOk Try.prog (XsGraphDo N) := ⟨⟨TE_ok, List.forall_mem_cons.2 ⟨(specsGraphOk N), List.forall_mem_cons.2 ⟨(specsOpOk N), List.forall_mem_cons.2 ⟨(specsl5Copy N), List.forall_mem_cons.2 ⟨(specsl5Begin N), List.forall_mem_cons.2 ⟨(specsl5Fields N), List.forall_mem_cons.2 ⟨(specsl5Field N), List.forall_mem_cons.2 ⟨(specsl5Pins N), List.forall_mem_cons.2 ⟨(specsl5One N), fun k hk => absurd hk List.not_mem_nil⟩⟩⟩⟩⟩⟩⟩⟩⟩, mixed⟩
theorem lpsGraphDo_1 (N : Nat) : LoopOk Try.prog { hd := dsGraphDo_1, outs := osGraphDo_1, run := fun v => lsGraphDo_1 N N v } bsGraphDo_1 :=
  loop_fuel (d := dsGraphDo_1) (os := osGraphDo_1) (cxsGraphDo N) (loops_at (ids := []) (by kernel_rfl) (trivial)) (lsGraphDo_1 N) (fun _ => rfl) (fun n v => lsGraphDo_1_eq N n v) (fun _ => N)
theorem specsGraphDo (N : Nat) : Spec Try.prog (consGraphDo N) :=
  Spec.of_eq (fn_spec (cxsGraphDo N) (f := 49) (fn := Try.f49) (c := codeOf Try.f49) (by kernel_rfl) (by kernel_rfl) (by kernel_rfl) (loops_at (ids := [1]) (by kernel_rfl) ⟨lp_of (lpsGraphDo_1 N), trivial⟩) (by kernel_rfl)) (fun x r h => (FsGraphDo_eq N x).trans h)

/-! ### 116: spec.l14Search -/

noncomputable def dinsl14Search_r_ : Desc := { n := 5, regs := [.one (.val (.sl (.sl (.pair (.int .i64) (.pair (.int .i64) (.pair (.int .i64) (.pair (.int .i64) (.pair (.int .i64) (.pair (.int .i64) (.pair (.pair (.int .i64) (.pair (.int .i64) .unit)) .unit)))))))))), .one (.val (.sl (.pair (.int .i64) (.pair (.int .i64) (.pair (.int .i64) (.pair (.int .i64) (.pair (.int .i64) (.pair (.int .i64) .unit)))))))), .one (.lit (.row 128)), .one (.val (.pair (.sl (.pair (.sl (.int .i64)) (.pair (.sl (.int .i64)) .unit))) (.pair (.sl (.sl (.int .i64))) (.pair (.sl (.int .i64)) .unit)))), .one (.lit (.row 256))], bx := [(128, .row .bool), (256, .row (.int .i64))], pins := [] }
noncomputable def outsl14Search_r_ : Outs := [(.ret, { n := 2, regs := [.one (.val (.sl (.int .i64))), .one (.val .bool)], bx := [(128, .row .bool)], pins := [u, u, .one (.lit (.row 128))] })]
noncomputable def Hsl14Search_r_ : Hints := [(0, [(0, { fz := true })]),
  (15, [(12, { con := 1 })]),
  (20, [(5, { con := 2 }), (9, { con := 3, sg := [(256, 1256321)] })]),
  (24, [(1, { pre := [.freeze 256] })])]
noncomputable def dsl14Search_r__0 : Desc := { n := 122, regs := [.one (.val (.sl (.sl (.pair (.int .i64) (.pair (.int .i64) (.pair (.int .i64) (.pair (.int .i64) (.pair (.int .i64) (.pair (.int .i64) (.pair (.pair (.int .i64) (.pair (.int .i64) .unit)) .unit)))))))))), .one (.val (.sl (.pair (.int .i64) (.pair (.int .i64) (.pair (.int .i64) (.pair (.int .i64) (.pair (.int .i64) (.pair (.int .i64) .unit)))))))), .one (.lit (.row 128)), u, .one (.lit (.row 256)), u, u, u, .one (.fpt (.pair (.sl (.pair (.sl (.int .i64)) (.pair (.sl (.int .i64)) .unit))) (.pair (.sl (.sl (.int .i64))) (.pair (.sl (.int .i64)) .unit)))), u, u, u, .one (.val .bool), .one (.val (.int .i64))], bx := [(128, .row .bool), (256, .row (.int .i64))], pins := [u, u, .one (.lit (.row 128)), u, .one (.lit (.row 256))] }
noncomputable def osl14Search_r__0 : Outs := [(.exit 0, { n := 122, regs := [.one (.val (.sl (.sl (.pair (.int .i64) (.pair (.int .i64) (.pair (.int .i64) (.pair (.int .i64) (.pair (.int .i64) (.pair (.int .i64) (.pair (.pair (.int .i64) (.pair (.int .i64) .unit)) .unit)))))))))), .one (.val (.sl (.pair (.int .i64) (.pair (.int .i64) (.pair (.int .i64) (.pair (.int .i64) (.pair (.int .i64) (.pair (.int .i64) .unit)))))))), .one (.lit (.row 128)), u, .one (.lit (.row 256)), u, u, u, .one (.fpt (.pair (.sl (.pair (.sl (.int .i64)) (.pair (.sl (.int .i64)) .unit))) (.pair (.sl (.sl (.int .i64))) (.pair (.sl (.int .i64)) .unit)))), u, u, u, .one (.val .bool)], bx := [(128, .row .bool), (256, .row (.int .i64))], pins := [u, u, .one (.lit (.row 128)), u, .one (.lit (.row 256))] })]
noncomputable def dsl14Search_r__2 : Desc := { n := 122, regs := [.one (.val (.sl (.sl (.pair (.int .i64) (.pair (.int .i64) (.pair (.int .i64) (.pair (.int .i64) (.pair (.int .i64) (.pair (.int .i64) (.pair (.pair (.int .i64) (.pair (.int .i64) .unit)) .unit)))))))))), .one (.val (.sl (.pair (.int .i64) (.pair (.int .i64) (.pair (.int .i64) (.pair (.int .i64) (.pair (.int .i64) (.pair (.int .i64) .unit)))))))), .one (.lit (.row 128)), u, .one (.lit (.row 256)), u, u, u, .one (.fpt (.pair (.sl (.pair (.sl (.int .i64)) (.pair (.sl (.int .i64)) .unit))) (.pair (.sl (.sl (.int .i64))) (.pair (.sl (.int .i64)) .unit)))), u, u, u, u, u, .one (.val (.int .i64))], bx := [(128, .row .bool), (256, .row (.int .i64))], pins := [u, u, .one (.lit (.row 128)), u, .one (.lit (.row 256))] }
noncomputable def osl14Search_r__2 : Outs := [(.exit 2, { n := 122, regs := [], bx := [(128, .row .bool), (256, .row (.int .i64))], pins := [u, u, .one (.lit (.row 128)), u, .one (.lit (.row 256))] }), (.ret, { n := 122, regs := [u, u, u, u, u, u, u, u, u, u, .one (.val (.sl (.int .i64))), .one (.val .bool)], bx := [(128, .row .bool), (256, .row (.int .i64))], pins := [u, u, .one (.lit (.row 128)), u, .one (.lit (.row 256))] })]
noncomputable def jsl14Search_r__19 : Outs := [(.exit 3, { n := 122, regs := [.one (.val (.sl (.sl (.pair (.int .i64) (.pair (.int .i64) (.pair (.int .i64) (.pair (.int .i64) (.pair (.int .i64) (.pair (.int .i64) (.pair (.pair (.int .i64) (.pair (.int .i64) .unit)) .unit)))))))))), .one (.val (.sl (.pair (.int .i64) (.pair (.int .i64) (.pair (.int .i64) (.pair (.int .i64) (.pair (.int .i64) (.pair (.int .i64) .unit)))))))), .one (.lit (.row 128)), u, .one (.lit (.row 256)), u, u, u, .one (.fpt (.pair (.sl (.pair (.sl (.int .i64)) (.pair (.sl (.int .i64)) .unit))) (.pair (.sl (.sl (.int .i64))) (.pair (.sl (.int .i64)) .unit)))), u, u, u, u, u, .one (.val (.int .i64))], bx := [(128, .row .bool), (256, .row (.int .i64))], pins := [u, u, .one (.lit (.row 128)), u, .one (.lit (.row 256))] }), (.normal, { n := 122, regs := [.one (.val (.sl (.sl (.pair (.int .i64) (.pair (.int .i64) (.pair (.int .i64) (.pair (.int .i64) (.pair (.int .i64) (.pair (.int .i64) (.pair (.pair (.int .i64) (.pair (.int .i64) .unit)) .unit)))))))))), .one (.val (.sl (.pair (.int .i64) (.pair (.int .i64) (.pair (.int .i64) (.pair (.int .i64) (.pair (.int .i64) (.pair (.int .i64) .unit)))))))), .one (.lit (.row 128)), u, .one (.lit (.row 256)), u, u, u, .one (.fpt (.pair (.sl (.pair (.sl (.int .i64)) (.pair (.sl (.int .i64)) .unit))) (.pair (.sl (.sl (.int .i64))) (.pair (.sl (.int .i64)) .unit)))), u, u, u, u, u, .one (.val (.int .i64)), u, .one (.lit (.ptr 1166464 0))], bx := [(128, .row .bool), (256, .row (.int .i64)), (1166464, .var [.val (.sl (.pair (.sl (.int .i64)) (.pair (.sl (.int .i64)) .unit))), .val (.sl (.sl (.int .i64))), .val (.sl (.int .i64))])], pins := [u, u, .one (.lit (.row 128)), u, .one (.lit (.row 256))] })]
noncomputable def lsl14Search_r__0 (N : Nat) (f_ : ((List (List (Int × (Int × (Int × (Int × (Int × (Int × ((Int × (Int × Unit)) × Unit))))))))) × ((List (Int × (Int × (Int × (Int × (Int × (Int × Unit))))))) × (((List ((List Int) × ((List Int) × Unit))) × ((List (List Int)) × ((List Int) × Unit))) × ((List Bool) × ((List Int) × Unit))))) → Option ((List Int) × (Bool × ((List Bool) × Unit)))) : Nat → ((List (List (Int × (Int × (Int × (Int × (Int × (Int × ((Int × (Int × Unit)) × Unit))))))))) × ((List (Int × (Int × (Int × (Int × (Int × (Int × Unit))))))) × (((List ((List Int) × ((List Int) × Unit))) × ((List (List Int)) × ((List Int) × Unit))) × (Bool × (Int × ((List Bool) × ((List Int) × Unit))))))) → Option ((List (List (Int × (Int × (Int × (Int × (Int × (Int × ((Int × (Int × Unit)) × Unit))))))))) × ((List (Int × (Int × (Int × (Int × (Int × (Int × Unit))))))) × (((List ((List Int) × ((List Int) × Unit))) × ((List (List Int)) × ((List Int) × Unit))) × (Bool × ((List Bool) × ((List Int) × Unit))))))
  | 0, _ => none
  | n + 1, v =>
    let y1 := decide (v.2.2.2.2.1 < (v.2.1.length : Int))
    bif y1 then
     bif v.2.2.2.1 then
      lsl14Search_r__0 N f_ n (v.1, v.2.1, v.2.2.1, true, w64 (v.2.2.2.2.1 + (1 : Int)), v.2.2.2.2.2.1, v.2.2.2.2.2.2.1, ())
     else
     bif decide (0 ≤ v.2.2.2.2.1) then
     bif decide (v.2.2.2.2.1.toNat < v.2.2.2.2.2.1.length) then
     let y2 := v.2.2.2.2.2.1.getD v.2.2.2.2.1.toNat false
     bif !y2 then
      bif decide (0 ≤ v.2.2.2.2.1) then
      bif decide (v.2.2.2.2.1.toNat < v.2.1.length) then
      let y3 := v.2.1.getD v.2.2.2.2.1.toNat ((0 : Int), (0 : Int), (0 : Int), (0 : Int), (0 : Int), (0 : Int), ())
      lsl14Search_r__0 N f_ n (v.1, v.2.1, v.2.2.1, decide (y3.2.2.2.1 ≥ (0 : Int)), w64 (v.2.2.2.2.1 + (1 : Int)), v.2.2.2.2.2.1, v.2.2.2.2.2.2.1, ())
      else none
      else none
     else
     lsl14Search_r__0 N f_ n (v.1, v.2.1, v.2.2.1, false, w64 (v.2.2.2.2.1 + (1 : Int)), v.2.2.2.2.2.1, v.2.2.2.2.2.2.1, ())
     else none
     else none
    else
    some (v.1, v.2.1, v.2.2.1, v.2.2.2.1, v.2.2.2.2.2.1, v.2.2.2.2.2.2.1, ())
noncomputable def lsl14Search_r__2 (N : Nat) (f_ : ((List (List (Int × (Int × (Int × (Int × (Int × (Int × ((Int × (Int × Unit)) × Unit))))))))) × ((List (Int × (Int × (Int × (Int × (Int × (Int × Unit))))))) × (((List ((List Int) × ((List Int) × Unit))) × ((List (List Int)) × ((List Int) × Unit))) × ((List Bool) × ((List Int) × Unit))))) → Option ((List Int) × (Bool × ((List Bool) × Unit)))) : Nat → ((List (List (Int × (Int × (Int × (Int × (Int × (Int × ((Int × (Int × Unit)) × Unit))))))))) × ((List (Int × (Int × (Int × (Int × (Int × (Int × Unit))))))) × (((List ((List Int) × ((List Int) × Unit))) × ((List (List Int)) × ((List Int) × Unit))) × (Int × ((List Bool) × ((List Int) × Unit)))))) → Option (((List Bool) × ((List Int) × Unit)) ⊕ ((List Int) × (Bool × ((List Bool) × ((List Int) × Unit)))))
  | 0, _ => none
  | n + 1, v =>
    let y5 := decide (v.2.2.2.1 < (v.2.1.length : Int))
    bif y5 then
     (Fsl14May N (v.2.1, v.2.2.2.2.1, v.2.2.2.1, ())).bind fun r6 =>
     bif !r6.1 then
      lsl14Search_r__2 N f_ n (v.1, v.2.1, v.2.2.1, w64 (v.2.2.2.1 + (1 : Int)), v.2.2.2.2.1, v.2.2.2.2.2.1, ())
     else
     bif decide (0 ≤ v.2.2.2.1) then
     bif decide (v.2.2.2.1.toNat < v.2.1.length) then
     let y7 := v.2.1.getD v.2.2.2.1.toNat ((0 : Int), (0 : Int), (0 : Int), (0 : Int), (0 : Int), (0 : Int), ())
     Option.bind (
      bif y7.2.2.2.2.2.1 != (6 : Int) then
       bif decide (0 ≤ y7.1) then
       bif decide (y7.1.toNat < v.1.length) then
       let y8 := v.1.getD y7.1.toNat ([] : (List (Int × (Int × (Int × (Int × (Int × (Int × ((Int × (Int × Unit)) × Unit)))))))))
       bif decide (0 ≤ y7.2.1) then
       bif decide (y7.2.1.toNat < y8.length) then
       let y9 := y8.getD y7.2.1.toNat ((0 : Int), (0 : Int), (0 : Int), (0 : Int), (0 : Int), (0 : Int), ((0 : Int), (0 : Int), ()), ())
       (FsGraphDo N (v.2.2.1, y7.1, y9, ())).bind fun r10 =>
       bif decide (y7.2.2.2.1 ≥ (0 : Int)) then
        bif r10.1 != y7.2.2.2.2.1 then
         some (.inl (v.1, v.2.1, v.2.2.1, v.2.2.2.1, v.2.2.2.2.1, v.2.2.2.2.2.1, ()))
        else
        bif r10.2.1 != y7.2.2.2.2.2.1 then
         some (.inl (v.1, v.2.1, v.2.2.1, v.2.2.2.1, v.2.2.2.2.1, v.2.2.2.2.2.1, ()))
        else
        bif r10.2.1 != (1 : Int) then
         some (.inr ((v.1, v.2.1, v.2.2.1, v.2.2.2.1, v.2.2.2.2.1, v.2.2.2.2.2.1, r10.2.2.1, r10.2.2.2.1, r10.2.2.2.2.1, ())))
        else
        some (.inr ((v.1, v.2.1, v.2.2.1, v.2.2.2.1, v.2.2.2.2.1, v.2.2.2.2.2.1, v.2.2.1.1, v.2.2.1.2.1, v.2.2.1.2.2.1, ())))
       else
       bif r10.2.1 != (1 : Int) then
        some (.inr ((v.1, v.2.1, v.2.2.1, v.2.2.2.1, v.2.2.2.2.1, v.2.2.2.2.2.1, r10.2.2.1, r10.2.2.2.1, r10.2.2.2.2.1, ())))
       else
       some (.inr ((v.1, v.2.1, v.2.2.1, v.2.2.2.1, v.2.2.2.2.1, v.2.2.2.2.2.1, v.2.2.1.1, v.2.2.1.2.1, v.2.2.1.2.2.1, ())))
       else none
       else none
       else none
       else none
      else
      some (.inr ((v.1, v.2.1, v.2.2.1, v.2.2.2.1, v.2.2.2.2.1, v.2.2.2.2.2.1, v.2.2.1.1, v.2.2.1.2.1, v.2.2.1.2.2.1, ())))) fun o11 =>
     Sum.elim (fun o12 =>
      lsl14Search_r__2 N f_ n (o12.1, o12.2.1, o12.2.2.1, w64 (o12.2.2.2.1 + (1 : Int)), o12.2.2.2.2.1, o12.2.2.2.2.2.1, ())) (fun o13 =>
      bif decide (0 ≤ o13.2.2.2.1) then
      bif decide (o13.2.2.2.1.toNat < o13.2.2.2.2.1.length) then
      let y14 := o13.2.2.2.2.1.set o13.2.2.2.1.toNat true
      (Fsl5Ints N (o13.2.2.2.2.2.1, ())).bind fun r15 =>
      bif decide (r15.1.length + [o13.2.2.2.1].length ≤ lim) then
      (f_ (o13.1, o13.2.1, (o13.2.2.2.2.2.2.1, o13.2.2.2.2.2.2.2.1, o13.2.2.2.2.2.2.2.2.1, ()), y14, r15.1 ++ [o13.2.2.2.1], ())).bind fun r16 =>
      bif decide (0 ≤ o13.2.2.2.1) then
      bif decide (o13.2.2.2.1.toNat < r16.2.2.1.length) then
      let y17 := r16.2.2.1.set o13.2.2.2.1.toNat false
      bif r16.2.1 then
       some (.inr ((r16.1, true, y17, o13.2.2.2.2.2.1, ())))
      else
      lsl14Search_r__2 N f_ n (o13.1, o13.2.1, o13.2.2.1, w64 (o13.2.2.2.1 + (1 : Int)), y17, o13.2.2.2.2.2.1, ())
      else none
      else none
      else none
      else none
      else none) o11
     else none
     else none
    else
    some (.inl (v.2.2.2.2.1, v.2.2.2.2.2.1, ()))
noncomputable def Fsl14Search_r_ (N : Nat) : Nat → ((List (List (Int × (Int × (Int × (Int × (Int × (Int × ((Int × (Int × Unit)) × Unit))))))))) × ((List (Int × (Int × (Int × (Int × (Int × (Int × Unit))))))) × (((List ((List Int) × ((List Int) × Unit))) × ((List (List Int)) × ((List Int) × Unit))) × ((List Bool) × ((List Int) × Unit))))) → Option ((List Int) × (Bool × ((List Bool) × Unit)))
  | 0, _ => none
  | m_ + 1, x =>
  (lsl14Search_r__0 N (fun x_ => Fsl14Search_r_ N m_ x_) N (x.1, x.2.1, x.2.2.1, false, (0 : Int), x.2.2.2.1, x.2.2.2.2.1, ())).bind fun o4 =>
  bif !o4.2.2.2.1 then
   some (o4.2.2.2.2.2.1, true, o4.2.2.2.2.1, ())
  else
  (lsl14Search_r__2 N (fun x_ => Fsl14Search_r_ N m_ x_) N (o4.1, o4.2.1, o4.2.2.1, (0 : Int), o4.2.2.2.2.1, o4.2.2.2.2.2.1, ())).bind fun o18 =>
  Sum.elim (fun o19 =>
   some (([] : (List Int)), false, o19.1, ())) (fun o20 =>
   some (o20.1, o20.2.1, o20.2.2.1, ())) o18
noncomputable def consl14Search_r_ (N : Nat) (m_ : Nat) : Con := { f := 116, din := dinsl14Search_r_, outs := outsl14Search_r_, F := Fsl14Search_r_ N m_ }
noncomputable def Esl14Search_r_ (N : Nat) (m_ : Nat) : Env := { te := TE, cs := [consl14May N, consGraphDo N, consl5Ints N, consl14Search_r_ N m_] }
noncomputable def Xsl14Search_r_ (N : Nat) (m_ : Nat) : Ctx := { E := Esl14Search_r_ N m_, H := Hsl14Search_r_, lp := [(0, { hd := dsl14Search_r__0, outs := osl14Search_r__0, run := fun v => lsl14Search_r__0 N (fun x_ => Fsl14Search_r_ N m_ x_) N v }), (2, { hd := dsl14Search_r__2, outs := osl14Search_r__2, run := fun v => lsl14Search_r__2 N (fun x_ => Fsl14Search_r_ N m_ x_) N v })], jn := [(19, jsl14Search_r__19)] }
noncomputable def bsl14Search_r__2 : Code := loopBody (codeOf Try.f116) 1
noncomputable def bsl14Search_r__0 : Code := loopBody (codeOf Try.f116) 0
theorem Fsl14Search_r__eq (N m_ : Nat) (x : ((List (List (Int × (Int × (Int × (Int × (Int × (Int × ((Int × (Int × Unit)) × Unit))))))))) × ((List (Int × (Int × (Int × (Int × (Int × (Int × Unit))))))) × (((List ((List Int) × ((List Int) × Unit))) × ((List (List Int)) × ((List Int) × Unit))) × ((List Bool) × ((List Int) × Unit)))))) : evFn (Xsl14Search_r_ N m_) Try.f116 dinsl14Search_r_ outsl14Search_r_ x = Fsl14Search_r_ N (m_ + 1) x := by kernel_rfl
theorem lsl14Search_r__0_eq (N m_ n : Nat) (v : ((List (List (Int × (Int × (Int × (Int × (Int × (Int × ((Int × (Int × Unit)) × Unit))))))))) × ((List (Int × (Int × (Int × (Int × (Int × (Int × Unit))))))) × (((List ((List Int) × ((List Int) × Unit))) × ((List (List Int)) × ((List Int) × Unit))) × (Bool × (Int × ((List Bool) × ((List Int) × Unit)))))))) : lsl14Search_r__0 N (fun x_ => Fsl14Search_r_ N m_ x_) (n + 1) v = ev (Xsl14Search_r_ N m_) bsl14Search_r__0 (roundK dsl14Search_r__0 osl14Search_r__0 (lsl14Search_r__0 N (fun x_ => Fsl14Search_r_ N m_ x_) n)) (dsl14Search_r__0.mk' v) := by kernel_rfl
theorem lsl14Search_r__2_eq (N m_ n : Nat) (v : ((List (List (Int × (Int × (Int × (Int × (Int × (Int × ((Int × (Int × Unit)) × Unit))))))))) × ((List (Int × (Int × (Int × (Int × (Int × (Int × Unit))))))) × (((List ((List Int) × ((List Int) × Unit))) × ((List (List Int)) × ((List Int) × Unit))) × (Int × ((List Bool) × ((List Int) × Unit))))))) : lsl14Search_r__2 N (fun x_ => Fsl14Search_r_ N m_ x_) (n + 1) v = ev (Xsl14Search_r_ N m_) bsl14Search_r__2 (roundK dsl14Search_r__2 osl14Search_r__2 (lsl14Search_r__2 N (fun x_ => Fsl14Search_r_ N m_ x_) n)) (dsl14Search_r__2.mk' v) := by kernel_rfl
theorem cxsl14Search_r_ (N : Nat) (m_ : Nat) (hs : Spec Try.prog (consl14Search_r_ N m_)) : CtxOk Try.prog (Xsl14Search_r_ N m_) := ⟨⟨TE_ok, List.forall_mem_cons.2 ⟨(specsl14May N), List.forall_mem_cons.2 ⟨(specsGraphDo N), List.forall_mem_cons.2 ⟨(specsl5Ints N), List.forall_mem_cons.2 ⟨hs, fun k hk => absurd hk List.not_mem_nil⟩⟩⟩⟩⟩, mixed⟩
theorem lpsl14Search_r__0 (N : Nat) (m_ : Nat) (hs : Spec Try.prog (consl14Search_r_ N m_)) : LoopOk Try.prog { hd := dsl14Search_r__0, outs := osl14Search_r__0, run := fun v => lsl14Search_r__0 N (fun x_ => Fsl14Search_r_ N m_ x_) N v } bsl14Search_r__0 :=
  loop_fuel (d := dsl14Search_r__0) (os := osl14Search_r__0) (cxsl14Search_r_ N m_ hs) (loops_at (ids := []) (by kernel_rfl) (trivial)) (lsl14Search_r__0 N (fun x_ => Fsl14Search_r_ N m_ x_)) (fun _ => rfl) (fun n v => lsl14Search_r__0_eq N m_ n v) (fun _ => N)
theorem lpsl14Search_r__2 (N : Nat) (m_ : Nat) (hs : Spec Try.prog (consl14Search_r_ N m_)) : LoopOk Try.prog { hd := dsl14Search_r__2, outs := osl14Search_r__2, run := fun v => lsl14Search_r__2 N (fun x_ => Fsl14Search_r_ N m_ x_) N v } bsl14Search_r__2 :=
  loop_fuel (d := dsl14Search_r__2) (os := osl14Search_r__2) (cxsl14Search_r_ N m_ hs) (loops_at (ids := []) (by kernel_rfl) (trivial)) (lsl14Search_r__2 N (fun x_ => Fsl14Search_r_ N m_ x_)) (fun _ => rfl) (fun n v => lsl14Search_r__2_eq N m_ n v) (fun _ => N)
theorem czsl14Search_r_ : CtxOk Try.prog { E := { te := TE, cs := [] }, H := [], lp := [], jn := [] } := ⟨⟨TE_ok, fun k hk => absurd hk List.not_mem_nil⟩, mixed⟩
theorem specsl14Search_r_ (N : Nat) : ∀ m_ : Nat, Spec Try.prog (consl14Search_r_ N m_)
  | 0 => Spec.of_eq (fn_spec (czsl14Search_r_) (f := 116) (fn := Try.f116) (din := dinsl14Search_r_) (os := outsl14Search_r_) (c := codeOf Try.f116) (by kernel_rfl) (by kernel_rfl) (by kernel_rfl) (loops_at (ids := [0, 2]) (by kernel_rfl) ⟨lp_none, ⟨lp_none, trivial⟩⟩) (by kernel_rfl)) (fun x r h => nomatch (show (none : Option _) = some r from h))
  | m_ + 1 => Spec.of_eq (fn_spec (cxsl14Search_r_ N m_ (specsl14Search_r_ N m_)) (f := 116) (fn := Try.f116) (c := codeOf Try.f116) (by kernel_rfl) (by kernel_rfl) (by kernel_rfl) (loops_at (ids := [0, 2]) (by kernel_rfl) ⟨lp_of (lpsl14Search_r__0 N m_ (specsl14Search_r_ N m_)), ⟨lp_of (lpsl14Search_r__2 N m_ (specsl14Search_r_ N m_)), trivial⟩⟩) (by kernel_rfl)) (fun x r h => (Fsl14Search_r__eq N m_ x).trans h)

/-! ### 116: spec.l14Search -/

noncomputable def dinsl14Search : Desc := { n := 5, regs := [.one (.val (.sl (.sl (.pair (.int .i64) (.pair (.int .i64) (.pair (.int .i64) (.pair (.int .i64) (.pair (.int .i64) (.pair (.int .i64) (.pair (.pair (.int .i64) (.pair (.int .i64) .unit)) .unit)))))))))), .one (.val (.sl (.pair (.int .i64) (.pair (.int .i64) (.pair (.int .i64) (.pair (.int .i64) (.pair (.int .i64) (.pair (.int .i64) .unit)))))))), .one (.lit (.row 128)), .one (.val (.pair (.sl (.pair (.sl (.int .i64)) (.pair (.sl (.int .i64)) .unit))) (.pair (.sl (.sl (.int .i64))) (.pair (.sl (.int .i64)) .unit)))), .one (.lit .nil)], bx := [(128, .row .bool)], pins := [] }
noncomputable def outsl14Search : Outs := [(.ret, { n := 2, regs := [.one (.val (.sl (.int .i64))), .one (.val .bool)], bx := [(128, .row .bool)], pins := [u, u, .one (.lit (.row 128))] })]
noncomputable def Hsl14Search : Hints := [(0, [(0, { fz := true })]),
  (15, [(12, { con := 1 })]),
  (20, [(5, { con := 2 }), (9, { con := 3, sg := [(256, 1256321)] })])]
noncomputable def Esl14Search (N : Nat) : Env := { te := TE, cs := [consl14May N, consGraphDo N, consl5Ints N, consl14Search_r_ N N] }
noncomputable def dsl14Search_0 : Desc := { n := 122, regs := [.one (.val (.sl (.sl (.pair (.int .i64) (.pair (.int .i64) (.pair (.int .i64) (.pair (.int .i64) (.pair (.int .i64) (.pair (.int .i64) (.pair (.pair (.int .i64) (.pair (.int .i64) .unit)) .unit)))))))))), .one (.val (.sl (.pair (.int .i64) (.pair (.int .i64) (.pair (.int .i64) (.pair (.int .i64) (.pair (.int .i64) (.pair (.int .i64) .unit)))))))), .one (.lit (.row 128)), u, .one (.lit .nil), u, u, u, .one (.fpt (.pair (.sl (.pair (.sl (.int .i64)) (.pair (.sl (.int .i64)) .unit))) (.pair (.sl (.sl (.int .i64))) (.pair (.sl (.int .i64)) .unit)))), u, u, u, .one (.val .bool), .one (.val (.int .i64))], bx := [(128, .row .bool)], pins := [u, u, .one (.lit (.row 128))] }
noncomputable def osl14Search_0 : Outs := [(.exit 0, { n := 122, regs := [.one (.val (.sl (.sl (.pair (.int .i64) (.pair (.int .i64) (.pair (.int .i64) (.pair (.int .i64) (.pair (.int .i64) (.pair (.int .i64) (.pair (.pair (.int .i64) (.pair (.int .i64) .unit)) .unit)))))))))), .one (.val (.sl (.pair (.int .i64) (.pair (.int .i64) (.pair (.int .i64) (.pair (.int .i64) (.pair (.int .i64) (.pair (.int .i64) .unit)))))))), .one (.lit (.row 128)), u, .one (.lit .nil), u, u, u, .one (.fpt (.pair (.sl (.pair (.sl (.int .i64)) (.pair (.sl (.int .i64)) .unit))) (.pair (.sl (.sl (.int .i64))) (.pair (.sl (.int .i64)) .unit)))), u, u, u, .one (.val .bool)], bx := [(128, .row .bool)], pins := [u, u, .one (.lit (.row 128))] })]
noncomputable def dsl14Search_2 : Desc := { n := 122, regs := [.one (.val (.sl (.sl (.pair (.int .i64) (.pair (.int .i64) (.pair (.int .i64) (.pair (.int .i64) (.pair (.int .i64) (.pair (.int .i64) (.pair (.pair (.int .i64) (.pair (.int .i64) .unit)) .unit)))))))))), .one (.val (.sl (.pair (.int .i64) (.pair (.int .i64) (.pair (.int .i64) (.pair (.int .i64) (.pair (.int .i64) (.pair (.int .i64) .unit)))))))), .one (.lit (.row 128)), u, .one (.lit .nil), u, u, u, .one (.fpt (.pair (.sl (.pair (.sl (.int .i64)) (.pair (.sl (.int .i64)) .unit))) (.pair (.sl (.sl (.int .i64))) (.pair (.sl (.int .i64)) .unit)))), u, u, u, u, u, .one (.val (.int .i64))], bx := [(128, .row .bool)], pins := [u, u, .one (.lit (.row 128))] }
noncomputable def osl14Search_2 : Outs := [(.exit 2, { n := 122, regs := [], bx := [(128, .row .bool)], pins := [u, u, .one (.lit (.row 128))] }), (.ret, { n := 122, regs := [u, u, u, u, u, u, u, u, u, u, .one (.val (.sl (.int .i64))), .one (.val .bool)], bx := [(128, .row .bool)], pins := [u, u, .one (.lit (.row 128))] })]
noncomputable def jsl14Search_19 : Outs := [(.exit 3, { n := 122, regs := [.one (.val (.sl (.sl (.pair (.int .i64) (.pair (.int .i64) (.pair (.int .i64) (.pair (.int .i64) (.pair (.int .i64) (.pair (.int .i64) (.pair (.pair (.int .i64) (.pair (.int .i64) .unit)) .unit)))))))))), .one (.val (.sl (.pair (.int .i64) (.pair (.int .i64) (.pair (.int .i64) (.pair (.int .i64) (.pair (.int .i64) (.pair (.int .i64) .unit)))))))), .one (.lit (.row 128)), u, .one (.lit .nil), u, u, u, .one (.fpt (.pair (.sl (.pair (.sl (.int .i64)) (.pair (.sl (.int .i64)) .unit))) (.pair (.sl (.sl (.int .i64))) (.pair (.sl (.int .i64)) .unit)))), u, u, u, u, u, .one (.val (.int .i64))], bx := [(128, .row .bool)], pins := [u, u, .one (.lit (.row 128))] }), (.normal, { n := 122, regs := [.one (.val (.sl (.sl (.pair (.int .i64) (.pair (.int .i64) (.pair (.int .i64) (.pair (.int .i64) (.pair (.int .i64) (.pair (.int .i64) (.pair (.pair (.int .i64) (.pair (.int .i64) .unit)) .unit)))))))))), .one (.val (.sl (.pair (.int .i64) (.pair (.int .i64) (.pair (.int .i64) (.pair (.int .i64) (.pair (.int .i64) (.pair (.int .i64) .unit)))))))), .one (.lit (.row 128)), u, .one (.lit .nil), u, u, u, .one (.fpt (.pair (.sl (.pair (.sl (.int .i64)) (.pair (.sl (.int .i64)) .unit))) (.pair (.sl (.sl (.int .i64))) (.pair (.sl (.int .i64)) .unit)))), u, u, u, u, u, .one (.val (.int .i64)), u, .one (.lit (.ptr 1166464 0))], bx := [(128, .row .bool), (1166464, .var [.val (.sl (.pair (.sl (.int .i64)) (.pair (.sl (.int .i64)) .unit))), .val (.sl (.sl (.int .i64))), .val (.sl (.int .i64))])], pins := [u, u, .one (.lit (.row 128))] })]
noncomputable def lsl14Search_0 (N : Nat) : Nat → ((List (List (Int × (Int × (Int × (Int × (Int × (Int × ((Int × (Int × Unit)) × Unit))))))))) × ((List (Int × (Int × (Int × (Int × (Int × (Int × Unit))))))) × (((List ((List Int) × ((List Int) × Unit))) × ((List (List Int)) × ((List Int) × Unit))) × (Bool × (Int × ((List Bool) × Unit)))))) → Option ((List (List (Int × (Int × (Int × (Int × (Int × (Int × ((Int × (Int × Unit)) × Unit))))))))) × ((List (Int × (Int × (Int × (Int × (Int × (Int × Unit))))))) × (((List ((List Int) × ((List Int) × Unit))) × ((List (List Int)) × ((List Int) × Unit))) × (Bool × ((List Bool) × Unit)))))
  | 0, _ => none
  | n + 1, v =>
    let y1 := decide (v.2.2.2.2.1 < (v.2.1.length : Int))
    bif y1 then
     bif v.2.2.2.1 then
      lsl14Search_0 N n (v.1, v.2.1, v.2.2.1, true, w64 (v.2.2.2.2.1 + (1 : Int)), v.2.2.2.2.2.1, ())
     else
     bif decide (0 ≤ v.2.2.2.2.1) then
     bif decide (v.2.2.2.2.1.toNat < v.2.2.2.2.2.1.length) then
     let y2 := v.2.2.2.2.2.1.getD v.2.2.2.2.1.toNat false
     bif !y2 then
      bif decide (0 ≤ v.2.2.2.2.1) then
      bif decide (v.2.2.2.2.1.toNat < v.2.1.length) then
      let y3 := v.2.1.getD v.2.2.2.2.1.toNat ((0 : Int), (0 : Int), (0 : Int), (0 : Int), (0 : Int), (0 : Int), ())
      lsl14Search_0 N n (v.1, v.2.1, v.2.2.1, decide (y3.2.2.2.1 ≥ (0 : Int)), w64 (v.2.2.2.2.1 + (1 : Int)), v.2.2.2.2.2.1, ())
      else none
      else none
     else
     lsl14Search_0 N n (v.1, v.2.1, v.2.2.1, false, w64 (v.2.2.2.2.1 + (1 : Int)), v.2.2.2.2.2.1, ())
     else none
     else none
    else
    some (v.1, v.2.1, v.2.2.1, v.2.2.2.1, v.2.2.2.2.2.1, ())
noncomputable def lsl14Search_2 (N : Nat) : Nat → ((List (List (Int × (Int × (Int × (Int × (Int × (Int × ((Int × (Int × Unit)) × Unit))))))))) × ((List (Int × (Int × (Int × (Int × (Int × (Int × Unit))))))) × (((List ((List Int) × ((List Int) × Unit))) × ((List (List Int)) × ((List Int) × Unit))) × (Int × ((List Bool) × Unit))))) → Option (((List Bool) × Unit) ⊕ ((List Int) × (Bool × ((List Bool) × Unit))))
  | 0, _ => none
  | n + 1, v =>
    let y5 := decide (v.2.2.2.1 < (v.2.1.length : Int))
    bif y5 then
     (Fsl14May N (v.2.1, v.2.2.2.2.1, v.2.2.2.1, ())).bind fun r6 =>
     bif !r6.1 then
      lsl14Search_2 N n (v.1, v.2.1, v.2.2.1, w64 (v.2.2.2.1 + (1 : Int)), v.2.2.2.2.1, ())
     else
     bif decide (0 ≤ v.2.2.2.1) then
     bif decide (v.2.2.2.1.toNat < v.2.1.length) then
     let y7 := v.2.1.getD v.2.2.2.1.toNat ((0 : Int), (0 : Int), (0 : Int), (0 : Int), (0 : Int), (0 : Int), ())
     Option.bind (
      bif y7.2.2.2.2.2.1 != (6 : Int) then
       bif decide (0 ≤ y7.1) then
       bif decide (y7.1.toNat < v.1.length) then
       let y8 := v.1.getD y7.1.toNat ([] : (List (Int × (Int × (Int × (Int × (Int × (Int × ((Int × (Int × Unit)) × Unit)))))))))
       bif decide (0 ≤ y7.2.1) then
       bif decide (y7.2.1.toNat < y8.length) then
       let y9 := y8.getD y7.2.1.toNat ((0 : Int), (0 : Int), (0 : Int), (0 : Int), (0 : Int), (0 : Int), ((0 : Int), (0 : Int), ()), ())
       (FsGraphDo N (v.2.2.1, y7.1, y9, ())).bind fun r10 =>
       bif decide (y7.2.2.2.1 ≥ (0 : Int)) then
        bif r10.1 != y7.2.2.2.2.1 then
         some (.inl (v.1, v.2.1, v.2.2.1, v.2.2.2.1, v.2.2.2.2.1, ()))
        else
        bif r10.2.1 != y7.2.2.2.2.2.1 then
         some (.inl (v.1, v.2.1, v.2.2.1, v.2.2.2.1, v.2.2.2.2.1, ()))
        else
        bif r10.2.1 != (1 : Int) then
         some (.inr ((v.1, v.2.1, v.2.2.1, v.2.2.2.1, v.2.2.2.2.1, r10.2.2.1, r10.2.2.2.1, r10.2.2.2.2.1, ())))
        else
        some (.inr ((v.1, v.2.1, v.2.2.1, v.2.2.2.1, v.2.2.2.2.1, v.2.2.1.1, v.2.2.1.2.1, v.2.2.1.2.2.1, ())))
       else
       bif r10.2.1 != (1 : Int) then
        some (.inr ((v.1, v.2.1, v.2.2.1, v.2.2.2.1, v.2.2.2.2.1, r10.2.2.1, r10.2.2.2.1, r10.2.2.2.2.1, ())))
       else
       some (.inr ((v.1, v.2.1, v.2.2.1, v.2.2.2.1, v.2.2.2.2.1, v.2.2.1.1, v.2.2.1.2.1, v.2.2.1.2.2.1, ())))
       else none
       else none
       else none
       else none
      else
      some (.inr ((v.1, v.2.1, v.2.2.1, v.2.2.2.1, v.2.2.2.2.1, v.2.2.1.1, v.2.2.1.2.1, v.2.2.1.2.2.1, ())))) fun o11 =>
     Sum.elim (fun o12 =>
      lsl14Search_2 N n (o12.1, o12.2.1, o12.2.2.1, w64 (o12.2.2.2.1 + (1 : Int)), o12.2.2.2.2.1, ())) (fun o13 =>
      bif decide (0 ≤ o13.2.2.2.1) then
      bif decide (o13.2.2.2.1.toNat < o13.2.2.2.2.1.length) then
      let y14 := o13.2.2.2.2.1.set o13.2.2.2.1.toNat true
      (Fsl5Ints N (([] : (List Int)), ())).bind fun r15 =>
      bif decide (r15.1.length + [o13.2.2.2.1].length ≤ lim) then
      (Fsl14Search_r_ N N (o13.1, o13.2.1, (o13.2.2.2.2.2.1, o13.2.2.2.2.2.2.1, o13.2.2.2.2.2.2.2.1, ()), y14, r15.1 ++ [o13.2.2.2.1], ())).bind fun r16 =>
      bif decide (0 ≤ o13.2.2.2.1) then
      bif decide (o13.2.2.2.1.toNat < r16.2.2.1.length) then
      let y17 := r16.2.2.1.set o13.2.2.2.1.toNat false
      bif r16.2.1 then
       some (.inr ((r16.1, true, y17, ())))
      else
      lsl14Search_2 N n (o13.1, o13.2.1, o13.2.2.1, w64 (o13.2.2.2.1 + (1 : Int)), y17, ())
      else none
      else none
      else none
      else none
      else none) o11
     else none
     else none
    else
    some (.inl (v.2.2.2.2.1, ()))
noncomputable def Fsl14Search (N : Nat) (x : ((List (List (Int × (Int × (Int × (Int × (Int × (Int × ((Int × (Int × Unit)) × Unit))))))))) × ((List (Int × (Int × (Int × (Int × (Int × (Int × Unit))))))) × (((List ((List Int) × ((List Int) × Unit))) × ((List (List Int)) × ((List Int) × Unit))) × ((List Bool) × Unit))))) : Option ((List Int) × (Bool × ((List Bool) × Unit))) :=
  (lsl14Search_0 N N (x.1, x.2.1, x.2.2.1, false, (0 : Int), x.2.2.2.1, ())).bind fun o4 =>
  bif !o4.2.2.2.1 then
   some (([] : (List Int)), true, o4.2.2.2.2.1, ())
  else
  (lsl14Search_2 N N (o4.1, o4.2.1, o4.2.2.1, (0 : Int), o4.2.2.2.2.1, ())).bind fun o18 =>
  Sum.elim (fun o19 =>
   some (([] : (List Int)), false, o19.1, ())) (fun o20 =>
   some (o20.1, o20.2.1, o20.2.2.1, ())) o18
noncomputable def consl14Search (N : Nat) : Con := { f := 116, din := dinsl14Search, outs := outsl14Search, F := Fsl14Search N }
noncomputable def Xsl14Search (N : Nat) : Ctx := { E := Esl14Search N, H := Hsl14Search, lp := [(0, { hd := dsl14Search_0, outs := osl14Search_0, run := fun v => lsl14Search_0 N N v }), (2, { hd := dsl14Search_2, outs := osl14Search_2, run := fun v => lsl14Search_2 N N v })], jn := [(19, jsl14Search_19)] }
noncomputable def bsl14Search_2 : Code := loopBody (codeOf Try.f116) 1
noncomputable def bsl14Search_0 : Code := loopBody (codeOf Try.f116) 0
theorem Fsl14Search_eq (N : Nat) (x : ((List (List (Int × (Int × (Int × (Int × (Int × (Int × ((Int × (Int × Unit)) × Unit))))))))) × ((List (Int × (Int × (Int × (Int × (Int × (Int × Unit))))))) × (((List ((List Int) × ((List Int) × Unit))) × ((List (List Int)) × ((List Int) × Unit))) × ((List Bool) × Unit))))) : evFn (Xsl14Search N) Try.f116 dinsl14Search outsl14Search x = Fsl14Search N x := by kernel_rfl
theorem lsl14Search_0_eq (N n : Nat) (v : ((List (List (Int × (Int × (Int × (Int × (Int × (Int × ((Int × (Int × Unit)) × Unit))))))))) × ((List (Int × (Int × (Int × (Int × (Int × (Int × Unit))))))) × (((List ((List Int) × ((List Int) × Unit))) × ((List (List Int)) × ((List Int) × Unit))) × (Bool × (Int × ((List Bool) × Unit))))))) : lsl14Search_0 N (n + 1) v = ev (Xsl14Search N) bsl14Search_0 (roundK dsl14Search_0 osl14Search_0 (lsl14Search_0 N n)) (dsl14Search_0.mk' v) := by kernel_rfl
theorem lsl14Search_2_eq (N n : Nat) (v : ((List (List (Int × (Int × (Int × (Int × (Int × (Int × ((Int × (Int × Unit)) × Unit))))))))) × ((List (Int × (Int × (Int × (Int × (Int × (Int × Unit))))))) × (((List ((List Int) × ((List Int) × Unit))) × ((List (List Int)) × ((List Int) × Unit))) × (Int × ((List Bool) × Unit)))))) : lsl14Search_2 N (n + 1) v = ev (Xsl14Search N) bsl14Search_2 (roundK dsl14Search_2 osl14Search_2 (lsl14Search_2 N n)) (dsl14Search_2.mk' v) := by kernel_rfl
theorem cxsl14Search (N : Nat) : CtxOk Try.prog (Xsl14Search N) := ⟨⟨TE_ok, List.forall_mem_cons.2 ⟨(specsl14May N), List.forall_mem_cons.2 ⟨(specsGraphDo N), List.forall_mem_cons.2 ⟨(specsl5Ints N), List.forall_mem_cons.2 ⟨(specsl14Search_r_ N N), fun k hk => absurd hk List.not_mem_nil⟩⟩⟩⟩⟩, mixed⟩
theorem lpsl14Search_0 (N : Nat) : LoopOk Try.prog { hd := dsl14Search_0, outs := osl14Search_0, run := fun v => lsl14Search_0 N N v } bsl14Search_0 :=
  loop_fuel (d := dsl14Search_0) (os := osl14Search_0) (cxsl14Search N) (loops_at (ids := []) (by kernel_rfl) (trivial)) (lsl14Search_0 N) (fun _ => rfl) (fun n v => lsl14Search_0_eq N n v) (fun _ => N)
theorem lpsl14Search_2 (N : Nat) : LoopOk Try.prog { hd := dsl14Search_2, outs := osl14Search_2, run := fun v => lsl14Search_2 N N v } bsl14Search_2 :=
  loop_fuel (d := dsl14Search_2) (os := osl14Search_2) (cxsl14Search N) (loops_at (ids := []) (by kernel_rfl) (trivial)) (lsl14Search_2 N) (fun _ => rfl) (fun n v => lsl14Search_2_eq N n v) (fun _ => N)
theorem specsl14Search (N : Nat) : Spec Try.prog (consl14Search N) :=
  Spec.of_eq (fn_spec (cxsl14Search N) (f := 116) (fn := Try.f116) (c := codeOf Try.f116) (by kernel_rfl) (by kernel_rfl) (by kernel_rfl) (loops_at (ids := [0, 2]) (by kernel_rfl) ⟨lp_of (lpsl14Search_0 N), ⟨lp_of (lpsl14Search_2 N), trivial⟩⟩) (by kernel_rfl)) (fun x r h => (Fsl14Search_eq N x).trans h)

/-! ### 53: spec.HistFits -/

noncomputable def dinsHistFits : Desc := { n := 3, regs := [.one (.val (.pair (.int .i64) (.pair (.int .i64) (.pair (.int .i64) .unit)))), .one (.val (.sl (.sl (.pair (.int .i64) (.pair (.int .i64) (.pair (.int .i64) (.pair (.int .i64) (.pair (.int .i64) (.pair (.int .i64) (.pair (.pair (.int .i64) (.pair (.int .i64) .unit)) .unit)))))))))), .one (.val (.sl (.pair (.int .i64) (.pair (.int .i64) (.pair (.int .i64) (.pair (.int .i64) (.pair (.int .i64) (.pair (.int .i64) .unit))))))))], bx := [], pins := [] }
noncomputable def outsHistFits : Outs := [(.ret, { n := 2, regs := [.one (.val (.sl (.int .i64))), .one (.val .bool)], bx := [], pins := [] })]
noncomputable def HsHistFits : Hints := [(0, [(0, { fz := true })]),
  (3, [(2, { con := 1 })]),
  (4, [(6, { con := 2, sg := [(128, 1051456)] }), (999, { pre := [.freeze 1038529, .freeze 1038530] })])]
noncomputable def EsHistFits (N : Nat) : Env := { te := TE, cs := [consHistOk N, consGraphNew N, consl14Search N] }
noncomputable def jsHistFits_3 : Outs := [(.normal, { n := 35, regs := [u, .one (.val (.sl (.sl (.pair (.int .i64) (.pair (.int .i64) (.pair (.int .i64) (.pair (.int .i64) (.pair (.int .i64) (.pair (.int .i64) (.pair (.pair (.int .i64) (.pair (.int .i64) .unit)) .unit)))))))))), .one (.val (.sl (.pair (.int .i64) (.pair (.int .i64) (.pair (.int .i64) (.pair (.int .i64) (.pair (.int .i64) (.pair (.int .i64) .unit)))))))), .one (.fpt (.pair (.int .i64) (.pair (.int .i64) (.pair (.int .i64) .unit))))], bx := [], pins := [] }), (.ret, { n := 35, regs := [u, u, u, u, u, u, .one (.lit .nil), .one (.val .bool)], bx := [], pins := [] })]
noncomputable def FsHistFits (N : Nat) (x : ((Int × (Int × (Int × Unit))) × ((List (List (Int × (Int × (Int × (Int × (Int × (Int × ((Int × (Int × Unit)) × Unit))))))))) × ((List (Int × (Int × (Int × (Int × (Int × (Int × Unit))))))) × Unit)))) : Option ((List Int) × (Bool × Unit)) :=
  Option.bind (
   (FsHistOk N (x.1, x.2.1, x.2.2.1, ())).bind fun r1 =>
   bif !r1.1 then
    some (.inr ((false, ())))
   else
   let y2 := decide ((x.2.2.1.length : Int) > (10 : Int))
   bif y2 then
    some (.inr ((false, ())))
   else
   some (.inl (x.2.1, x.2.2.1, x.1, ()))) fun o3 =>
  Sum.elim (fun o4 =>
   (FsGraphNew N (o4.2.2.1.2.1, ())).bind fun r5 =>
   bif decide (0 ≤ (o4.2.1.length : Int)) then
   bif decide ((o4.2.1.length : Int).toNat ≤ lim) then
   let y6 := List.replicate (o4.2.1.length : Int).toNat false
   (Fsl14Search N (o4.1, o4.2.1, (r5.2.1, r5.2.2.1, ([] : (List Int)), ()), y6, ())).bind fun r7 =>
   some (r7.1, r7.2.1, ())
   else none
   else none) (fun o8 =>
   some (([] : (List Int)), o8.1, ())) o3
noncomputable def consHistFits (N : Nat) : Con := { f := 53, din := dinsHistFits, outs := outsHistFits, F := FsHistFits N }
noncomputable def XsHistFits (N : Nat) : Ctx := { E := EsHistFits N, H := HsHistFits, lp := [], jn := [(3, jsHistFits_3)] }
theorem FsHistFits_eq (N : Nat) (x : ((Int × (Int × (Int × Unit))) × ((List (List (Int × (Int × (Int × (Int × (Int × (Int × ((Int × (Int × Unit)) × Unit))))))))) × ((List (Int × (Int × (Int × (Int × (Int × (Int × Unit))))))) × Unit)))) : evFn (XsHistFits N) Try.f53 dinsHistFits outsHistFits x = FsHistFits N x := by kernel_rfl
theorem cxsHistFits (N : Nat) : CtxOk Try.prog (XsHistFits N) := ⟨⟨TE_ok, List.forall_mem_cons.2 ⟨(specsHistOk N), List.forall_mem_cons.2 ⟨(specsGraphNew N), List.forall_mem_cons.2 ⟨(specsl14Search N), fun k hk => absurd hk List.not_mem_nil⟩⟩⟩⟩, mixed⟩
theorem specsHistFits (N : Nat) : Spec Try.prog (consHistFits N) :=
  Spec.of_eq (fn_spec (cxsHistFits N) (f := 53) (fn := Try.f53) (c := codeOf Try.f53) (by kernel_rfl) (by kernel_rfl) (by kernel_rfl) (loops_at (ids := []) (by kernel_rfl) (trivial)) (by kernel_rfl)) (fun x r h => (FsHistFits_eq N x).trans h)

/-! ### 151: impl.ConfigOk -/

noncomputable def diniConfigOk : Desc := { n := 1, regs := [.one (.val (.pair (.int .i64) (.pair (.int .i64) (.pair (.int .i64) .unit))))], bx := [], pins := [] }
noncomputable def outiConfigOk : Outs := [(.ret, { n := 1, regs := [.one (.val .bool)], bx := [], pins := [] })]
noncomputable def HiConfigOk : Hints := [(0, [(0, { fz := true })])]
noncomputable def EiConfigOk (_N : Nat) : Env := { te := TE, cs := [] }
noncomputable def FiConfigOk (N : Nat) (x : ((Int × (Int × (Int × Unit))) × Unit)) : Option (Bool × Unit) :=
  bif decide (x.1.1 ≥ (3 : Int)) then
   bif decide (x.1.1 ≤ (12 : Int)) then
    bif decide (x.1.2.1 ≥ (1 : Int)) then
     bif decide (x.1.2.1 ≤ (3 : Int)) then
      bif decide (x.1.2.2.1 ≥ (0 : Int)) then
       some (decide (x.1.2.2.1 ≤ (100 : Int)), ())
      else
      some (false, ())
     else
     some (false, ())
    else
    some (false, ())
   else
   some (false, ())
  else
  some (false, ())
noncomputable def coniConfigOk (N : Nat) : Con := { f := 151, din := diniConfigOk, outs := outiConfigOk, F := FiConfigOk N }
noncomputable def XiConfigOk (N : Nat) : Ctx := { E := EiConfigOk N, H := HiConfigOk, lp := [], jn := [] }
theorem FiConfigOk_eq (N : Nat) (x : ((Int × (Int × (Int × Unit))) × Unit)) : evFn (XiConfigOk N) Try.f151 diniConfigOk outiConfigOk x = FiConfigOk N x := by kernel_rfl
theorem cxiConfigOk (N : Nat) : CtxOk Try.prog (XiConfigOk N) := ⟨⟨TE_ok, fun k hk => absurd hk List.not_mem_nil⟩, mixed⟩
theorem speciConfigOk (N : Nat) : Spec Try.prog (coniConfigOk N) :=
  Spec.of_eq (fn_spec (cxiConfigOk N) (f := 151) (fn := Try.f151) (c := codeOf Try.f151) (by kernel_rfl) (by kernel_rfl) (by kernel_rfl) (loops_at (ids := []) (by kernel_rfl) (trivial)) (by kernel_rfl)) (fun x r h => (FiConfigOk_eq N x).trans h)

/-! ### 153: impl.progsOk$1 -/

noncomputable def diniprogsOk_1 : Desc := { n := 1, regs := [.one (.val (.sl (.pair (.int .i64) (.pair (.int .i64) (.pair (.int .i64) (.pair (.int .i64) (.pair (.int .i64) (.pair (.int .i64) (.pair (.pair (.int .i64) (.pair (.int .i64) .unit)) .unit)))))))))], bx := [], pins := [] }
noncomputable def outiprogsOk_1 : Outs := [(.ret, { n := 1, regs := [.one (.val .bool)], bx := [], pins := [] })]
noncomputable def HiprogsOk_1 : Hints := []
noncomputable def EiprogsOk_1 (_N : Nat) : Env := { te := TE, cs := [] }
noncomputable def FiprogsOk_1 (N : Nat) (x : ((List (Int × (Int × (Int × (Int × (Int × (Int × ((Int × (Int × Unit)) × Unit)))))))) × Unit)) : Option (Bool × Unit) :=
  let y1 := decide ((x.1.length : Int) > (40 : Int))
  some (y1, ())
noncomputable def coniprogsOk_1 (N : Nat) : Con := { f := 153, din := diniprogsOk_1, outs := outiprogsOk_1, F := FiprogsOk_1 N }
noncomputable def XiprogsOk_1 (N : Nat) : Ctx := { E := EiprogsOk_1 N, H := HiprogsOk_1, lp := [], jn := [] }
theorem FiprogsOk_1_eq (N : Nat) (x : ((List (Int × (Int × (Int × (Int × (Int × (Int × ((Int × (Int × Unit)) × Unit)))))))) × Unit)) : evFn (XiprogsOk_1 N) Try.f153 diniprogsOk_1 outiprogsOk_1 x = FiprogsOk_1 N x := by kernel_rfl
theorem cxiprogsOk_1 (N : Nat) : CtxOk Try.prog (XiprogsOk_1 N) := ⟨⟨TE_ok, fun k hk => absurd hk List.not_mem_nil⟩, mixed⟩
theorem speciprogsOk_1 (N : Nat) : Spec Try.prog (coniprogsOk_1 N) :=
  Spec.of_eq (fn_spec (cxiprogsOk_1 N) (f := 153) (fn := Try.f153) (c := codeOf Try.f153) (by kernel_rfl) (by kernel_rfl) (by kernel_rfl) (loops_at (ids := []) (by kernel_rfl) (trivial)) (by kernel_rfl)) (fun x r h => (FiprogsOk_1_eq N x).trans h)

/-! ### 158: impl.Op] -/

noncomputable def dinkIndexFunc_SSOp_SOp_iprogsOk_1 : Desc := { n := 2, regs := [.one (.val (.sl (.sl (.pair (.int .i64) (.pair (.int .i64) (.pair (.int .i64) (.pair (.int .i64) (.pair (.int .i64) (.pair (.int .i64) (.pair (.pair (.int .i64) (.pair (.int .i64) .unit)) .unit)))))))))), .one (.clo 153 [])], bx := [], pins := [] }
noncomputable def outkIndexFunc_SSOp_SOp_iprogsOk_1 : Outs := [(.ret, { n := 1, regs := [.one (.val (.int .i64))], bx := [], pins := [] })]
noncomputable def HkIndexFunc_SSOp_SOp_iprogsOk_1 : Hints := []
noncomputable def EkIndexFunc_SSOp_SOp_iprogsOk_1 (N : Nat) : Env := { te := TE, cs := [coniprogsOk_1 N] }
noncomputable def dkIndexFunc_SSOp_SOp_iprogsOk_1_0 : Desc := { n := 19, regs := [.one (.val (.sl (.sl (.pair (.int .i64) (.pair (.int .i64) (.pair (.int .i64) (.pair (.int .i64) (.pair (.int .i64) (.pair (.int .i64) (.pair (.pair (.int .i64) (.pair (.int .i64) .unit)) .unit)))))))))), .one (.clo 153 []), u, u, u, u, u, .one (.val (.int .i64)), .one (.val (.int .i64))], bx := [], pins := [] }
noncomputable def okIndexFunc_SSOp_SOp_iprogsOk_1_0 : Outs := [(.exit 0, { n := 19, regs := [], bx := [], pins := [] }), (.ret, { n := 19, regs := [u, u, u, u, .one (.val (.int .i64))], bx := [], pins := [] })]
noncomputable def lkIndexFunc_SSOp_SOp_iprogsOk_1_0 (N : Nat) : Nat → ((List (List (Int × (Int × (Int × (Int × (Int × (Int × ((Int × (Int × Unit)) × Unit))))))))) × (Int × (Int × Unit))) → Option (Unit ⊕ (Int × Unit))
  | 0, _ => none
  | n + 1, v =>
    bif decide (v.2.2.1 < v.2.1) then
     bif decide (0 ≤ v.2.2.1) then
     bif decide (v.2.2.1.toNat < v.1.length) then
     let y1 := v.1.getD v.2.2.1.toNat ([] : (List (Int × (Int × (Int × (Int × (Int × (Int × ((Int × (Int × Unit)) × Unit)))))))))
     (FiprogsOk_1 N (y1, ())).bind fun r2 =>
     bif r2.1 then
      some (.inr ((v.2.2.1, ())))
     else
     lkIndexFunc_SSOp_SOp_iprogsOk_1_0 N n (v.1, v.2.1, w64 (v.2.2.1 + (1 : Int)), ())
     else none
     else none
    else
    some (.inl ())
noncomputable def FkIndexFunc_SSOp_SOp_iprogsOk_1 (N : Nat) (x : ((List (List (Int × (Int × (Int × (Int × (Int × (Int × ((Int × (Int × Unit)) × Unit))))))))) × Unit)) : Option (Int × Unit) :=
  (lkIndexFunc_SSOp_SOp_iprogsOk_1_0 N N (x.1, (x.1.length : Int), (0 : Int), ())).bind fun o3 =>
  Sum.elim (fun o4 =>
   some ((-1 : Int), ())) (fun o5 =>
   some (o5.1, ())) o3
noncomputable def conkIndexFunc_SSOp_SOp_iprogsOk_1 (N : Nat) : Con := { f := 158, din := dinkIndexFunc_SSOp_SOp_iprogsOk_1, outs := outkIndexFunc_SSOp_SOp_iprogsOk_1, F := FkIndexFunc_SSOp_SOp_iprogsOk_1 N }
noncomputable def XkIndexFunc_SSOp_SOp_iprogsOk_1 (N : Nat) : Ctx := { E := EkIndexFunc_SSOp_SOp_iprogsOk_1 N, H := HkIndexFunc_SSOp_SOp_iprogsOk_1, lp := [(0, { hd := dkIndexFunc_SSOp_SOp_iprogsOk_1_0, outs := okIndexFunc_SSOp_SOp_iprogsOk_1_0, run := fun v => lkIndexFunc_SSOp_SOp_iprogsOk_1_0 N N v })], jn := [] }
noncomputable def bkIndexFunc_SSOp_SOp_iprogsOk_1_0 : Code := loopBody (codeOf Try.f158) 0
theorem FkIndexFunc_SSOp_SOp_iprogsOk_1_eq (N : Nat) (x : ((List (List (Int × (Int × (Int × (Int × (Int × (Int × ((Int × (Int × Unit)) × Unit))))))))) × Unit)) : evFn (XkIndexFunc_SSOp_SOp_iprogsOk_1 N) Try.f158 dinkIndexFunc_SSOp_SOp_iprogsOk_1 outkIndexFunc_SSOp_SOp_iprogsOk_1 x = FkIndexFunc_SSOp_SOp_iprogsOk_1 N x := by kernel_rfl
theorem lkIndexFunc_SSOp_SOp_iprogsOk_1_0_eq (N n : Nat) (v : ((List (List (Int × (Int × (Int × (Int × (Int × (Int × ((Int × (Int × Unit)) × Unit))))))))) × (Int × (Int × Unit)))) : lkIndexFunc_SSOp_SOp_iprogsOk_1_0 N (n + 1) v = ev (XkIndexFunc_SSOp_SOp_iprogsOk_1 N) bkIndexFunc_SSOp_SOp_iprogsOk_1_0 (roundK dkIndexFunc_SSOp_SOp_iprogsOk_1_0 okIndexFunc_SSOp_SOp_iprogsOk_1_0 (lkIndexFunc_SSOp_SOp_iprogsOk_1_0 N n)) (dkIndexFunc_SSOp_SOp_iprogsOk_1_0.mk' v) := by kernel_rfl
theorem cxkIndexFunc_SSOp_SOp_iprogsOk_1 (N : Nat) : CtxOk Try.prog (XkIndexFunc_SSOp_SOp_iprogsOk_1 N) := ⟨⟨TE_ok, List.forall_mem_cons.2 ⟨(speciprogsOk_1 N), fun k hk => absurd hk List.not_mem_nil⟩⟩, mixed⟩
theorem lpkIndexFunc_SSOp_SOp_iprogsOk_1_0 (N : Nat) : LoopOk Try.prog { hd := dkIndexFunc_SSOp_SOp_iprogsOk_1_0, outs := okIndexFunc_SSOp_SOp_iprogsOk_1_0, run := fun v => lkIndexFunc_SSOp_SOp_iprogsOk_1_0 N N v } bkIndexFunc_SSOp_SOp_iprogsOk_1_0 :=
  loop_fuel (d := dkIndexFunc_SSOp_SOp_iprogsOk_1_0) (os := okIndexFunc_SSOp_SOp_iprogsOk_1_0) (cxkIndexFunc_SSOp_SOp_iprogsOk_1 N) (loops_at (ids := []) (by kernel_rfl) (trivial)) (lkIndexFunc_SSOp_SOp_iprogsOk_1_0 N) (fun _ => rfl) (fun n v => lkIndexFunc_SSOp_SOp_iprogsOk_1_0_eq N n v) (fun _ => N)
theorem speckIndexFunc_SSOp_SOp_iprogsOk_1 (N : Nat) : Spec Try.prog (conkIndexFunc_SSOp_SOp_iprogsOk_1 N) :=
  Spec.of_eq (fn_spec (cxkIndexFunc_SSOp_SOp_iprogsOk_1 N) (f := 158) (fn := Try.f158) (c := codeOf Try.f158) (by kernel_rfl) (by kernel_rfl) (by kernel_rfl) (loops_at (ids := [0]) (by kernel_rfl) ⟨lp_of (lpkIndexFunc_SSOp_SOp_iprogsOk_1_0 N), trivial⟩) (by kernel_rfl)) (fun x r h => (FkIndexFunc_SSOp_SOp_iprogsOk_1_eq N x).trans h)

/-! ### 152: impl.Op] -/

noncomputable def dinkContainsFunc_SSOp_SOp_iprogsOk_1 : Desc := { n := 2, regs := [.one (.val (.sl (.sl (.pair (.int .i64) (.pair (.int .i64) (.pair (.int .i64) (.pair (.int .i64) (.pair (.int .i64) (.pair (.int .i64) (.pair (.pair (.int .i64) (.pair (.int .i64) .unit)) .unit)))))))))), .one (.clo 153 [])], bx := [], pins := [] }
noncomputable def outkContainsFunc_SSOp_SOp_iprogsOk_1 : Outs := [(.ret, { n := 1, regs := [.one (.val .bool)], bx := [], pins := [] })]
noncomputable def HkContainsFunc_SSOp_SOp_iprogsOk_1 : Hints := []
noncomputable def EkContainsFunc_SSOp_SOp_iprogsOk_1 (N : Nat) : Env := { te := TE, cs := [conkIndexFunc_SSOp_SOp_iprogsOk_1 N] }
noncomputable def FkContainsFunc_SSOp_SOp_iprogsOk_1 (N : Nat) (x : ((List (List (Int × (Int × (Int × (Int × (Int × (Int × ((Int × (Int × Unit)) × Unit))))))))) × Unit)) : Option (Bool × Unit) :=
  (FkIndexFunc_SSOp_SOp_iprogsOk_1 N (x.1, ())).bind fun r1 =>
  some (decide (r1.1 ≥ (0 : Int)), ())
noncomputable def conkContainsFunc_SSOp_SOp_iprogsOk_1 (N : Nat) : Con := { f := 152, din := dinkContainsFunc_SSOp_SOp_iprogsOk_1, outs := outkContainsFunc_SSOp_SOp_iprogsOk_1, F := FkContainsFunc_SSOp_SOp_iprogsOk_1 N }
noncomputable def XkContainsFunc_SSOp_SOp_iprogsOk_1 (N : Nat) : Ctx := { E := EkContainsFunc_SSOp_SOp_iprogsOk_1 N, H := HkContainsFunc_SSOp_SOp_iprogsOk_1, lp := [], jn := [] }
theorem FkContainsFunc_SSOp_SOp_iprogsOk_1_eq (N : Nat) (x : ((List (List (Int × (Int × (Int × (Int × (Int × (Int × ((Int × (Int × Unit)) × Unit))))))))) × Unit)) : evFn (XkContainsFunc_SSOp_SOp_iprogsOk_1 N) Try.f152 dinkContainsFunc_SSOp_SOp_iprogsOk_1 outkContainsFunc_SSOp_SOp_iprogsOk_1 x = FkContainsFunc_SSOp_SOp_iprogsOk_1 N x := by kernel_rfl
theorem cxkContainsFunc_SSOp_SOp_iprogsOk_1 (N : Nat) : CtxOk Try.prog (XkContainsFunc_SSOp_SOp_iprogsOk_1 N) := ⟨⟨TE_ok, List.forall_mem_cons.2 ⟨(speckIndexFunc_SSOp_SOp_iprogsOk_1 N), fun k hk => absurd hk List.not_mem_nil⟩⟩, mixed⟩
theorem speckContainsFunc_SSOp_SOp_iprogsOk_1 (N : Nat) : Spec Try.prog (conkContainsFunc_SSOp_SOp_iprogsOk_1 N) :=
  Spec.of_eq (fn_spec (cxkContainsFunc_SSOp_SOp_iprogsOk_1 N) (f := 152) (fn := Try.f152) (c := codeOf Try.f152) (by kernel_rfl) (by kernel_rfl) (by kernel_rfl) (loops_at (ids := []) (by kernel_rfl) (trivial)) (by kernel_rfl)) (fun x r h => (FkContainsFunc_SSOp_SOp_iprogsOk_1_eq N x).trans h)

/-! ### 138: impl.progsOk -/

noncomputable def diniprogsOk : Desc := { n := 2, regs := [.one (.val (.pair (.int .i64) (.pair (.int .i64) (.pair (.int .i64) .unit)))), .one (.val (.sl (.sl (.pair (.int .i64) (.pair (.int .i64) (.pair (.int .i64) (.pair (.int .i64) (.pair (.int .i64) (.pair (.int .i64) (.pair (.pair (.int .i64) (.pair (.int .i64) .unit)) .unit))))))))))], bx := [], pins := [] }
noncomputable def outiprogsOk : Outs := [(.ret, { n := 1, regs := [.one (.val .bool)], bx := [], pins := [] })]
noncomputable def HiprogsOk : Hints := [(0, [(0, { fz := true })]),
  (1, [(11, { con := 1 })])]
noncomputable def EiprogsOk (N : Nat) : Env := { te := TE, cs := [coniConfigOk N, conkContainsFunc_SSOp_SOp_iprogsOk_1 N] }
noncomputable def FiprogsOk (N : Nat) (x : ((Int × (Int × (Int × Unit))) × ((List (List (Int × (Int × (Int × (Int × (Int × (Int × ((Int × (Int × Unit)) × Unit))))))))) × Unit))) : Option (Bool × Unit) :=
  (FiConfigOk N (x.1, ())).bind fun r1 =>
  bif r1.1 then
   bif (x.2.1.length : Int) == x.1.2.1 then
    (FkContainsFunc_SSOp_SOp_iprogsOk_1 N (x.2.1, ())).bind fun r2 =>
    some (!r2.1, ())
   else
   some (false, ())
  else
  some (false, ())
noncomputable def coniprogsOk (N : Nat) : Con := { f := 138, din := diniprogsOk, outs := outiprogsOk, F := FiprogsOk N }
noncomputable def XiprogsOk (N : Nat) : Ctx := { E := EiprogsOk N, H := HiprogsOk, lp := [], jn := [] }
theorem FiprogsOk_eq (N : Nat) (x : ((Int × (Int × (Int × Unit))) × ((List (List (Int × (Int × (Int × (Int × (Int × (Int × ((Int × (Int × Unit)) × Unit))))))))) × Unit))) : evFn (XiprogsOk N) Try.f138 diniprogsOk outiprogsOk x = FiprogsOk N x := by kernel_rfl
theorem cxiprogsOk (N : Nat) : CtxOk Try.prog (XiprogsOk N) := ⟨⟨TE_ok, List.forall_mem_cons.2 ⟨(speciConfigOk N), List.forall_mem_cons.2 ⟨(speckContainsFunc_SSOp_SOp_iprogsOk_1 N), fun k hk => absurd hk List.not_mem_nil⟩⟩⟩, mixed⟩
theorem speciprogsOk (N : Nat) : Spec Try.prog (coniprogsOk N) :=
  Spec.of_eq (fn_spec (cxiprogsOk N) (f := 138) (fn := Try.f138) (c := codeOf Try.f138) (by kernel_rfl) (by kernel_rfl) (by kernel_rfl) (loops_at (ids := []) (by kernel_rfl) (trivial)) (by kernel_rfl)) (fun x r h => (FiprogsOk_eq N x).trans h)

end Go.Fl

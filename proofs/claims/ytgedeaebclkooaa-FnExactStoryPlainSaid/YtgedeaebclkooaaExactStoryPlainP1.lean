/- Proved: for every input the law FnExactStoryPlain returns true and leaves its arguments as they were. Part 1: the functions that the law reaches, as plain functions, and plain laws about them; no conditions. -/
import Derived.Test.YtgedeaebclkooaaK3
import Derived.Test.YtgedeaebclkooaaProg
set_option linter.all false
set_option maxRecDepth 100000
set_option linter.all false
namespace Go.Fl
open Go Go.Proofs
noncomputable def TE : List (Nat × Ty) := [(3, (.int .i64)),
  (4, .bool),
  (23, (.sl (.pair (.sl (.int .i64)) (.pair (.sl (.int .i64)) .unit)))),
  (24, (.sl (.sl (.int .i64)))),
  (25, (.sl (.int .i64))),
  (27, (.pair (.sl (.pair (.sl (.int .i64)) (.pair (.sl (.int .i64)) .unit))) (.pair (.sl (.sl (.int .i64))) (.pair (.sl (.int .i64)) .unit)))),
  (29, (.pair (.int .i64) (.pair (.int .i64) .unit))),
  (31, (.pair (.int .i64) (.pair (.int .i64) (.pair (.int .i64) (.pair (.int .i64) (.pair (.int .i64) (.pair (.int .i64) (.pair (.pair (.int .i64) (.pair (.int .i64) .unit)) .unit)))))))),
  (40, (.pair (.sl (.int .i64)) (.pair (.sl (.int .i64)) .unit))),
  (47, (.pair (.int .i64) (.pair (.int .i64) (.pair (.int .i64) .unit)))),
  (48, (.sl (.sl (.pair (.int .i64) (.pair (.int .i64) (.pair (.int .i64) (.pair (.int .i64) (.pair (.int .i64) (.pair (.int .i64) (.pair (.pair (.int .i64) (.pair (.int .i64) .unit)) .unit)))))))))),
  (49, (.sl (.pair (.int .i64) (.pair (.int .i64) (.pair (.int .i64) (.pair (.int .i64) .unit)))))),
  (52, (.sl (.pair (.int .i64) (.pair (.int .i64) (.pair (.int .i64) (.pair (.int .i64) .unit)))))),
  (55, (.pair (.int .i64) (.pair (.int .i64) (.pair (.int .i64) .unit)))),
  (57, (.sl (.sl (.pair (.int .i64) (.pair (.int .i64) (.pair (.int .i64) (.pair (.int .i64) (.pair (.int .i64) (.pair (.int .i64) (.pair (.pair (.int .i64) (.pair (.int .i64) .unit)) .unit)))))))))),
  (93, (.sl (.pair (.int .i64) (.pair (.int .i64) (.pair (.int .i64) (.pair (.int .i64) (.pair (.int .i64) (.pair (.int .i64) (.pair (.pair (.int .i64) (.pair (.int .i64) .unit)) .unit))))))))),
  (98, (.pair (.int .i64) (.pair (.int .i64) (.pair (.int .i64) (.pair (.int .i64) .unit))))),
  (99, (.sl (.pair (.int .i64) (.pair (.int .i64) (.pair (.int .i64) (.pair (.int .i64) (.pair (.int .i64) (.pair (.int .i64) (.pair (.pair (.int .i64) (.pair (.int .i64) .unit)) .unit))))))))),
  (102, (.pair (.int .i64) (.pair (.int .i64) (.pair (.int .i64) (.pair (.int .i64) .unit))))),
  (122, (.pair (.int .i64) (.pair (.int .i64) .unit))),
  (124, (.pair (.int .i64) (.pair (.int .i64) (.pair (.int .i64) (.pair (.int .i64) (.pair (.int .i64) (.pair (.int .i64) (.pair (.pair (.int .i64) (.pair (.int .i64) .unit)) .unit)))))))),
  (129, (.int .u64)),
  (139, (.int .u64))]
theorem TE_ok : TyOk Try.prog TE := tysB_spec (by kernel_rfl)
theorem mixed : Try.prog.follows .mixedOrders = true := by kernel_rfl

/-! ### 67: laws.szOpS -/

noncomputable def dinvszOpS : Desc := { n := 2, regs := [.one (.val (.sl (.pair (.int .i64) (.pair (.int .i64) (.pair (.int .i64) (.pair (.int .i64) (.pair (.int .i64) (.pair (.int .i64) (.pair (.pair (.int .i64) (.pair (.int .i64) .unit)) .unit))))))))), .one (.val (.int .i64))], bx := [], pins := [] }
noncomputable def outvszOpS : Outs := [(.ret, { n := 1, regs := [.one (.val (.int .i64))], bx := [], pins := [] })]
noncomputable def HvszOpS : Hints := []
noncomputable def EvszOpS (_N : Nat) : Env := { te := TE, cs := [] }
noncomputable def FvszOpS (N : Nat) (x : ((List (Int × (Int × (Int × (Int × (Int × (Int × ((Int × (Int × Unit)) × Unit)))))))) × (Int × Unit))) : Option (Int × Unit) :=
  let y1 := decide ((w64 (x.2.1 - (x.1.length : Int))) < (0 : Int))
  bif y1 then
   some ((-1 : Int), ())
  else
  some (w64 (x.2.1 - (x.1.length : Int)), ())
noncomputable def convszOpS (N : Nat) : Con := { f := 67, din := dinvszOpS, outs := outvszOpS, F := FvszOpS N }
noncomputable def XvszOpS (N : Nat) : Ctx := { E := EvszOpS N, H := HvszOpS, lp := [], jn := [] }
theorem FvszOpS_eq (N : Nat) (x : ((List (Int × (Int × (Int × (Int × (Int × (Int × ((Int × (Int × Unit)) × Unit)))))))) × (Int × Unit))) : evFn (XvszOpS N) Try.f67 dinvszOpS outvszOpS x = FvszOpS N x := by kernel_rfl
theorem cxvszOpS (N : Nat) : CtxOk Try.prog (XvszOpS N) := ⟨⟨TE_ok, fun k hk => absurd hk List.not_mem_nil⟩, mixed⟩
theorem specvszOpS (N : Nat) : Spec Try.prog (convszOpS N) :=
  Spec.of_eq (fn_spec (cxvszOpS N) (f := 67) (fn := Try.f67) (c := codeOf Try.f67) (by kernel_rfl) (by kernel_rfl) (by kernel_rfl) (loops_at (ids := []) (by kernel_rfl) (trivial)) (by kernel_rfl)) (fun x r h => (FvszOpS_eq N x).trans h)

/-! ### 23: laws.szOpSS -/

noncomputable def dinvszOpSS : Desc := { n := 2, regs := [.one (.val (.sl (.sl (.pair (.int .i64) (.pair (.int .i64) (.pair (.int .i64) (.pair (.int .i64) (.pair (.int .i64) (.pair (.int .i64) (.pair (.pair (.int .i64) (.pair (.int .i64) .unit)) .unit)))))))))), .one (.val (.int .i64))], bx := [], pins := [] }
noncomputable def outvszOpSS : Outs := [(.ret, { n := 1, regs := [.one (.val (.int .i64))], bx := [], pins := [] })]
noncomputable def HvszOpSS : Hints := []
noncomputable def EvszOpSS (N : Nat) : Env := { te := TE, cs := [convszOpS N] }
noncomputable def dvszOpSS_0 : Desc := { n := 27, regs := [.one (.val (.sl (.sl (.pair (.int .i64) (.pair (.int .i64) (.pair (.int .i64) (.pair (.int .i64) (.pair (.int .i64) (.pair (.int .i64) (.pair (.pair (.int .i64) (.pair (.int .i64) .unit)) .unit)))))))))), .one (.val (.int .i64)), u, u, u, .one (.val (.int .i64))], bx := [], pins := [] }
noncomputable def ovszOpSS_0 : Outs := [(.exit 0, { n := 27, regs := [u, .one (.val (.int .i64))], bx := [], pins := [] }), (.ret, { n := 27, regs := [u, u, u, u, .one (.val (.int .i64))], bx := [], pins := [] })]
noncomputable def lvszOpSS_0 (N : Nat) : Nat → ((List (List (Int × (Int × (Int × (Int × (Int × (Int × ((Int × (Int × Unit)) × Unit))))))))) × (Int × (Int × Unit))) → Option ((Int × Unit) ⊕ (Int × Unit))
  | 0, _ => none
  | n + 1, v =>
    let y2 := decide (v.2.2.1 < (v.1.length : Int))
    bif y2 then
     bif decide (0 ≤ v.2.2.1) then
     bif decide (v.2.2.1.toNat < v.1.length) then
     let y3 := v.1.getD v.2.2.1.toNat ([] : (List (Int × (Int × (Int × (Int × (Int × (Int × ((Int × (Int × Unit)) × Unit)))))))))
     (FvszOpS N (y3, v.2.1, ())).bind fun r4 =>
     bif decide (r4.1 < (0 : Int)) then
      some (.inr (((-1 : Int), ())))
     else
     lvszOpSS_0 N n (v.1, r4.1, w64 (v.2.2.1 + (1 : Int)), ())
     else none
     else none
    else
    some (.inl (v.2.1, ()))
noncomputable def FvszOpSS (N : Nat) (x : ((List (List (Int × (Int × (Int × (Int × (Int × (Int × ((Int × (Int × Unit)) × Unit))))))))) × (Int × Unit))) : Option (Int × Unit) :=
  let y1 := decide ((w64 (x.2.1 - (x.1.length : Int))) < (0 : Int))
  bif y1 then
   some ((-1 : Int), ())
  else
  (lvszOpSS_0 N N (x.1, w64 (x.2.1 - (x.1.length : Int)), (0 : Int), ())).bind fun o5 =>
  Sum.elim (fun o6 =>
   some (o6.1, ())) (fun o7 =>
   some (o7.1, ())) o5
noncomputable def convszOpSS (N : Nat) : Con := { f := 23, din := dinvszOpSS, outs := outvszOpSS, F := FvszOpSS N }
noncomputable def XvszOpSS (N : Nat) : Ctx := { E := EvszOpSS N, H := HvszOpSS, lp := [(0, { hd := dvszOpSS_0, outs := ovszOpSS_0, run := fun v => lvszOpSS_0 N N v })], jn := [] }
noncomputable def bvszOpSS_0 : Code := loopBody (codeOf Try.f23) 0
theorem FvszOpSS_eq (N : Nat) (x : ((List (List (Int × (Int × (Int × (Int × (Int × (Int × ((Int × (Int × Unit)) × Unit))))))))) × (Int × Unit))) : evFn (XvszOpSS N) Try.f23 dinvszOpSS outvszOpSS x = FvszOpSS N x := by kernel_rfl
theorem lvszOpSS_0_eq (N n : Nat) (v : ((List (List (Int × (Int × (Int × (Int × (Int × (Int × ((Int × (Int × Unit)) × Unit))))))))) × (Int × (Int × Unit)))) : lvszOpSS_0 N (n + 1) v = ev (XvszOpSS N) bvszOpSS_0 (roundK dvszOpSS_0 ovszOpSS_0 (lvszOpSS_0 N n)) (dvszOpSS_0.mk' v) := by kernel_rfl
theorem cxvszOpSS (N : Nat) : CtxOk Try.prog (XvszOpSS N) := ⟨⟨TE_ok, List.forall_mem_cons.2 ⟨specvszOpS N, fun k hk => absurd hk List.not_mem_nil⟩⟩, mixed⟩
theorem lpvszOpSS_0 (N : Nat) : LoopOk Try.prog { hd := dvszOpSS_0, outs := ovszOpSS_0, run := fun v => lvszOpSS_0 N N v } bvszOpSS_0 :=
  loop_fuel (d := dvszOpSS_0) (os := ovszOpSS_0) (cxvszOpSS N) (loops_at (ids := []) (by kernel_rfl) (trivial)) (lvszOpSS_0 N) (fun _ => rfl) (fun n v => lvszOpSS_0_eq N n v) (fun _ => N)
theorem specvszOpSS (N : Nat) : Spec Try.prog (convszOpSS N) :=
  Spec.of_eq (fn_spec (cxvszOpSS N) (f := 23) (fn := Try.f23) (c := codeOf Try.f23) (by kernel_rfl) (by kernel_rfl) (by kernel_rfl) (loops_at (ids := [0]) (by kernel_rfl) ⟨lp_of (lpvszOpSS_0 N), trivial⟩) (by kernel_rfl)) (fun x r h => (FvszOpSS_eq N x).trans h)

/-! ### 24: laws.szEventS -/

noncomputable def dinvszEventS : Desc := { n := 2, regs := [.one (.val (.sl (.pair (.int .i64) (.pair (.int .i64) (.pair (.int .i64) (.pair (.int .i64) .unit)))))), .one (.val (.int .i64))], bx := [], pins := [] }
noncomputable def outvszEventS : Outs := [(.ret, { n := 1, regs := [.one (.val (.int .i64))], bx := [], pins := [] })]
noncomputable def HvszEventS : Hints := []
noncomputable def EvszEventS (_N : Nat) : Env := { te := TE, cs := [] }
noncomputable def FvszEventS (N : Nat) (x : ((List (Int × (Int × (Int × (Int × Unit))))) × (Int × Unit))) : Option (Int × Unit) :=
  let y1 := decide ((w64 (x.2.1 - (x.1.length : Int))) < (0 : Int))
  bif y1 then
   some ((-1 : Int), ())
  else
  some (w64 (x.2.1 - (x.1.length : Int)), ())
noncomputable def convszEventS (N : Nat) : Con := { f := 24, din := dinvszEventS, outs := outvszEventS, F := FvszEventS N }
noncomputable def XvszEventS (N : Nat) : Ctx := { E := EvszEventS N, H := HvszEventS, lp := [], jn := [] }
theorem FvszEventS_eq (N : Nat) (x : ((List (Int × (Int × (Int × (Int × Unit))))) × (Int × Unit))) : evFn (XvszEventS N) Try.f24 dinvszEventS outvszEventS x = FvszEventS N x := by kernel_rfl
theorem cxvszEventS (N : Nat) : CtxOk Try.prog (XvszEventS N) := ⟨⟨TE_ok, fun k hk => absurd hk List.not_mem_nil⟩, mixed⟩
theorem specvszEventS (N : Nat) : Spec Try.prog (convszEventS N) :=
  Spec.of_eq (fn_spec (cxvszEventS N) (f := 24) (fn := Try.f24) (c := codeOf Try.f24) (by kernel_rfl) (by kernel_rfl) (by kernel_rfl) (loops_at (ids := []) (by kernel_rfl) (trivial)) (by kernel_rfl)) (fun x r h => (FvszEventS_eq N x).trans h)

/-! ### 26: laws.toConfig -/

noncomputable def dinvtoConfig : Desc := { n := 1, regs := [.one (.val (.pair (.int .i64) (.pair (.int .i64) (.pair (.int .i64) .unit))))], bx := [], pins := [] }
noncomputable def outvtoConfig : Outs := [(.ret, { n := 1, regs := [.agg [.val (.int .i64), .val (.int .i64), .val (.int .i64)]], bx := [], pins := [] })]
noncomputable def HvtoConfig : Hints := [(0, [(0, { fz := true })])]
noncomputable def EvtoConfig (_N : Nat) : Env := { te := TE, cs := [] }
noncomputable def FvtoConfig (N : Nat) (x : ((Int × (Int × (Int × Unit))) × Unit)) : Option (Int × (Int × (Int × Unit))) :=
  some (x.1.1, x.1.2.1, x.1.2.2.1, ())
noncomputable def convtoConfig (N : Nat) : Con := { f := 26, din := dinvtoConfig, outs := outvtoConfig, F := FvtoConfig N }
noncomputable def XvtoConfig (N : Nat) : Ctx := { E := EvtoConfig N, H := HvtoConfig, lp := [], jn := [] }
theorem FvtoConfig_eq (N : Nat) (x : ((Int × (Int × (Int × Unit))) × Unit)) : evFn (XvtoConfig N) Try.f26 dinvtoConfig outvtoConfig x = FvtoConfig N x := by kernel_rfl
theorem cxvtoConfig (N : Nat) : CtxOk Try.prog (XvtoConfig N) := ⟨⟨TE_ok, fun k hk => absurd hk List.not_mem_nil⟩, mixed⟩
theorem specvtoConfig (N : Nat) : Spec Try.prog (convtoConfig N) :=
  Spec.of_eq (fn_spec (cxvtoConfig N) (f := 26) (fn := Try.f26) (c := codeOf Try.f26) (by kernel_rfl) (by kernel_rfl) (by kernel_rfl) (loops_at (ids := []) (by kernel_rfl) (trivial)) (by kernel_rfl)) (fun x r h => (FvtoConfig_eq N x).trans h)

/-! ### 108: laws.toShape -/

noncomputable def dinvtoShape : Desc := { n := 1, regs := [.one (.val (.pair (.int .i64) (.pair (.int .i64) .unit)))], bx := [], pins := [] }
noncomputable def outvtoShape : Outs := [(.ret, { n := 1, regs := [.agg [.val (.int .i64), .val (.int .i64)]], bx := [], pins := [] })]
noncomputable def HvtoShape : Hints := [(0, [(0, { fz := true })])]
noncomputable def EvtoShape (_N : Nat) : Env := { te := TE, cs := [] }
noncomputable def FvtoShape (N : Nat) (x : ((Int × (Int × Unit)) × Unit)) : Option (Int × (Int × Unit)) :=
  some (x.1.1, x.1.2.1, ())
noncomputable def convtoShape (N : Nat) : Con := { f := 108, din := dinvtoShape, outs := outvtoShape, F := FvtoShape N }
noncomputable def XvtoShape (N : Nat) : Ctx := { E := EvtoShape N, H := HvtoShape, lp := [], jn := [] }
theorem FvtoShape_eq (N : Nat) (x : ((Int × (Int × Unit)) × Unit)) : evFn (XvtoShape N) Try.f108 dinvtoShape outvtoShape x = FvtoShape N x := by kernel_rfl
theorem cxvtoShape (N : Nat) : CtxOk Try.prog (XvtoShape N) := ⟨⟨TE_ok, fun k hk => absurd hk List.not_mem_nil⟩, mixed⟩
theorem specvtoShape (N : Nat) : Spec Try.prog (convtoShape N) :=
  Spec.of_eq (fn_spec (cxvtoShape N) (f := 108) (fn := Try.f108) (c := codeOf Try.f108) (by kernel_rfl) (by kernel_rfl) (by kernel_rfl) (loops_at (ids := []) (by kernel_rfl) (trivial)) (by kernel_rfl)) (fun x r h => (FvtoShape_eq N x).trans h)

/-! ### 99: laws.toOp -/

noncomputable def dinvtoOp : Desc := { n := 1, regs := [.one (.val (.pair (.int .i64) (.pair (.int .i64) (.pair (.int .i64) (.pair (.int .i64) (.pair (.int .i64) (.pair (.int .i64) (.pair (.pair (.int .i64) (.pair (.int .i64) .unit)) .unit))))))))], bx := [], pins := [] }
noncomputable def outvtoOp : Outs := [(.ret, { n := 1, regs := [.agg [.val (.int .i64), .val (.int .i64), .val (.int .i64), .val (.int .i64), .val (.int .i64), .val (.int .i64), .val (.int .i64), .val (.int .i64)]], bx := [], pins := [] })]
noncomputable def HvtoOp : Hints := [(0, [(0, { fz := true })])]
noncomputable def EvtoOp (N : Nat) : Env := { te := TE, cs := [convtoShape N] }
noncomputable def FvtoOp (N : Nat) (x : ((Int × (Int × (Int × (Int × (Int × (Int × ((Int × (Int × Unit)) × Unit))))))) × Unit)) : Option (Int × (Int × (Int × (Int × (Int × (Int × (Int × (Int × Unit)))))))) :=
  (FvtoShape N (x.1.2.2.2.2.2.2.1, ())).bind fun r1 =>
  some (x.1.1, x.1.2.1, x.1.2.2.1, x.1.2.2.2.1, x.1.2.2.2.2.1, x.1.2.2.2.2.2.1, r1.1, r1.2.1, ())
noncomputable def convtoOp (N : Nat) : Con := { f := 99, din := dinvtoOp, outs := outvtoOp, F := FvtoOp N }
noncomputable def XvtoOp (N : Nat) : Ctx := { E := EvtoOp N, H := HvtoOp, lp := [], jn := [] }
theorem FvtoOp_eq (N : Nat) (x : ((Int × (Int × (Int × (Int × (Int × (Int × ((Int × (Int × Unit)) × Unit))))))) × Unit)) : evFn (XvtoOp N) Try.f99 dinvtoOp outvtoOp x = FvtoOp N x := by kernel_rfl
theorem cxvtoOp (N : Nat) : CtxOk Try.prog (XvtoOp N) := ⟨⟨TE_ok, List.forall_mem_cons.2 ⟨specvtoShape N, fun k hk => absurd hk List.not_mem_nil⟩⟩, mixed⟩
theorem specvtoOp (N : Nat) : Spec Try.prog (convtoOp N) :=
  Spec.of_eq (fn_spec (cxvtoOp N) (f := 99) (fn := Try.f99) (c := codeOf Try.f99) (by kernel_rfl) (by kernel_rfl) (by kernel_rfl) (loops_at (ids := []) (by kernel_rfl) (trivial)) (by kernel_rfl)) (fun x r h => (FvtoOp_eq N x).trans h)

/-! ### 70: laws.toOpS -/

noncomputable def dinvtoOpS : Desc := { n := 1, regs := [.one (.val (.sl (.pair (.int .i64) (.pair (.int .i64) (.pair (.int .i64) (.pair (.int .i64) (.pair (.int .i64) (.pair (.int .i64) (.pair (.pair (.int .i64) (.pair (.int .i64) .unit)) .unit)))))))))], bx := [], pins := [] }
noncomputable def outvtoOpS : Outs := [(.ret, { n := 1, regs := [.one (.lit (.row 1012928))], bx := [(1012928, .row (.pair (.int .i64) (.pair (.int .i64) (.pair (.int .i64) (.pair (.int .i64) (.pair (.int .i64) (.pair (.int .i64) (.pair (.pair (.int .i64) (.pair (.int .i64) .unit)) .unit))))))))], pins := [] })]
noncomputable def HvtoOpS : Hints := []
noncomputable def EvtoOpS (N : Nat) : Env := { te := TE, cs := [convtoOp N] }
noncomputable def dvtoOpS_0 : Desc := { n := 23, regs := [.one (.val (.sl (.pair (.int .i64) (.pair (.int .i64) (.pair (.int .i64) (.pair (.int .i64) (.pair (.int .i64) (.pair (.int .i64) (.pair (.pair (.int .i64) (.pair (.int .i64) .unit)) .unit))))))))), u, u, .one (.lit (.row 1012928)), .one (.val (.int .i64))], bx := [(1012928, .row (.pair (.int .i64) (.pair (.int .i64) (.pair (.int .i64) (.pair (.int .i64) (.pair (.int .i64) (.pair (.int .i64) (.pair (.pair (.int .i64) (.pair (.int .i64) .unit)) .unit))))))))], pins := [] }
noncomputable def ovtoOpS_0 : Outs := [(.exit 0, { n := 23, regs := [u, u, u, .one (.lit (.row 1012928))], bx := [(1012928, .row (.pair (.int .i64) (.pair (.int .i64) (.pair (.int .i64) (.pair (.int .i64) (.pair (.int .i64) (.pair (.int .i64) (.pair (.pair (.int .i64) (.pair (.int .i64) .unit)) .unit))))))))], pins := [] })]
noncomputable def lvtoOpS_0 (N : Nat) : Nat → ((List (Int × (Int × (Int × (Int × (Int × (Int × ((Int × (Int × Unit)) × Unit)))))))) × (Int × ((List (Int × (Int × (Int × (Int × (Int × (Int × ((Int × (Int × Unit)) × Unit)))))))) × Unit))) → Option ((List (Int × (Int × (Int × (Int × (Int × (Int × ((Int × (Int × Unit)) × Unit)))))))) × Unit)
  | 0, _ => none
  | n + 1, v =>
    bif decide (v.2.1 < (v.1.length : Int)) then
     bif decide (0 ≤ v.2.1) then
     bif decide (v.2.1.toNat < v.1.length) then
     let y2 := v.1.getD v.2.1.toNat ((0 : Int), (0 : Int), (0 : Int), (0 : Int), (0 : Int), (0 : Int), ((0 : Int), (0 : Int), ()), ())
     (FvtoOp N (y2, ())).bind fun r3 =>
     bif decide (0 ≤ v.2.1) then
     bif decide (v.2.1.toNat < v.2.2.1.length) then
     let y4 := v.2.2.1.set v.2.1.toNat (r3.1, r3.2.1, r3.2.2.1, r3.2.2.2.1, r3.2.2.2.2.1, r3.2.2.2.2.2.1, (r3.2.2.2.2.2.2.1, r3.2.2.2.2.2.2.2.1, ()), ())
     lvtoOpS_0 N n (v.1, w64 (v.2.1 + (1 : Int)), y4, ())
     else none
     else none
     else none
     else none
    else
    some (v.2.2.1, ())
noncomputable def FvtoOpS (N : Nat) (x : ((List (Int × (Int × (Int × (Int × (Int × (Int × ((Int × (Int × Unit)) × Unit)))))))) × Unit)) : Option ((List (Int × (Int × (Int × (Int × (Int × (Int × ((Int × (Int × Unit)) × Unit)))))))) × Unit) :=
  bif decide (0 ≤ (x.1.length : Int)) then
  bif decide ((x.1.length : Int).toNat ≤ lim) then
  let y1 := List.replicate (x.1.length : Int).toNat ((0 : Int), (0 : Int), (0 : Int), (0 : Int), (0 : Int), (0 : Int), ((0 : Int), (0 : Int), ()), ())
  (lvtoOpS_0 N N (x.1, (0 : Int), y1, ())).bind fun o5 =>
  some (o5.1, ())
  else none
  else none
noncomputable def convtoOpS (N : Nat) : Con := { f := 70, din := dinvtoOpS, outs := outvtoOpS, F := FvtoOpS N }
noncomputable def XvtoOpS (N : Nat) : Ctx := { E := EvtoOpS N, H := HvtoOpS, lp := [(0, { hd := dvtoOpS_0, outs := ovtoOpS_0, run := fun v => lvtoOpS_0 N N v })], jn := [] }
noncomputable def bvtoOpS_0 : Code := loopBody (codeOf Try.f70) 0
theorem FvtoOpS_eq (N : Nat) (x : ((List (Int × (Int × (Int × (Int × (Int × (Int × ((Int × (Int × Unit)) × Unit)))))))) × Unit)) : evFn (XvtoOpS N) Try.f70 dinvtoOpS outvtoOpS x = FvtoOpS N x := by kernel_rfl
theorem lvtoOpS_0_eq (N n : Nat) (v : ((List (Int × (Int × (Int × (Int × (Int × (Int × ((Int × (Int × Unit)) × Unit)))))))) × (Int × ((List (Int × (Int × (Int × (Int × (Int × (Int × ((Int × (Int × Unit)) × Unit)))))))) × Unit)))) : lvtoOpS_0 N (n + 1) v = ev (XvtoOpS N) bvtoOpS_0 (roundK dvtoOpS_0 ovtoOpS_0 (lvtoOpS_0 N n)) (dvtoOpS_0.mk' v) := by kernel_rfl
theorem cxvtoOpS (N : Nat) : CtxOk Try.prog (XvtoOpS N) := ⟨⟨TE_ok, List.forall_mem_cons.2 ⟨specvtoOp N, fun k hk => absurd hk List.not_mem_nil⟩⟩, mixed⟩
theorem lpvtoOpS_0 (N : Nat) : LoopOk Try.prog { hd := dvtoOpS_0, outs := ovtoOpS_0, run := fun v => lvtoOpS_0 N N v } bvtoOpS_0 :=
  loop_fuel (d := dvtoOpS_0) (os := ovtoOpS_0) (cxvtoOpS N) (loops_at (ids := []) (by kernel_rfl) (trivial)) (lvtoOpS_0 N) (fun _ => rfl) (fun n v => lvtoOpS_0_eq N n v) (fun _ => N)
theorem specvtoOpS (N : Nat) : Spec Try.prog (convtoOpS N) :=
  Spec.of_eq (fn_spec (cxvtoOpS N) (f := 70) (fn := Try.f70) (c := codeOf Try.f70) (by kernel_rfl) (by kernel_rfl) (by kernel_rfl) (loops_at (ids := [0]) (by kernel_rfl) ⟨lp_of (lpvtoOpS_0 N), trivial⟩) (by kernel_rfl)) (fun x r h => (FvtoOpS_eq N x).trans h)

/-! ### 27: laws.toOpSS -/

noncomputable def dinvtoOpSS : Desc := { n := 1, regs := [.one (.val (.sl (.sl (.pair (.int .i64) (.pair (.int .i64) (.pair (.int .i64) (.pair (.int .i64) (.pair (.int .i64) (.pair (.int .i64) (.pair (.pair (.int .i64) (.pair (.int .i64) .unit)) .unit))))))))))], bx := [], pins := [] }
noncomputable def outvtoOpSS : Outs := [(.ret, { n := 1, regs := [.one (.lit (.row 1012928))], bx := [(1012928, .row (.sl (.pair (.int .i64) (.pair (.int .i64) (.pair (.int .i64) (.pair (.int .i64) (.pair (.int .i64) (.pair (.int .i64) (.pair (.pair (.int .i64) (.pair (.int .i64) .unit)) .unit)))))))))], pins := [] })]
noncomputable def HvtoOpSS : Hints := [(1, [(2, { dp := true })])]
noncomputable def EvtoOpSS (N : Nat) : Env := { te := TE, cs := [convtoOpS N] }
noncomputable def dvtoOpSS_0 : Desc := { n := 23, regs := [.one (.val (.sl (.sl (.pair (.int .i64) (.pair (.int .i64) (.pair (.int .i64) (.pair (.int .i64) (.pair (.int .i64) (.pair (.int .i64) (.pair (.pair (.int .i64) (.pair (.int .i64) .unit)) .unit)))))))))), u, u, .one (.lit (.row 1012928)), .one (.val (.int .i64))], bx := [(1012928, .row (.sl (.pair (.int .i64) (.pair (.int .i64) (.pair (.int .i64) (.pair (.int .i64) (.pair (.int .i64) (.pair (.int .i64) (.pair (.pair (.int .i64) (.pair (.int .i64) .unit)) .unit)))))))))], pins := [] }
noncomputable def ovtoOpSS_0 : Outs := [(.exit 0, { n := 23, regs := [u, u, u, .one (.lit (.row 1012928))], bx := [(1012928, .row (.sl (.pair (.int .i64) (.pair (.int .i64) (.pair (.int .i64) (.pair (.int .i64) (.pair (.int .i64) (.pair (.int .i64) (.pair (.pair (.int .i64) (.pair (.int .i64) .unit)) .unit)))))))))], pins := [] })]
noncomputable def lvtoOpSS_0 (N : Nat) : Nat → ((List (List (Int × (Int × (Int × (Int × (Int × (Int × ((Int × (Int × Unit)) × Unit))))))))) × (Int × ((List (List (Int × (Int × (Int × (Int × (Int × (Int × ((Int × (Int × Unit)) × Unit))))))))) × Unit))) → Option ((List (List (Int × (Int × (Int × (Int × (Int × (Int × ((Int × (Int × Unit)) × Unit))))))))) × Unit)
  | 0, _ => none
  | n + 1, v =>
    bif decide (v.2.1 < (v.1.length : Int)) then
     bif decide (0 ≤ v.2.1) then
     bif decide (v.2.1.toNat < v.1.length) then
     let y2 := v.1.getD v.2.1.toNat ([] : (List (Int × (Int × (Int × (Int × (Int × (Int × ((Int × (Int × Unit)) × Unit)))))))))
     (FvtoOpS N (y2, ())).bind fun r3 =>
     bif decide (0 ≤ v.2.1) then
     bif decide (v.2.1.toNat < v.2.2.1.length) then
     lvtoOpSS_0 N n (v.1, w64 (v.2.1 + (1 : Int)), v.2.2.1.set v.2.1.toNat r3.1, ())
     else none
     else none
     else none
     else none
    else
    some (v.2.2.1, ())
noncomputable def FvtoOpSS (N : Nat) (x : ((List (List (Int × (Int × (Int × (Int × (Int × (Int × ((Int × (Int × Unit)) × Unit))))))))) × Unit)) : Option ((List (List (Int × (Int × (Int × (Int × (Int × (Int × ((Int × (Int × Unit)) × Unit))))))))) × Unit) :=
  bif decide (0 ≤ (x.1.length : Int)) then
  bif decide ((x.1.length : Int).toNat ≤ lim) then
  let y1 := List.replicate (x.1.length : Int).toNat ([] : (List (Int × (Int × (Int × (Int × (Int × (Int × ((Int × (Int × Unit)) × Unit)))))))))
  (lvtoOpSS_0 N N (x.1, (0 : Int), y1, ())).bind fun o4 =>
  some (o4.1, ())
  else none
  else none
noncomputable def convtoOpSS (N : Nat) : Con := { f := 27, din := dinvtoOpSS, outs := outvtoOpSS, F := FvtoOpSS N }
noncomputable def XvtoOpSS (N : Nat) : Ctx := { E := EvtoOpSS N, H := HvtoOpSS, lp := [(0, { hd := dvtoOpSS_0, outs := ovtoOpSS_0, run := fun v => lvtoOpSS_0 N N v })], jn := [] }
noncomputable def bvtoOpSS_0 : Code := loopBody (codeOf Try.f27) 0
theorem FvtoOpSS_eq (N : Nat) (x : ((List (List (Int × (Int × (Int × (Int × (Int × (Int × ((Int × (Int × Unit)) × Unit))))))))) × Unit)) : evFn (XvtoOpSS N) Try.f27 dinvtoOpSS outvtoOpSS x = FvtoOpSS N x := by kernel_rfl
theorem lvtoOpSS_0_eq (N n : Nat) (v : ((List (List (Int × (Int × (Int × (Int × (Int × (Int × ((Int × (Int × Unit)) × Unit))))))))) × (Int × ((List (List (Int × (Int × (Int × (Int × (Int × (Int × ((Int × (Int × Unit)) × Unit))))))))) × Unit)))) : lvtoOpSS_0 N (n + 1) v = ev (XvtoOpSS N) bvtoOpSS_0 (roundK dvtoOpSS_0 ovtoOpSS_0 (lvtoOpSS_0 N n)) (dvtoOpSS_0.mk' v) := by kernel_rfl
theorem cxvtoOpSS (N : Nat) : CtxOk Try.prog (XvtoOpSS N) := ⟨⟨TE_ok, List.forall_mem_cons.2 ⟨specvtoOpS N, fun k hk => absurd hk List.not_mem_nil⟩⟩, mixed⟩
theorem lpvtoOpSS_0 (N : Nat) : LoopOk Try.prog { hd := dvtoOpSS_0, outs := ovtoOpSS_0, run := fun v => lvtoOpSS_0 N N v } bvtoOpSS_0 :=
  loop_fuel (d := dvtoOpSS_0) (os := ovtoOpSS_0) (cxvtoOpSS N) (loops_at (ids := []) (by kernel_rfl) (trivial)) (lvtoOpSS_0 N) (fun _ => rfl) (fun n v => lvtoOpSS_0_eq N n v) (fun _ => N)
theorem specvtoOpSS (N : Nat) : Spec Try.prog (convtoOpSS N) :=
  Spec.of_eq (fn_spec (cxvtoOpSS N) (f := 27) (fn := Try.f27) (c := codeOf Try.f27) (by kernel_rfl) (by kernel_rfl) (by kernel_rfl) (loops_at (ids := [0]) (by kernel_rfl) ⟨lp_of (lpvtoOpSS_0 N), trivial⟩) (by kernel_rfl)) (fun x r h => (FvtoOpSS_eq N x).trans h)

/-! ### 71: laws.toEvent -/

noncomputable def dinvtoEvent : Desc := { n := 1, regs := [.one (.val (.pair (.int .i64) (.pair (.int .i64) (.pair (.int .i64) (.pair (.int .i64) .unit)))))], bx := [], pins := [] }
noncomputable def outvtoEvent : Outs := [(.ret, { n := 1, regs := [.agg [.val (.int .i64), .val (.int .i64), .val (.int .i64), .val (.int .i64)]], bx := [], pins := [] })]
noncomputable def HvtoEvent : Hints := [(0, [(0, { fz := true })])]
noncomputable def EvtoEvent (_N : Nat) : Env := { te := TE, cs := [] }
noncomputable def FvtoEvent (N : Nat) (x : ((Int × (Int × (Int × (Int × Unit)))) × Unit)) : Option (Int × (Int × (Int × (Int × Unit)))) :=
  some (x.1.1, x.1.2.1, x.1.2.2.1, x.1.2.2.2.1, ())
noncomputable def convtoEvent (N : Nat) : Con := { f := 71, din := dinvtoEvent, outs := outvtoEvent, F := FvtoEvent N }
noncomputable def XvtoEvent (N : Nat) : Ctx := { E := EvtoEvent N, H := HvtoEvent, lp := [], jn := [] }
theorem FvtoEvent_eq (N : Nat) (x : ((Int × (Int × (Int × (Int × Unit)))) × Unit)) : evFn (XvtoEvent N) Try.f71 dinvtoEvent outvtoEvent x = FvtoEvent N x := by kernel_rfl
theorem cxvtoEvent (N : Nat) : CtxOk Try.prog (XvtoEvent N) := ⟨⟨TE_ok, fun k hk => absurd hk List.not_mem_nil⟩, mixed⟩
theorem specvtoEvent (N : Nat) : Spec Try.prog (convtoEvent N) :=
  Spec.of_eq (fn_spec (cxvtoEvent N) (f := 71) (fn := Try.f71) (c := codeOf Try.f71) (by kernel_rfl) (by kernel_rfl) (by kernel_rfl) (loops_at (ids := []) (by kernel_rfl) (trivial)) (by kernel_rfl)) (fun x r h => (FvtoEvent_eq N x).trans h)

/-! ### 28: laws.toEventS -/

noncomputable def dinvtoEventS : Desc := { n := 1, regs := [.one (.val (.sl (.pair (.int .i64) (.pair (.int .i64) (.pair (.int .i64) (.pair (.int .i64) .unit))))))], bx := [], pins := [] }
noncomputable def outvtoEventS : Outs := [(.ret, { n := 1, regs := [.one (.lit (.row 1012928))], bx := [(1012928, .row (.pair (.int .i64) (.pair (.int .i64) (.pair (.int .i64) (.pair (.int .i64) .unit)))))], pins := [] })]
noncomputable def HvtoEventS : Hints := []
noncomputable def EvtoEventS (N : Nat) : Env := { te := TE, cs := [convtoEvent N] }
noncomputable def dvtoEventS_0 : Desc := { n := 23, regs := [.one (.val (.sl (.pair (.int .i64) (.pair (.int .i64) (.pair (.int .i64) (.pair (.int .i64) .unit)))))), u, u, .one (.lit (.row 1012928)), .one (.val (.int .i64))], bx := [(1012928, .row (.pair (.int .i64) (.pair (.int .i64) (.pair (.int .i64) (.pair (.int .i64) .unit)))))], pins := [] }
noncomputable def ovtoEventS_0 : Outs := [(.exit 0, { n := 23, regs := [u, u, u, .one (.lit (.row 1012928))], bx := [(1012928, .row (.pair (.int .i64) (.pair (.int .i64) (.pair (.int .i64) (.pair (.int .i64) .unit)))))], pins := [] })]
noncomputable def lvtoEventS_0 (N : Nat) : Nat → ((List (Int × (Int × (Int × (Int × Unit))))) × (Int × ((List (Int × (Int × (Int × (Int × Unit))))) × Unit))) → Option ((List (Int × (Int × (Int × (Int × Unit))))) × Unit)
  | 0, _ => none
  | n + 1, v =>
    bif decide (v.2.1 < (v.1.length : Int)) then
     bif decide (0 ≤ v.2.1) then
     bif decide (v.2.1.toNat < v.1.length) then
     let y2 := v.1.getD v.2.1.toNat ((0 : Int), (0 : Int), (0 : Int), (0 : Int), ())
     (FvtoEvent N (y2, ())).bind fun r3 =>
     bif decide (0 ≤ v.2.1) then
     bif decide (v.2.1.toNat < v.2.2.1.length) then
     let y4 := v.2.2.1.set v.2.1.toNat (r3.1, r3.2.1, r3.2.2.1, r3.2.2.2.1, ())
     lvtoEventS_0 N n (v.1, w64 (v.2.1 + (1 : Int)), y4, ())
     else none
     else none
     else none
     else none
    else
    some (v.2.2.1, ())
noncomputable def FvtoEventS (N : Nat) (x : ((List (Int × (Int × (Int × (Int × Unit))))) × Unit)) : Option ((List (Int × (Int × (Int × (Int × Unit))))) × Unit) :=
  bif decide (0 ≤ (x.1.length : Int)) then
  bif decide ((x.1.length : Int).toNat ≤ lim) then
  let y1 := List.replicate (x.1.length : Int).toNat ((0 : Int), (0 : Int), (0 : Int), (0 : Int), ())
  (lvtoEventS_0 N N (x.1, (0 : Int), y1, ())).bind fun o5 =>
  some (o5.1, ())
  else none
  else none
noncomputable def convtoEventS (N : Nat) : Con := { f := 28, din := dinvtoEventS, outs := outvtoEventS, F := FvtoEventS N }
noncomputable def XvtoEventS (N : Nat) : Ctx := { E := EvtoEventS N, H := HvtoEventS, lp := [(0, { hd := dvtoEventS_0, outs := ovtoEventS_0, run := fun v => lvtoEventS_0 N N v })], jn := [] }
noncomputable def bvtoEventS_0 : Code := loopBody (codeOf Try.f28) 0
theorem FvtoEventS_eq (N : Nat) (x : ((List (Int × (Int × (Int × (Int × Unit))))) × Unit)) : evFn (XvtoEventS N) Try.f28 dinvtoEventS outvtoEventS x = FvtoEventS N x := by kernel_rfl
theorem lvtoEventS_0_eq (N n : Nat) (v : ((List (Int × (Int × (Int × (Int × Unit))))) × (Int × ((List (Int × (Int × (Int × (Int × Unit))))) × Unit)))) : lvtoEventS_0 N (n + 1) v = ev (XvtoEventS N) bvtoEventS_0 (roundK dvtoEventS_0 ovtoEventS_0 (lvtoEventS_0 N n)) (dvtoEventS_0.mk' v) := by kernel_rfl
theorem cxvtoEventS (N : Nat) : CtxOk Try.prog (XvtoEventS N) := ⟨⟨TE_ok, List.forall_mem_cons.2 ⟨specvtoEvent N, fun k hk => absurd hk List.not_mem_nil⟩⟩, mixed⟩
theorem lpvtoEventS_0 (N : Nat) : LoopOk Try.prog { hd := dvtoEventS_0, outs := ovtoEventS_0, run := fun v => lvtoEventS_0 N N v } bvtoEventS_0 :=
  loop_fuel (d := dvtoEventS_0) (os := ovtoEventS_0) (cxvtoEventS N) (loops_at (ids := []) (by kernel_rfl) (trivial)) (lvtoEventS_0 N) (fun _ => rfl) (fun n v => lvtoEventS_0_eq N n v) (fun _ => N)
theorem specvtoEventS (N : Nat) : Spec Try.prog (convtoEventS N) :=
  Spec.of_eq (fn_spec (cxvtoEventS N) (f := 28) (fn := Try.f28) (c := codeOf Try.f28) (by kernel_rfl) (by kernel_rfl) (by kernel_rfl) (loops_at (ids := [0]) (by kernel_rfl) ⟨lp_of (lpvtoEventS_0 N), trivial⟩) (by kernel_rfl)) (fun x r h => (FvtoEventS_eq N x).trans h)

/-! ### 98: spec.ConfigOk -/

noncomputable def dinsConfigOk : Desc := { n := 1, regs := [.one (.val (.pair (.int .i64) (.pair (.int .i64) (.pair (.int .i64) .unit))))], bx := [], pins := [] }
noncomputable def outsConfigOk : Outs := [(.ret, { n := 1, regs := [.one (.val .bool)], bx := [], pins := [] })]
noncomputable def HsConfigOk : Hints := [(0, [(0, { fz := true })])]
noncomputable def EsConfigOk (_N : Nat) : Env := { te := TE, cs := [] }
noncomputable def FsConfigOk (N : Nat) (x : ((Int × (Int × (Int × Unit))) × Unit)) : Option (Bool × Unit) :=
  bif decide (x.1.1 ≥ (3 : Int)) then
   bif decide (x.1.1 ≤ (12 : Int)) then
    bif decide (x.1.2.1 ≥ (1 : Int)) then
     bif decide (x.1.2.1 ≤ (3 : Int)) then
      bif decide (x.1.2.2.1 ≥ (0 : Int)) then
       some (decide (x.1.2.2.1 ≤ (100 : Int)), ())
      else
      some (false, ())
     else
     some (false, ())
    else
    some (false, ())
   else
   some (false, ())
  else
  some (false, ())
noncomputable def consConfigOk (N : Nat) : Con := { f := 98, din := dinsConfigOk, outs := outsConfigOk, F := FsConfigOk N }
noncomputable def XsConfigOk (N : Nat) : Ctx := { E := EsConfigOk N, H := HsConfigOk, lp := [], jn := [] }
theorem FsConfigOk_eq (N : Nat) (x : ((Int × (Int × (Int × Unit))) × Unit)) : evFn (XsConfigOk N) Try.f98 dinsConfigOk outsConfigOk x = FsConfigOk N x := by kernel_rfl
theorem cxsConfigOk (N : Nat) : CtxOk Try.prog (XsConfigOk N) := ⟨⟨TE_ok, fun k hk => absurd hk List.not_mem_nil⟩, mixed⟩
theorem specsConfigOk (N : Nat) : Spec Try.prog (consConfigOk N) :=
  Spec.of_eq (fn_spec (cxsConfigOk N) (f := 98) (fn := Try.f98) (c := codeOf Try.f98) (by kernel_rfl) (by kernel_rfl) (by kernel_rfl) (loops_at (ids := []) (by kernel_rfl) (trivial)) (by kernel_rfl)) (fun x r h => (FsConfigOk_eq N x).trans h)

/-! ### 68: spec.StoryOk -/

noncomputable def dinsStoryOk : Desc := { n := 3, regs := [.one (.val (.pair (.int .i64) (.pair (.int .i64) (.pair (.int .i64) .unit)))), .one (.val (.sl (.sl (.pair (.int .i64) (.pair (.int .i64) (.pair (.int .i64) (.pair (.int .i64) (.pair (.int .i64) (.pair (.int .i64) (.pair (.pair (.int .i64) (.pair (.int .i64) .unit)) .unit)))))))))), .one (.val (.sl (.int .i64)))], bx := [], pins := [] }
noncomputable def outsStoryOk : Outs := [(.ret, { n := 1, regs := [.one (.val .bool)], bx := [], pins := [] })]
noncomputable def HsStoryOk : Hints := [(0, [(0, { fz := true })])]
noncomputable def EsStoryOk (N : Nat) : Env := { te := TE, cs := [consConfigOk N] }
noncomputable def dsStoryOk_0 : Desc := { n := 35, regs := [u, .one (.val (.sl (.sl (.pair (.int .i64) (.pair (.int .i64) (.pair (.int .i64) (.pair (.int .i64) (.pair (.int .i64) (.pair (.int .i64) (.pair (.pair (.int .i64) (.pair (.int .i64) .unit)) .unit)))))))))), u, u, u, u, u, .one (.val (.int .i64))], bx := [], pins := [] }
noncomputable def osStoryOk_0 : Outs := [(.exit 0, { n := 35, regs := [], bx := [], pins := [] }), (.ret, { n := 35, regs := [u, u, u, u, u, u, .one (.val .bool)], bx := [], pins := [] })]
noncomputable def jsStoryOk_3 : Outs := [(.normal, { n := 35, regs := [u, .one (.val (.sl (.sl (.pair (.int .i64) (.pair (.int .i64) (.pair (.int .i64) (.pair (.int .i64) (.pair (.int .i64) (.pair (.int .i64) (.pair (.pair (.int .i64) (.pair (.int .i64) .unit)) .unit))))))))))], bx := [], pins := [] }), (.ret, { n := 35, regs := [u, u, u, u, u, u, .one (.val .bool)], bx := [], pins := [] })]
noncomputable def lsStoryOk_0 (N : Nat) : Nat → ((List (List (Int × (Int × (Int × (Int × (Int × (Int × ((Int × (Int × Unit)) × Unit))))))))) × (Int × Unit)) → Option (Unit ⊕ (Bool × Unit))
  | 0, _ => none
  | n + 1, v =>
    bif decide (v.2.1 < (v.1.length : Int)) then
     bif decide (0 ≤ v.2.1) then
     bif decide (v.2.1.toNat < v.1.length) then
     let y5 := v.1.getD v.2.1.toNat ([] : (List (Int × (Int × (Int × (Int × (Int × (Int × ((Int × (Int × Unit)) × Unit)))))))))
     let y6 := decide ((y5.length : Int) > (40 : Int))
     bif y6 then
      some (.inr ((false, ())))
     else
     lsStoryOk_0 N n (v.1, w64 (v.2.1 + (1 : Int)), ())
     else none
     else none
    else
    some (.inl ())
noncomputable def FsStoryOk (N : Nat) (x : ((Int × (Int × (Int × Unit))) × ((List (List (Int × (Int × (Int × (Int × (Int × (Int × ((Int × (Int × Unit)) × Unit))))))))) × ((List Int) × Unit)))) : Option (Bool × Unit) :=
  Option.bind (
   (FsConfigOk N (x.1, ())).bind fun r1 =>
   bif !r1.1 then
    some (.inr ((false, ())))
   else
   bif (x.2.1.length : Int) != x.1.2.1 then
    some (.inr ((false, ())))
   else
   let y2 := decide ((x.2.2.1.length : Int) > (4000 : Int))
   bif y2 then
    some (.inr ((false, ())))
   else
   some (.inl (x.2.1, ()))) fun o3 =>
  Sum.elim (fun o4 =>
   (lsStoryOk_0 N N (o4.1, (0 : Int), ())).bind fun o7 =>
   Sum.elim (fun o8 =>
    some (true, ())) (fun o9 =>
    some (o9.1, ())) o7) (fun o10 =>
   some (o10.1, ())) o3
noncomputable def consStoryOk (N : Nat) : Con := { f := 68, din := dinsStoryOk, outs := outsStoryOk, F := FsStoryOk N }
noncomputable def XsStoryOk (N : Nat) : Ctx := { E := EsStoryOk N, H := HsStoryOk, lp := [(0, { hd := dsStoryOk_0, outs := osStoryOk_0, run := fun v => lsStoryOk_0 N N v })], jn := [(3, jsStoryOk_3)] }
noncomputable def bsStoryOk_0 : Code := loopBody (codeOf Try.f68) 0
theorem FsStoryOk_eq (N : Nat) (x : ((Int × (Int × (Int × Unit))) × ((List (List (Int × (Int × (Int × (Int × (Int × (Int × ((Int × (Int × Unit)) × Unit))))))))) × ((List Int) × Unit)))) : evFn (XsStoryOk N) Try.f68 dinsStoryOk outsStoryOk x = FsStoryOk N x := by kernel_rfl
theorem lsStoryOk_0_eq (N n : Nat) (v : ((List (List (Int × (Int × (Int × (Int × (Int × (Int × ((Int × (Int × Unit)) × Unit))))))))) × (Int × Unit))) : lsStoryOk_0 N (n + 1) v = ev (XsStoryOk N) bsStoryOk_0 (roundK dsStoryOk_0 osStoryOk_0 (lsStoryOk_0 N n)) (dsStoryOk_0.mk' v) := by kernel_rfl
theorem cxsStoryOk (N : Nat) : CtxOk Try.prog (XsStoryOk N) := ⟨⟨TE_ok, List.forall_mem_cons.2 ⟨specsConfigOk N, fun k hk => absurd hk List.not_mem_nil⟩⟩, mixed⟩
theorem lpsStoryOk_0 (N : Nat) : LoopOk Try.prog { hd := dsStoryOk_0, outs := osStoryOk_0, run := fun v => lsStoryOk_0 N N v } bsStoryOk_0 :=
  loop_fuel (d := dsStoryOk_0) (os := osStoryOk_0) (cxsStoryOk N) (loops_at (ids := []) (by kernel_rfl) (trivial)) (lsStoryOk_0 N) (fun _ => rfl) (fun n v => lsStoryOk_0_eq N n v) (fun _ => N)
theorem specsStoryOk (N : Nat) : Spec Try.prog (consStoryOk N) :=
  Spec.of_eq (fn_spec (cxsStoryOk N) (f := 68) (fn := Try.f68) (c := codeOf Try.f68) (by kernel_rfl) (by kernel_rfl) (by kernel_rfl) (loops_at (ids := [0]) (by kernel_rfl) ⟨lp_of (lpsStoryOk_0 N), trivial⟩) (by kernel_rfl)) (fun x r h => (FsStoryOk_eq N x).trans h)

/-! ### 69: spec.GraphNew -/

noncomputable def dinsGraphNew : Desc := { n := 1, regs := [.one (.val (.int .i64))], bx := [], pins := [] }
noncomputable def outsGraphNew : Outs := [(.ret, { n := 2, regs := [.agg [.lit (.row 1102464), .lit (.row 1102530), .lit .nil], .one (.val .bool)], bx := [(1102464, .row (.pair (.sl (.int .i64)) (.pair (.sl (.int .i64)) .unit))), (1102530, .row (.sl (.int .i64)))], pins := [] })]
noncomputable def HsGraphNew : Hints := [(2, [(0, { nl := [(0, (.pair (.sl (.int .i64)) (.pair (.sl (.int .i64)) .unit))), (1, (.sl (.int .i64)))] })]),
  (3, [(1, { nl := [(0, (.int .i64))] })]),
  (8, [(1, { dp := true }), (2, { nl := [(1, (.sl (.int .i64)))] })]),
  (12, [(3, { dp := true }), (4, { dp := true })])]
noncomputable def EsGraphNew (_N : Nat) : Env := { te := TE, cs := [] }
noncomputable def dsGraphNew_0 : Desc := { n := 41, regs := [.one (.val (.int .i64)), u, .one (.lit (.ptr 1000000 0)), u, .one (.lit (.ptr 1038528 0)), .one (.val (.int .i64))], bx := [(1000000, .var [.lit .nil, .lit .nil, .lit .nil]), (1038528, .var [.lit (.row 1038465), .lit (.row 1038400)]), (1038465, .row (.int .i64)), (1038400, .row (.int .i64))], pins := [] }
noncomputable def osGraphNew_0 : Outs := [(.exit 0, { n := 41, regs := [.one (.val (.int .i64)), u, .one (.lit (.ptr 1000000 0)), u, .one (.lit (.ptr 1038528 0))], bx := [(1000000, .var [.lit .nil, .lit .nil, .lit .nil]), (1038528, .var [.lit (.row 1038465), .lit (.row 1038400)]), (1038465, .row (.int .i64)), (1038400, .row (.int .i64))], pins := [] })]
noncomputable def dsGraphNew_2 : Desc := { n := 41, regs := [.one (.val (.int .i64)), u, .one (.lit (.ptr 1000000 0)), u, u, u, .one (.lit (.ptr 1102592 0)), .one (.val (.int .i64))], bx := [(1000000, .var [.lit .nil, .lit .nil, .lit .nil]), (1102592, .var [.lit (.row 1102464), .lit (.row 1102530), .lit .nil]), (1102464, .row (.pair (.sl (.int .i64)) (.pair (.sl (.int .i64)) .unit))), (1102530, .row (.sl (.int .i64)))], pins := [] }
noncomputable def osGraphNew_2 : Outs := [(.exit 2, { n := 41, regs := [u, u, .one (.lit (.ptr 1000000 0)), u, u, u, .one (.lit (.ptr 1102592 0))], bx := [(1000000, .var [.lit .nil, .lit .nil, .lit .nil]), (1102592, .var [.lit (.row 1102464), .lit (.row 1102530), .lit .nil]), (1102464, .row (.pair (.sl (.int .i64)) (.pair (.sl (.int .i64)) .unit))), (1102530, .row (.sl (.int .i64)))], pins := [] })]
noncomputable def jsGraphNew_3 : Outs := [(.normal, { n := 41, regs := [.one (.val (.int .i64)), u, .one (.lit (.ptr 1000000 0))], bx := [(1000000, .var [.lit .nil, .lit .nil, .lit .nil])], pins := [] }), (.ret, { n := 41, regs := [u, u, .one (.lit (.ptr 1000000 0)), .one (.val .bool)], bx := [(1000000, .var [.lit (.row 1025601), .lit (.row 1025602), .lit .nil]), (1025601, .row (.pair (.sl (.int .i64)) (.pair (.sl (.int .i64)) .unit))), (1025602, .row (.sl (.int .i64)))], pins := [] })]
noncomputable def lsGraphNew_0 (N : Nat) : Nat → (Int × (Int × ((List Int) × ((List Int) × Unit)))) → Option (Int × ((List Int) × ((List Int) × Unit)))
  | 0, _ => none
  | n + 1, v =>
    bif decide (v.2.1 < (4 : Int)) then
     bif decide (v.2.2.1.length + [(-1 : Int)].length ≤ lim) then
     lsGraphNew_0 N n (v.1, w64 (v.2.1 + (1 : Int)), v.2.2.1 ++ [(-1 : Int)], v.2.2.2.1, ())
     else none
    else
    some (v.1, v.2.2.1, v.2.2.2.1, ())
noncomputable def lsGraphNew_2 (N : Nat) : Nat → (Int × (Int × ((List ((List Int) × ((List Int) × Unit))) × ((List (List Int)) × Unit)))) → Option ((List ((List Int) × ((List Int) × Unit))) × ((List (List Int)) × Unit))
  | 0, _ => none
  | n + 1, v =>
    bif decide (v.2.1 < v.1) then
     bif decide (v.2.2.2.1.length + [[(0 : Int)]].length ≤ lim) then
     lsGraphNew_2 N n (v.1, w64 (v.2.1 + (1 : Int)), v.2.2.1, v.2.2.2.1 ++ [[(0 : Int)]], ())
     else none
    else
    some (v.2.2.1, v.2.2.2.1, ())
noncomputable def FsGraphNew (N : Nat) (x : (Int × Unit)) : Option (Bool × ((List ((List Int) × ((List Int) × Unit))) × ((List (List Int)) × Unit))) :=
  Option.bind (
   bif decide (x.1 < (1 : Int)) then
    let y1 := ([] : (List ((List Int) × ((List Int) × Unit))))
    some (.inr ((false, y1, ([] : (List (List Int))), ())))
   else
   bif decide (x.1 > (3 : Int)) then
    let y2 := ([] : (List ((List Int) × ((List Int) × Unit))))
    some (.inr ((false, y2, ([] : (List (List Int))), ())))
   else
   some (.inl (x.1, ()))) fun o3 =>
  Sum.elim (fun o4 =>
   bif decide (0 ≤ (2 : Int)) then
   bif decide ((2 : Int).toNat ≤ lim) then
   let y5 := List.replicate (2 : Int).toNat (0 : Int)
   (lsGraphNew_0 N N (o4.1, (0 : Int), ([] : (List Int)), y5, ())).bind fun o6 =>
   (lsGraphNew_2 N N (o6.1, (0 : Int), [(o6.2.1, o6.2.2.1, ())], ([] : (List (List Int))), ())).bind fun o7 =>
   some (true, o7.1, o7.2.1, ())
   else none
   else none) (fun o8 =>
   some (o8.1, o8.2.1, o8.2.2.1, ())) o3
noncomputable def consGraphNew (N : Nat) : Con := { f := 69, din := dinsGraphNew, outs := outsGraphNew, F := FsGraphNew N }
noncomputable def XsGraphNew (N : Nat) : Ctx := { E := EsGraphNew N, H := HsGraphNew, lp := [(0, { hd := dsGraphNew_0, outs := osGraphNew_0, run := fun v => lsGraphNew_0 N N v }), (2, { hd := dsGraphNew_2, outs := osGraphNew_2, run := fun v => lsGraphNew_2 N N v })], jn := [(3, jsGraphNew_3)] }
noncomputable def bsGraphNew_2 : Code := loopBody (codeOf Try.f69) 1
noncomputable def bsGraphNew_0 : Code := loopBody (codeOf Try.f69) 0
theorem FsGraphNew_eq (N : Nat) (x : (Int × Unit)) : evFn (XsGraphNew N) Try.f69 dinsGraphNew outsGraphNew x = FsGraphNew N x := by kernel_rfl
theorem lsGraphNew_0_eq (N n : Nat) (v : (Int × (Int × ((List Int) × ((List Int) × Unit))))) : lsGraphNew_0 N (n + 1) v = ev (XsGraphNew N) bsGraphNew_0 (roundK dsGraphNew_0 osGraphNew_0 (lsGraphNew_0 N n)) (dsGraphNew_0.mk' v) := by kernel_rfl
theorem lsGraphNew_2_eq (N n : Nat) (v : (Int × (Int × ((List ((List Int) × ((List Int) × Unit))) × ((List (List Int)) × Unit))))) : lsGraphNew_2 N (n + 1) v = ev (XsGraphNew N) bsGraphNew_2 (roundK dsGraphNew_2 osGraphNew_2 (lsGraphNew_2 N n)) (dsGraphNew_2.mk' v) := by kernel_rfl
theorem cxsGraphNew (N : Nat) : CtxOk Try.prog (XsGraphNew N) := ⟨⟨TE_ok, fun k hk => absurd hk List.not_mem_nil⟩, mixed⟩
theorem lpsGraphNew_0 (N : Nat) : LoopOk Try.prog { hd := dsGraphNew_0, outs := osGraphNew_0, run := fun v => lsGraphNew_0 N N v } bsGraphNew_0 :=
  loop_fuel (d := dsGraphNew_0) (os := osGraphNew_0) (cxsGraphNew N) (loops_at (ids := []) (by kernel_rfl) (trivial)) (lsGraphNew_0 N) (fun _ => rfl) (fun n v => lsGraphNew_0_eq N n v) (fun _ => N)
theorem lpsGraphNew_2 (N : Nat) : LoopOk Try.prog { hd := dsGraphNew_2, outs := osGraphNew_2, run := fun v => lsGraphNew_2 N N v } bsGraphNew_2 :=
  loop_fuel (d := dsGraphNew_2) (os := osGraphNew_2) (cxsGraphNew N) (loops_at (ids := []) (by kernel_rfl) (trivial)) (lsGraphNew_2 N) (fun _ => rfl) (fun n v => lsGraphNew_2_eq N n v) (fun _ => N)
theorem specsGraphNew (N : Nat) : Spec Try.prog (consGraphNew N) :=
  Spec.of_eq (fn_spec (cxsGraphNew N) (f := 69) (fn := Try.f69) (c := codeOf Try.f69) (by kernel_rfl) (by kernel_rfl) (by kernel_rfl) (loops_at (ids := [0, 2]) (by kernel_rfl) ⟨lp_of (lpsGraphNew_0 N), ⟨lp_of (lpsGraphNew_2 N), trivial⟩⟩) (by kernel_rfl)) (fun x r h => (FsGraphNew_eq N x).trans h)

/-! ### 59: spec.l5Refs -/

noncomputable def dinsl5Refs : Desc := { n := 2, regs := [.one (.val (.sl (.int .i64))), .one (.val (.int .i64))], bx := [], pins := [] }
noncomputable def outsl5Refs : Outs := [(.ret, { n := 1, regs := [.one (.val .bool)], bx := [], pins := [] })]
noncomputable def Hsl5Refs : Hints := []
noncomputable def Esl5Refs (_N : Nat) : Env := { te := TE, cs := [] }
noncomputable def dsl5Refs_0 : Desc := { n := 25, regs := [.one (.val (.sl (.int .i64))), .one (.val (.int .i64)), u, u, u, .one (.val (.int .i64))], bx := [], pins := [] }
noncomputable def osl5Refs_0 : Outs := [(.exit 0, { n := 25, regs := [], bx := [], pins := [] }), (.ret, { n := 25, regs := [u, u, u, u, .one (.val .bool)], bx := [], pins := [] })]
noncomputable def lsl5Refs_0 (N : Nat) : Nat → ((List Int) × (Int × (Int × Unit))) → Option (Unit ⊕ (Bool × Unit))
  | 0, _ => none
  | n + 1, v =>
    let y1 := decide (v.2.2.1 < (v.1.length : Int))
    bif y1 then
     bif decide (0 ≤ v.2.2.1) then
     bif decide (v.2.2.1.toNat < v.1.length) then
     let y2 := decide ((v.1.getD v.2.2.1.toNat (0 : Int)) < (-1 : Int))
     bif y2 then
      some (.inr ((false, ())))
     else
     bif decide (0 ≤ v.2.2.1) then
     bif decide (v.2.2.1.toNat < v.1.length) then
     let y3 := decide ((v.1.getD v.2.2.1.toNat (0 : Int)) ≥ v.2.1)
     bif y3 then
      some (.inr ((false, ())))
     else
     lsl5Refs_0 N n (v.1, v.2.1, w64 (v.2.2.1 + (1 : Int)), ())
     else none
     else none
     else none
     else none
    else
    some (.inl ())
noncomputable def Fsl5Refs (N : Nat) (x : ((List Int) × (Int × Unit))) : Option (Bool × Unit) :=
  (lsl5Refs_0 N N (x.1, x.2.1, (0 : Int), ())).bind fun o4 =>
  Sum.elim (fun o5 =>
   some (true, ())) (fun o6 =>
   some (o6.1, ())) o4
noncomputable def consl5Refs (N : Nat) : Con := { f := 59, din := dinsl5Refs, outs := outsl5Refs, F := Fsl5Refs N }
noncomputable def Xsl5Refs (N : Nat) : Ctx := { E := Esl5Refs N, H := Hsl5Refs, lp := [(0, { hd := dsl5Refs_0, outs := osl5Refs_0, run := fun v => lsl5Refs_0 N N v })], jn := [] }
noncomputable def bsl5Refs_0 : Code := loopBody (codeOf Try.f59) 0
theorem Fsl5Refs_eq (N : Nat) (x : ((List Int) × (Int × Unit))) : evFn (Xsl5Refs N) Try.f59 dinsl5Refs outsl5Refs x = Fsl5Refs N x := by kernel_rfl
theorem lsl5Refs_0_eq (N n : Nat) (v : ((List Int) × (Int × (Int × Unit)))) : lsl5Refs_0 N (n + 1) v = ev (Xsl5Refs N) bsl5Refs_0 (roundK dsl5Refs_0 osl5Refs_0 (lsl5Refs_0 N n)) (dsl5Refs_0.mk' v) := by kernel_rfl
theorem cxsl5Refs (N : Nat) : CtxOk Try.prog (Xsl5Refs N) := ⟨⟨TE_ok, fun k hk => absurd hk List.not_mem_nil⟩, mixed⟩
theorem lpsl5Refs_0 (N : Nat) : LoopOk Try.prog { hd := dsl5Refs_0, outs := osl5Refs_0, run := fun v => lsl5Refs_0 N N v } bsl5Refs_0 :=
  loop_fuel (d := dsl5Refs_0) (os := osl5Refs_0) (cxsl5Refs N) (loops_at (ids := []) (by kernel_rfl) (trivial)) (lsl5Refs_0 N) (fun _ => rfl) (fun n v => lsl5Refs_0_eq N n v) (fun _ => N)
theorem specsl5Refs (N : Nat) : Spec Try.prog (consl5Refs N) :=
  Spec.of_eq (fn_spec (cxsl5Refs N) (f := 59) (fn := Try.f59) (c := codeOf Try.f59) (by kernel_rfl) (by kernel_rfl) (by kernel_rfl) (loops_at (ids := [0]) (by kernel_rfl) ⟨lp_of (lpsl5Refs_0 N), trivial⟩) (by kernel_rfl)) (fun x r h => (Fsl5Refs_eq N x).trans h)

/-! ### 17: spec.GraphOk -/

noncomputable def dinsGraphOk : Desc := { n := 1, regs := [.one (.val (.pair (.sl (.pair (.sl (.int .i64)) (.pair (.sl (.int .i64)) .unit))) (.pair (.sl (.sl (.int .i64))) (.pair (.sl (.int .i64)) .unit))))], bx := [], pins := [] }
noncomputable def outsGraphOk : Outs := [(.ret, { n := 1, regs := [.one (.val .bool)], bx := [], pins := [] })]
noncomputable def HsGraphOk : Hints := [(0, [(0, { fz := true })])]
noncomputable def EsGraphOk (N : Nat) : Env := { te := TE, cs := [consl5Refs N] }
noncomputable def dsGraphOk_0 : Desc := { n := 105, regs := [u, .one (.fpt (.pair (.sl (.pair (.sl (.int .i64)) (.pair (.sl (.int .i64)) .unit))) (.pair (.sl (.sl (.int .i64))) (.pair (.sl (.int .i64)) .unit)))), u, .one (.val (.int .i64))], bx := [], pins := [] }
noncomputable def osGraphOk_0 : Outs := [(.exit 0, { n := 105, regs := [u, .one (.fpt (.pair (.sl (.pair (.sl (.int .i64)) (.pair (.sl (.int .i64)) .unit))) (.pair (.sl (.sl (.int .i64))) (.pair (.sl (.int .i64)) .unit))))], bx := [], pins := [] }), (.ret, { n := 105, regs := [u, u, .one (.val .bool)], bx := [], pins := [] })]
noncomputable def dsGraphOk_2 : Desc := { n := 105, regs := [u, .one (.fpt (.pair (.sl (.pair (.sl (.int .i64)) (.pair (.sl (.int .i64)) .unit))) (.pair (.sl (.sl (.int .i64))) (.pair (.sl (.int .i64)) .unit)))), u, u, u, .one (.val (.int .i64))], bx := [], pins := [] }
noncomputable def osGraphOk_2 : Outs := [(.exit 2, { n := 105, regs := [u, .one (.fpt (.pair (.sl (.pair (.sl (.int .i64)) (.pair (.sl (.int .i64)) .unit))) (.pair (.sl (.sl (.int .i64))) (.pair (.sl (.int .i64)) .unit))))], bx := [], pins := [] }), (.ret, { n := 105, regs := [u, u, .one (.val .bool)], bx := [], pins := [] })]
noncomputable def dsGraphOk_4 : Desc := { n := 105, regs := [u, .one (.fpt (.pair (.sl (.pair (.sl (.int .i64)) (.pair (.sl (.int .i64)) .unit))) (.pair (.sl (.sl (.int .i64))) (.pair (.sl (.int .i64)) .unit)))), u, u, u, u, .one (.val (.int .i64))], bx := [], pins := [] }
noncomputable def osGraphOk_4 : Outs := [(.exit 4, { n := 105, regs := [u, .one (.fpt (.pair (.sl (.pair (.sl (.int .i64)) (.pair (.sl (.int .i64)) .unit))) (.pair (.sl (.sl (.int .i64))) (.pair (.sl (.int .i64)) .unit))))], bx := [], pins := [] }), (.ret, { n := 105, regs := [u, u, .one (.val .bool)], bx := [], pins := [] })]
noncomputable def jsGraphOk_3 : Outs := [(.normal, { n := 105, regs := [u, .one (.fpt (.pair (.sl (.pair (.sl (.int .i64)) (.pair (.sl (.int .i64)) .unit))) (.pair (.sl (.sl (.int .i64))) (.pair (.sl (.int .i64)) .unit))))], bx := [], pins := [] }), (.ret, { n := 105, regs := [u, u, .one (.val .bool)], bx := [], pins := [] })]
noncomputable def lsGraphOk_0 (N : Nat) : Nat → (((List ((List Int) × ((List Int) × Unit))) × ((List (List Int)) × ((List Int) × Unit))) × (Int × Unit)) → Option ((((List ((List Int) × ((List Int) × Unit))) × ((List (List Int)) × ((List Int) × Unit))) × Unit) ⊕ (Bool × Unit))
  | 0, _ => none
  | n + 1, v =>
    let y6 := decide (v.2.1 < (v.1.1.length : Int))
    bif y6 then
     bif decide (0 ≤ v.2.1) then
     bif decide (v.2.1.toNat < v.1.1.length) then
     let y7 := v.1.1.getD v.2.1.toNat (([] : (List Int)), ([] : (List Int)), ())
     let y8 := decide ((y7.1.length : Int) > (4 : Int))
     bif y8 then
      some (.inr ((false, ())))
     else
     let y9 := decide ((y7.2.1.length : Int) > (4 : Int))
     bif y9 then
      some (.inr ((false, ())))
     else
     (Fsl5Refs N (y7.1, (v.1.1.length : Int), ())).bind fun r10 =>
     bif !r10.1 then
      some (.inr ((false, ())))
     else
     lsGraphOk_0 N n (v.1, w64 (v.2.1 + (1 : Int)), ())
     else none
     else none
    else
    some (.inl (v.1, ()))
noncomputable def lsGraphOk_2 (N : Nat) : Nat → (((List ((List Int) × ((List Int) × Unit))) × ((List (List Int)) × ((List Int) × Unit))) × (Int × Unit)) → Option ((((List ((List Int) × ((List Int) × Unit))) × ((List (List Int)) × ((List Int) × Unit))) × Unit) ⊕ (Bool × Unit))
  | 0, _ => none
  | n + 1, v =>
    let y13 := decide (v.2.1 < (v.1.2.1.length : Int))
    bif y13 then
     bif decide (0 ≤ v.2.1) then
     bif decide (v.2.1.toNat < v.1.2.1.length) then
     let y14 := v.1.2.1.getD v.2.1.toNat ([] : (List Int))
     let y15 := decide ((y14.length : Int) > (8 : Int))
     bif y15 then
      some (.inr ((false, ())))
     else
     bif decide (0 ≤ v.2.1) then
     bif decide (v.2.1.toNat < v.1.2.1.length) then
     let y16 := v.1.2.1.getD v.2.1.toNat ([] : (List Int))
     (Fsl5Refs N (y16, (v.1.1.length : Int), ())).bind fun r17 =>
     bif !r17.1 then
      some (.inr ((false, ())))
     else
     lsGraphOk_2 N n (v.1, w64 (v.2.1 + (1 : Int)), ())
     else none
     else none
     else none
     else none
    else
    some (.inl (v.1, ()))
noncomputable def lsGraphOk_4 (N : Nat) : Nat → (((List ((List Int) × ((List Int) × Unit))) × ((List (List Int)) × ((List Int) × Unit))) × (Int × Unit)) → Option ((((List ((List Int) × ((List Int) × Unit))) × ((List (List Int)) × ((List Int) × Unit))) × Unit) ⊕ (Bool × Unit))
  | 0, _ => none
  | n + 1, v =>
    let y20 := decide (v.2.1 < (v.1.2.2.1.length : Int))
    bif y20 then
     bif decide (0 ≤ v.2.1) then
     bif decide (v.2.1.toNat < v.1.2.2.1.length) then
     let y21 := decide ((v.1.2.2.1.getD v.2.1.toNat (0 : Int)) < (0 : Int))
     bif y21 then
      some (.inr ((false, ())))
     else
     lsGraphOk_4 N n (v.1, w64 (v.2.1 + (1 : Int)), ())
     else none
     else none
    else
    some (.inl (v.1, ()))
noncomputable def FsGraphOk (N : Nat) (x : (((List ((List Int) × ((List Int) × Unit))) × ((List (List Int)) × ((List Int) × Unit))) × Unit)) : Option (Bool × Unit) :=
  Option.bind (
   let y1 := decide ((x.1.1.length : Int) > (200 : Int))
   bif y1 then
    some (.inr ((false, ())))
   else
   let y2 := decide ((x.1.2.1.length : Int) < (1 : Int))
   bif y2 then
    some (.inr ((false, ())))
   else
   let y3 := decide ((x.1.2.1.length : Int) > (3 : Int))
   bif y3 then
    some (.inr ((false, ())))
   else
   some (.inl (x.1, ()))) fun o4 =>
  Sum.elim (fun o5 =>
   (lsGraphOk_0 N N (o5.1, (0 : Int), ())).bind fun o11 =>
   Sum.elim (fun o12 =>
    (lsGraphOk_2 N N (o12.1, (0 : Int), ())).bind fun o18 =>
    Sum.elim (fun o19 =>
     (lsGraphOk_4 N N (o19.1, (0 : Int), ())).bind fun o22 =>
     Sum.elim (fun o23 =>
      let y24 := decide ((o23.1.2.2.1.length : Int) ≤ (8 : Int))
      bif y24 then
       (Fsl5Refs N (o23.1.2.2.1, (o23.1.1.length : Int), ())).bind fun r25 =>
       some (r25.1, ())
      else
      some (false, ())) (fun o26 =>
      some (o26.1, ())) o22) (fun o27 =>
     some (o27.1, ())) o18) (fun o28 =>
    some (o28.1, ())) o11) (fun o29 =>
   some (o29.1, ())) o4
noncomputable def consGraphOk (N : Nat) : Con := { f := 17, din := dinsGraphOk, outs := outsGraphOk, F := FsGraphOk N }
noncomputable def XsGraphOk (N : Nat) : Ctx := { E := EsGraphOk N, H := HsGraphOk, lp := [(0, { hd := dsGraphOk_0, outs := osGraphOk_0, run := fun v => lsGraphOk_0 N N v }), (2, { hd := dsGraphOk_2, outs := osGraphOk_2, run := fun v => lsGraphOk_2 N N v }), (4, { hd := dsGraphOk_4, outs := osGraphOk_4, run := fun v => lsGraphOk_4 N N v })], jn := [(3, jsGraphOk_3)] }
noncomputable def bsGraphOk_4 : Code := loopBody (codeOf Try.f17) 2
noncomputable def bsGraphOk_2 : Code := loopBody (codeOf Try.f17) 1
noncomputable def bsGraphOk_0 : Code := loopBody (codeOf Try.f17) 0
theorem FsGraphOk_eq (N : Nat) (x : (((List ((List Int) × ((List Int) × Unit))) × ((List (List Int)) × ((List Int) × Unit))) × Unit)) : evFn (XsGraphOk N) Try.f17 dinsGraphOk outsGraphOk x = FsGraphOk N x := by kernel_rfl
theorem lsGraphOk_0_eq (N n : Nat) (v : (((List ((List Int) × ((List Int) × Unit))) × ((List (List Int)) × ((List Int) × Unit))) × (Int × Unit))) : lsGraphOk_0 N (n + 1) v = ev (XsGraphOk N) bsGraphOk_0 (roundK dsGraphOk_0 osGraphOk_0 (lsGraphOk_0 N n)) (dsGraphOk_0.mk' v) := by kernel_rfl
theorem lsGraphOk_2_eq (N n : Nat) (v : (((List ((List Int) × ((List Int) × Unit))) × ((List (List Int)) × ((List Int) × Unit))) × (Int × Unit))) : lsGraphOk_2 N (n + 1) v = ev (XsGraphOk N) bsGraphOk_2 (roundK dsGraphOk_2 osGraphOk_2 (lsGraphOk_2 N n)) (dsGraphOk_2.mk' v) := by kernel_rfl
theorem lsGraphOk_4_eq (N n : Nat) (v : (((List ((List Int) × ((List Int) × Unit))) × ((List (List Int)) × ((List Int) × Unit))) × (Int × Unit))) : lsGraphOk_4 N (n + 1) v = ev (XsGraphOk N) bsGraphOk_4 (roundK dsGraphOk_4 osGraphOk_4 (lsGraphOk_4 N n)) (dsGraphOk_4.mk' v) := by kernel_rfl
theorem cxsGraphOk (N : Nat) : CtxOk Try.prog (XsGraphOk N) := ⟨⟨TE_ok, List.forall_mem_cons.2 ⟨specsl5Refs N, fun k hk => absurd hk List.not_mem_nil⟩⟩, mixed⟩
theorem lpsGraphOk_0 (N : Nat) : LoopOk Try.prog { hd := dsGraphOk_0, outs := osGraphOk_0, run := fun v => lsGraphOk_0 N N v } bsGraphOk_0 :=
  loop_fuel (d := dsGraphOk_0) (os := osGraphOk_0) (cxsGraphOk N) (loops_at (ids := []) (by kernel_rfl) (trivial)) (lsGraphOk_0 N) (fun _ => rfl) (fun n v => lsGraphOk_0_eq N n v) (fun _ => N)
theorem lpsGraphOk_2 (N : Nat) : LoopOk Try.prog { hd := dsGraphOk_2, outs := osGraphOk_2, run := fun v => lsGraphOk_2 N N v } bsGraphOk_2 :=
  loop_fuel (d := dsGraphOk_2) (os := osGraphOk_2) (cxsGraphOk N) (loops_at (ids := []) (by kernel_rfl) (trivial)) (lsGraphOk_2 N) (fun _ => rfl) (fun n v => lsGraphOk_2_eq N n v) (fun _ => N)
theorem lpsGraphOk_4 (N : Nat) : LoopOk Try.prog { hd := dsGraphOk_4, outs := osGraphOk_4, run := fun v => lsGraphOk_4 N N v } bsGraphOk_4 :=
  loop_fuel (d := dsGraphOk_4) (os := osGraphOk_4) (cxsGraphOk N) (loops_at (ids := []) (by kernel_rfl) (trivial)) (lsGraphOk_4 N) (fun _ => rfl) (fun n v => lsGraphOk_4_eq N n v) (fun _ => N)
theorem specsGraphOk (N : Nat) : Spec Try.prog (consGraphOk N) :=
  Spec.of_eq (fn_spec (cxsGraphOk N) (f := 17) (fn := Try.f17) (c := codeOf Try.f17) (by kernel_rfl) (by kernel_rfl) (by kernel_rfl) (loops_at (ids := [0, 2, 4]) (by kernel_rfl) ⟨lp_of (lpsGraphOk_0 N), ⟨lp_of (lpsGraphOk_2 N), ⟨lp_of (lpsGraphOk_4 N), trivial⟩⟩⟩) (by kernel_rfl)) (fun x r h => (FsGraphOk_eq N x).trans h)

/-! ### 91: spec.ShapeOk -/

noncomputable def dinsShapeOk : Desc := { n := 1, regs := [.one (.val (.pair (.int .i64) (.pair (.int .i64) .unit)))], bx := [], pins := [] }
noncomputable def outsShapeOk : Outs := [(.ret, { n := 1, regs := [.one (.val .bool)], bx := [], pins := [] })]
noncomputable def HsShapeOk : Hints := [(0, [(0, { fz := true })])]
noncomputable def EsShapeOk (_N : Nat) : Env := { te := TE, cs := [] }
noncomputable def FsShapeOk (N : Nat) (x : ((Int × (Int × Unit)) × Unit)) : Option (Bool × Unit) :=
  bif decide (x.1.1 ≥ (0 : Int)) then
   bif decide (x.1.1 ≤ (4 : Int)) then
    bif decide (x.1.2.1 ≥ (0 : Int)) then
     some (decide (x.1.2.1 ≤ (4 : Int)), ())
    else
    some (false, ())
   else
   some (false, ())
  else
  some (false, ())
noncomputable def consShapeOk (N : Nat) : Con := { f := 91, din := dinsShapeOk, outs := outsShapeOk, F := FsShapeOk N }
noncomputable def XsShapeOk (N : Nat) : Ctx := { E := EsShapeOk N, H := HsShapeOk, lp := [], jn := [] }
theorem FsShapeOk_eq (N : Nat) (x : ((Int × (Int × Unit)) × Unit)) : evFn (XsShapeOk N) Try.f91 dinsShapeOk outsShapeOk x = FsShapeOk N x := by kernel_rfl
theorem cxsShapeOk (N : Nat) : CtxOk Try.prog (XsShapeOk N) := ⟨⟨TE_ok, fun k hk => absurd hk List.not_mem_nil⟩, mixed⟩
theorem specsShapeOk (N : Nat) : Spec Try.prog (consShapeOk N) :=
  Spec.of_eq (fn_spec (cxsShapeOk N) (f := 91) (fn := Try.f91) (c := codeOf Try.f91) (by kernel_rfl) (by kernel_rfl) (by kernel_rfl) (loops_at (ids := []) (by kernel_rfl) (trivial)) (by kernel_rfl)) (fun x r h => (FsShapeOk_eq N x).trans h)

/-! ### 51: spec.OpOk -/

noncomputable def dinsOpOk : Desc := { n := 1, regs := [.one (.val (.pair (.int .i64) (.pair (.int .i64) (.pair (.int .i64) (.pair (.int .i64) (.pair (.int .i64) (.pair (.int .i64) (.pair (.pair (.int .i64) (.pair (.int .i64) .unit)) .unit))))))))], bx := [], pins := [] }
noncomputable def outsOpOk : Outs := [(.ret, { n := 1, regs := [.one (.val .bool)], bx := [], pins := [] })]
noncomputable def HsOpOk : Hints := [(0, [(0, { fz := true })])]
noncomputable def EsOpOk (N : Nat) : Env := { te := TE, cs := [consShapeOk N] }
noncomputable def FsOpOk (N : Nat) (x : ((Int × (Int × (Int × (Int × (Int × (Int × ((Int × (Int × Unit)) × Unit))))))) × Unit)) : Option (Bool × Unit) :=
  bif decide (x.1.1 ≥ (1 : Int)) then
   bif decide (x.1.1 ≤ (11 : Int)) then
    bif x.1.1 != (1 : Int) then
     some (true, ())
    else
    (FsShapeOk N (x.1.2.2.2.2.2.2.1, ())).bind fun r1 =>
    some (r1.1, ())
   else
   some (false, ())
  else
  some (false, ())
noncomputable def consOpOk (N : Nat) : Con := { f := 51, din := dinsOpOk, outs := outsOpOk, F := FsOpOk N }
noncomputable def XsOpOk (N : Nat) : Ctx := { E := EsOpOk N, H := HsOpOk, lp := [], jn := [] }
theorem FsOpOk_eq (N : Nat) (x : ((Int × (Int × (Int × (Int × (Int × (Int × ((Int × (Int × Unit)) × Unit))))))) × Unit)) : evFn (XsOpOk N) Try.f51 dinsOpOk outsOpOk x = FsOpOk N x := by kernel_rfl
theorem cxsOpOk (N : Nat) : CtxOk Try.prog (XsOpOk N) := ⟨⟨TE_ok, List.forall_mem_cons.2 ⟨specsShapeOk N, fun k hk => absurd hk List.not_mem_nil⟩⟩, mixed⟩
theorem specsOpOk (N : Nat) : Spec Try.prog (consOpOk N) :=
  Spec.of_eq (fn_spec (cxsOpOk N) (f := 51) (fn := Try.f51) (c := codeOf Try.f51) (by kernel_rfl) (by kernel_rfl) (by kernel_rfl) (loops_at (ids := []) (by kernel_rfl) (trivial)) (by kernel_rfl)) (fun x r h => (FsOpOk_eq N x).trans h)

/-! ### 66: spec.l5Ints -/

noncomputable def dinsl5Ints : Desc := { n := 1, regs := [.one (.val (.sl (.int .i64)))], bx := [], pins := [] }
noncomputable def outsl5Ints : Outs := [(.ret, { n := 1, regs := [.one (.lit (.row 1012800))], bx := [(1012800, .row (.int .i64))], pins := [] })]
noncomputable def Hsl5Ints : Hints := []
noncomputable def Esl5Ints (_N : Nat) : Env := { te := TE, cs := [] }
noncomputable def Fsl5Ints (N : Nat) (x : ((List Int) × Unit)) : Option ((List Int) × Unit) :=
  bif decide (([] : (List Int)).length + x.1.length ≤ lim) then
  some (([] : (List Int)) ++ x.1, ())
  else none
noncomputable def consl5Ints (N : Nat) : Con := { f := 66, din := dinsl5Ints, outs := outsl5Ints, F := Fsl5Ints N }
noncomputable def Xsl5Ints (N : Nat) : Ctx := { E := Esl5Ints N, H := Hsl5Ints, lp := [], jn := [] }
theorem Fsl5Ints_eq (N : Nat) (x : ((List Int) × Unit)) : evFn (Xsl5Ints N) Try.f66 dinsl5Ints outsl5Ints x = Fsl5Ints N x := by kernel_rfl
theorem cxsl5Ints (N : Nat) : CtxOk Try.prog (Xsl5Ints N) := ⟨⟨TE_ok, fun k hk => absurd hk List.not_mem_nil⟩, mixed⟩
theorem specsl5Ints (N : Nat) : Spec Try.prog (consl5Ints N) :=
  Spec.of_eq (fn_spec (cxsl5Ints N) (f := 66) (fn := Try.f66) (c := codeOf Try.f66) (by kernel_rfl) (by kernel_rfl) (by kernel_rfl) (loops_at (ids := []) (by kernel_rfl) (trivial)) (by kernel_rfl)) (fun x r h => (Fsl5Ints_eq N x).trans h)

/-! ### 52: spec.l5Copy -/

noncomputable def dinsl5Copy : Desc := { n := 1, regs := [.one (.val (.pair (.sl (.pair (.sl (.int .i64)) (.pair (.sl (.int .i64)) .unit))) (.pair (.sl (.sl (.int .i64))) (.pair (.sl (.int .i64)) .unit))))], bx := [], pins := [] }
noncomputable def outsl5Copy : Outs := [(.ret, { n := 1, regs := [.agg [.lit (.row 1012993), .lit (.row 1012994), .lit (.row 1012929)]], bx := [(1012993, .row (.pair (.sl (.int .i64)) (.pair (.sl (.int .i64)) .unit))), (1012994, .row (.sl (.int .i64))), (1012929, .row (.int .i64))], pins := [] })]
noncomputable def Hsl5Copy : Hints := [(0, [(0, { fz := true })]),
  (1, [(3, { nl := [(0, (.pair (.sl (.int .i64)) (.pair (.sl (.int .i64)) .unit))), (1, (.sl (.int .i64)))] })]),
  (5, [(17, { dp := true }), (18, { dp := true })]),
  (9, [(8, { dp := true }), (9, { dp := true })])]
noncomputable def Esl5Copy (N : Nat) : Env := { te := TE, cs := [consl5Ints N] }
noncomputable def dsl5Copy_0 : Desc := { n := 56, regs := [u, .one (.fpt (.pair (.sl (.pair (.sl (.int .i64)) (.pair (.sl (.int .i64)) .unit))) (.pair (.sl (.sl (.int .i64))) (.pair (.sl (.int .i64)) .unit)))), .one (.lit (.ptr 1000064 0)), .one (.lit (.ptr 1013056 0)), .one (.val (.int .i64))], bx := [(1000064, .var [.lit .nil, .lit .nil, .lit .nil]), (1013056, .var [.lit (.row 1012993), .lit (.row 1012994), .lit (.row 1012929)]), (1012993, .row (.pair (.sl (.int .i64)) (.pair (.sl (.int .i64)) .unit))), (1012994, .row (.sl (.int .i64))), (1012929, .row (.int .i64))], pins := [] }
noncomputable def osl5Copy_0 : Outs := [(.exit 0, { n := 56, regs := [u, .one (.fpt (.pair (.sl (.pair (.sl (.int .i64)) (.pair (.sl (.int .i64)) .unit))) (.pair (.sl (.sl (.int .i64))) (.pair (.sl (.int .i64)) .unit)))), .one (.lit (.ptr 1000064 0)), .one (.lit (.ptr 1013056 0))], bx := [(1000064, .var [.lit .nil, .lit .nil, .lit .nil]), (1013056, .var [.lit (.row 1012993), .lit (.row 1012994), .lit (.row 1012929)]), (1012993, .row (.pair (.sl (.int .i64)) (.pair (.sl (.int .i64)) .unit))), (1012994, .row (.sl (.int .i64))), (1012929, .row (.int .i64))], pins := [] })]
noncomputable def dsl5Copy_2 : Desc := { n := 56, regs := [u, .one (.fpt (.pair (.sl (.pair (.sl (.int .i64)) (.pair (.sl (.int .i64)) .unit))) (.pair (.sl (.sl (.int .i64))) (.pair (.sl (.int .i64)) .unit)))), .one (.lit (.ptr 1000064 0)), .one (.lit (.ptr 1013056 0)), u, .one (.val (.int .i64))], bx := [(1000064, .var [.lit .nil, .lit .nil, .lit .nil]), (1013056, .var [.lit (.row 1012993), .lit (.row 1012994), .lit (.row 1012929)]), (1012993, .row (.pair (.sl (.int .i64)) (.pair (.sl (.int .i64)) .unit))), (1012994, .row (.sl (.int .i64))), (1012929, .row (.int .i64))], pins := [] }
noncomputable def osl5Copy_2 : Outs := [(.exit 2, { n := 56, regs := [u, u, .one (.lit (.ptr 1000064 0)), .one (.lit (.ptr 1013056 0))], bx := [(1000064, .var [.lit .nil, .lit .nil, .lit .nil]), (1013056, .var [.lit (.row 1012993), .lit (.row 1012994), .lit (.row 1012929)]), (1012993, .row (.pair (.sl (.int .i64)) (.pair (.sl (.int .i64)) .unit))), (1012994, .row (.sl (.int .i64))), (1012929, .row (.int .i64))], pins := [] })]
noncomputable def lsl5Copy_0 (N : Nat) : Nat → (((List ((List Int) × ((List Int) × Unit))) × ((List (List Int)) × ((List Int) × Unit))) × (Int × ((List ((List Int) × ((List Int) × Unit))) × ((List (List Int)) × ((List Int) × Unit))))) → Option (((List ((List Int) × ((List Int) × Unit))) × ((List (List Int)) × ((List Int) × Unit))) × ((List ((List Int) × ((List Int) × Unit))) × ((List (List Int)) × ((List Int) × Unit))))
  | 0, _ => none
  | n + 1, v =>
    let y3 := decide (v.2.1 < (v.1.1.length : Int))
    bif y3 then
     bif decide (0 ≤ v.2.1) then
     bif decide (v.2.1.toNat < v.1.1.length) then
     let y4 := v.1.1.getD v.2.1.toNat (([] : (List Int)), ([] : (List Int)), ())
     (Fsl5Ints N (y4.1, ())).bind fun r5 =>
     bif decide (0 ≤ v.2.1) then
     bif decide (v.2.1.toNat < v.1.1.length) then
     let y6 := v.1.1.getD v.2.1.toNat (([] : (List Int)), ([] : (List Int)), ())
     (Fsl5Ints N (y6.2.1, ())).bind fun r7 =>
     bif decide (v.2.2.1.length + [(r5.1, r7.1, ())].length ≤ lim) then
     lsl5Copy_0 N n (v.1, w64 (v.2.1 + (1 : Int)), v.2.2.1 ++ [(r5.1, r7.1, ())], v.2.2.2.1, v.2.2.2.2.1, ())
     else none
     else none
     else none
     else none
     else none
    else
    some (v.1, v.2.2.1, v.2.2.2.1, v.2.2.2.2.1, ())
noncomputable def lsl5Copy_2 (N : Nat) : Nat → (((List ((List Int) × ((List Int) × Unit))) × ((List (List Int)) × ((List Int) × Unit))) × (Int × ((List ((List Int) × ((List Int) × Unit))) × ((List (List Int)) × ((List Int) × Unit))))) → Option ((List ((List Int) × ((List Int) × Unit))) × ((List (List Int)) × ((List Int) × Unit)))
  | 0, _ => none
  | n + 1, v =>
    let y9 := decide (v.2.1 < (v.1.2.1.length : Int))
    bif y9 then
     bif decide (0 ≤ v.2.1) then
     bif decide (v.2.1.toNat < v.1.2.1.length) then
     let y10 := v.1.2.1.getD v.2.1.toNat ([] : (List Int))
     (Fsl5Ints N (y10, ())).bind fun r11 =>
     bif decide (v.2.2.2.1.length + [r11.1].length ≤ lim) then
     lsl5Copy_2 N n (v.1, w64 (v.2.1 + (1 : Int)), v.2.2.1, v.2.2.2.1 ++ [r11.1], v.2.2.2.2.1, ())
     else none
     else none
     else none
    else
    some (v.2.2.1, v.2.2.2.1, v.2.2.2.2.1, ())
noncomputable def Fsl5Copy (N : Nat) (x : (((List ((List Int) × ((List Int) × Unit))) × ((List (List Int)) × ((List Int) × Unit))) × Unit)) : Option ((List ((List Int) × ((List Int) × Unit))) × ((List (List Int)) × ((List Int) × Unit))) :=
  (Fsl5Ints N (x.1.2.2.1, ())).bind fun r1 =>
  let y2 := ([] : (List ((List Int) × ((List Int) × Unit))))
  (lsl5Copy_0 N N (x.1, (0 : Int), y2, ([] : (List (List Int))), r1.1, ())).bind fun o8 =>
  (lsl5Copy_2 N N (o8.1, (0 : Int), o8.2.1, o8.2.2.1, o8.2.2.2.1, ())).bind fun o12 =>
  some (o12.1, o12.2.1, o12.2.2.1, ())
noncomputable def consl5Copy (N : Nat) : Con := { f := 52, din := dinsl5Copy, outs := outsl5Copy, F := Fsl5Copy N }
noncomputable def Xsl5Copy (N : Nat) : Ctx := { E := Esl5Copy N, H := Hsl5Copy, lp := [(0, { hd := dsl5Copy_0, outs := osl5Copy_0, run := fun v => lsl5Copy_0 N N v }), (2, { hd := dsl5Copy_2, outs := osl5Copy_2, run := fun v => lsl5Copy_2 N N v })], jn := [] }
noncomputable def bsl5Copy_2 : Code := loopBody (codeOf Try.f52) 1
noncomputable def bsl5Copy_0 : Code := loopBody (codeOf Try.f52) 0
theorem Fsl5Copy_eq (N : Nat) (x : (((List ((List Int) × ((List Int) × Unit))) × ((List (List Int)) × ((List Int) × Unit))) × Unit)) : evFn (Xsl5Copy N) Try.f52 dinsl5Copy outsl5Copy x = Fsl5Copy N x := by kernel_rfl
theorem lsl5Copy_0_eq (N n : Nat) (v : (((List ((List Int) × ((List Int) × Unit))) × ((List (List Int)) × ((List Int) × Unit))) × (Int × ((List ((List Int) × ((List Int) × Unit))) × ((List (List Int)) × ((List Int) × Unit)))))) : lsl5Copy_0 N (n + 1) v = ev (Xsl5Copy N) bsl5Copy_0 (roundK dsl5Copy_0 osl5Copy_0 (lsl5Copy_0 N n)) (dsl5Copy_0.mk' v) := by kernel_rfl
theorem lsl5Copy_2_eq (N n : Nat) (v : (((List ((List Int) × ((List Int) × Unit))) × ((List (List Int)) × ((List Int) × Unit))) × (Int × ((List ((List Int) × ((List Int) × Unit))) × ((List (List Int)) × ((List Int) × Unit)))))) : lsl5Copy_2 N (n + 1) v = ev (Xsl5Copy N) bsl5Copy_2 (roundK dsl5Copy_2 osl5Copy_2 (lsl5Copy_2 N n)) (dsl5Copy_2.mk' v) := by kernel_rfl
theorem cxsl5Copy (N : Nat) : CtxOk Try.prog (Xsl5Copy N) := ⟨⟨TE_ok, List.forall_mem_cons.2 ⟨specsl5Ints N, fun k hk => absurd hk List.not_mem_nil⟩⟩, mixed⟩
theorem lpsl5Copy_0 (N : Nat) : LoopOk Try.prog { hd := dsl5Copy_0, outs := osl5Copy_0, run := fun v => lsl5Copy_0 N N v } bsl5Copy_0 :=
  loop_fuel (d := dsl5Copy_0) (os := osl5Copy_0) (cxsl5Copy N) (loops_at (ids := []) (by kernel_rfl) (trivial)) (lsl5Copy_0 N) (fun _ => rfl) (fun n v => lsl5Copy_0_eq N n v) (fun _ => N)
theorem lpsl5Copy_2 (N : Nat) : LoopOk Try.prog { hd := dsl5Copy_2, outs := osl5Copy_2, run := fun v => lsl5Copy_2 N N v } bsl5Copy_2 :=
  loop_fuel (d := dsl5Copy_2) (os := osl5Copy_2) (cxsl5Copy N) (loops_at (ids := []) (by kernel_rfl) (trivial)) (lsl5Copy_2 N) (fun _ => rfl) (fun n v => lsl5Copy_2_eq N n v) (fun _ => N)
theorem specsl5Copy (N : Nat) : Spec Try.prog (consl5Copy N) :=
  Spec.of_eq (fn_spec (cxsl5Copy N) (f := 52) (fn := Try.f52) (c := codeOf Try.f52) (by kernel_rfl) (by kernel_rfl) (by kernel_rfl) (loops_at (ids := [0, 2]) (by kernel_rfl) ⟨lp_of (lpsl5Copy_0 N), ⟨lp_of (lpsl5Copy_2 N), trivial⟩⟩) (by kernel_rfl)) (fun x r h => (Fsl5Copy_eq N x).trans h)

/-! ### 54: spec.l5Fields -/

noncomputable def dinsl5Fields : Desc := { n := 1, regs := [.one (.val (.int .i64))], bx := [], pins := [] }
noncomputable def outsl5Fields : Outs := [(.ret, { n := 1, regs := [.one (.val .bool)], bx := [], pins := [] })]
noncomputable def Hsl5Fields : Hints := []
noncomputable def Esl5Fields (_N : Nat) : Env := { te := TE, cs := [] }
noncomputable def Fsl5Fields (N : Nat) (x : (Int × Unit)) : Option (Bool × Unit) :=
  bif x.1 == (2 : Int) then
   some (true, ())
  else
  bif x.1 == (3 : Int) then
   some (true, ())
  else
  bif x.1 == (4 : Int) then
   some (true, ())
  else
  bif x.1 == (5 : Int) then
   some (true, ())
  else
  some (x.1 == (7 : Int), ())
noncomputable def consl5Fields (N : Nat) : Con := { f := 54, din := dinsl5Fields, outs := outsl5Fields, F := Fsl5Fields N }
noncomputable def Xsl5Fields (N : Nat) : Ctx := { E := Esl5Fields N, H := Hsl5Fields, lp := [], jn := [] }
theorem Fsl5Fields_eq (N : Nat) (x : (Int × Unit)) : evFn (Xsl5Fields N) Try.f54 dinsl5Fields outsl5Fields x = Fsl5Fields N x := by kernel_rfl
theorem cxsl5Fields (N : Nat) : CtxOk Try.prog (Xsl5Fields N) := ⟨⟨TE_ok, fun k hk => absurd hk List.not_mem_nil⟩, mixed⟩
theorem specsl5Fields (N : Nat) : Spec Try.prog (consl5Fields N) :=
  Spec.of_eq (fn_spec (cxsl5Fields N) (f := 54) (fn := Try.f54) (c := codeOf Try.f54) (by kernel_rfl) (by kernel_rfl) (by kernel_rfl) (loops_at (ids := []) (by kernel_rfl) (trivial)) (by kernel_rfl)) (fun x r h => (Fsl5Fields_eq N x).trans h)

/-! ### 53: spec.l5Begin -/

noncomputable def dinsl5Begin : Desc := { n := 3, regs := [.one (.val (.pair (.int .i64) (.pair (.int .i64) (.pair (.int .i64) (.pair (.int .i64) (.pair (.int .i64) (.pair (.int .i64) (.pair (.pair (.int .i64) (.pair (.int .i64) .unit)) .unit)))))))), .one (.val (.sl (.int .i64))), .one (.val (.int .i64))], bx := [], pins := [] }
noncomputable def outsl5Begin : Outs := [(.ret, { n := 1, regs := [.one (.val (.int .i64))], bx := [], pins := [] })]
noncomputable def Hsl5Begin : Hints := [(0, [(0, { fz := true })])]
noncomputable def Esl5Begin (N : Nat) : Env := { te := TE, cs := [consl5Fields N] }
noncomputable def jsl5Begin_3 : Outs := [(.normal, { n := 107, regs := [u, .one (.val (.sl (.int .i64))), .one (.val (.int .i64)), .one (.fpt (.pair (.int .i64) (.pair (.int .i64) (.pair (.int .i64) (.pair (.int .i64) (.pair (.int .i64) (.pair (.int .i64) (.pair (.pair (.int .i64) (.pair (.int .i64) .unit)) .unit)))))))), u, u, u, .one (.val (.int .i64)), .one (.val .bool)], bx := [], pins := [] })]
noncomputable def jsl5Begin_4 : Outs := [(.normal, { n := 107, regs := [u, .one (.val (.sl (.int .i64))), .one (.val (.int .i64)), .one (.fpt (.pair (.int .i64) (.pair (.int .i64) (.pair (.int .i64) (.pair (.int .i64) (.pair (.int .i64) (.pair (.int .i64) (.pair (.pair (.int .i64) (.pair (.int .i64) .unit)) .unit)))))))), u, u, u, .one (.val (.int .i64)), .one (.val .bool), .one (.val .bool)], bx := [], pins := [] })]
noncomputable def jsl5Begin_5 : Outs := [(.normal, { n := 107, regs := [u, .one (.val (.sl (.int .i64))), .one (.val (.int .i64)), .one (.fpt (.pair (.int .i64) (.pair (.int .i64) (.pair (.int .i64) (.pair (.int .i64) (.pair (.int .i64) (.pair (.int .i64) (.pair (.pair (.int .i64) (.pair (.int .i64) .unit)) .unit)))))))), u, u, u, .one (.val (.int .i64)), .one (.val .bool), .one (.val .bool), .one (.val .bool)], bx := [], pins := [] })]
noncomputable def jsl5Begin_25 : Outs := [(.normal, { n := 107, regs := [u, .one (.val (.sl (.int .i64))), .one (.val (.int .i64)), .one (.fpt (.pair (.int .i64) (.pair (.int .i64) (.pair (.int .i64) (.pair (.int .i64) (.pair (.int .i64) (.pair (.int .i64) (.pair (.pair (.int .i64) (.pair (.int .i64) .unit)) .unit)))))))), u, u, u, .one (.val (.int .i64)), .one (.val .bool), .one (.val .bool), .one (.val .bool)], bx := [], pins := [] })]
noncomputable def jsl5Begin_27 : Outs := [(.normal, { n := 107, regs := [u, .one (.val (.sl (.int .i64))), .one (.val (.int .i64)), .one (.fpt (.pair (.int .i64) (.pair (.int .i64) (.pair (.int .i64) (.pair (.int .i64) (.pair (.int .i64) (.pair (.int .i64) (.pair (.pair (.int .i64) (.pair (.int .i64) .unit)) .unit)))))))), u, u, u, .one (.val (.int .i64))], bx := [], pins := [] }), (.ret, { n := 107, regs := [u, u, u, u, u, u, .one (.val (.int .i64))], bx := [], pins := [] })]
noncomputable def jsl5Begin_29 : Outs := [(.normal, { n := 107, regs := [u, u, u, .one (.fpt (.pair (.int .i64) (.pair (.int .i64) (.pair (.int .i64) (.pair (.int .i64) (.pair (.int .i64) (.pair (.int .i64) (.pair (.pair (.int .i64) (.pair (.int .i64) .unit)) .unit)))))))), u, u, u, .one (.val (.int .i64))], bx := [], pins := [] }), (.ret, { n := 107, regs := [u, u, u, u, u, u, .one (.val (.int .i64))], bx := [], pins := [] })]
noncomputable def Fsl5Begin (N : Nat) (x : ((Int × (Int × (Int × (Int × (Int × (Int × ((Int × (Int × Unit)) × Unit))))))) × ((List Int) × (Int × Unit)))) : Option (Int × Unit) :=
  Option.bind (
   bif decide (x.1.2.1 ≥ (0 : Int)) then
    let y1 := decide (x.1.2.1 < (x.2.1.length : Int))
    some (x.2.1, x.2.2.1, x.1, (x.2.1.length : Int), y1, ())
   else
   some (x.2.1, x.2.2.1, x.1, (x.2.1.length : Int), false, ())) fun o2 =>
  Option.bind (
   bif decide (o2.2.2.1.2.2.1 ≥ (0 : Int)) then
    some (o2.1, o2.2.1, o2.2.2.1, o2.2.2.2.1, o2.2.2.2.2.1, decide (o2.2.2.1.2.2.1 < o2.2.2.2.1), ())
   else
   some (o2.1, o2.2.1, o2.2.2.1, o2.2.2.2.1, o2.2.2.2.2.1, false, ())) fun o3 =>
  Option.bind (
   let y4 := decide (o3.2.2.1.2.2.2.1 ≥ (0 : Int))
   bif y4 then
    let y5 := decide (o3.2.2.1.2.2.2.1 < o3.2.2.2.1)
    some (o3.1, o3.2.1, o3.2.2.1, o3.2.2.2.1, o3.2.2.2.2.1, o3.2.2.2.2.2.1, y5, ())
   else
   some (o3.1, o3.2.1, o3.2.2.1, o3.2.2.2.1, o3.2.2.2.2.1, o3.2.2.2.2.2.1, false, ())) fun o6 =>
  Option.bind (
   bif o6.2.2.1.1 == (1 : Int) then
    some (o6.1, o6.2.1, o6.2.2.1, o6.2.2.2.1, true, true, true, ())
   else
   bif o6.2.2.1.1 == (8 : Int) then
    some (o6.1, o6.2.1, o6.2.2.1, o6.2.2.2.1, decide (o6.2.2.2.1 > (0 : Int)), true, true, ())
   else
   bif o6.2.2.1.1 == (2 : Int) then
    some (o6.1, o6.2.1, o6.2.2.1, o6.2.2.2.1, o6.2.2.2.2.1, true, true, ())
   else
   bif o6.2.2.1.1 == (4 : Int) then
    some (o6.1, o6.2.1, o6.2.2.1, o6.2.2.2.1, o6.2.2.2.2.1, true, true, ())
   else
   bif o6.2.2.1.1 == (5 : Int) then
    some (o6.1, o6.2.1, o6.2.2.1, o6.2.2.2.1, o6.2.2.2.2.1, true, true, ())
   else
   bif o6.2.2.1.1 == (9 : Int) then
    some (o6.1, o6.2.1, o6.2.2.1, o6.2.2.2.1, o6.2.2.2.2.1, true, true, ())
   else
   bif o6.2.2.1.1 == (10 : Int) then
    some (o6.1, o6.2.1, o6.2.2.1, o6.2.2.2.1, o6.2.2.2.2.1, true, true, ())
   else
   bif o6.2.2.1.1 == (11 : Int) then
    some (o6.1, o6.2.1, o6.2.2.1, o6.2.2.2.1, o6.2.2.2.2.1, true, true, ())
   else
   bif o6.2.2.1.1 == (3 : Int) then
    some (o6.1, o6.2.1, o6.2.2.1, o6.2.2.2.1, o6.2.2.2.2.1, o6.2.2.2.2.2.1, true, ())
   else
   bif o6.2.2.1.1 == (6 : Int) then
    some (o6.1, o6.2.1, o6.2.2.1, o6.2.2.2.1, o6.2.2.2.2.1, o6.2.2.2.2.2.1, true, ())
   else
   some (o6.1, o6.2.1, o6.2.2.1, o6.2.2.2.1, o6.2.2.2.2.1, o6.2.2.2.2.2.1, o6.2.2.2.2.2.2.1, ())) fun o7 =>
  Option.bind (
   bif !o7.2.2.2.2.1 then
    some (.inr (((2 : Int), ())))
   else
   bif !o7.2.2.2.2.2.1 then
    some (.inr (((2 : Int), ())))
   else
   bif !o7.2.2.2.2.2.2.1 then
    some (.inr (((2 : Int), ())))
   else
   some (.inl (o7.1, o7.2.1, o7.2.2.1, o7.2.2.2.1, ()))) fun o8 =>
  Sum.elim (fun o9 =>
   Option.bind (
    (Fsl5Fields N (o9.2.2.1.1, ())).bind fun r10 =>
    bif r10.1 then
     bif decide (0 ≤ o9.2.2.1.2.1) then
     bif decide (o9.2.2.1.2.1.toNat < o9.1.length) then
     let y11 := o9.1.getD o9.2.2.1.2.1.toNat (0 : Int)
     bif y11 == o9.2.1 then
      some (.inr (((3 : Int), ())))
     else
     some (.inl (o9.2.2.1, o9.2.2.2.1, ()))
     else none
     else none
    else
    bif o9.2.2.1.1 == (10 : Int) then
     bif decide (0 ≤ o9.2.2.1.2.1) then
     bif decide (o9.2.2.1.2.1.toNat < o9.1.length) then
     let y12 := o9.1.getD o9.2.2.1.2.1.toNat (0 : Int)
     bif y12 == o9.2.1 then
      some (.inr (((3 : Int), ())))
     else
     some (.inl (o9.2.2.1, o9.2.2.2.1, ()))
     else none
     else none
    else
    bif o9.2.2.1.1 == (11 : Int) then
     bif decide (0 ≤ o9.2.2.1.2.1) then
     bif decide (o9.2.2.1.2.1.toNat < o9.1.length) then
     let y13 := o9.1.getD o9.2.2.1.2.1.toNat (0 : Int)
     bif y13 == o9.2.1 then
      some (.inr (((3 : Int), ())))
     else
     some (.inl (o9.2.2.1, o9.2.2.2.1, ()))
     else none
     else none
    else
    some (.inl (o9.2.2.1, o9.2.2.2.1, ()))) fun o14 =>
   Sum.elim (fun o15 =>
    bif o15.1.1 == (1 : Int) then
     bif o15.2.1 == (8 : Int) then
      some ((5 : Int), ())
     else
     some ((0 : Int), ())
    else
    bif o15.1.1 == (2 : Int) then
     bif o15.2.1 == (8 : Int) then
      some ((5 : Int), ())
     else
     some ((0 : Int), ())
    else
    bif o15.1.1 == (9 : Int) then
     bif o15.2.1 == (8 : Int) then
      some ((5 : Int), ())
     else
     some ((0 : Int), ())
    else
    some ((0 : Int), ())) (fun o16 =>
    some (o16.1, ())) o14) (fun o17 =>
   some (o17.1, ())) o8
noncomputable def consl5Begin (N : Nat) : Con := { f := 53, din := dinsl5Begin, outs := outsl5Begin, F := Fsl5Begin N }
noncomputable def Xsl5Begin (N : Nat) : Ctx := { E := Esl5Begin N, H := Hsl5Begin, lp := [], jn := [(3, jsl5Begin_3), (4, jsl5Begin_4), (5, jsl5Begin_5), (25, jsl5Begin_25), (27, jsl5Begin_27), (29, jsl5Begin_29)] }
theorem Fsl5Begin_eq (N : Nat) (x : ((Int × (Int × (Int × (Int × (Int × (Int × ((Int × (Int × Unit)) × Unit))))))) × ((List Int) × (Int × Unit)))) : evFn (Xsl5Begin N) Try.f53 dinsl5Begin outsl5Begin x = Fsl5Begin N x := by kernel_rfl
theorem cxsl5Begin (N : Nat) : CtxOk Try.prog (Xsl5Begin N) := ⟨⟨TE_ok, List.forall_mem_cons.2 ⟨specsl5Fields N, fun k hk => absurd hk List.not_mem_nil⟩⟩, mixed⟩
theorem specsl5Begin (N : Nat) : Spec Try.prog (consl5Begin N) :=
  Spec.of_eq (fn_spec (cxsl5Begin N) (f := 53) (fn := Try.f53) (c := codeOf Try.f53) (by kernel_rfl) (by kernel_rfl) (by kernel_rfl) (loops_at (ids := []) (by kernel_rfl) (trivial)) (by kernel_rfl)) (fun x r h => (Fsl5Begin_eq N x).trans h)

/-! ### 55: spec.l5Field -/

noncomputable def dinsl5Field : Desc := { n := 3, regs := [.one (.val (.pair (.int .i64) (.pair (.int .i64) (.pair (.int .i64) (.pair (.int .i64) (.pair (.int .i64) (.pair (.int .i64) (.pair (.pair (.int .i64) (.pair (.int .i64) .unit)) .unit)))))))), .one (.val (.int .i64)), .one (.val (.int .i64))], bx := [], pins := [] }
noncomputable def outsl5Field : Outs := [(.ret, { n := 1, regs := [.one (.val .bool)], bx := [], pins := [] })]
noncomputable def Hsl5Field : Hints := [(0, [(0, { fz := true })])]
noncomputable def Esl5Field (_N : Nat) : Env := { te := TE, cs := [] }
noncomputable def jsl5Field_3 : Outs := [(.normal, { n := 33, regs := [u, .one (.val (.int .i64)), u, .one (.fpt (.pair (.int .i64) (.pair (.int .i64) (.pair (.int .i64) (.pair (.int .i64) (.pair (.int .i64) (.pair (.int .i64) (.pair (.pair (.int .i64) (.pair (.int .i64) .unit)) .unit))))))))], bx := [], pins := [] }), (.ret, { n := 33, regs := [u, u, u, u, u, u, .one (.val .bool)], bx := [], pins := [] })]
noncomputable def Fsl5Field (N : Nat) (x : ((Int × (Int × (Int × (Int × (Int × (Int × ((Int × (Int × Unit)) × Unit))))))) × (Int × (Int × Unit)))) : Option (Bool × Unit) :=
  Option.bind (
   bif x.1.1 == (4 : Int) then
    bif decide (x.1.2.2.2.2.1 ≥ (0 : Int)) then
     some (.inr ((decide (x.1.2.2.2.2.1 < x.2.2.1), ())))
    else
    some (.inr ((false, ())))
   else
   bif x.1.1 == (5 : Int) then
    bif decide (x.1.2.2.2.2.1 ≥ (0 : Int)) then
     some (.inr ((decide (x.1.2.2.2.2.1 < x.2.2.1), ())))
    else
    some (.inr ((false, ())))
   else
   some (.inl (x.2.1, x.1, ()))) fun o1 =>
  Sum.elim (fun o2 =>
   let y3 := decide (o2.2.1.2.2.2.2.1 ≥ (0 : Int))
   bif y3 then
    some (decide (o2.2.1.2.2.2.2.1 < o2.1), ())
   else
   some (false, ())) (fun o4 =>
   some (o4.1, ())) o1
noncomputable def consl5Field (N : Nat) : Con := { f := 55, din := dinsl5Field, outs := outsl5Field, F := Fsl5Field N }
noncomputable def Xsl5Field (N : Nat) : Ctx := { E := Esl5Field N, H := Hsl5Field, lp := [], jn := [(3, jsl5Field_3)] }
theorem Fsl5Field_eq (N : Nat) (x : ((Int × (Int × (Int × (Int × (Int × (Int × ((Int × (Int × Unit)) × Unit))))))) × (Int × (Int × Unit)))) : evFn (Xsl5Field N) Try.f55 dinsl5Field outsl5Field x = Fsl5Field N x := by kernel_rfl
theorem cxsl5Field (N : Nat) : CtxOk Try.prog (Xsl5Field N) := ⟨⟨TE_ok, fun k hk => absurd hk List.not_mem_nil⟩, mixed⟩
theorem specsl5Field (N : Nat) : Spec Try.prog (consl5Field N) :=
  Spec.of_eq (fn_spec (cxsl5Field N) (f := 55) (fn := Try.f55) (c := codeOf Try.f55) (by kernel_rfl) (by kernel_rfl) (by kernel_rfl) (loops_at (ids := []) (by kernel_rfl) (trivial)) (by kernel_rfl)) (fun x r h => (Fsl5Field_eq N x).trans h)

/-! ### 56: spec.l5Pins -/

noncomputable def dinsl5Pins : Desc := { n := 3, regs := [.one (.val (.sl (.int .i64))), .one (.val (.int .i64)), .one (.val (.int .i64))], bx := [], pins := [] }
noncomputable def outsl5Pins : Outs := [(.ret, { n := 2, regs := [.one (.lit (.row 1038400)), .one (.val .bool)], bx := [(1038400, .row (.int .i64))], pins := [] })]
noncomputable def Hsl5Pins : Hints := [(3, [(0, { nl := [(0, (.int .i64))] })]),
  (12, [(0, { nl := [(0, (.int .i64))] })])]
noncomputable def Esl5Pins (N : Nat) : Env := { te := TE, cs := [consl5Ints N] }
noncomputable def dsl5Pins_0 : Desc := { n := 44, regs := [.one (.val (.sl (.int .i64))), u, .one (.val (.int .i64)), u, u, u, u, u, .one (.val (.int .i64)), .one (.val (.int .i64))], bx := [], pins := [] }
noncomputable def osl5Pins_0 : Outs := [(.exit 0, { n := 44, regs := [.one (.val (.sl (.int .i64))), u, u, u, u, u, u, u, .one (.val (.int .i64))], bx := [], pins := [] })]
noncomputable def lsl5Pins_0 (N : Nat) : Nat → ((List Int) × (Int × (Int × (Int × Unit)))) → Option ((List Int) × (Int × Unit))
  | 0, _ => none
  | n + 1, v =>
    let y2 := decide (v.2.2.2.1 < (v.1.length : Int))
    bif y2 then
     bif decide (0 ≤ v.2.2.2.1) then
     bif decide (v.2.2.2.1.toNat < v.1.length) then
     let y3 := (v.1.getD v.2.2.2.1.toNat (0 : Int)) == v.2.1
     bif y3 then
      lsl5Pins_0 N n (v.1, v.2.1, v.2.2.2.1, w64 (v.2.2.2.1 + (1 : Int)), ())
     else
     lsl5Pins_0 N n (v.1, v.2.1, v.2.2.1, w64 (v.2.2.2.1 + (1 : Int)), ())
     else none
     else none
    else
    some (v.1, v.2.2.1, ())
noncomputable def Fsl5Pins (N : Nat) (x : ((List Int) × (Int × (Int × Unit)))) : Option (Bool × ((List Int) × Unit)) :=
  bif x.2.1 == (10 : Int) then
   bif (x.1.length : Int) == (8 : Int) then
    some (false, ([] : (List Int)), ())
   else
   (Fsl5Ints N (x.1, ())).bind fun r1 =>
   bif decide (r1.1.length + [x.2.2.1].length ≤ lim) then
   some (true, r1.1 ++ [x.2.2.1], ())
   else none
  else
  (lsl5Pins_0 N N (x.1, x.2.2.1, (-1 : Int), (0 : Int), ())).bind fun o4 =>
  bif decide (o4.2.1 < (0 : Int)) then
   some (false, ([] : (List Int)), ())
  else
  bif decide (0 ≤ o4.2.1) then
  bif decide (o4.2.1 ≤ (o4.1.length : Int)) then
  bif decide (0 ≤ (0 : Int)) then
  bif decide ((0 : Int) ≤ o4.2.1) then
  let y5 := (o4.1.drop (0 : Int).toNat).take (o4.2.1.toNat - (0 : Int).toNat)
  (Fsl5Ints N (y5, ())).bind fun r6 =>
  bif decide (0 ≤ (o4.1.length : Int)) then
  bif decide ((o4.1.length : Int) ≤ (o4.1.length : Int)) then
  bif decide (0 ≤ (w64 (o4.2.1 + (1 : Int)))) then
  bif decide ((w64 (o4.2.1 + (1 : Int))) ≤ (o4.1.length : Int)) then
  let y7 := (o4.1.drop (w64 (o4.2.1 + (1 : Int))).toNat).take ((o4.1.length : Int).toNat - (w64 (o4.2.1 + (1 : Int))).toNat)
  bif decide (r6.1.length + y7.length ≤ lim) then
  some (true, r6.1 ++ y7, ())
  else none
  else none
  else none
  else none
  else none
  else none
  else none
  else none
  else none
noncomputable def consl5Pins (N : Nat) : Con := { f := 56, din := dinsl5Pins, outs := outsl5Pins, F := Fsl5Pins N }
noncomputable def Xsl5Pins (N : Nat) : Ctx := { E := Esl5Pins N, H := Hsl5Pins, lp := [(0, { hd := dsl5Pins_0, outs := osl5Pins_0, run := fun v => lsl5Pins_0 N N v })], jn := [] }
noncomputable def bsl5Pins_0 : Code := loopBody (codeOf Try.f56) 0
theorem Fsl5Pins_eq (N : Nat) (x : ((List Int) × (Int × (Int × Unit)))) : evFn (Xsl5Pins N) Try.f56 dinsl5Pins outsl5Pins x = Fsl5Pins N x := by kernel_rfl
theorem lsl5Pins_0_eq (N n : Nat) (v : ((List Int) × (Int × (Int × (Int × Unit))))) : lsl5Pins_0 N (n + 1) v = ev (Xsl5Pins N) bsl5Pins_0 (roundK dsl5Pins_0 osl5Pins_0 (lsl5Pins_0 N n)) (dsl5Pins_0.mk' v) := by kernel_rfl
theorem cxsl5Pins (N : Nat) : CtxOk Try.prog (Xsl5Pins N) := ⟨⟨TE_ok, List.forall_mem_cons.2 ⟨specsl5Ints N, fun k hk => absurd hk List.not_mem_nil⟩⟩, mixed⟩
theorem lpsl5Pins_0 (N : Nat) : LoopOk Try.prog { hd := dsl5Pins_0, outs := osl5Pins_0, run := fun v => lsl5Pins_0 N N v } bsl5Pins_0 :=
  loop_fuel (d := dsl5Pins_0) (os := osl5Pins_0) (cxsl5Pins N) (loops_at (ids := []) (by kernel_rfl) (trivial)) (lsl5Pins_0 N) (fun _ => rfl) (fun n v => lsl5Pins_0_eq N n v) (fun _ => N)
theorem specsl5Pins (N : Nat) : Spec Try.prog (consl5Pins N) :=
  Spec.of_eq (fn_spec (cxsl5Pins N) (f := 56) (fn := Try.f56) (c := codeOf Try.f56) (by kernel_rfl) (by kernel_rfl) (by kernel_rfl) (loops_at (ids := [0]) (by kernel_rfl) ⟨lp_of (lpsl5Pins_0 N), trivial⟩) (by kernel_rfl)) (fun x r h => (Fsl5Pins_eq N x).trans h)

/-! ### 57: spec.l5One -/

noncomputable def dinsl5One : Desc := { n := 1, regs := [.one (.val .bool)], bx := [], pins := [] }
noncomputable def outsl5One : Outs := [(.ret, { n := 1, regs := [.one (.val (.int .i64))], bx := [], pins := [] })]
noncomputable def Hsl5One : Hints := []
noncomputable def Esl5One (_N : Nat) : Env := { te := TE, cs := [] }
noncomputable def Fsl5One (N : Nat) (x : (Bool × Unit)) : Option (Int × Unit) :=
  bif x.1 then
   some ((1 : Int), ())
  else
  some ((0 : Int), ())
noncomputable def consl5One (N : Nat) : Con := { f := 57, din := dinsl5One, outs := outsl5One, F := Fsl5One N }
noncomputable def Xsl5One (N : Nat) : Ctx := { E := Esl5One N, H := Hsl5One, lp := [], jn := [] }
theorem Fsl5One_eq (N : Nat) (x : (Bool × Unit)) : evFn (Xsl5One N) Try.f57 dinsl5One outsl5One x = Fsl5One N x := by kernel_rfl
theorem cxsl5One (N : Nat) : CtxOk Try.prog (Xsl5One N) := ⟨⟨TE_ok, fun k hk => absurd hk List.not_mem_nil⟩, mixed⟩
theorem specsl5One (N : Nat) : Spec Try.prog (consl5One N) :=
  Spec.of_eq (fn_spec (cxsl5One N) (f := 57) (fn := Try.f57) (c := codeOf Try.f57) (by kernel_rfl) (by kernel_rfl) (by kernel_rfl) (loops_at (ids := []) (by kernel_rfl) (trivial)) (by kernel_rfl)) (fun x r h => (Fsl5One_eq N x).trans h)

/-! ### 14: spec.GraphDo -/

noncomputable def dinsGraphDo : Desc := { n := 3, regs := [.one (.val (.pair (.sl (.pair (.sl (.int .i64)) (.pair (.sl (.int .i64)) .unit))) (.pair (.sl (.sl (.int .i64))) (.pair (.sl (.int .i64)) .unit)))), .one (.val (.int .i64)), .one (.val (.pair (.int .i64) (.pair (.int .i64) (.pair (.int .i64) (.pair (.int .i64) (.pair (.int .i64) (.pair (.int .i64) (.pair (.pair (.int .i64) (.pair (.int .i64) .unit)) .unit))))))))], bx := [], pins := [] }
noncomputable def outsGraphDo : Outs := [(.ret, { n := 3, regs := [.agg [.lit (.row 1038465), .lit (.row 1038466), .lit (.row 1141377)], .one (.val (.int .i64)), .one (.val (.int .i64))], bx := [(1038465, .row (.pair (.sl (.int .i64)) (.pair (.sl (.int .i64)) .unit))), (1038466, .row (.sl (.int .i64))), (1141377, .row (.int .i64))], pins := [] })]
noncomputable def HsGraphDo : Hints := [(0, [(0, { fz := true }), (1, { fz := true })]),
  (1, [(16, { con := 1 })]),
  (2, [(0, { nl := [(0, (.pair (.sl (.int .i64)) (.pair (.sl (.int .i64)) .unit))), (1, (.sl (.int .i64))), (2, (.int .i64))] })]),
  (3, [(1, { con := 2 })]),
  (5, [(2, { con := 3 })]),
  (6, [(5, { con := 4 }), (31, { con := 5 })]),
  (11, [(9, { con := 6 })]),
  (20, [(4, { nl := [(0, (.int .i64))] })]),
  (25, [(3, { dp := true }), (4, { dp := true })]),
  (36, [(11, { con := 7 })])]
noncomputable def EsGraphDo (N : Nat) : Env := { te := TE, cs := [consGraphOk N, consOpOk N, consl5Copy N, consl5Begin N, consl5Fields N, consl5Field N, consl5Pins N, consl5One N] }
noncomputable def dsGraphDo_1 : Desc := { n := 323, regs := [u, .one (.val (.int .i64)), u, u, u, .one (.fpt (.pair (.int .i64) (.pair (.int .i64) (.pair (.int .i64) (.pair (.int .i64) (.pair (.int .i64) (.pair (.int .i64) (.pair (.pair (.int .i64) (.pair (.int .i64) .unit)) .unit)))))))), .one (.lit (.ptr 1000128 0)), u, u, .one (.lit (.ptr 1038528 0)), .one (.nrow 1038466 0), u, u, u, .one (.val (.int .i64)), .one (.lit (.ptr 1256320 0)), .one (.val (.int .i64))], bx := [(1000128, .var [.lit .nil, .lit .nil, .lit .nil]), (1038528, .var [.lit (.row 1038465), .lit (.row 1038466), .lit (.row 1141377)]), (1038465, .row (.pair (.sl (.int .i64)) (.pair (.sl (.int .i64)) .unit))), (1038466, .row (.sl (.int .i64))), (1141377, .row (.int .i64)), (1256320, .var [.lit (.row 1256257), .lit (.row 1256192)]), (1256257, .row (.int .i64)), (1256192, .row (.int .i64))], pins := [] }
noncomputable def osGraphDo_1 : Outs := [(.exit 1, { n := 323, regs := [u, .one (.val (.int .i64)), u, u, u, u, .one (.lit (.ptr 1000128 0)), u, u, .one (.lit (.ptr 1038528 0)), .one (.nrow 1038466 0), u, u, u, .one (.val (.int .i64)), .one (.lit (.ptr 1256320 0))], bx := [(1000128, .var [.lit .nil, .lit .nil, .lit .nil]), (1038528, .var [.lit (.row 1038465), .lit (.row 1038466), .lit (.row 1141377)]), (1038465, .row (.pair (.sl (.int .i64)) (.pair (.sl (.int .i64)) .unit))), (1038466, .row (.sl (.int .i64))), (1141377, .row (.int .i64)), (1256320, .var [.lit (.row 1256257), .lit (.row 1256192)]), (1256257, .row (.int .i64)), (1256192, .row (.int .i64))], pins := [] })]
noncomputable def jsGraphDo_3 : Outs := [(.normal, { n := 323, regs := [u, .one (.val (.int .i64)), u, .one (.fpt (.pair (.sl (.pair (.sl (.int .i64)) (.pair (.sl (.int .i64)) .unit))) (.pair (.sl (.sl (.int .i64))) (.pair (.sl (.int .i64)) .unit)))), u, .one (.fpt (.pair (.int .i64) (.pair (.int .i64) (.pair (.int .i64) (.pair (.int .i64) (.pair (.int .i64) (.pair (.int .i64) (.pair (.pair (.int .i64) (.pair (.int .i64) .unit)) .unit)))))))), .one (.lit (.ptr 1000128 0))], bx := [(1000128, .var [.lit .nil, .lit .nil, .lit .nil])], pins := [] }), (.ret, { n := 323, regs := [u, u, u, u, u, u, .one (.lit (.ptr 1000128 0)), .one (.val (.int .i64)), .one (.val (.int .i64))], bx := [(1000128, .var [.lit (.row 1025601), .lit (.row 1025602), .lit (.row 1025603)]), (1025601, .row (.pair (.sl (.int .i64)) (.pair (.sl (.int .i64)) .unit))), (1025602, .row (.sl (.int .i64))), (1025603, .row (.int .i64))], pins := [] })]
noncomputable def jsGraphDo_8 : Outs := [(.normal, { n := 323, regs := [u, .one (.val (.int .i64)), u, u, u, .one (.fpt (.pair (.int .i64) (.pair (.int .i64) (.pair (.int .i64) (.pair (.int .i64) (.pair (.int .i64) (.pair (.int .i64) (.pair (.pair (.int .i64) (.pair (.int .i64) .unit)) .unit)))))))), .one (.lit (.ptr 1000128 0)), u, u, .one (.lit (.ptr 1038528 0)), .one (.nrow 1038466 0), .one (.val (.int .i64))], bx := [(1000128, .var [.lit .nil, .lit .nil, .lit .nil]), (1038528, .var [.lit (.row 1038465), .lit (.row 1038466), .lit (.row 1038467)]), (1038465, .row (.pair (.sl (.int .i64)) (.pair (.sl (.int .i64)) .unit))), (1038466, .row (.sl (.int .i64))), (1038467, .row (.int .i64))], pins := [] })]
noncomputable def jsGraphDo_10 : Outs := [(.normal, { n := 323, regs := [u, .one (.val (.int .i64)), u, u, u, .one (.fpt (.pair (.int .i64) (.pair (.int .i64) (.pair (.int .i64) (.pair (.int .i64) (.pair (.int .i64) (.pair (.int .i64) (.pair (.pair (.int .i64) (.pair (.int .i64) .unit)) .unit)))))))), .one (.lit (.ptr 1000128 0)), u, u, .one (.lit (.ptr 1038528 0)), .one (.nrow 1038466 0), .one (.val (.int .i64))], bx := [(1000128, .var [.lit .nil, .lit .nil, .lit .nil]), (1038528, .var [.lit (.row 1038465), .lit (.row 1038466), .lit (.row 1038467)]), (1038465, .row (.pair (.sl (.int .i64)) (.pair (.sl (.int .i64)) .unit))), (1038466, .row (.sl (.int .i64))), (1038467, .row (.int .i64))], pins := [] })]
noncomputable def jsGraphDo_15 : Outs := [(.normal, { n := 323, regs := [u, .one (.val (.int .i64)), u, u, u, .one (.fpt (.pair (.int .i64) (.pair (.int .i64) (.pair (.int .i64) (.pair (.int .i64) (.pair (.int .i64) (.pair (.int .i64) (.pair (.pair (.int .i64) (.pair (.int .i64) .unit)) .unit)))))))), .one (.lit (.ptr 1000128 0)), u, u, .one (.lit (.ptr 1038528 0)), .one (.nrow 1038466 0), .one (.val (.int .i64))], bx := [(1000128, .var [.lit .nil, .lit .nil, .lit .nil]), (1038528, .var [.lit (.row 1038465), .lit (.row 1038466), .lit (.row 1141377)]), (1038465, .row (.pair (.sl (.int .i64)) (.pair (.sl (.int .i64)) .unit))), (1038466, .row (.sl (.int .i64))), (1141377, .row (.int .i64))], pins := [] }), (.ret, { n := 323, regs := [u, u, u, u, u, u, .one (.lit (.ptr 1000128 0)), .one (.val (.int .i64)), .one (.val (.int .i64))], bx := [(1000128, .var [.lit (.row 1038465), .lit (.row 1038466), .lit (.row 1038467)]), (1038465, .row (.pair (.sl (.int .i64)) (.pair (.sl (.int .i64)) .unit))), (1038466, .row (.sl (.int .i64))), (1038467, .row (.int .i64))], pins := [] })]
noncomputable def jsGraphDo_45 : Outs := [(.normal, { n := 323, regs := [u, u, u, u, u, u, .one (.lit (.ptr 1000128 0)), u, u, .one (.lit (.ptr 1038528 0)), u, u, u, u, .one (.val (.int .i64))], bx := [(1000128, .var [.lit .nil, .lit .nil, .lit .nil]), (1038528, .var [.lit (.row 1038465), .lit (.row 1038466), .lit (.row 1141377)]), (1038465, .row (.pair (.sl (.int .i64)) (.pair (.sl (.int .i64)) .unit))), (1038466, .row (.sl (.int .i64))), (1141377, .row (.int .i64))], pins := [] })]
noncomputable def lsGraphDo_1 (N : Nat) : Nat → (Int × ((Int × (Int × (Int × (Int × (Int × (Int × ((Int × (Int × Unit)) × Unit))))))) × (Int × (Int × (Int × ((List ((List Int) × ((List Int) × Unit))) × ((List (List Int)) × ((List Int) × ((List Int) × ((List Int) × Unit)))))))))) → Option (Int × (Int × (Int × ((List ((List Int) × ((List Int) × Unit))) × ((List (List Int)) × ((List Int) × ((List Int) × ((List Int) × Unit))))))))
  | 0, _ => none
  | n + 1, v =>
    let y28 := decide (v.2.2.2.2.1 < v.2.1.2.2.2.2.2.2.1.1)
    bif y28 then
     bif decide (v.2.2.2.2.2.2.2.2.1.length + [(-1 : Int)].length ≤ lim) then
     lsGraphDo_1 N n (v.1, v.2.1, Int.ofNat v.2.2.1.toNat, v.2.2.2.1, w64 (v.2.2.2.2.1 + (1 : Int)), v.2.2.2.2.2.1, v.2.2.2.2.2.2.1, v.2.2.2.2.2.2.2.1, v.2.2.2.2.2.2.2.2.1 ++ [(-1 : Int)], v.2.2.2.2.2.2.2.2.2.1, ())
     else none
    else
    some (v.1, Int.ofNat v.2.2.1.toNat, v.2.2.2.1, v.2.2.2.2.2.1, v.2.2.2.2.2.2.1, v.2.2.2.2.2.2.2.1, v.2.2.2.2.2.2.2.2.1, v.2.2.2.2.2.2.2.2.2.1, ())
noncomputable def FsGraphDo (N : Nat) (x : (((List ((List Int) × ((List Int) × Unit))) × ((List (List Int)) × ((List Int) × Unit))) × (Int × ((Int × (Int × (Int × (Int × (Int × (Int × ((Int × (Int × Unit)) × Unit))))))) × Unit)))) : Option (Int × (Int × ((List ((List Int) × ((List Int) × Unit))) × ((List (List Int)) × ((List Int) × Unit))))) :=
  Option.bind (
   (FsGraphOk N (x.1, ())).bind fun r1 =>
   bif !r1.1 then
    let y2 := ([] : (List ((List Int) × ((List Int) × Unit))))
    some (.inr (((0 : Int), (1 : Int), y2, ([] : (List (List Int))), ([] : (List Int)), ())))
   else
   bif decide (x.2.1 < (0 : Int)) then
    let y3 := ([] : (List ((List Int) × ((List Int) × Unit))))
    some (.inr (((0 : Int), (1 : Int), y3, ([] : (List (List Int))), ([] : (List Int)), ())))
   else
   let y4 := decide (x.2.1 ≥ (x.1.2.1.length : Int))
   bif y4 then
    let y5 := ([] : (List ((List Int) × ((List Int) × Unit))))
    some (.inr (((0 : Int), (1 : Int), y5, ([] : (List (List Int))), ([] : (List Int)), ())))
   else
   (FsOpOk N (x.2.2.1, ())).bind fun r6 =>
   bif !r6.1 then
    let y7 := ([] : (List ((List Int) × ((List Int) × Unit))))
    some (.inr (((0 : Int), (1 : Int), y7, ([] : (List (List Int))), ([] : (List Int)), ())))
   else
   some (.inl (x.2.1, x.1, x.2.2.1, ()))) fun o8 =>
  Sum.elim (fun o9 =>
   (Fsl5Copy N (o9.2.1, ())).bind fun r10 =>
   bif decide (0 ≤ o9.1) then
   bif decide (o9.1.toNat < r10.2.1.length) then
   (Fsl5Begin N (o9.2.2.1, r10.2.1.getD o9.1.toNat ([] : (List Int)), (-1 : Int), ())).bind fun r11 =>
   Option.bind (
    bif r11.1 == (0 : Int) then
     (Fsl5Fields N (o9.2.2.1.1, ())).bind fun r12 =>
     bif r12.1 then
      bif decide (0 ≤ o9.2.2.1.2.1) then
      bif decide (o9.2.2.1.2.1.toNat < (r10.2.1.getD o9.1.toNat ([] : (List Int))).length) then
      let y13 := (r10.2.1.getD o9.1.toNat ([] : (List Int))).getD o9.2.2.1.2.1.toNat (0 : Int)
      bif decide (0 ≤ y13) then
      bif decide (y13.toNat < r10.1.length) then
      let y14 := (((r10.1.getD y13.toNat (([] : (List Int)), ([] : (List Int)), ())).1).length : Int)
      bif decide (0 ≤ o9.2.2.1.2.1) then
      bif decide (o9.2.2.1.2.1.toNat < (r10.2.1.getD o9.1.toNat ([] : (List Int))).length) then
      let y15 := (r10.2.1.getD o9.1.toNat ([] : (List Int))).getD o9.2.2.1.2.1.toNat (0 : Int)
      bif decide (0 ≤ y15) then
      bif decide (y15.toNat < r10.1.length) then
      let y16 := ((((r10.1.getD y15.toNat (([] : (List Int)), ([] : (List Int)), ())).2).1).length : Int)
      (Fsl5Field N (o9.2.2.1, y14, y16, ())).bind fun r17 =>
      bif !r17.1 then
       some (o9.1, o9.2.2.1, Int.ofNat o9.1.toNat, (4 : Int), r10.1, r10.2.1, r10.2.2.1, ())
      else
      some (o9.1, o9.2.2.1, Int.ofNat o9.1.toNat, r11.1, r10.1, r10.2.1, r10.2.2.1, ())
      else none
      else none
      else none
      else none
      else none
      else none
      else none
      else none
     else
     some (o9.1, o9.2.2.1, Int.ofNat o9.1.toNat, r11.1, r10.1, r10.2.1, r10.2.2.1, ())
    else
    some (o9.1, o9.2.2.1, Int.ofNat o9.1.toNat, r11.1, r10.1, r10.2.1, r10.2.2.1, ())) fun o18 =>
   Option.bind (
    bif o18.2.2.2.1 == (0 : Int) then
     bif o18.2.1.1 == (1 : Int) then
      let y19 := (o18.2.2.2.2.1.length : Int) == (200 : Int)
      bif y19 then
       some (o18.1, o18.2.1, Int.ofNat o18.2.2.1.toNat, (6 : Int), o18.2.2.2.2.1, o18.2.2.2.2.2.1, o18.2.2.2.2.2.2.1, ())
      else
      some (o18.1, o18.2.1, Int.ofNat o18.2.2.1.toNat, o18.2.2.2.1, o18.2.2.2.2.1, o18.2.2.2.2.2.1, o18.2.2.2.2.2.2.1, ())
     else
     some (o18.1, o18.2.1, Int.ofNat o18.2.2.1.toNat, o18.2.2.2.1, o18.2.2.2.2.1, o18.2.2.2.2.2.1, o18.2.2.2.2.2.2.1, ())
    else
    some (o18.1, o18.2.1, Int.ofNat o18.2.2.1.toNat, o18.2.2.2.1, o18.2.2.2.2.1, o18.2.2.2.2.2.1, o18.2.2.2.2.2.2.1, ())) fun o20 =>
   Option.bind (
    bif o20.2.2.2.1 == (0 : Int) then
     bif o20.2.1.1 == (10 : Int) then
      bif decide (0 ≤ o20.2.1.2.1) then
      bif decide (o20.2.1.2.1.toNat < (o20.2.2.2.2.2.1.getD o20.2.2.1.toNat ([] : (List Int))).length) then
      let y21 := (o20.2.2.2.2.2.1.getD o20.2.2.1.toNat ([] : (List Int))).getD o20.2.1.2.1.toNat (0 : Int)
      (Fsl5Pins N (o20.2.2.2.2.2.2.1, o20.2.1.1, y21, ())).bind fun r22 =>
      bif !r22.1 then
       some (.inr (((0 : Int), (7 : Int), o20.2.2.2.2.1, o20.2.2.2.2.2.1, o20.2.2.2.2.2.2.1, ())))
      else
      some (.inl (o20.1, o20.2.1, Int.ofNat o20.2.2.1.toNat, o20.2.2.2.1, o20.2.2.2.2.1, o20.2.2.2.2.2.1, r22.2.1, ()))
      else none
      else none
     else
     bif o20.2.1.1 == (11 : Int) then
      bif decide (0 ≤ o20.2.1.2.1) then
      bif decide (o20.2.1.2.1.toNat < (o20.2.2.2.2.2.1.getD o20.2.2.1.toNat ([] : (List Int))).length) then
      let y23 := (o20.2.2.2.2.2.1.getD o20.2.2.1.toNat ([] : (List Int))).getD o20.2.1.2.1.toNat (0 : Int)
      (Fsl5Pins N (o20.2.2.2.2.2.2.1, o20.2.1.1, y23, ())).bind fun r24 =>
      bif !r24.1 then
       some (.inr (((0 : Int), (7 : Int), o20.2.2.2.2.1, o20.2.2.2.2.2.1, o20.2.2.2.2.2.2.1, ())))
      else
      some (.inl (o20.1, o20.2.1, Int.ofNat o20.2.2.1.toNat, o20.2.2.2.1, o20.2.2.2.2.1, o20.2.2.2.2.2.1, r24.2.1, ()))
      else none
      else none
     else
     some (.inl (o20.1, o20.2.1, Int.ofNat o20.2.2.1.toNat, o20.2.2.2.1, o20.2.2.2.2.1, o20.2.2.2.2.2.1, o20.2.2.2.2.2.2.1, ()))
    else
    some (.inl (o20.1, o20.2.1, Int.ofNat o20.2.2.1.toNat, o20.2.2.2.1, o20.2.2.2.2.1, o20.2.2.2.2.2.1, o20.2.2.2.2.2.2.1, ()))) fun o25 =>
   Sum.elim (fun o26 =>
    bif o26.2.2.2.1 != (0 : Int) then
     some ((0 : Int), o26.2.2.2.1, o26.2.2.2.2.1, o26.2.2.2.2.2.1, o26.2.2.2.2.2.2.1, ())
    else
    Option.bind (
     bif o26.2.1.1 == (1 : Int) then
      bif decide (0 ≤ o26.2.1.2.2.2.2.2.2.1.2.1) then
      bif decide (o26.2.1.2.2.2.2.2.2.1.2.1.toNat ≤ lim) then
      let y27 := List.replicate o26.2.1.2.2.2.2.2.2.1.2.1.toNat (0 : Int)
      (lsGraphDo_1 N N (o26.1, o26.2.1, Int.ofNat o26.2.2.1.toNat, (0 : Int), (0 : Int), o26.2.2.2.2.1, o26.2.2.2.2.2.1, o26.2.2.2.2.2.2.1, ([] : (List Int)), y27, ())).bind fun o29 =>
      let y30 := [(o29.2.2.2.2.2.2.1, o29.2.2.2.2.2.2.2.1, ())]
      bif decide (o29.2.2.2.1.length + y30.length ≤ lim) then
      let y31 := w64 (((o29.2.2.2.1 ++ y30).length : Int) - (1 : Int))
      bif decide ((o29.2.2.2.2.1.getD o29.2.1.toNat ([] : (List Int))).length + [y31].length ≤ lim) then
      let y32 := (o29.2.2.2.2.1.getD o29.2.1.toNat ([] : (List Int))) ++ [y31]
      bif decide (0 ≤ o29.1) then
      bif decide (o29.1.toNat < o29.2.2.2.2.1.length) then
      bif decide (o29.2.1.toNat = o29.1.toNat) then
      some (o29.2.2.1, o29.2.2.2.1 ++ y30, o29.2.2.2.2.1.set o29.1.toNat y32, o29.2.2.2.2.2.1, ())
      else none
      else none
      else none
      else none
      else none
      else none
      else none
     else
     bif o26.2.1.1 == (2 : Int) then
      bif decide (0 ≤ o26.2.1.2.1) then
      bif decide (o26.2.1.2.1.toNat < (o26.2.2.2.2.2.1.getD o26.2.2.1.toNat ([] : (List Int))).length) then
      let y33 := (o26.2.2.2.2.2.1.getD o26.2.2.1.toNat ([] : (List Int))).getD o26.2.1.2.1.toNat (0 : Int)
      bif decide (0 ≤ y33) then
      bif decide (y33.toNat < o26.2.2.2.2.1.length) then
      bif decide (0 ≤ o26.2.1.2.2.2.2.1) then
      bif decide (o26.2.1.2.2.2.2.1.toNat < ((o26.2.2.2.2.1.getD y33.toNat (([] : (List Int)), ([] : (List Int)), ())).1).length) then
      let y34 := ((o26.2.2.2.2.1.getD y33.toNat (([] : (List Int)), ([] : (List Int)), ())).1).getD o26.2.1.2.2.2.2.1.toNat (0 : Int)
      bif decide ((o26.2.2.2.2.2.1.getD o26.2.2.1.toNat ([] : (List Int))).length + [y34].length ≤ lim) then
      let y35 := (o26.2.2.2.2.2.1.getD o26.2.2.1.toNat ([] : (List Int))) ++ [y34]
      bif decide (0 ≤ o26.1) then
      bif decide (o26.1.toNat < o26.2.2.2.2.2.1.length) then
      bif decide (o26.2.2.1.toNat = o26.1.toNat) then
      some ((0 : Int), o26.2.2.2.2.1, o26.2.2.2.2.2.1.set o26.1.toNat y35, o26.2.2.2.2.2.2.1, ())
      else none
      else none
      else none
      else none
      else none
      else none
      else none
      else none
      else none
      else none
     else
     bif o26.2.1.1 == (3 : Int) then
      bif decide (0 ≤ o26.2.1.2.1) then
      bif decide (o26.2.1.2.1.toNat < (o26.2.2.2.2.2.1.getD o26.2.2.1.toNat ([] : (List Int))).length) then
      let y36 := (o26.2.2.2.2.2.1.getD o26.2.2.1.toNat ([] : (List Int))).getD o26.2.1.2.1.toNat (0 : Int)
      bif decide (0 ≤ y36) then
      bif decide (y36.toNat < o26.2.2.2.2.1.length) then
      bif decide (0 ≤ o26.2.1.2.2.1) then
      bif decide (o26.2.1.2.2.1.toNat < (o26.2.2.2.2.2.1.getD o26.2.2.1.toNat ([] : (List Int))).length) then
      let y37 := (o26.2.2.2.2.2.1.getD o26.2.2.1.toNat ([] : (List Int))).getD o26.2.1.2.2.1.toNat (0 : Int)
      bif decide (0 ≤ o26.2.1.2.2.2.2.1) then
      bif decide (o26.2.1.2.2.2.2.1.toNat < ((o26.2.2.2.2.1.getD y36.toNat (([] : (List Int)), ([] : (List Int)), ())).1).length) then
      let y38 := o26.2.2.2.2.1.set y36.toNat (((o26.2.2.2.2.1.getD y36.toNat (([] : (List Int)), ([] : (List Int)), ())).1).set o26.2.1.2.2.2.2.1.toNat y37, (o26.2.2.2.2.1.getD y36.toNat (([] : (List Int)), ([] : (List Int)), ())).2)
      some ((0 : Int), y38, o26.2.2.2.2.2.1, o26.2.2.2.2.2.2.1, ())
      else none
      else none
      else none
      else none
      else none
      else none
      else none
      else none
     else
     bif o26.2.1.1 == (4 : Int) then
      bif decide (0 ≤ o26.2.1.2.1) then
      bif decide (o26.2.1.2.1.toNat < (o26.2.2.2.2.2.1.getD o26.2.2.1.toNat ([] : (List Int))).length) then
      let y39 := (o26.2.2.2.2.2.1.getD o26.2.2.1.toNat ([] : (List Int))).getD o26.2.1.2.1.toNat (0 : Int)
      bif decide (0 ≤ y39) then
      bif decide (y39.toNat < o26.2.2.2.2.1.length) then
      bif decide (0 ≤ o26.2.1.2.2.2.2.1) then
      bif decide (o26.2.1.2.2.2.2.1.toNat < (((o26.2.2.2.2.1.getD y39.toNat (([] : (List Int)), ([] : (List Int)), ())).2).1).length) then
      let y40 := o26.2.2.2.2.1.set y39.toNat ((o26.2.2.2.2.1.getD y39.toNat (([] : (List Int)), ([] : (List Int)), ())).1, (((o26.2.2.2.2.1.getD y39.toNat (([] : (List Int)), ([] : (List Int)), ())).2).1).set o26.2.1.2.2.2.2.1.toNat o26.2.1.2.2.2.2.2.1, ((o26.2.2.2.2.1.getD y39.toNat (([] : (List Int)), ([] : (List Int)), ())).2).2)
      some ((0 : Int), y40, o26.2.2.2.2.2.1, o26.2.2.2.2.2.2.1, ())
      else none
      else none
      else none
      else none
      else none
      else none
     else
     bif o26.2.1.1 == (5 : Int) then
      bif decide (0 ≤ o26.2.1.2.1) then
      bif decide (o26.2.1.2.1.toNat < (o26.2.2.2.2.2.1.getD o26.2.2.1.toNat ([] : (List Int))).length) then
      let y41 := (o26.2.2.2.2.2.1.getD o26.2.2.1.toNat ([] : (List Int))).getD o26.2.1.2.1.toNat (0 : Int)
      bif decide (0 ≤ y41) then
      bif decide (y41.toNat < o26.2.2.2.2.1.length) then
      bif decide (0 ≤ o26.2.1.2.2.2.2.1) then
      bif decide (o26.2.1.2.2.2.2.1.toNat < (((o26.2.2.2.2.1.getD y41.toNat (([] : (List Int)), ([] : (List Int)), ())).2).1).length) then
      let y42 := (((o26.2.2.2.2.1.getD y41.toNat (([] : (List Int)), ([] : (List Int)), ())).2).1).getD o26.2.1.2.2.2.2.1.toNat (0 : Int)
      some (y42, o26.2.2.2.2.1, o26.2.2.2.2.2.1, o26.2.2.2.2.2.2.1, ())
      else none
      else none
      else none
      else none
      else none
      else none
     else
     bif o26.2.1.1 == (6 : Int) then
      bif decide (0 ≤ o26.2.1.2.1) then
      bif decide (o26.2.1.2.1.toNat < (o26.2.2.2.2.2.1.getD o26.2.2.1.toNat ([] : (List Int))).length) then
      let y43 := (o26.2.2.2.2.2.1.getD o26.2.2.1.toNat ([] : (List Int))).getD o26.2.1.2.1.toNat (0 : Int)
      bif decide (0 ≤ o26.2.1.2.2.1) then
      bif decide (o26.2.1.2.2.1.toNat < (o26.2.2.2.2.2.1.getD o26.2.2.1.toNat ([] : (List Int))).length) then
      let y44 := (o26.2.2.2.2.2.1.getD o26.2.2.1.toNat ([] : (List Int))).getD o26.2.1.2.2.1.toNat (0 : Int)
      (Fsl5One N (y43 == y44, ())).bind fun r45 =>
      some (r45.1, o26.2.2.2.2.1, o26.2.2.2.2.2.1, o26.2.2.2.2.2.2.1, ())
      else none
      else none
      else none
      else none
     else
     bif o26.2.1.1 == (7 : Int) then
      bif decide (0 ≤ o26.2.1.2.1) then
      bif decide (o26.2.1.2.1.toNat < (o26.2.2.2.2.2.1.getD o26.2.2.1.toNat ([] : (List Int))).length) then
      let y46 := (o26.2.2.2.2.2.1.getD o26.2.2.1.toNat ([] : (List Int))).getD o26.2.1.2.1.toNat (0 : Int)
      bif decide (0 ≤ y46) then
      bif decide (y46.toNat < o26.2.2.2.2.1.length) then
      bif decide (0 ≤ o26.2.1.2.2.2.2.1) then
      bif decide (o26.2.1.2.2.2.2.1.toNat < ((o26.2.2.2.2.1.getD y46.toNat (([] : (List Int)), ([] : (List Int)), ())).1).length) then
      let y47 := ((o26.2.2.2.2.1.getD y46.toNat (([] : (List Int)), ([] : (List Int)), ())).1).getD o26.2.1.2.2.2.2.1.toNat (0 : Int)
      bif decide (0 ≤ o26.2.1.2.2.1) then
      bif decide (o26.2.1.2.2.1.toNat < (o26.2.2.2.2.2.1.getD o26.2.2.1.toNat ([] : (List Int))).length) then
      let y48 := (o26.2.2.2.2.2.1.getD o26.2.2.1.toNat ([] : (List Int))).getD o26.2.1.2.2.1.toNat (0 : Int)
      bif y47 == y48 then
       bif decide (0 ≤ o26.2.1.2.1) then
       bif decide (o26.2.1.2.1.toNat < (o26.2.2.2.2.2.1.getD o26.2.2.1.toNat ([] : (List Int))).length) then
       let y49 := (o26.2.2.2.2.2.1.getD o26.2.2.1.toNat ([] : (List Int))).getD o26.2.1.2.1.toNat (0 : Int)
       bif decide (0 ≤ y49) then
       bif decide (y49.toNat < o26.2.2.2.2.1.length) then
       bif decide (0 ≤ o26.2.1.2.2.2.1) then
       bif decide (o26.2.1.2.2.2.1.toNat < (o26.2.2.2.2.2.1.getD o26.2.2.1.toNat ([] : (List Int))).length) then
       let y50 := (o26.2.2.2.2.2.1.getD o26.2.2.1.toNat ([] : (List Int))).getD o26.2.1.2.2.2.1.toNat (0 : Int)
       bif decide (0 ≤ o26.2.1.2.2.2.2.1) then
       bif decide (o26.2.1.2.2.2.2.1.toNat < ((o26.2.2.2.2.1.getD y49.toNat (([] : (List Int)), ([] : (List Int)), ())).1).length) then
       let y51 := o26.2.2.2.2.1.set y49.toNat (((o26.2.2.2.2.1.getD y49.toNat (([] : (List Int)), ([] : (List Int)), ())).1).set o26.2.1.2.2.2.2.1.toNat y50, (o26.2.2.2.2.1.getD y49.toNat (([] : (List Int)), ([] : (List Int)), ())).2)
       some ((1 : Int), y51, o26.2.2.2.2.2.1, o26.2.2.2.2.2.2.1, ())
       else none
       else none
       else none
       else none
       else none
       else none
       else none
       else none
      else
      some ((0 : Int), o26.2.2.2.2.1, o26.2.2.2.2.2.1, o26.2.2.2.2.2.2.1, ())
      else none
      else none
      else none
      else none
      else none
      else none
      else none
      else none
     else
     bif o26.2.1.1 == (8 : Int) then
      let y52 := ((o26.2.2.2.2.2.1.getD o26.2.2.1.toNat ([] : (List Int))).length : Int)
      bif decide (0 ≤ (w64 (y52 - (1 : Int)))) then
      bif decide ((w64 (y52 - (1 : Int))) ≤ ((o26.2.2.2.2.2.1.getD o26.2.2.1.toNat ([] : (List Int))).length : Int)) then
      bif decide (0 ≤ (0 : Int)) then
      bif decide ((0 : Int) ≤ (w64 (y52 - (1 : Int)))) then
      bif decide (0 ≤ o26.1) then
      bif decide (o26.1.toNat < o26.2.2.2.2.2.1.length) then
      bif decide (o26.2.2.1.toNat = o26.1.toNat) then
      let y53 := o26.2.2.2.2.2.1.set o26.1.toNat ((o26.2.2.2.2.2.1.getD o26.1.toNat ([] : (List Int))).take ((w64 (y52 - (1 : Int))).toNat))
      some ((0 : Int), o26.2.2.2.2.1, y53, o26.2.2.2.2.2.2.1, ())
      else none
      else none
      else none
      else none
      else none
      else none
      else none
     else
     bif o26.2.1.1 == (9 : Int) then
      bif decide (0 ≤ o26.2.1.2.1) then
      bif decide (o26.2.1.2.1.toNat < (o26.2.2.2.2.2.1.getD o26.2.2.1.toNat ([] : (List Int))).length) then
      let y54 := (o26.2.2.2.2.2.1.getD o26.2.2.1.toNat ([] : (List Int))).getD o26.2.1.2.1.toNat (0 : Int)
      bif decide ((o26.2.2.2.2.2.1.getD o26.2.2.1.toNat ([] : (List Int))).length + [y54].length ≤ lim) then
      let y55 := (o26.2.2.2.2.2.1.getD o26.2.2.1.toNat ([] : (List Int))) ++ [y54]
      bif decide (0 ≤ o26.1) then
      bif decide (o26.1.toNat < o26.2.2.2.2.2.1.length) then
      bif decide (o26.2.2.1.toNat = o26.1.toNat) then
      some ((0 : Int), o26.2.2.2.2.1, o26.2.2.2.2.2.1.set o26.1.toNat y55, o26.2.2.2.2.2.2.1, ())
      else none
      else none
      else none
      else none
      else none
      else none
     else
     some ((0 : Int), o26.2.2.2.2.1, o26.2.2.2.2.2.1, o26.2.2.2.2.2.2.1, ())) fun o56 =>
    some (o56.1, (0 : Int), o56.2.1, o56.2.2.1, o56.2.2.2.1, ())) (fun o57 =>
    some (o57.1, o57.2.1, o57.2.2.1, o57.2.2.2.1, o57.2.2.2.2.1, ())) o25
   else none
   else none) (fun o58 =>
   some (o58.1, o58.2.1, o58.2.2.1, o58.2.2.2.1, o58.2.2.2.2.1, ())) o8
noncomputable def consGraphDo (N : Nat) : Con := { f := 14, din := dinsGraphDo, outs := outsGraphDo, F := FsGraphDo N }
noncomputable def XsGraphDo (N : Nat) : Ctx := { E := EsGraphDo N, H := HsGraphDo, lp := [(1, { hd := dsGraphDo_1, outs := osGraphDo_1, run := fun v => lsGraphDo_1 N N v })], jn := [(3, jsGraphDo_3), (8, jsGraphDo_8), (10, jsGraphDo_10), (15, jsGraphDo_15), (45, jsGraphDo_45)] }
noncomputable def bsGraphDo_1 : Code := loopBody (codeOf Try.f14) 0
theorem FsGraphDo_eq (N : Nat) (x : (((List ((List Int) × ((List Int) × Unit))) × ((List (List Int)) × ((List Int) × Unit))) × (Int × ((Int × (Int × (Int × (Int × (Int × (Int × ((Int × (Int × Unit)) × Unit))))))) × Unit)))) : evFn (XsGraphDo N) Try.f14 dinsGraphDo outsGraphDo x = FsGraphDo N x := by kernel_rfl
theorem lsGraphDo_1_eq (N n : Nat) (v : (Int × ((Int × (Int × (Int × (Int × (Int × (Int × ((Int × (Int × Unit)) × Unit))))))) × (Int × (Int × (Int × ((List ((List Int) × ((List Int) × Unit))) × ((List (List Int)) × ((List Int) × ((List Int) × ((List Int) × Unit))))))))))) : lsGraphDo_1 N (n + 1) v = ev (XsGraphDo N) bsGraphDo_1 (roundK dsGraphDo_1 osGraphDo_1 (lsGraphDo_1 N n)) (dsGraphDo_1.mk' v) := by kernel_rfl
theorem cxsGraphDo (N : Nat) : CtxOk Try.prog (XsGraphDo N) := ⟨⟨TE_ok, List.forall_mem_cons.2 ⟨specsGraphOk N, List.forall_mem_cons.2 ⟨specsOpOk N, List.forall_mem_cons.2 ⟨specsl5Copy N, List.forall_mem_cons.2 ⟨specsl5Begin N, List.forall_mem_cons.2 ⟨specsl5Fields N, List.forall_mem_cons.2 ⟨specsl5Field N, List.forall_mem_cons.2 ⟨specsl5Pins N, List.forall_mem_cons.2 ⟨specsl5One N, fun k hk => absurd hk List.not_mem_nil⟩⟩⟩⟩⟩⟩⟩⟩⟩, mixed⟩
theorem lpsGraphDo_1 (N : Nat) : LoopOk Try.prog { hd := dsGraphDo_1, outs := osGraphDo_1, run := fun v => lsGraphDo_1 N N v } bsGraphDo_1 :=
  loop_fuel (d := dsGraphDo_1) (os := osGraphDo_1) (cxsGraphDo N) (loops_at (ids := []) (by kernel_rfl) (trivial)) (lsGraphDo_1 N) (fun _ => rfl) (fun n v => lsGraphDo_1_eq N n v) (fun _ => N)
theorem specsGraphDo (N : Nat) : Spec Try.prog (consGraphDo N) :=
  Spec.of_eq (fn_spec (cxsGraphDo N) (f := 14) (fn := Try.f14) (c := codeOf Try.f14) (by kernel_rfl) (by kernel_rfl) (by kernel_rfl) (loops_at (ids := [1]) (by kernel_rfl) ⟨lp_of (lpsGraphDo_1 N), trivial⟩) (by kernel_rfl)) (fun x r h => (FsGraphDo_eq N x).trans h)

/-! ### 25: spec.StoryPlain -/

noncomputable def dinsStoryPlain : Desc := { n := 3, regs := [.one (.val (.pair (.int .i64) (.pair (.int .i64) (.pair (.int .i64) .unit)))), .one (.val (.sl (.sl (.pair (.int .i64) (.pair (.int .i64) (.pair (.int .i64) (.pair (.int .i64) (.pair (.int .i64) (.pair (.int .i64) (.pair (.pair (.int .i64) (.pair (.int .i64) .unit)) .unit)))))))))), .one (.val (.sl (.pair (.int .i64) (.pair (.int .i64) (.pair (.int .i64) (.pair (.int .i64) .unit))))))], bx := [], pins := [] }
noncomputable def outsStoryPlain : Outs := [(.ret, { n := 3, regs := [.agg [.lit (.row 1038529), .lit (.row 1038530), .lit (.row 1038659)], .one (.lit (.row 1051200)), .one (.val .bool)], bx := [(1038529, .row (.pair (.sl (.int .i64)) (.pair (.sl (.int .i64)) .unit))), (1038530, .row (.sl (.int .i64))), (1038659, .row (.int .i64)), (1051200, .row (.pair (.int .i64) (.pair (.int .i64) (.pair (.int .i64) (.pair (.int .i64) .unit)))))], pins := [] })]
noncomputable def HsStoryPlain : Hints := [(0, [(0, { fz := true })]),
  (2, [(0, { nl := [(0, (.pair (.sl (.int .i64)) (.pair (.sl (.int .i64)) .unit))), (1, (.sl (.int .i64))), (2, (.int .i64))] }), (2, { nl := [(0, (.pair (.int .i64) (.pair (.int .i64) (.pair (.int .i64) (.pair (.int .i64) .unit)))))] })]),
  (3, [(2, { con := 1 }), (4, { nl := [(2, (.int .i64))] })]),
  (4, [(0, { nl := [(0, (.pair (.int .i64) (.pair (.int .i64) (.pair (.int .i64) (.pair (.int .i64) .unit)))))] })]),
  (10, [(0, { nl := [(0, (.pair (.sl (.int .i64)) (.pair (.sl (.int .i64)) .unit))), (1, (.sl (.int .i64))), (2, (.int .i64))] }), (2, { nl := [(0, (.pair (.int .i64) (.pair (.int .i64) (.pair (.int .i64) (.pair (.int .i64) .unit)))))] })]),
  (13, [(12, { con := 2 })])]
noncomputable def EsStoryPlain (N : Nat) : Env := { te := TE, cs := [consStoryOk N, consGraphNew N, consGraphDo N] }
noncomputable def dsStoryPlain_0 : Desc := { n := 113, regs := [u, .one (.val (.sl (.sl (.pair (.int .i64) (.pair (.int .i64) (.pair (.int .i64) (.pair (.int .i64) (.pair (.int .i64) (.pair (.int .i64) (.pair (.pair (.int .i64) (.pair (.int .i64) .unit)) .unit)))))))))), .one (.val (.sl (.pair (.int .i64) (.pair (.int .i64) (.pair (.int .i64) (.pair (.int .i64) .unit)))))), .one (.fpt (.pair (.int .i64) (.pair (.int .i64) (.pair (.int .i64) .unit)))), u, u, .one (.lit (.ptr 1000064 0)), u, u, .one (.lit (.ptr 1038784 0)), u, .one (.lit (.row 1051200)), .one (.val (.int .i64))], bx := [(1000064, .var [.lit .nil, .lit .nil, .lit .nil]), (1038784, .var [.lit (.row 1038529), .lit (.row 1038530), .lit (.row 1038659)]), (1038529, .row (.pair (.sl (.int .i64)) (.pair (.sl (.int .i64)) .unit))), (1038530, .row (.sl (.int .i64))), (1038659, .row (.int .i64)), (1051200, .row (.pair (.int .i64) (.pair (.int .i64) (.pair (.int .i64) (.pair (.int .i64) .unit)))))], pins := [] }
noncomputable def osStoryPlain_0 : Outs := [(.exit 0, { n := 113, regs := [u, u, u, u, u, u, .one (.lit (.ptr 1000064 0)), u, u, .one (.lit (.ptr 1038784 0)), u, .one (.lit (.row 1051200))], bx := [(1000064, .var [.lit .nil, .lit .nil, .lit .nil]), (1038784, .var [.lit (.row 1038529), .lit (.row 1038530), .lit (.row 1038659)]), (1038529, .row (.pair (.sl (.int .i64)) (.pair (.sl (.int .i64)) .unit))), (1038530, .row (.sl (.int .i64))), (1038659, .row (.int .i64)), (1051200, .row (.pair (.int .i64) (.pair (.int .i64) (.pair (.int .i64) (.pair (.int .i64) .unit)))))], pins := [] }), (.ret, { n := 113, regs := [u, u, u, u, u, u, .one (.lit (.ptr 1000064 0)), .one (.lit (.row 1128128)), .one (.val .bool)], bx := [(1000064, .var [.lit (.row 1128001), .lit (.row 1128002), .lit (.row 1128003)]), (1128001, .row (.pair (.sl (.int .i64)) (.pair (.sl (.int .i64)) .unit))), (1128002, .row (.sl (.int .i64))), (1128003, .row (.int .i64)), (1128128, .row (.pair (.int .i64) (.pair (.int .i64) (.pair (.int .i64) (.pair (.int .i64) .unit)))))], pins := [] })]
noncomputable def jsStoryPlain_3 : Outs := [(.normal, { n := 113, regs := [u, .one (.val (.sl (.sl (.pair (.int .i64) (.pair (.int .i64) (.pair (.int .i64) (.pair (.int .i64) (.pair (.int .i64) (.pair (.int .i64) (.pair (.pair (.int .i64) (.pair (.int .i64) .unit)) .unit)))))))))), .one (.val (.sl (.pair (.int .i64) (.pair (.int .i64) (.pair (.int .i64) (.pair (.int .i64) .unit)))))), .one (.fpt (.pair (.int .i64) (.pair (.int .i64) (.pair (.int .i64) .unit)))), u, u, .one (.lit (.ptr 1000064 0))], bx := [(1000064, .var [.lit .nil, .lit .nil, .lit .nil])], pins := [] }), (.ret, { n := 113, regs := [u, u, u, u, u, u, .one (.lit (.ptr 1000064 0)), .one (.lit (.row 1025728)), .one (.val .bool)], bx := [(1000064, .var [.lit (.row 1025601), .lit (.row 1025602), .lit (.row 1025603)]), (1025601, .row (.pair (.sl (.int .i64)) (.pair (.sl (.int .i64)) .unit))), (1025602, .row (.sl (.int .i64))), (1025603, .row (.int .i64)), (1025728, .row (.pair (.int .i64) (.pair (.int .i64) (.pair (.int .i64) (.pair (.int .i64) .unit)))))], pins := [] })]
noncomputable def jsStoryPlain_11 : Outs := [(.normal, { n := 113, regs := [u, .one (.val (.sl (.sl (.pair (.int .i64) (.pair (.int .i64) (.pair (.int .i64) (.pair (.int .i64) (.pair (.int .i64) (.pair (.int .i64) (.pair (.pair (.int .i64) (.pair (.int .i64) .unit)) .unit)))))))))), .one (.val (.sl (.pair (.int .i64) (.pair (.int .i64) (.pair (.int .i64) (.pair (.int .i64) .unit)))))), .one (.fpt (.pair (.int .i64) (.pair (.int .i64) (.pair (.int .i64) .unit)))), u, u, .one (.lit (.ptr 1000064 0)), u, u, .one (.lit (.ptr 1038784 0)), u, .one (.lit (.row 1051200)), .one (.val (.int .i64)), .one (.lit (.ptr 1102656 0)), u, u, u, u, u, u, u, u, u, u, u, u, u, u, u, u, u, u, u, u, u, u, u, u, u, u, u, u, u, u, u, u, u, .one (.lit (.ptr 1102656 0)), .one (.val (.int .i64)), .one (.fpt (.int .i64)), .one (.val (.int .i64)), .one (.val .bool), u, u, .one (.lit (.ptr 1102656 1)), .one (.val (.int .i64)), .one (.val .bool), u, u, .one (.lit (.ptr 1102656 1)), .one (.val (.int .i64)), .one (.val (.sl (.sl (.pair (.int .i64) (.pair (.int .i64) (.pair (.int .i64) (.pair (.int .i64) (.pair (.int .i64) (.pair (.int .i64) (.pair (.pair (.int .i64) (.pair (.int .i64) .unit)) .unit)))))))))), .one (.lit (.ptr 1102656 0)), .one (.val (.int .i64)), .one (.fpt (.sl (.pair (.int .i64) (.pair (.int .i64) (.pair (.int .i64) (.pair (.int .i64) (.pair (.int .i64) (.pair (.int .i64) (.pair (.pair (.int .i64) (.pair (.int .i64) .unit)) .unit))))))))), .one (.val (.sl (.pair (.int .i64) (.pair (.int .i64) (.pair (.int .i64) (.pair (.int .i64) (.pair (.int .i64) (.pair (.int .i64) (.pair (.pair (.int .i64) (.pair (.int .i64) .unit)) .unit))))))))), .one (.val (.int .i64)), .one (.val .bool)], bx := [(1000064, .var [.lit .nil, .lit .nil, .lit .nil]), (1038784, .var [.lit (.row 1038529), .lit (.row 1038530), .lit (.row 1038659)]), (1038529, .row (.pair (.sl (.int .i64)) (.pair (.sl (.int .i64)) .unit))), (1038530, .row (.sl (.int .i64))), (1038659, .row (.int .i64)), (1051200, .row (.pair (.int .i64) (.pair (.int .i64) (.pair (.int .i64) (.pair (.int .i64) .unit))))), (1102656, .var [.val (.int .i64), .val (.int .i64), .val (.int .i64), .val (.int .i64)])], pins := [] }), (.ret, { n := 113, regs := [u, u, u, u, u, u, .one (.lit (.ptr 1000064 0)), .one (.lit (.row 1128128)), .one (.val .bool)], bx := [(1000064, .var [.lit (.row 1128001), .lit (.row 1128002), .lit (.row 1128003)]), (1128001, .row (.pair (.sl (.int .i64)) (.pair (.sl (.int .i64)) .unit))), (1128002, .row (.sl (.int .i64))), (1128003, .row (.int .i64)), (1128128, .row (.pair (.int .i64) (.pair (.int .i64) (.pair (.int .i64) (.pair (.int .i64) .unit)))))], pins := [] })]
noncomputable def jsStoryPlain_16 : Outs := [(.normal, { n := 113, regs := [u, .one (.val (.sl (.sl (.pair (.int .i64) (.pair (.int .i64) (.pair (.int .i64) (.pair (.int .i64) (.pair (.int .i64) (.pair (.int .i64) (.pair (.pair (.int .i64) (.pair (.int .i64) .unit)) .unit)))))))))), .one (.val (.sl (.pair (.int .i64) (.pair (.int .i64) (.pair (.int .i64) (.pair (.int .i64) .unit)))))), .one (.fpt (.pair (.int .i64) (.pair (.int .i64) (.pair (.int .i64) .unit)))), u, u, .one (.lit (.ptr 1000064 0)), u, u, .one (.lit (.ptr 1038784 0)), u, .one (.lit (.row 1051200)), .one (.val (.int .i64)), .one (.lit (.ptr 1102656 0)), u, .one (.val (.int .i64)), .one (.val (.int .i64)), u, u, u, u, u, u, u, u, u, u, u, u, u, u, u, u, u, u, u, u, u, u, u, u, u, u, u, u, u, u, .one (.lit (.ptr 1102656 0)), .one (.val (.int .i64)), .one (.fpt (.int .i64)), .one (.val (.int .i64)), .one (.val .bool), u, u, .one (.lit (.ptr 1102656 1)), .one (.val (.int .i64)), .one (.val .bool), u, u, .one (.lit (.ptr 1102656 1)), .one (.val (.int .i64)), .one (.val (.sl (.sl (.pair (.int .i64) (.pair (.int .i64) (.pair (.int .i64) (.pair (.int .i64) (.pair (.int .i64) (.pair (.int .i64) (.pair (.pair (.int .i64) (.pair (.int .i64) .unit)) .unit)))))))))), .one (.lit (.ptr 1102656 0)), .one (.val (.int .i64)), .one (.fpt (.sl (.pair (.int .i64) (.pair (.int .i64) (.pair (.int .i64) (.pair (.int .i64) (.pair (.int .i64) (.pair (.int .i64) (.pair (.pair (.int .i64) (.pair (.int .i64) .unit)) .unit))))))))), .one (.val (.sl (.pair (.int .i64) (.pair (.int .i64) (.pair (.int .i64) (.pair (.int .i64) (.pair (.int .i64) (.pair (.int .i64) (.pair (.pair (.int .i64) (.pair (.int .i64) .unit)) .unit))))))))), .one (.val (.int .i64)), .one (.val .bool)], bx := [(1000064, .var [.lit .nil, .lit .nil, .lit .nil]), (1038784, .var [.lit (.row 1167169), .lit (.row 1167170), .lit (.row 1167171)]), (1167169, .row (.pair (.sl (.int .i64)) (.pair (.sl (.int .i64)) .unit))), (1167170, .row (.sl (.int .i64))), (1167171, .row (.int .i64)), (1051200, .row (.pair (.int .i64) (.pair (.int .i64) (.pair (.int .i64) (.pair (.int .i64) .unit))))), (1102656, .var [.val (.int .i64), .val (.int .i64), .val (.int .i64), .val (.int .i64)])], pins := [] })]
noncomputable def lsStoryPlain_0 (N : Nat) : Nat → ((List (List (Int × (Int × (Int × (Int × (Int × (Int × ((Int × (Int × Unit)) × Unit))))))))) × ((List (Int × (Int × (Int × (Int × Unit))))) × ((Int × (Int × (Int × Unit))) × (Int × ((List ((List Int) × ((List Int) × Unit))) × ((List (List Int)) × ((List Int) × ((List (Int × (Int × (Int × (Int × Unit))))) × Unit)))))))) → Option (((List ((List Int) × ((List Int) × Unit))) × ((List (List Int)) × ((List Int) × ((List (Int × (Int × (Int × (Int × Unit))))) × Unit)))) ⊕ (Bool × ((List ((List Int) × ((List Int) × Unit))) × ((List (List Int)) × ((List Int) × ((List (Int × (Int × (Int × (Int × Unit))))) × Unit))))))
  | 0, _ => none
  | n + 1, v =>
    let y11 := decide (v.2.2.2.1 < (v.2.1.length : Int))
    bif y11 then
     bif decide (0 ≤ v.2.2.2.1) then
     bif decide (v.2.2.2.1.toNat < v.2.1.length) then
     let y12 := v.2.1.getD v.2.2.2.1.toNat ((0 : Int), (0 : Int), (0 : Int), (0 : Int), ())
     Option.bind (
      bif decide (y12.1 < (0 : Int)) then
       let y13 := ([] : (List ((List Int) × ((List Int) × Unit))))
       let y14 := ([] : (List (Int × (Int × (Int × (Int × Unit))))))
       some (.inr ((false, y13, ([] : (List (List Int))), ([] : (List Int)), y14, ())))
      else
      bif decide (y12.1 ≥ v.2.2.1.2.1) then
       let y15 := ([] : (List ((List Int) × ((List Int) × Unit))))
       let y16 := ([] : (List (Int × (Int × (Int × (Int × Unit))))))
       some (.inr ((false, y15, ([] : (List (List Int))), ([] : (List Int)), y16, ())))
      else
      bif decide (y12.2.1 < (0 : Int)) then
       let y17 := ([] : (List ((List Int) × ((List Int) × Unit))))
       let y18 := ([] : (List (Int × (Int × (Int × (Int × Unit))))))
       some (.inr ((false, y17, ([] : (List (List Int))), ([] : (List Int)), y18, ())))
      else
      bif decide (0 ≤ y12.1) then
      bif decide (y12.1.toNat < v.1.length) then
      let y19 := v.1.getD y12.1.toNat ([] : (List (Int × (Int × (Int × (Int × (Int × (Int × ((Int × (Int × Unit)) × Unit)))))))))
      let y20 := decide (y12.2.1 ≥ (y19.length : Int))
      bif y20 then
       let y21 := ([] : (List ((List Int) × ((List Int) × Unit))))
       let y22 := ([] : (List (Int × (Int × (Int × (Int × Unit))))))
       some (.inr ((false, y21, ([] : (List (List Int))), ([] : (List Int)), y22, ())))
      else
      some (.inl (v.1, v.2.1, v.2.2.1, v.2.2.2.1, y12.1, v.2.2.1.2.1, v.2.2.1.2.1, decide (y12.1 ≥ v.2.2.1.2.1), y12.2.1, decide (y12.2.1 < (0 : Int)), y12.2.1, v.1, y12.1, y19, y19, (y19.length : Int), y20, v.2.2.2.2.1, v.2.2.2.2.2.1, v.2.2.2.2.2.2.1, v.2.2.2.2.2.2.2.1, y12.1, y12.2.1, y12.2.2.1, y12.2.2.2.1, ()))
      else none
      else none) fun o23 =>
     Sum.elim (fun o24 =>
      let y25 := o24.2.2.2.2.2.2.2.2.2.2.2.2.2.2.2.2.2.2.2.2.2.2.2.2.1
      bif y25 == (6 : Int) then
       let y26 := o24.2.2.2.2.2.2.2.2.2.2.2.2.2.2.2.2.2.2.2.2.2.1
       let y27 := o24.2.2.2.2.2.2.2.2.2.2.2.2.2.2.2.2.2.2.2.2.2.2.1
       let y28 := [(y26, y27, (0 : Int), (6 : Int), ())]
       bif decide (o24.2.2.2.2.2.2.2.2.2.2.2.2.2.2.2.2.2.2.2.2.1.length + y28.length ≤ lim) then
       let y29 := o24.2.2.2.2.2.2.2.2.2.2.2.2.2.2.2.2.2.2.2.2.1 ++ y28
       lsStoryPlain_0 N n (o24.1, o24.2.1, o24.2.2.1, w64 (o24.2.2.2.1 + (1 : Int)), o24.2.2.2.2.2.2.2.2.2.2.2.2.2.2.2.2.2.1, o24.2.2.2.2.2.2.2.2.2.2.2.2.2.2.2.2.2.2.1, o24.2.2.2.2.2.2.2.2.2.2.2.2.2.2.2.2.2.2.2.1, y29, ())
       else none
      else
      let y30 := o24.2.2.2.2.2.2.2.2.2.2.2.2.2.2.2.2.2.2.2.2.2.1
      let y31 := o24.2.2.2.2.2.2.2.2.2.2.2.2.2.2.2.2.2.2.2.2.2.1
      bif decide (0 ≤ y31) then
      bif decide (y31.toNat < o24.1.length) then
      let y32 := o24.1.getD y31.toNat ([] : (List (Int × (Int × (Int × (Int × (Int × (Int × ((Int × (Int × Unit)) × Unit)))))))))
      let y33 := o24.2.2.2.2.2.2.2.2.2.2.2.2.2.2.2.2.2.2.2.2.2.2.1
      bif decide (0 ≤ y33) then
      bif decide (y33.toNat < y32.length) then
      let y34 := y32.getD y33.toNat ((0 : Int), (0 : Int), (0 : Int), (0 : Int), (0 : Int), (0 : Int), ((0 : Int), (0 : Int), ()), ())
      (FsGraphDo N ((o24.2.2.2.2.2.2.2.2.2.2.2.2.2.2.2.2.2.1, o24.2.2.2.2.2.2.2.2.2.2.2.2.2.2.2.2.2.2.1, o24.2.2.2.2.2.2.2.2.2.2.2.2.2.2.2.2.2.2.2.1, ()), y30, y34, ())).bind fun r35 =>
      Option.bind (
       bif r35.2.1 != (1 : Int) then
        some (o24.1, o24.2.1, o24.2.2.1, o24.2.2.2.1, r35.1, r35.2.1, o24.2.2.2.2.1, o24.2.2.2.2.2.1, o24.2.2.2.2.2.2.1, o24.2.2.2.2.2.2.2.1, o24.2.2.2.2.2.2.2.2.1, o24.2.2.2.2.2.2.2.2.2.1, o24.2.2.2.2.2.2.2.2.2.2.1, o24.2.2.2.2.2.2.2.2.2.2.2.1, o24.2.2.2.2.2.2.2.2.2.2.2.2.1, o24.2.2.2.2.2.2.2.2.2.2.2.2.2.1, o24.2.2.2.2.2.2.2.2.2.2.2.2.2.2.1, o24.2.2.2.2.2.2.2.2.2.2.2.2.2.2.2.1, o24.2.2.2.2.2.2.2.2.2.2.2.2.2.2.2.2.1, r35.2.2.1, r35.2.2.2.1, r35.2.2.2.2.1, o24.2.2.2.2.2.2.2.2.2.2.2.2.2.2.2.2.2.2.2.2.1, o24.2.2.2.2.2.2.2.2.2.2.2.2.2.2.2.2.2.2.2.2.2.1, o24.2.2.2.2.2.2.2.2.2.2.2.2.2.2.2.2.2.2.2.2.2.2.1, o24.2.2.2.2.2.2.2.2.2.2.2.2.2.2.2.2.2.2.2.2.2.2.2.1, o24.2.2.2.2.2.2.2.2.2.2.2.2.2.2.2.2.2.2.2.2.2.2.2.2.1, ())
       else
       some (o24.1, o24.2.1, o24.2.2.1, o24.2.2.2.1, r35.1, r35.2.1, o24.2.2.2.2.1, o24.2.2.2.2.2.1, o24.2.2.2.2.2.2.1, o24.2.2.2.2.2.2.2.1, o24.2.2.2.2.2.2.2.2.1, o24.2.2.2.2.2.2.2.2.2.1, o24.2.2.2.2.2.2.2.2.2.2.1, o24.2.2.2.2.2.2.2.2.2.2.2.1, o24.2.2.2.2.2.2.2.2.2.2.2.2.1, o24.2.2.2.2.2.2.2.2.2.2.2.2.2.1, o24.2.2.2.2.2.2.2.2.2.2.2.2.2.2.1, o24.2.2.2.2.2.2.2.2.2.2.2.2.2.2.2.1, o24.2.2.2.2.2.2.2.2.2.2.2.2.2.2.2.2.1, o24.2.2.2.2.2.2.2.2.2.2.2.2.2.2.2.2.2.1, o24.2.2.2.2.2.2.2.2.2.2.2.2.2.2.2.2.2.2.1, o24.2.2.2.2.2.2.2.2.2.2.2.2.2.2.2.2.2.2.2.1, o24.2.2.2.2.2.2.2.2.2.2.2.2.2.2.2.2.2.2.2.2.1, o24.2.2.2.2.2.2.2.2.2.2.2.2.2.2.2.2.2.2.2.2.2.1, o24.2.2.2.2.2.2.2.2.2.2.2.2.2.2.2.2.2.2.2.2.2.2.1, o24.2.2.2.2.2.2.2.2.2.2.2.2.2.2.2.2.2.2.2.2.2.2.2.1, o24.2.2.2.2.2.2.2.2.2.2.2.2.2.2.2.2.2.2.2.2.2.2.2.2.1, ())) fun o36 =>
      let y37 := o36.2.2.2.2.2.2.2.2.2.2.2.2.2.2.2.2.2.2.2.2.2.2.2.1
      let y38 := o36.2.2.2.2.2.2.2.2.2.2.2.2.2.2.2.2.2.2.2.2.2.2.2.2.1
      let y39 := [(y37, y38, o36.2.2.2.2.1, o36.2.2.2.2.2.1, ())]
      bif decide (o36.2.2.2.2.2.2.2.2.2.2.2.2.2.2.2.2.2.2.2.2.2.2.1.length + y39.length ≤ lim) then
      let y40 := o36.2.2.2.2.2.2.2.2.2.2.2.2.2.2.2.2.2.2.2.2.2.2.1 ++ y39
      lsStoryPlain_0 N n (o36.1, o36.2.1, o36.2.2.1, w64 (o36.2.2.2.1 + (1 : Int)), o36.2.2.2.2.2.2.2.2.2.2.2.2.2.2.2.2.2.2.2.1, o36.2.2.2.2.2.2.2.2.2.2.2.2.2.2.2.2.2.2.2.2.1, o36.2.2.2.2.2.2.2.2.2.2.2.2.2.2.2.2.2.2.2.2.2.1, y40, ())
      else none
      else none
      else none
      else none
      else none) (fun o41 =>
      some (.inr ((o41.1, o41.2.1, o41.2.2.1, o41.2.2.2.1, o41.2.2.2.2.1, ())))) o23
     else none
     else none
    else
    some (.inl (v.2.2.2.2.1, v.2.2.2.2.2.1, v.2.2.2.2.2.2.1, v.2.2.2.2.2.2.2.1, ()))
noncomputable def FsStoryPlain (N : Nat) (x : ((Int × (Int × (Int × Unit))) × ((List (List (Int × (Int × (Int × (Int × (Int × (Int × ((Int × (Int × Unit)) × Unit))))))))) × ((List (Int × (Int × (Int × (Int × Unit))))) × Unit)))) : Option (Bool × ((List ((List Int) × ((List Int) × Unit))) × ((List (List Int)) × ((List Int) × ((List (Int × (Int × (Int × (Int × Unit))))) × Unit))))) :=
  Option.bind (
   (FsStoryOk N (x.1, x.2.1, ([] : (List Int)), ())).bind fun r1 =>
   bif !r1.1 then
    let y2 := ([] : (List ((List Int) × ((List Int) × Unit))))
    let y3 := ([] : (List (Int × (Int × (Int × (Int × Unit))))))
    some (.inr ((false, y2, ([] : (List (List Int))), ([] : (List Int)), y3, ())))
   else
   let y4 := decide ((x.2.2.1.length : Int) > (120 : Int))
   bif y4 then
    let y5 := ([] : (List ((List Int) × ((List Int) × Unit))))
    let y6 := ([] : (List (Int × (Int × (Int × (Int × Unit))))))
    some (.inr ((false, y5, ([] : (List (List Int))), ([] : (List Int)), y6, ())))
   else
   some (.inl (x.2.1, x.2.2.1, x.1, ()))) fun o7 =>
  Sum.elim (fun o8 =>
   (FsGraphNew N (o8.2.2.1.2.1, ())).bind fun r9 =>
   let y10 := ([] : (List (Int × (Int × (Int × (Int × Unit))))))
   (lsStoryPlain_0 N N (o8.1, o8.2.1, o8.2.2.1, (0 : Int), r9.2.1, r9.2.2.1, ([] : (List Int)), y10, ())).bind fun o42 =>
   Sum.elim (fun o43 =>
    some (true, o43.1, o43.2.1, o43.2.2.1, o43.2.2.2.1, ())) (fun o44 =>
    some (o44.1, o44.2.1, o44.2.2.1, o44.2.2.2.1, o44.2.2.2.2.1, ())) o42) (fun o45 =>
   some (o45.1, o45.2.1, o45.2.2.1, o45.2.2.2.1, o45.2.2.2.2.1, ())) o7
noncomputable def consStoryPlain (N : Nat) : Con := { f := 25, din := dinsStoryPlain, outs := outsStoryPlain, F := FsStoryPlain N }
noncomputable def XsStoryPlain (N : Nat) : Ctx := { E := EsStoryPlain N, H := HsStoryPlain, lp := [(0, { hd := dsStoryPlain_0, outs := osStoryPlain_0, run := fun v => lsStoryPlain_0 N N v })], jn := [(3, jsStoryPlain_3), (11, jsStoryPlain_11), (16, jsStoryPlain_16)] }
noncomputable def bsStoryPlain_0 : Code := loopBody (codeOf Try.f25) 0
theorem FsStoryPlain_eq (N : Nat) (x : ((Int × (Int × (Int × Unit))) × ((List (List (Int × (Int × (Int × (Int × (Int × (Int × ((Int × (Int × Unit)) × Unit))))))))) × ((List (Int × (Int × (Int × (Int × Unit))))) × Unit)))) : evFn (XsStoryPlain N) Try.f25 dinsStoryPlain outsStoryPlain x = FsStoryPlain N x := by kernel_rfl
theorem lsStoryPlain_0_eq (N n : Nat) (v : ((List (List (Int × (Int × (Int × (Int × (Int × (Int × ((Int × (Int × Unit)) × Unit))))))))) × ((List (Int × (Int × (Int × (Int × Unit))))) × ((Int × (Int × (Int × Unit))) × (Int × ((List ((List Int) × ((List Int) × Unit))) × ((List (List Int)) × ((List Int) × ((List (Int × (Int × (Int × (Int × Unit))))) × Unit))))))))) : lsStoryPlain_0 N (n + 1) v = ev (XsStoryPlain N) bsStoryPlain_0 (roundK dsStoryPlain_0 osStoryPlain_0 (lsStoryPlain_0 N n)) (dsStoryPlain_0.mk' v) := by kernel_rfl
theorem cxsStoryPlain (N : Nat) : CtxOk Try.prog (XsStoryPlain N) := ⟨⟨TE_ok, List.forall_mem_cons.2 ⟨specsStoryOk N, List.forall_mem_cons.2 ⟨specsGraphNew N, List.forall_mem_cons.2 ⟨specsGraphDo N, fun k hk => absurd hk List.not_mem_nil⟩⟩⟩⟩, mixed⟩
theorem lpsStoryPlain_0 (N : Nat) : LoopOk Try.prog { hd := dsStoryPlain_0, outs := osStoryPlain_0, run := fun v => lsStoryPlain_0 N N v } bsStoryPlain_0 :=
  loop_fuel (d := dsStoryPlain_0) (os := osStoryPlain_0) (cxsStoryPlain N) (loops_at (ids := []) (by kernel_rfl) (trivial)) (lsStoryPlain_0 N) (fun _ => rfl) (fun n v => lsStoryPlain_0_eq N n v) (fun _ => N)
theorem specsStoryPlain (N : Nat) : Spec Try.prog (consStoryPlain N) :=
  Spec.of_eq (fn_spec (cxsStoryPlain N) (f := 25) (fn := Try.f25) (c := codeOf Try.f25) (by kernel_rfl) (by kernel_rfl) (by kernel_rfl) (loops_at (ids := [0]) (by kernel_rfl) ⟨lp_of (lpsStoryPlain_0 N), trivial⟩) (by kernel_rfl)) (fun x r h => (FsStoryPlain_eq N x).trans h)

/-! ### 100: impl.ConfigOk -/

noncomputable def diniConfigOk : Desc := { n := 1, regs := [.one (.val (.pair (.int .i64) (.pair (.int .i64) (.pair (.int .i64) .unit))))], bx := [], pins := [] }
noncomputable def outiConfigOk : Outs := [(.ret, { n := 1, regs := [.one (.val .bool)], bx := [], pins := [] })]
noncomputable def HiConfigOk : Hints := [(0, [(0, { fz := true })])]
noncomputable def EiConfigOk (_N : Nat) : Env := { te := TE, cs := [] }
noncomputable def FiConfigOk (N : Nat) (x : ((Int × (Int × (Int × Unit))) × Unit)) : Option (Bool × Unit) :=
  bif decide (x.1.1 ≥ (3 : Int)) then
   bif decide (x.1.1 ≤ (12 : Int)) then
    bif decide (x.1.2.1 ≥ (1 : Int)) then
     bif decide (x.1.2.1 ≤ (3 : Int)) then
      bif decide (x.1.2.2.1 ≥ (0 : Int)) then
       some (decide (x.1.2.2.1 ≤ (100 : Int)), ())
      else
      some (false, ())
     else
     some (false, ())
    else
    some (false, ())
   else
   some (false, ())
  else
  some (false, ())
noncomputable def coniConfigOk (N : Nat) : Con := { f := 100, din := diniConfigOk, outs := outiConfigOk, F := FiConfigOk N }
noncomputable def XiConfigOk (N : Nat) : Ctx := { E := EiConfigOk N, H := HiConfigOk, lp := [], jn := [] }
theorem FiConfigOk_eq (N : Nat) (x : ((Int × (Int × (Int × Unit))) × Unit)) : evFn (XiConfigOk N) Try.f100 diniConfigOk outiConfigOk x = FiConfigOk N x := by kernel_rfl
theorem cxiConfigOk (N : Nat) : CtxOk Try.prog (XiConfigOk N) := ⟨⟨TE_ok, fun k hk => absurd hk List.not_mem_nil⟩, mixed⟩
theorem speciConfigOk (N : Nat) : Spec Try.prog (coniConfigOk N) :=
  Spec.of_eq (fn_spec (cxiConfigOk N) (f := 100) (fn := Try.f100) (c := codeOf Try.f100) (by kernel_rfl) (by kernel_rfl) (by kernel_rfl) (loops_at (ids := []) (by kernel_rfl) (trivial)) (by kernel_rfl)) (fun x r h => (FiConfigOk_eq N x).trans h)

/-! ### 102: impl.progsOk$1 -/

noncomputable def diniprogsOk_1 : Desc := { n := 1, regs := [.one (.val (.sl (.pair (.int .i64) (.pair (.int .i64) (.pair (.int .i64) (.pair (.int .i64) (.pair (.int .i64) (.pair (.int .i64) (.pair (.pair (.int .i64) (.pair (.int .i64) .unit)) .unit)))))))))], bx := [], pins := [] }
noncomputable def outiprogsOk_1 : Outs := [(.ret, { n := 1, regs := [.one (.val .bool)], bx := [], pins := [] })]
noncomputable def HiprogsOk_1 : Hints := []
noncomputable def EiprogsOk_1 (_N : Nat) : Env := { te := TE, cs := [] }
noncomputable def FiprogsOk_1 (N : Nat) (x : ((List (Int × (Int × (Int × (Int × (Int × (Int × ((Int × (Int × Unit)) × Unit)))))))) × Unit)) : Option (Bool × Unit) :=
  let y1 := decide ((x.1.length : Int) > (40 : Int))
  some (y1, ())
noncomputable def coniprogsOk_1 (N : Nat) : Con := { f := 102, din := diniprogsOk_1, outs := outiprogsOk_1, F := FiprogsOk_1 N }
noncomputable def XiprogsOk_1 (N : Nat) : Ctx := { E := EiprogsOk_1 N, H := HiprogsOk_1, lp := [], jn := [] }
theorem FiprogsOk_1_eq (N : Nat) (x : ((List (Int × (Int × (Int × (Int × (Int × (Int × ((Int × (Int × Unit)) × Unit)))))))) × Unit)) : evFn (XiprogsOk_1 N) Try.f102 diniprogsOk_1 outiprogsOk_1 x = FiprogsOk_1 N x := by kernel_rfl
theorem cxiprogsOk_1 (N : Nat) : CtxOk Try.prog (XiprogsOk_1 N) := ⟨⟨TE_ok, fun k hk => absurd hk List.not_mem_nil⟩, mixed⟩
theorem speciprogsOk_1 (N : Nat) : Spec Try.prog (coniprogsOk_1 N) :=
  Spec.of_eq (fn_spec (cxiprogsOk_1 N) (f := 102) (fn := Try.f102) (c := codeOf Try.f102) (by kernel_rfl) (by kernel_rfl) (by kernel_rfl) (loops_at (ids := []) (by kernel_rfl) (trivial)) (by kernel_rfl)) (fun x r h => (FiprogsOk_1_eq N x).trans h)

/-! ### 109: impl.Op] -/

noncomputable def dinkIndexFunc_SSOp_SOp_iprogsOk_1 : Desc := { n := 2, regs := [.one (.val (.sl (.sl (.pair (.int .i64) (.pair (.int .i64) (.pair (.int .i64) (.pair (.int .i64) (.pair (.int .i64) (.pair (.int .i64) (.pair (.pair (.int .i64) (.pair (.int .i64) .unit)) .unit)))))))))), .one (.clo 102 [])], bx := [], pins := [] }
noncomputable def outkIndexFunc_SSOp_SOp_iprogsOk_1 : Outs := [(.ret, { n := 1, regs := [.one (.val (.int .i64))], bx := [], pins := [] })]
noncomputable def HkIndexFunc_SSOp_SOp_iprogsOk_1 : Hints := []
noncomputable def EkIndexFunc_SSOp_SOp_iprogsOk_1 (N : Nat) : Env := { te := TE, cs := [coniprogsOk_1 N] }
noncomputable def dkIndexFunc_SSOp_SOp_iprogsOk_1_0 : Desc := { n := 19, regs := [.one (.val (.sl (.sl (.pair (.int .i64) (.pair (.int .i64) (.pair (.int .i64) (.pair (.int .i64) (.pair (.int .i64) (.pair (.int .i64) (.pair (.pair (.int .i64) (.pair (.int .i64) .unit)) .unit)))))))))), .one (.clo 102 []), u, u, u, u, u, .one (.val (.int .i64)), .one (.val (.int .i64))], bx := [], pins := [] }
noncomputable def okIndexFunc_SSOp_SOp_iprogsOk_1_0 : Outs := [(.exit 0, { n := 19, regs := [], bx := [], pins := [] }), (.ret, { n := 19, regs := [u, u, u, u, .one (.val (.int .i64))], bx := [], pins := [] })]
noncomputable def lkIndexFunc_SSOp_SOp_iprogsOk_1_0 (N : Nat) : Nat → ((List (List (Int × (Int × (Int × (Int × (Int × (Int × ((Int × (Int × Unit)) × Unit))))))))) × (Int × (Int × Unit))) → Option (Unit ⊕ (Int × Unit))
  | 0, _ => none
  | n + 1, v =>
    bif decide (v.2.2.1 < v.2.1) then
     bif decide (0 ≤ v.2.2.1) then
     bif decide (v.2.2.1.toNat < v.1.length) then
     let y1 := v.1.getD v.2.2.1.toNat ([] : (List (Int × (Int × (Int × (Int × (Int × (Int × ((Int × (Int × Unit)) × Unit)))))))))
     (FiprogsOk_1 N (y1, ())).bind fun r2 =>
     bif r2.1 then
      some (.inr ((v.2.2.1, ())))
     else
     lkIndexFunc_SSOp_SOp_iprogsOk_1_0 N n (v.1, v.2.1, w64 (v.2.2.1 + (1 : Int)), ())
     else none
     else none
    else
    some (.inl ())
noncomputable def FkIndexFunc_SSOp_SOp_iprogsOk_1 (N : Nat) (x : ((List (List (Int × (Int × (Int × (Int × (Int × (Int × ((Int × (Int × Unit)) × Unit))))))))) × Unit)) : Option (Int × Unit) :=
  (lkIndexFunc_SSOp_SOp_iprogsOk_1_0 N N (x.1, (x.1.length : Int), (0 : Int), ())).bind fun o3 =>
  Sum.elim (fun o4 =>
   some ((-1 : Int), ())) (fun o5 =>
   some (o5.1, ())) o3
noncomputable def conkIndexFunc_SSOp_SOp_iprogsOk_1 (N : Nat) : Con := { f := 109, din := dinkIndexFunc_SSOp_SOp_iprogsOk_1, outs := outkIndexFunc_SSOp_SOp_iprogsOk_1, F := FkIndexFunc_SSOp_SOp_iprogsOk_1 N }
noncomputable def XkIndexFunc_SSOp_SOp_iprogsOk_1 (N : Nat) : Ctx := { E := EkIndexFunc_SSOp_SOp_iprogsOk_1 N, H := HkIndexFunc_SSOp_SOp_iprogsOk_1, lp := [(0, { hd := dkIndexFunc_SSOp_SOp_iprogsOk_1_0, outs := okIndexFunc_SSOp_SOp_iprogsOk_1_0, run := fun v => lkIndexFunc_SSOp_SOp_iprogsOk_1_0 N N v })], jn := [] }
noncomputable def bkIndexFunc_SSOp_SOp_iprogsOk_1_0 : Code := loopBody (codeOf Try.f109) 0
theorem FkIndexFunc_SSOp_SOp_iprogsOk_1_eq (N : Nat) (x : ((List (List (Int × (Int × (Int × (Int × (Int × (Int × ((Int × (Int × Unit)) × Unit))))))))) × Unit)) : evFn (XkIndexFunc_SSOp_SOp_iprogsOk_1 N) Try.f109 dinkIndexFunc_SSOp_SOp_iprogsOk_1 outkIndexFunc_SSOp_SOp_iprogsOk_1 x = FkIndexFunc_SSOp_SOp_iprogsOk_1 N x := by kernel_rfl
theorem lkIndexFunc_SSOp_SOp_iprogsOk_1_0_eq (N n : Nat) (v : ((List (List (Int × (Int × (Int × (Int × (Int × (Int × ((Int × (Int × Unit)) × Unit))))))))) × (Int × (Int × Unit)))) : lkIndexFunc_SSOp_SOp_iprogsOk_1_0 N (n + 1) v = ev (XkIndexFunc_SSOp_SOp_iprogsOk_1 N) bkIndexFunc_SSOp_SOp_iprogsOk_1_0 (roundK dkIndexFunc_SSOp_SOp_iprogsOk_1_0 okIndexFunc_SSOp_SOp_iprogsOk_1_0 (lkIndexFunc_SSOp_SOp_iprogsOk_1_0 N n)) (dkIndexFunc_SSOp_SOp_iprogsOk_1_0.mk' v) := by kernel_rfl
theorem cxkIndexFunc_SSOp_SOp_iprogsOk_1 (N : Nat) : CtxOk Try.prog (XkIndexFunc_SSOp_SOp_iprogsOk_1 N) := ⟨⟨TE_ok, List.forall_mem_cons.2 ⟨speciprogsOk_1 N, fun k hk => absurd hk List.not_mem_nil⟩⟩, mixed⟩
theorem lpkIndexFunc_SSOp_SOp_iprogsOk_1_0 (N : Nat) : LoopOk Try.prog { hd := dkIndexFunc_SSOp_SOp_iprogsOk_1_0, outs := okIndexFunc_SSOp_SOp_iprogsOk_1_0, run := fun v => lkIndexFunc_SSOp_SOp_iprogsOk_1_0 N N v } bkIndexFunc_SSOp_SOp_iprogsOk_1_0 :=
  loop_fuel (d := dkIndexFunc_SSOp_SOp_iprogsOk_1_0) (os := okIndexFunc_SSOp_SOp_iprogsOk_1_0) (cxkIndexFunc_SSOp_SOp_iprogsOk_1 N) (loops_at (ids := []) (by kernel_rfl) (trivial)) (lkIndexFunc_SSOp_SOp_iprogsOk_1_0 N) (fun _ => rfl) (fun n v => lkIndexFunc_SSOp_SOp_iprogsOk_1_0_eq N n v) (fun _ => N)
theorem speckIndexFunc_SSOp_SOp_iprogsOk_1 (N : Nat) : Spec Try.prog (conkIndexFunc_SSOp_SOp_iprogsOk_1 N) :=
  Spec.of_eq (fn_spec (cxkIndexFunc_SSOp_SOp_iprogsOk_1 N) (f := 109) (fn := Try.f109) (c := codeOf Try.f109) (by kernel_rfl) (by kernel_rfl) (by kernel_rfl) (loops_at (ids := [0]) (by kernel_rfl) ⟨lp_of (lpkIndexFunc_SSOp_SOp_iprogsOk_1_0 N), trivial⟩) (by kernel_rfl)) (fun x r h => (FkIndexFunc_SSOp_SOp_iprogsOk_1_eq N x).trans h)

/-! ### 101: impl.Op] -/

noncomputable def dinkContainsFunc_SSOp_SOp_iprogsOk_1 : Desc := { n := 2, regs := [.one (.val (.sl (.sl (.pair (.int .i64) (.pair (.int .i64) (.pair (.int .i64) (.pair (.int .i64) (.pair (.int .i64) (.pair (.int .i64) (.pair (.pair (.int .i64) (.pair (.int .i64) .unit)) .unit)))))))))), .one (.clo 102 [])], bx := [], pins := [] }
noncomputable def outkContainsFunc_SSOp_SOp_iprogsOk_1 : Outs := [(.ret, { n := 1, regs := [.one (.val .bool)], bx := [], pins := [] })]
noncomputable def HkContainsFunc_SSOp_SOp_iprogsOk_1 : Hints := []
noncomputable def EkContainsFunc_SSOp_SOp_iprogsOk_1 (N : Nat) : Env := { te := TE, cs := [conkIndexFunc_SSOp_SOp_iprogsOk_1 N] }
noncomputable def FkContainsFunc_SSOp_SOp_iprogsOk_1 (N : Nat) (x : ((List (List (Int × (Int × (Int × (Int × (Int × (Int × ((Int × (Int × Unit)) × Unit))))))))) × Unit)) : Option (Bool × Unit) :=
  (FkIndexFunc_SSOp_SOp_iprogsOk_1 N (x.1, ())).bind fun r1 =>
  some (decide (r1.1 ≥ (0 : Int)), ())
noncomputable def conkContainsFunc_SSOp_SOp_iprogsOk_1 (N : Nat) : Con := { f := 101, din := dinkContainsFunc_SSOp_SOp_iprogsOk_1, outs := outkContainsFunc_SSOp_SOp_iprogsOk_1, F := FkContainsFunc_SSOp_SOp_iprogsOk_1 N }
noncomputable def XkContainsFunc_SSOp_SOp_iprogsOk_1 (N : Nat) : Ctx := { E := EkContainsFunc_SSOp_SOp_iprogsOk_1 N, H := HkContainsFunc_SSOp_SOp_iprogsOk_1, lp := [], jn := [] }
theorem FkContainsFunc_SSOp_SOp_iprogsOk_1_eq (N : Nat) (x : ((List (List (Int × (Int × (Int × (Int × (Int × (Int × ((Int × (Int × Unit)) × Unit))))))))) × Unit)) : evFn (XkContainsFunc_SSOp_SOp_iprogsOk_1 N) Try.f101 dinkContainsFunc_SSOp_SOp_iprogsOk_1 outkContainsFunc_SSOp_SOp_iprogsOk_1 x = FkContainsFunc_SSOp_SOp_iprogsOk_1 N x := by kernel_rfl
theorem cxkContainsFunc_SSOp_SOp_iprogsOk_1 (N : Nat) : CtxOk Try.prog (XkContainsFunc_SSOp_SOp_iprogsOk_1 N) := ⟨⟨TE_ok, List.forall_mem_cons.2 ⟨speckIndexFunc_SSOp_SOp_iprogsOk_1 N, fun k hk => absurd hk List.not_mem_nil⟩⟩, mixed⟩
theorem speckContainsFunc_SSOp_SOp_iprogsOk_1 (N : Nat) : Spec Try.prog (conkContainsFunc_SSOp_SOp_iprogsOk_1 N) :=
  Spec.of_eq (fn_spec (cxkContainsFunc_SSOp_SOp_iprogsOk_1 N) (f := 101) (fn := Try.f101) (c := codeOf Try.f101) (by kernel_rfl) (by kernel_rfl) (by kernel_rfl) (loops_at (ids := []) (by kernel_rfl) (trivial)) (by kernel_rfl)) (fun x r h => (FkContainsFunc_SSOp_SOp_iprogsOk_1_eq N x).trans h)

/-! ### 72: impl.progsOk -/

noncomputable def diniprogsOk : Desc := { n := 2, regs := [.one (.val (.pair (.int .i64) (.pair (.int .i64) (.pair (.int .i64) .unit)))), .one (.val (.sl (.sl (.pair (.int .i64) (.pair (.int .i64) (.pair (.int .i64) (.pair (.int .i64) (.pair (.int .i64) (.pair (.int .i64) (.pair (.pair (.int .i64) (.pair (.int .i64) .unit)) .unit))))))))))], bx := [], pins := [] }
noncomputable def outiprogsOk : Outs := [(.ret, { n := 1, regs := [.one (.val .bool)], bx := [], pins := [] })]
noncomputable def HiprogsOk : Hints := [(0, [(0, { fz := true })]),
  (1, [(11, { con := 1 })])]
noncomputable def EiprogsOk (N : Nat) : Env := { te := TE, cs := [coniConfigOk N, conkContainsFunc_SSOp_SOp_iprogsOk_1 N] }
noncomputable def FiprogsOk (N : Nat) (x : ((Int × (Int × (Int × Unit))) × ((List (List (Int × (Int × (Int × (Int × (Int × (Int × ((Int × (Int × Unit)) × Unit))))))))) × Unit))) : Option (Bool × Unit) :=
  (FiConfigOk N (x.1, ())).bind fun r1 =>
  bif r1.1 then
   bif (x.2.1.length : Int) == x.1.2.1 then
    (FkContainsFunc_SSOp_SOp_iprogsOk_1 N (x.2.1, ())).bind fun r2 =>
    some (!r2.1, ())
   else
   some (false, ())
  else
  some (false, ())
noncomputable def coniprogsOk (N : Nat) : Con := { f := 72, din := diniprogsOk, outs := outiprogsOk, F := FiprogsOk N }
noncomputable def XiprogsOk (N : Nat) : Ctx := { E := EiprogsOk N, H := HiprogsOk, lp := [], jn := [] }
theorem FiprogsOk_eq (N : Nat) (x : ((Int × (Int × (Int × Unit))) × ((List (List (Int × (Int × (Int × (Int × (Int × (Int × ((Int × (Int × Unit)) × Unit))))))))) × Unit))) : evFn (XiprogsOk N) Try.f72 diniprogsOk outiprogsOk x = FiprogsOk N x := by kernel_rfl
theorem cxiprogsOk (N : Nat) : CtxOk Try.prog (XiprogsOk N) := ⟨⟨TE_ok, List.forall_mem_cons.2 ⟨speciConfigOk N, List.forall_mem_cons.2 ⟨speckContainsFunc_SSOp_SOp_iprogsOk_1 N, fun k hk => absurd hk List.not_mem_nil⟩⟩⟩, mixed⟩
theorem speciprogsOk (N : Nat) : Spec Try.prog (coniprogsOk N) :=
  Spec.of_eq (fn_spec (cxiprogsOk N) (f := 72) (fn := Try.f72) (c := codeOf Try.f72) (by kernel_rfl) (by kernel_rfl) (by kernel_rfl) (loops_at (ids := []) (by kernel_rfl) (trivial)) (by kernel_rfl)) (fun x r h => (FiprogsOk_eq N x).trans h)

/-! ### 113: bits.Mul64 -/

noncomputable def dinmath_bits_Mul64 : Desc := { n := 2, regs := [.one (.val (.int .u64)), .one (.val (.int .u64))], bx := [], pins := [] }
noncomputable def outmath_bits_Mul64 : Outs := [(.ret, { n := 2, regs := [.one (.val (.int .u64)), .one (.val (.int .u64))], bx := [], pins := [] })]
noncomputable def Hmath_bits_Mul64 : Hints := []
noncomputable def Emath_bits_Mul64 (_N : Nat) : Env := { te := TE, cs := [] }
noncomputable def Fmath_bits_Mul64 (N : Nat) (x : (Int × (Int × Unit))) : Option (Int × (Int × Unit)) :=
  let y1 := IntKind.wrap .u64 (((bitsOf .u64 x.1 &&& bitsOf .u64 (4294967295 : Int)).toNat : Int))
  bif decide (0 ≤ (32 : Int)) then
  let y2 := Int.fdiv x.1 (2 ^ min (32 : Int).toNat 64)
  let y3 := IntKind.wrap .u64 (((bitsOf .u64 x.2.1 &&& bitsOf .u64 (4294967295 : Int)).toNat : Int))
  bif decide (0 ≤ (32 : Int)) then
  let y4 := Int.fdiv x.2.1 (2 ^ min (32 : Int).toNat 64)
  bif decide (0 ≤ (32 : Int)) then
  let y5 := Int.fdiv (IntKind.wrap .u64 (y1 * y3)) (2 ^ min (32 : Int).toNat 64)
  let y6 := IntKind.wrap .u64 ((IntKind.wrap .u64 (y2 * y3)) + y5)
  let y7 := IntKind.wrap .u64 (((bitsOf .u64 y6 &&& bitsOf .u64 (4294967295 : Int)).toNat : Int))
  bif decide (0 ≤ (32 : Int)) then
  let y8 := Int.fdiv y6 (2 ^ min (32 : Int).toNat 64)
  let y9 := IntKind.wrap .u64 (y7 + (IntKind.wrap .u64 (y1 * y4)))
  let y10 := IntKind.wrap .u64 ((IntKind.wrap .u64 (y2 * y4)) + y8)
  bif decide (0 ≤ (32 : Int)) then
  let y11 := Int.fdiv y9 (2 ^ min (32 : Int).toNat 64)
  some (IntKind.wrap .u64 (y10 + y11), IntKind.wrap .u64 (x.1 * x.2.1), ())
  else none
  else none
  else none
  else none
  else none
noncomputable def conmath_bits_Mul64 (N : Nat) : Con := { f := 113, din := dinmath_bits_Mul64, outs := outmath_bits_Mul64, F := Fmath_bits_Mul64 N }
noncomputable def Xmath_bits_Mul64 (N : Nat) : Ctx := { E := Emath_bits_Mul64 N, H := Hmath_bits_Mul64, lp := [], jn := [] }
theorem Fmath_bits_Mul64_eq (N : Nat) (x : (Int × (Int × Unit))) : evFn (Xmath_bits_Mul64 N) Try.f113 dinmath_bits_Mul64 outmath_bits_Mul64 x = Fmath_bits_Mul64 N x := by kernel_rfl
theorem cxmath_bits_Mul64 (N : Nat) : CtxOk Try.prog (Xmath_bits_Mul64 N) := ⟨⟨TE_ok, fun k hk => absurd hk List.not_mem_nil⟩, mixed⟩
theorem specmath_bits_Mul64 (N : Nat) : Spec Try.prog (conmath_bits_Mul64 N) :=
  Spec.of_eq (fn_spec (cxmath_bits_Mul64 N) (f := 113) (fn := Try.f113) (c := codeOf Try.f113) (by kernel_rfl) (by kernel_rfl) (by kernel_rfl) (loops_at (ids := []) (by kernel_rfl) (trivial)) (by kernel_rfl)) (fun x r h => (Fmath_bits_Mul64_eq N x).trans h)

/-! ### 107: bits.Mul -/

noncomputable def dinmath_bits_Mul : Desc := { n := 2, regs := [.one (.val (.int .u64)), .one (.val (.int .u64))], bx := [], pins := [] }
noncomputable def outmath_bits_Mul : Outs := [(.ret, { n := 2, regs := [.one (.val (.int .u64)), .one (.val (.int .u64))], bx := [], pins := [] })]
noncomputable def Hmath_bits_Mul : Hints := []
noncomputable def Emath_bits_Mul (N : Nat) : Env := { te := TE, cs := [conmath_bits_Mul64 N] }
noncomputable def Fmath_bits_Mul (N : Nat) (x : (Int × (Int × Unit))) : Option (Int × (Int × Unit)) :=
  (Fmath_bits_Mul64 N (x.1, x.2.1, ())).bind fun r1 =>
  some (r1.1, r1.2.1, ())
noncomputable def conmath_bits_Mul (N : Nat) : Con := { f := 107, din := dinmath_bits_Mul, outs := outmath_bits_Mul, F := Fmath_bits_Mul N }
noncomputable def Xmath_bits_Mul (N : Nat) : Ctx := { E := Emath_bits_Mul N, H := Hmath_bits_Mul, lp := [], jn := [] }
theorem Fmath_bits_Mul_eq (N : Nat) (x : (Int × (Int × Unit))) : evFn (Xmath_bits_Mul N) Try.f107 dinmath_bits_Mul outmath_bits_Mul x = Fmath_bits_Mul N x := by kernel_rfl
theorem cxmath_bits_Mul (N : Nat) : CtxOk Try.prog (Xmath_bits_Mul N) := ⟨⟨TE_ok, List.forall_mem_cons.2 ⟨specmath_bits_Mul64 N, fun k hk => absurd hk List.not_mem_nil⟩⟩, mixed⟩
theorem specmath_bits_Mul (N : Nat) : Spec Try.prog (conmath_bits_Mul N) :=
  Spec.of_eq (fn_spec (cxmath_bits_Mul N) (f := 107) (fn := Try.f107) (c := codeOf Try.f107) (by kernel_rfl) (by kernel_rfl) (by kernel_rfl) (loops_at (ids := []) (by kernel_rfl) (trivial)) (by kernel_rfl)) (fun x r h => (Fmath_bits_Mul_eq N x).trans h)

/-! ### 90: slices.Repeat[[]int,int] -/

noncomputable def dinkRepeat_Sint_int : Desc := { n := 2, regs := [.one (.val (.sl (.int .i64))), .one (.val (.int .i64))], bx := [], pins := [] }
noncomputable def outkRepeat_Sint_int : Outs := [(.ret, { n := 1, regs := [.one (.lit (.row 1076928))], bx := [(1076928, .row (.int .i64))], pins := [] })]
noncomputable def HkRepeat_Sint_int : Hints := []
noncomputable def EkRepeat_Sint_int (N : Nat) : Env := { te := TE, cs := [conmath_bits_Mul N] }
noncomputable def dkRepeat_Sint_int_0 : Desc := { n := 48, regs := [u, u, u, u, u, u, u, .one (.lit (.row 1076928)), .one (.val (.int .i64))], bx := [(1076928, .row (.int .i64))], pins := [] }
noncomputable def okRepeat_Sint_int_0 : Outs := [(.exit 0, { n := 48, regs := [u, u, u, u, u, u, u, .one (.lit (.row 1076928))], bx := [(1076928, .row (.int .i64))], pins := [] })]
noncomputable def jkRepeat_Sint_int_3 : Outs := [(.normal, { n := 48, regs := [.one (.val (.sl (.int .i64))), .one (.val (.int .i64))], bx := [], pins := [] })]
noncomputable def jkRepeat_Sint_int_6 : Outs := [(.normal, { n := 48, regs := [.one (.val (.sl (.int .i64))), u, u, u, u, u, .one (.val (.int .u64))], bx := [], pins := [] })]
noncomputable def lkRepeat_Sint_int_0 (N : Nat) : Nat → (Int × ((List Int) × Unit)) → Option ((List Int) × Unit)
  | 0, _ => none
  | n + 1, v =>
    bif decide (v.1 < (v.2.1.length : Int)) then
     bif decide (0 ≤ (v.2.1.length : Int)) then
     bif decide ((v.2.1.length : Int) ≤ (v.2.1.length : Int)) then
     bif decide (0 ≤ v.1) then
     bif decide (v.1 ≤ (v.2.1.length : Int)) then
     bif decide (0 ≤ v.1) then
     bif decide (v.1 ≤ (v.2.1.length : Int)) then
     bif decide (0 ≤ (0 : Int)) then
     bif decide ((0 : Int) ≤ v.1) then
     let y8 := lay v.2.1 v.1.toNat (((v.2.1.drop ((0 : Int).toNat)).take (v.1.toNat - (0 : Int).toNat)).take ((v.2.1.length : Int).toNat - v.1.toNat))
     let y9 := ((min ((v.2.1.drop ((0 : Int).toNat)).take (v.1.toNat - (0 : Int).toNat)).length ((v.2.1.length : Int).toNat - v.1.toNat) : Nat) : Int)
     lkRepeat_Sint_int_0 N n (w64 (v.1 + y9), y8, ())
     else none
     else none
     else none
     else none
     else none
     else none
     else none
     else none
    else
    some (v.2.1, ())
noncomputable def FkRepeat_Sint_int (N : Nat) (x : ((List Int) × (Int × Unit))) : Option ((List Int) × Unit) :=
  Option.bind (
   bif decide (x.2.1 < (0 : Int)) then
    none
   else
   some (x.1, x.2.1, ())) fun o1 =>
  let y2 := IntKind.wrap .u64 ((o1.1.length : Int))
  (Fmath_bits_Mul N (y2, IntKind.wrap .u64 (o1.2.1), ())).bind fun r3 =>
  Option.bind (
   bif decide (r3.1 > (0 : Int)) then
    none
   else
   let y4 := decide (r3.2.1 > (9223372036854775807 : Int))
   bif y4 then
    none
   else
   some (o1.1, r3.2.1, ())) fun o5 =>
  bif decide (0 ≤ (w64 (o5.2.1))) then
  bif decide ((w64 (o5.2.1)).toNat ≤ lim) then
  let y6 := List.replicate (w64 (o5.2.1)).toNat (0 : Int)
  let y7 := ((min o5.1.length y6.length : Nat) : Int)
  (lkRepeat_Sint_int_0 N N (y7, lay y6 0 (o5.1.take y6.length), ())).bind fun o10 =>
  some (o10.1, ())
  else none
  else none
noncomputable def conkRepeat_Sint_int (N : Nat) : Con := { f := 90, din := dinkRepeat_Sint_int, outs := outkRepeat_Sint_int, F := FkRepeat_Sint_int N }
noncomputable def XkRepeat_Sint_int (N : Nat) : Ctx := { E := EkRepeat_Sint_int N, H := HkRepeat_Sint_int, lp := [(0, { hd := dkRepeat_Sint_int_0, outs := okRepeat_Sint_int_0, run := fun v => lkRepeat_Sint_int_0 N N v })], jn := [(3, jkRepeat_Sint_int_3), (6, jkRepeat_Sint_int_6)] }
noncomputable def bkRepeat_Sint_int_0 : Code := loopBody (codeOf Try.f90) 0
theorem FkRepeat_Sint_int_eq (N : Nat) (x : ((List Int) × (Int × Unit))) : evFn (XkRepeat_Sint_int N) Try.f90 dinkRepeat_Sint_int outkRepeat_Sint_int x = FkRepeat_Sint_int N x := by kernel_rfl
theorem lkRepeat_Sint_int_0_eq (N n : Nat) (v : (Int × ((List Int) × Unit))) : lkRepeat_Sint_int_0 N (n + 1) v = ev (XkRepeat_Sint_int N) bkRepeat_Sint_int_0 (roundK dkRepeat_Sint_int_0 okRepeat_Sint_int_0 (lkRepeat_Sint_int_0 N n)) (dkRepeat_Sint_int_0.mk' v) := by kernel_rfl
theorem cxkRepeat_Sint_int (N : Nat) : CtxOk Try.prog (XkRepeat_Sint_int N) := ⟨⟨TE_ok, List.forall_mem_cons.2 ⟨specmath_bits_Mul N, fun k hk => absurd hk List.not_mem_nil⟩⟩, mixed⟩
theorem lpkRepeat_Sint_int_0 (N : Nat) : LoopOk Try.prog { hd := dkRepeat_Sint_int_0, outs := okRepeat_Sint_int_0, run := fun v => lkRepeat_Sint_int_0 N N v } bkRepeat_Sint_int_0 :=
  loop_fuel (d := dkRepeat_Sint_int_0) (os := okRepeat_Sint_int_0) (cxkRepeat_Sint_int N) (loops_at (ids := []) (by kernel_rfl) (trivial)) (lkRepeat_Sint_int_0 N) (fun _ => rfl) (fun n v => lkRepeat_Sint_int_0_eq N n v) (fun _ => N)
theorem speckRepeat_Sint_int (N : Nat) : Spec Try.prog (conkRepeat_Sint_int N) :=
  Spec.of_eq (fn_spec (cxkRepeat_Sint_int N) (f := 90) (fn := Try.f90) (c := codeOf Try.f90) (by kernel_rfl) (by kernel_rfl) (by kernel_rfl) (loops_at (ids := [0]) (by kernel_rfl) ⟨lp_of (lpkRepeat_Sint_int_0 N), trivial⟩) (by kernel_rfl)) (fun x r h => (FkRepeat_Sint_int_eq N x).trans h)

/-! ### 47: impl.none -/

noncomputable def dininone : Desc := { n := 1, regs := [.one (.val (.int .i64))], bx := [], pins := [] }
noncomputable def outinone : Outs := [(.ret, { n := 1, regs := [.one (.lit (.row 1012929))], bx := [(1012929, .row (.int .i64))], pins := [] })]
noncomputable def Hinone : Hints := []
noncomputable def Einone (N : Nat) : Env := { te := TE, cs := [conkRepeat_Sint_int N] }
noncomputable def Finone (N : Nat) (x : (Int × Unit)) : Option ((List Int) × Unit) :=
  (FkRepeat_Sint_int N ([(-1 : Int)], x.1, ())).bind fun r1 =>
  some (r1.1, ())
noncomputable def coninone (N : Nat) : Con := { f := 47, din := dininone, outs := outinone, F := Finone N }
noncomputable def Xinone (N : Nat) : Ctx := { E := Einone N, H := Hinone, lp := [], jn := [] }
theorem Finone_eq (N : Nat) (x : (Int × Unit)) : evFn (Xinone N) Try.f47 dininone outinone x = Finone N x := by kernel_rfl
theorem cxinone (N : Nat) : CtxOk Try.prog (Xinone N) := ⟨⟨TE_ok, List.forall_mem_cons.2 ⟨speckRepeat_Sint_int N, fun k hk => absurd hk List.not_mem_nil⟩⟩, mixed⟩
theorem specinone (N : Nat) : Spec Try.prog (coninone N) :=
  Spec.of_eq (fn_spec (cxinone N) (f := 47) (fn := Try.f47) (c := codeOf Try.f47) (by kernel_rfl) (by kernel_rfl) (by kernel_rfl) (loops_at (ids := []) (by kernel_rfl) (trivial)) (by kernel_rfl)) (fun x r h => (Finone_eq N x).trans h)

/-! ### 73: impl.GraphNew -/

noncomputable def diniGraphNew : Desc := { n := 1, regs := [.one (.val (.int .i64))], bx := [], pins := [] }
noncomputable def outiGraphNew : Outs := [(.ret, { n := 2, regs := [.agg [.lit (.row 1038592), .lit (.row 1038658), .lit .nil], .one (.val .bool)], bx := [(1038592, .row (.pair (.sl (.int .i64)) (.pair (.sl (.int .i64)) .unit))), (1038658, .row (.sl (.int .i64)))], pins := [] })]
noncomputable def HiGraphNew : Hints := [(2, [(0, { nl := [(0, (.pair (.sl (.int .i64)) (.pair (.sl (.int .i64)) .unit))), (1, (.sl (.int .i64)))] })]),
  (3, [(3, { dp := true }), (4, { nl := [(1, (.sl (.int .i64)))] })]),
  (6, [(3, { dp := true }), (4, { dp := true })])]
noncomputable def EiGraphNew (N : Nat) : Env := { te := TE, cs := [coninone N] }
noncomputable def diGraphNew_0 : Desc := { n := 28, regs := [u, u, .one (.lit (.ptr 1000000 0)), u, .one (.lit (.ptr 1038720 0)), u, u, u, u, u, u, u, u, u, u, u, u, .one (.val (.int .i64)), .one (.val (.int .i64))], bx := [(1000000, .var [.lit .nil, .lit .nil, .lit .nil]), (1038720, .var [.lit (.row 1038592), .lit (.row 1038658), .lit .nil]), (1038592, .row (.pair (.sl (.int .i64)) (.pair (.sl (.int .i64)) .unit))), (1038658, .row (.sl (.int .i64)))], pins := [] }
noncomputable def oiGraphNew_0 : Outs := [(.exit 0, { n := 28, regs := [u, u, .one (.lit (.ptr 1000000 0)), u, .one (.lit (.ptr 1038720 0))], bx := [(1000000, .var [.lit .nil, .lit .nil, .lit .nil]), (1038720, .var [.lit (.row 1038592), .lit (.row 1038658), .lit .nil]), (1038592, .row (.pair (.sl (.int .i64)) (.pair (.sl (.int .i64)) .unit))), (1038658, .row (.sl (.int .i64)))], pins := [] })]
noncomputable def jiGraphNew_3 : Outs := [(.normal, { n := 28, regs := [.one (.val (.int .i64)), u, .one (.lit (.ptr 1000000 0))], bx := [(1000000, .var [.lit .nil, .lit .nil, .lit .nil])], pins := [] }), (.ret, { n := 28, regs := [u, u, .one (.lit (.ptr 1000000 0)), .one (.val .bool)], bx := [(1000000, .var [.lit (.row 1025601), .lit (.row 1025602), .lit .nil]), (1025601, .row (.pair (.sl (.int .i64)) (.pair (.sl (.int .i64)) .unit))), (1025602, .row (.sl (.int .i64)))], pins := [] })]
noncomputable def liGraphNew_0 (N : Nat) : Nat → (Int × (Int × ((List ((List Int) × ((List Int) × Unit))) × ((List (List Int)) × Unit)))) → Option ((List ((List Int) × ((List Int) × Unit))) × ((List (List Int)) × Unit))
  | 0, _ => none
  | n + 1, v =>
    bif decide (v.2.1 < v.1) then
     bif decide (v.2.2.2.1.length + [[(0 : Int)]].length ≤ lim) then
     liGraphNew_0 N n (v.1, w64 (v.2.1 + (1 : Int)), v.2.2.1, v.2.2.2.1 ++ [[(0 : Int)]], ())
     else none
    else
    some (v.2.2.1, v.2.2.2.1, ())
noncomputable def FiGraphNew (N : Nat) (x : (Int × Unit)) : Option (Bool × ((List ((List Int) × ((List Int) × Unit))) × ((List (List Int)) × Unit))) :=
  Option.bind (
   bif decide (x.1 < (1 : Int)) then
    let y1 := ([] : (List ((List Int) × ((List Int) × Unit))))
    some (.inr ((false, y1, ([] : (List (List Int))), ())))
   else
   bif decide (x.1 > (3 : Int)) then
    let y2 := ([] : (List ((List Int) × ((List Int) × Unit))))
    some (.inr ((false, y2, ([] : (List (List Int))), ())))
   else
   some (.inl (x.1, ()))) fun o3 =>
  Sum.elim (fun o4 =>
   (Finone N ((4 : Int), ())).bind fun r5 =>
   bif decide (0 ≤ (2 : Int)) then
   bif decide ((2 : Int).toNat ≤ lim) then
   let y6 := List.replicate (2 : Int).toNat (0 : Int)
   (liGraphNew_0 N N (o4.1, (0 : Int), [(r5.1, y6, ())], ([] : (List (List Int))), ())).bind fun o7 =>
   some (true, o7.1, o7.2.1, ())
   else none
   else none) (fun o8 =>
   some (o8.1, o8.2.1, o8.2.2.1, ())) o3
noncomputable def coniGraphNew (N : Nat) : Con := { f := 73, din := diniGraphNew, outs := outiGraphNew, F := FiGraphNew N }
noncomputable def XiGraphNew (N : Nat) : Ctx := { E := EiGraphNew N, H := HiGraphNew, lp := [(0, { hd := diGraphNew_0, outs := oiGraphNew_0, run := fun v => liGraphNew_0 N N v })], jn := [(3, jiGraphNew_3)] }
noncomputable def biGraphNew_0 : Code := loopBody (codeOf Try.f73) 0
theorem FiGraphNew_eq (N : Nat) (x : (Int × Unit)) : evFn (XiGraphNew N) Try.f73 diniGraphNew outiGraphNew x = FiGraphNew N x := by kernel_rfl
theorem liGraphNew_0_eq (N n : Nat) (v : (Int × (Int × ((List ((List Int) × ((List Int) × Unit))) × ((List (List Int)) × Unit))))) : liGraphNew_0 N (n + 1) v = ev (XiGraphNew N) biGraphNew_0 (roundK diGraphNew_0 oiGraphNew_0 (liGraphNew_0 N n)) (diGraphNew_0.mk' v) := by kernel_rfl
theorem cxiGraphNew (N : Nat) : CtxOk Try.prog (XiGraphNew N) := ⟨⟨TE_ok, List.forall_mem_cons.2 ⟨specinone N, fun k hk => absurd hk List.not_mem_nil⟩⟩, mixed⟩
theorem lpiGraphNew_0 (N : Nat) : LoopOk Try.prog { hd := diGraphNew_0, outs := oiGraphNew_0, run := fun v => liGraphNew_0 N N v } biGraphNew_0 :=
  loop_fuel (d := diGraphNew_0) (os := oiGraphNew_0) (cxiGraphNew N) (loops_at (ids := []) (by kernel_rfl) (trivial)) (liGraphNew_0 N) (fun _ => rfl) (fun n v => liGraphNew_0_eq N n v) (fun _ => N)
theorem speciGraphNew (N : Nat) : Spec Try.prog (coniGraphNew N) :=
  Spec.of_eq (fn_spec (cxiGraphNew N) (f := 73) (fn := Try.f73) (c := codeOf Try.f73) (by kernel_rfl) (by kernel_rfl) (by kernel_rfl) (loops_at (ids := [0]) (by kernel_rfl) ⟨lp_of (lpiGraphNew_0 N), trivial⟩) (by kernel_rfl)) (fun x r h => (FiGraphNew_eq N x).trans h)

/-! ### 106: impl.Graph).leads$1 -/

noncomputable def diniGraph_leads_1 : Desc := { n := 3, regs := [.one (.val (.int .i64)), .one (.fpt (.int .i64)), .one (.fpt (.pair (.sl (.pair (.sl (.int .i64)) (.pair (.sl (.int .i64)) .unit))) (.pair (.sl (.sl (.int .i64))) (.pair (.sl (.int .i64)) .unit))))], bx := [], pins := [] }
noncomputable def outiGraph_leads_1 : Outs := [(.ret, { n := 1, regs := [.one (.val .bool)], bx := [], pins := [] })]
noncomputable def HiGraph_leads_1 : Hints := []
noncomputable def EiGraph_leads_1 (_N : Nat) : Env := { te := TE, cs := [] }
noncomputable def FiGraph_leads_1 (N : Nat) (x : (Int × (Int × (((List ((List Int) × ((List Int) × Unit))) × ((List (List Int)) × ((List Int) × Unit))) × Unit)))) : Option (Bool × Unit) :=
  bif decide (x.1 < x.2.1) then
   some (true, ())
  else
  let y1 := decide (x.1 ≥ (x.2.2.1.1.length : Int))
  some (y1, ())
noncomputable def coniGraph_leads_1 (N : Nat) : Con := { f := 106, din := diniGraph_leads_1, outs := outiGraph_leads_1, F := FiGraph_leads_1 N }
noncomputable def XiGraph_leads_1 (N : Nat) : Ctx := { E := EiGraph_leads_1 N, H := HiGraph_leads_1, lp := [], jn := [] }
theorem FiGraph_leads_1_eq (N : Nat) (x : (Int × (Int × (((List ((List Int) × ((List Int) × Unit))) × ((List (List Int)) × ((List Int) × Unit))) × Unit)))) : evFn (XiGraph_leads_1 N) Try.f106 diniGraph_leads_1 outiGraph_leads_1 x = FiGraph_leads_1 N x := by kernel_rfl
theorem cxiGraph_leads_1 (N : Nat) : CtxOk Try.prog (XiGraph_leads_1 N) := ⟨⟨TE_ok, fun k hk => absurd hk List.not_mem_nil⟩, mixed⟩
theorem speciGraph_leads_1 (N : Nat) : Spec Try.prog (coniGraph_leads_1 N) :=
  Spec.of_eq (fn_spec (cxiGraph_leads_1 N) (f := 106) (fn := Try.f106) (c := codeOf Try.f106) (by kernel_rfl) (by kernel_rfl) (by kernel_rfl) (loops_at (ids := []) (by kernel_rfl) (trivial)) (by kernel_rfl)) (fun x r h => (FiGraph_leads_1_eq N x).trans h)

/-! ### 111: slices.IndexFunc[[]int,int] -/

noncomputable def dinkIndexFunc_Sint_int_iGraph_leads_1 : Desc := { n := 2, regs := [.one (.val (.sl (.int .i64))), .one (.clo 106 [.inr (.int .i64), .inr (.pair (.sl (.pair (.sl (.int .i64)) (.pair (.sl (.int .i64)) .unit))) (.pair (.sl (.sl (.int .i64))) (.pair (.sl (.int .i64)) .unit)))])], bx := [], pins := [] }
noncomputable def outkIndexFunc_Sint_int_iGraph_leads_1 : Outs := [(.ret, { n := 1, regs := [.one (.val (.int .i64))], bx := [], pins := [] })]
noncomputable def HkIndexFunc_Sint_int_iGraph_leads_1 : Hints := []
noncomputable def EkIndexFunc_Sint_int_iGraph_leads_1 (N : Nat) : Env := { te := TE, cs := [coniGraph_leads_1 N] }
noncomputable def dkIndexFunc_Sint_int_iGraph_leads_1_0 : Desc := { n := 19, regs := [.one (.val (.sl (.int .i64))), .one (.clo 106 [.inr (.int .i64), .inr (.pair (.sl (.pair (.sl (.int .i64)) (.pair (.sl (.int .i64)) .unit))) (.pair (.sl (.sl (.int .i64))) (.pair (.sl (.int .i64)) .unit)))]), u, u, u, u, u, .one (.val (.int .i64)), .one (.val (.int .i64))], bx := [], pins := [] }
noncomputable def okIndexFunc_Sint_int_iGraph_leads_1_0 : Outs := [(.exit 0, { n := 19, regs := [], bx := [], pins := [] }), (.ret, { n := 19, regs := [u, u, u, u, .one (.val (.int .i64))], bx := [], pins := [] })]
noncomputable def lkIndexFunc_Sint_int_iGraph_leads_1_0 (N : Nat) : Nat → ((List Int) × (Int × (((List ((List Int) × ((List Int) × Unit))) × ((List (List Int)) × ((List Int) × Unit))) × (Int × (Int × Unit))))) → Option (Unit ⊕ (Int × Unit))
  | 0, _ => none
  | n + 1, v =>
    bif decide (v.2.2.2.2.1 < v.2.2.2.1) then
     bif decide (0 ≤ v.2.2.2.2.1) then
     bif decide (v.2.2.2.2.1.toNat < v.1.length) then
     (FiGraph_leads_1 N (v.1.getD v.2.2.2.2.1.toNat (0 : Int), v.2.1, v.2.2.1, ())).bind fun r1 =>
     bif r1.1 then
      some (.inr ((v.2.2.2.2.1, ())))
     else
     lkIndexFunc_Sint_int_iGraph_leads_1_0 N n (v.1, v.2.1, v.2.2.1, v.2.2.2.1, w64 (v.2.2.2.2.1 + (1 : Int)), ())
     else none
     else none
    else
    some (.inl ())
noncomputable def FkIndexFunc_Sint_int_iGraph_leads_1 (N : Nat) (x : ((List Int) × (Int × (((List ((List Int) × ((List Int) × Unit))) × ((List (List Int)) × ((List Int) × Unit))) × Unit)))) : Option (Int × Unit) :=
  (lkIndexFunc_Sint_int_iGraph_leads_1_0 N N (x.1, x.2.1, x.2.2.1, (x.1.length : Int), (0 : Int), ())).bind fun o2 =>
  Sum.elim (fun o3 =>
   some ((-1 : Int), ())) (fun o4 =>
   some (o4.1, ())) o2
noncomputable def conkIndexFunc_Sint_int_iGraph_leads_1 (N : Nat) : Con := { f := 111, din := dinkIndexFunc_Sint_int_iGraph_leads_1, outs := outkIndexFunc_Sint_int_iGraph_leads_1, F := FkIndexFunc_Sint_int_iGraph_leads_1 N }
noncomputable def XkIndexFunc_Sint_int_iGraph_leads_1 (N : Nat) : Ctx := { E := EkIndexFunc_Sint_int_iGraph_leads_1 N, H := HkIndexFunc_Sint_int_iGraph_leads_1, lp := [(0, { hd := dkIndexFunc_Sint_int_iGraph_leads_1_0, outs := okIndexFunc_Sint_int_iGraph_leads_1_0, run := fun v => lkIndexFunc_Sint_int_iGraph_leads_1_0 N N v })], jn := [] }
noncomputable def bkIndexFunc_Sint_int_iGraph_leads_1_0 : Code := loopBody (codeOf Try.f111) 0
theorem FkIndexFunc_Sint_int_iGraph_leads_1_eq (N : Nat) (x : ((List Int) × (Int × (((List ((List Int) × ((List Int) × Unit))) × ((List (List Int)) × ((List Int) × Unit))) × Unit)))) : evFn (XkIndexFunc_Sint_int_iGraph_leads_1 N) Try.f111 dinkIndexFunc_Sint_int_iGraph_leads_1 outkIndexFunc_Sint_int_iGraph_leads_1 x = FkIndexFunc_Sint_int_iGraph_leads_1 N x := by kernel_rfl
theorem lkIndexFunc_Sint_int_iGraph_leads_1_0_eq (N n : Nat) (v : ((List Int) × (Int × (((List ((List Int) × ((List Int) × Unit))) × ((List (List Int)) × ((List Int) × Unit))) × (Int × (Int × Unit)))))) : lkIndexFunc_Sint_int_iGraph_leads_1_0 N (n + 1) v = ev (XkIndexFunc_Sint_int_iGraph_leads_1 N) bkIndexFunc_Sint_int_iGraph_leads_1_0 (roundK dkIndexFunc_Sint_int_iGraph_leads_1_0 okIndexFunc_Sint_int_iGraph_leads_1_0 (lkIndexFunc_Sint_int_iGraph_leads_1_0 N n)) (dkIndexFunc_Sint_int_iGraph_leads_1_0.mk' v) := by kernel_rfl
theorem cxkIndexFunc_Sint_int_iGraph_leads_1 (N : Nat) : CtxOk Try.prog (XkIndexFunc_Sint_int_iGraph_leads_1 N) := ⟨⟨TE_ok, List.forall_mem_cons.2 ⟨speciGraph_leads_1 N, fun k hk => absurd hk List.not_mem_nil⟩⟩, mixed⟩
theorem lpkIndexFunc_Sint_int_iGraph_leads_1_0 (N : Nat) : LoopOk Try.prog { hd := dkIndexFunc_Sint_int_iGraph_leads_1_0, outs := okIndexFunc_Sint_int_iGraph_leads_1_0, run := fun v => lkIndexFunc_Sint_int_iGraph_leads_1_0 N N v } bkIndexFunc_Sint_int_iGraph_leads_1_0 :=
  loop_fuel (d := dkIndexFunc_Sint_int_iGraph_leads_1_0) (os := okIndexFunc_Sint_int_iGraph_leads_1_0) (cxkIndexFunc_Sint_int_iGraph_leads_1 N) (loops_at (ids := []) (by kernel_rfl) (trivial)) (lkIndexFunc_Sint_int_iGraph_leads_1_0 N) (fun _ => rfl) (fun n v => lkIndexFunc_Sint_int_iGraph_leads_1_0_eq N n v) (fun _ => N)
theorem speckIndexFunc_Sint_int_iGraph_leads_1 (N : Nat) : Spec Try.prog (conkIndexFunc_Sint_int_iGraph_leads_1 N) :=
  Spec.of_eq (fn_spec (cxkIndexFunc_Sint_int_iGraph_leads_1 N) (f := 111) (fn := Try.f111) (c := codeOf Try.f111) (by kernel_rfl) (by kernel_rfl) (by kernel_rfl) (loops_at (ids := [0]) (by kernel_rfl) ⟨lp_of (lpkIndexFunc_Sint_int_iGraph_leads_1_0 N), trivial⟩) (by kernel_rfl)) (fun x r h => (FkIndexFunc_Sint_int_iGraph_leads_1_eq N x).trans h)

/-! ### 105: slices.ContainsFunc[[]int,int] -/

noncomputable def dinkContainsFunc_Sint_int_iGraph_leads_1 : Desc := { n := 2, regs := [.one (.val (.sl (.int .i64))), .one (.clo 106 [.inr (.int .i64), .inr (.pair (.sl (.pair (.sl (.int .i64)) (.pair (.sl (.int .i64)) .unit))) (.pair (.sl (.sl (.int .i64))) (.pair (.sl (.int .i64)) .unit)))])], bx := [], pins := [] }
noncomputable def outkContainsFunc_Sint_int_iGraph_leads_1 : Outs := [(.ret, { n := 1, regs := [.one (.val .bool)], bx := [], pins := [] })]
noncomputable def HkContainsFunc_Sint_int_iGraph_leads_1 : Hints := []
noncomputable def EkContainsFunc_Sint_int_iGraph_leads_1 (N : Nat) : Env := { te := TE, cs := [conkIndexFunc_Sint_int_iGraph_leads_1 N] }
noncomputable def FkContainsFunc_Sint_int_iGraph_leads_1 (N : Nat) (x : ((List Int) × (Int × (((List ((List Int) × ((List Int) × Unit))) × ((List (List Int)) × ((List Int) × Unit))) × Unit)))) : Option (Bool × Unit) :=
  (FkIndexFunc_Sint_int_iGraph_leads_1 N (x.1, x.2.1, x.2.2.1, ())).bind fun r1 =>
  some (decide (r1.1 ≥ (0 : Int)), ())
noncomputable def conkContainsFunc_Sint_int_iGraph_leads_1 (N : Nat) : Con := { f := 105, din := dinkContainsFunc_Sint_int_iGraph_leads_1, outs := outkContainsFunc_Sint_int_iGraph_leads_1, F := FkContainsFunc_Sint_int_iGraph_leads_1 N }
noncomputable def XkContainsFunc_Sint_int_iGraph_leads_1 (N : Nat) : Ctx := { E := EkContainsFunc_Sint_int_iGraph_leads_1 N, H := HkContainsFunc_Sint_int_iGraph_leads_1, lp := [], jn := [] }
theorem FkContainsFunc_Sint_int_iGraph_leads_1_eq (N : Nat) (x : ((List Int) × (Int × (((List ((List Int) × ((List Int) × Unit))) × ((List (List Int)) × ((List Int) × Unit))) × Unit)))) : evFn (XkContainsFunc_Sint_int_iGraph_leads_1 N) Try.f105 dinkContainsFunc_Sint_int_iGraph_leads_1 outkContainsFunc_Sint_int_iGraph_leads_1 x = FkContainsFunc_Sint_int_iGraph_leads_1 N x := by kernel_rfl
theorem cxkContainsFunc_Sint_int_iGraph_leads_1 (N : Nat) : CtxOk Try.prog (XkContainsFunc_Sint_int_iGraph_leads_1 N) := ⟨⟨TE_ok, List.forall_mem_cons.2 ⟨speckIndexFunc_Sint_int_iGraph_leads_1 N, fun k hk => absurd hk List.not_mem_nil⟩⟩, mixed⟩
theorem speckContainsFunc_Sint_int_iGraph_leads_1 (N : Nat) : Spec Try.prog (conkContainsFunc_Sint_int_iGraph_leads_1 N) :=
  Spec.of_eq (fn_spec (cxkContainsFunc_Sint_int_iGraph_leads_1 N) (f := 105) (fn := Try.f105) (c := codeOf Try.f105) (by kernel_rfl) (by kernel_rfl) (by kernel_rfl) (loops_at (ids := []) (by kernel_rfl) (trivial)) (by kernel_rfl)) (fun x r h => (FkContainsFunc_Sint_int_iGraph_leads_1_eq N x).trans h)

/-! ### 87: impl.Graph).leads -/

noncomputable def diniGraph_leads : Desc := { n := 3, regs := [.one (.val (.pair (.sl (.pair (.sl (.int .i64)) (.pair (.sl (.int .i64)) .unit))) (.pair (.sl (.sl (.int .i64))) (.pair (.sl (.int .i64)) .unit)))), .one (.val (.sl (.int .i64))), .one (.val (.int .i64))], bx := [], pins := [] }
noncomputable def outiGraph_leads : Outs := [(.ret, { n := 1, regs := [.one (.val .bool)], bx := [], pins := [] })]
noncomputable def HiGraph_leads : Hints := [(0, [(0, { fz := true }), (1, { fz := true })])]
noncomputable def EiGraph_leads (N : Nat) : Env := { te := TE, cs := [conkContainsFunc_Sint_int_iGraph_leads_1 N] }
noncomputable def FiGraph_leads (N : Nat) (x : (((List ((List Int) × ((List Int) × Unit))) × ((List (List Int)) × ((List Int) × Unit))) × ((List Int) × (Int × Unit)))) : Option (Bool × Unit) :=
  (FkContainsFunc_Sint_int_iGraph_leads_1 N (x.2.1, x.2.2.1, x.1, ())).bind fun r1 =>
  some (!r1.1, ())
noncomputable def coniGraph_leads (N : Nat) : Con := { f := 87, din := diniGraph_leads, outs := outiGraph_leads, F := FiGraph_leads N }
noncomputable def XiGraph_leads (N : Nat) : Ctx := { E := EiGraph_leads N, H := HiGraph_leads, lp := [], jn := [] }
theorem FiGraph_leads_eq (N : Nat) (x : (((List ((List Int) × ((List Int) × Unit))) × ((List (List Int)) × ((List Int) × Unit))) × ((List Int) × (Int × Unit)))) : evFn (XiGraph_leads N) Try.f87 diniGraph_leads outiGraph_leads x = FiGraph_leads N x := by kernel_rfl
theorem cxiGraph_leads (N : Nat) : CtxOk Try.prog (XiGraph_leads N) := ⟨⟨TE_ok, List.forall_mem_cons.2 ⟨speckContainsFunc_Sint_int_iGraph_leads_1 N, fun k hk => absurd hk List.not_mem_nil⟩⟩, mixed⟩
theorem speciGraph_leads (N : Nat) : Spec Try.prog (coniGraph_leads N) :=
  Spec.of_eq (fn_spec (cxiGraph_leads N) (f := 87) (fn := Try.f87) (c := codeOf Try.f87) (by kernel_rfl) (by kernel_rfl) (by kernel_rfl) (loops_at (ids := []) (by kernel_rfl) (trivial)) (by kernel_rfl)) (fun x r h => (FiGraph_leads_eq N x).trans h)

/-! ### 42: impl.GraphOk -/

noncomputable def diniGraphOk : Desc := { n := 1, regs := [.one (.val (.pair (.sl (.pair (.sl (.int .i64)) (.pair (.sl (.int .i64)) .unit))) (.pair (.sl (.sl (.int .i64))) (.pair (.sl (.int .i64)) .unit))))], bx := [], pins := [] }
noncomputable def outiGraphOk : Outs := [(.ret, { n := 1, regs := [.one (.val .bool)], bx := [], pins := [] })]
noncomputable def HiGraphOk : Hints := [(0, [(0, { fz := true })])]
noncomputable def EiGraphOk (N : Nat) : Env := { te := TE, cs := [coniGraph_leads N] }
noncomputable def diGraphOk_0 : Desc := { n := 78, regs := [u, .one (.fpt (.pair (.sl (.pair (.sl (.int .i64)) (.pair (.sl (.int .i64)) .unit))) (.pair (.sl (.sl (.int .i64))) (.pair (.sl (.int .i64)) .unit)))), u, u, u, u, u, u, u, u, u, u, u, u, u, u, u, u, u, u, u, u, u, u, u, u, u, u, u, u, u, u, u, u, u, u, u, .one (.val (.sl (.pair (.sl (.int .i64)) (.pair (.sl (.int .i64)) .unit)))), .one (.val (.int .i64)), .one (.val (.int .i64))], bx := [], pins := [] }
noncomputable def oiGraphOk_0 : Outs := [(.exit 0, { n := 78, regs := [u, .one (.fpt (.pair (.sl (.pair (.sl (.int .i64)) (.pair (.sl (.int .i64)) .unit))) (.pair (.sl (.sl (.int .i64))) (.pair (.sl (.int .i64)) .unit))))], bx := [], pins := [] }), (.ret, { n := 78, regs := [u, u, .one (.val .bool)], bx := [], pins := [] })]
noncomputable def diGraphOk_2 : Desc := { n := 78, regs := [u, .one (.fpt (.pair (.sl (.pair (.sl (.int .i64)) (.pair (.sl (.int .i64)) .unit))) (.pair (.sl (.sl (.int .i64))) (.pair (.sl (.int .i64)) .unit)))), u, u, u, u, u, u, u, u, u, u, u, u, u, u, u, u, u, u, u, u, u, u, u, u, u, u, u, u, u, u, u, u, u, u, u, u, u, u, u, u, u, u, u, u, u, u, u, u, u, u, u, u, u, u, u, u, u, u, u, u, .one (.val (.sl (.sl (.int .i64)))), .one (.val (.int .i64)), .one (.val (.int .i64))], bx := [], pins := [] }
noncomputable def oiGraphOk_2 : Outs := [(.exit 2, { n := 78, regs := [], bx := [], pins := [] }), (.ret, { n := 78, regs := [u, u, .one (.val .bool)], bx := [], pins := [] })]
noncomputable def jiGraphOk_3 : Outs := [(.normal, { n := 78, regs := [u, .one (.fpt (.pair (.sl (.pair (.sl (.int .i64)) (.pair (.sl (.int .i64)) .unit))) (.pair (.sl (.sl (.int .i64))) (.pair (.sl (.int .i64)) .unit))))], bx := [], pins := [] }), (.ret, { n := 78, regs := [u, u, .one (.val .bool)], bx := [], pins := [] })]
noncomputable def liGraphOk_0 (N : Nat) : Nat → (((List ((List Int) × ((List Int) × Unit))) × ((List (List Int)) × ((List Int) × Unit))) × ((List ((List Int) × ((List Int) × Unit))) × (Int × (Int × Unit)))) → Option ((((List ((List Int) × ((List Int) × Unit))) × ((List (List Int)) × ((List Int) × Unit))) × Unit) ⊕ (Bool × Unit))
  | 0, _ => none
  | n + 1, v =>
    bif decide (v.2.2.2.1 < v.2.2.1) then
     bif decide (0 ≤ v.2.2.2.1) then
     bif decide (v.2.2.2.1.toNat < v.2.1.length) then
     let y8 := v.2.1.getD v.2.2.2.1.toNat (([] : (List Int)), ([] : (List Int)), ())
     let y9 := decide ((y8.1.length : Int) > (4 : Int))
     bif y9 then
      some (.inr ((false, ())))
     else
     let y10 := decide ((y8.2.1.length : Int) > (4 : Int))
     bif y10 then
      some (.inr ((false, ())))
     else
     (FiGraph_leads N (v.1, y8.1, (-1 : Int), ())).bind fun r11 =>
     bif !r11.1 then
      some (.inr ((false, ())))
     else
     liGraphOk_0 N n (v.1, v.2.1, v.2.2.1, w64 (v.2.2.2.1 + (1 : Int)), ())
     else none
     else none
    else
    some (.inl (v.1, ()))
noncomputable def liGraphOk_2 (N : Nat) : Nat → (((List ((List Int) × ((List Int) × Unit))) × ((List (List Int)) × ((List Int) × Unit))) × ((List (List Int)) × (Int × (Int × Unit)))) → Option (Unit ⊕ (Bool × Unit))
  | 0, _ => none
  | n + 1, v =>
    bif decide (v.2.2.2.1 < v.2.2.1) then
     bif decide (0 ≤ v.2.2.2.1) then
     bif decide (v.2.2.2.1.toNat < v.2.1.length) then
     let y14 := v.2.1.getD v.2.2.2.1.toNat ([] : (List Int))
     let y15 := decide ((y14.length : Int) > (8 : Int))
     bif y15 then
      some (.inr ((false, ())))
     else
     (FiGraph_leads N (v.1, y14, (-1 : Int), ())).bind fun r16 =>
     bif !r16.1 then
      some (.inr ((false, ())))
     else
     liGraphOk_2 N n (v.1, v.2.1, v.2.2.1, w64 (v.2.2.2.1 + (1 : Int)), ())
     else none
     else none
    else
    some (.inl ())
noncomputable def FiGraphOk (N : Nat) (x : (((List ((List Int) × ((List Int) × Unit))) × ((List (List Int)) × ((List Int) × Unit))) × Unit)) : Option (Bool × Unit) :=
  Option.bind (
   let y1 := decide ((x.1.1.length : Int) > (200 : Int))
   bif y1 then
    some (.inr ((false, ())))
   else
   let y2 := decide ((x.1.2.1.length : Int) < (1 : Int))
   bif y2 then
    some (.inr ((false, ())))
   else
   let y3 := decide ((x.1.2.1.length : Int) > (3 : Int))
   bif y3 then
    some (.inr ((false, ())))
   else
   let y4 := decide ((x.1.2.2.1.length : Int) > (8 : Int))
   bif y4 then
    some (.inr ((false, ())))
   else
   (FiGraph_leads N (x.1, x.1.2.2.1, (0 : Int), ())).bind fun r5 =>
   bif !r5.1 then
    some (.inr ((false, ())))
   else
   some (.inl (x.1, ()))) fun o6 =>
  Sum.elim (fun o7 =>
   (liGraphOk_0 N N (o7.1, o7.1.1, (o7.1.1.length : Int), (0 : Int), ())).bind fun o12 =>
   Sum.elim (fun o13 =>
    (liGraphOk_2 N N (o13.1, o13.1.2.1, (o13.1.2.1.length : Int), (0 : Int), ())).bind fun o17 =>
    Sum.elim (fun o18 =>
     some (true, ())) (fun o19 =>
     some (o19.1, ())) o17) (fun o20 =>
    some (o20.1, ())) o12) (fun o21 =>
   some (o21.1, ())) o6
noncomputable def coniGraphOk (N : Nat) : Con := { f := 42, din := diniGraphOk, outs := outiGraphOk, F := FiGraphOk N }
noncomputable def XiGraphOk (N : Nat) : Ctx := { E := EiGraphOk N, H := HiGraphOk, lp := [(0, { hd := diGraphOk_0, outs := oiGraphOk_0, run := fun v => liGraphOk_0 N N v }), (2, { hd := diGraphOk_2, outs := oiGraphOk_2, run := fun v => liGraphOk_2 N N v })], jn := [(3, jiGraphOk_3)] }
noncomputable def biGraphOk_2 : Code := loopBody (codeOf Try.f42) 1
noncomputable def biGraphOk_0 : Code := loopBody (codeOf Try.f42) 0
theorem FiGraphOk_eq (N : Nat) (x : (((List ((List Int) × ((List Int) × Unit))) × ((List (List Int)) × ((List Int) × Unit))) × Unit)) : evFn (XiGraphOk N) Try.f42 diniGraphOk outiGraphOk x = FiGraphOk N x := by kernel_rfl
theorem liGraphOk_0_eq (N n : Nat) (v : (((List ((List Int) × ((List Int) × Unit))) × ((List (List Int)) × ((List Int) × Unit))) × ((List ((List Int) × ((List Int) × Unit))) × (Int × (Int × Unit))))) : liGraphOk_0 N (n + 1) v = ev (XiGraphOk N) biGraphOk_0 (roundK diGraphOk_0 oiGraphOk_0 (liGraphOk_0 N n)) (diGraphOk_0.mk' v) := by kernel_rfl
theorem liGraphOk_2_eq (N n : Nat) (v : (((List ((List Int) × ((List Int) × Unit))) × ((List (List Int)) × ((List Int) × Unit))) × ((List (List Int)) × (Int × (Int × Unit))))) : liGraphOk_2 N (n + 1) v = ev (XiGraphOk N) biGraphOk_2 (roundK diGraphOk_2 oiGraphOk_2 (liGraphOk_2 N n)) (diGraphOk_2.mk' v) := by kernel_rfl
theorem cxiGraphOk (N : Nat) : CtxOk Try.prog (XiGraphOk N) := ⟨⟨TE_ok, List.forall_mem_cons.2 ⟨speciGraph_leads N, fun k hk => absurd hk List.not_mem_nil⟩⟩, mixed⟩
theorem lpiGraphOk_0 (N : Nat) : LoopOk Try.prog { hd := diGraphOk_0, outs := oiGraphOk_0, run := fun v => liGraphOk_0 N N v } biGraphOk_0 :=
  loop_fuel (d := diGraphOk_0) (os := oiGraphOk_0) (cxiGraphOk N) (loops_at (ids := []) (by kernel_rfl) (trivial)) (liGraphOk_0 N) (fun _ => rfl) (fun n v => liGraphOk_0_eq N n v) (fun _ => N)
theorem lpiGraphOk_2 (N : Nat) : LoopOk Try.prog { hd := diGraphOk_2, outs := oiGraphOk_2, run := fun v => liGraphOk_2 N N v } biGraphOk_2 :=
  loop_fuel (d := diGraphOk_2) (os := oiGraphOk_2) (cxiGraphOk N) (loops_at (ids := []) (by kernel_rfl) (trivial)) (liGraphOk_2 N) (fun _ => rfl) (fun n v => liGraphOk_2_eq N n v) (fun _ => N)
theorem speciGraphOk (N : Nat) : Spec Try.prog (coniGraphOk N) :=
  Spec.of_eq (fn_spec (cxiGraphOk N) (f := 42) (fn := Try.f42) (c := codeOf Try.f42) (by kernel_rfl) (by kernel_rfl) (by kernel_rfl) (loops_at (ids := [0, 2]) (by kernel_rfl) ⟨lp_of (lpiGraphOk_0 N), ⟨lp_of (lpiGraphOk_2 N), trivial⟩⟩) (by kernel_rfl)) (fun x r h => (FiGraphOk_eq N x).trans h)

/-! ### 88: impl.ShapeOk -/

noncomputable def diniShapeOk : Desc := { n := 1, regs := [.one (.val (.pair (.int .i64) (.pair (.int .i64) .unit)))], bx := [], pins := [] }
noncomputable def outiShapeOk : Outs := [(.ret, { n := 1, regs := [.one (.val .bool)], bx := [], pins := [] })]
noncomputable def HiShapeOk : Hints := [(0, [(0, { fz := true })])]
noncomputable def EiShapeOk (_N : Nat) : Env := { te := TE, cs := [] }
noncomputable def FiShapeOk (N : Nat) (x : ((Int × (Int × Unit)) × Unit)) : Option (Bool × Unit) :=
  bif decide (x.1.1 ≥ (0 : Int)) then
   bif decide (x.1.1 ≤ (4 : Int)) then
    bif decide (x.1.2.1 ≥ (0 : Int)) then
     some (decide (x.1.2.1 ≤ (4 : Int)), ())
    else
    some (false, ())
   else
   some (false, ())
  else
  some (false, ())
noncomputable def coniShapeOk (N : Nat) : Con := { f := 88, din := diniShapeOk, outs := outiShapeOk, F := FiShapeOk N }
noncomputable def XiShapeOk (N : Nat) : Ctx := { E := EiShapeOk N, H := HiShapeOk, lp := [], jn := [] }
theorem FiShapeOk_eq (N : Nat) (x : ((Int × (Int × Unit)) × Unit)) : evFn (XiShapeOk N) Try.f88 diniShapeOk outiShapeOk x = FiShapeOk N x := by kernel_rfl
theorem cxiShapeOk (N : Nat) : CtxOk Try.prog (XiShapeOk N) := ⟨⟨TE_ok, fun k hk => absurd hk List.not_mem_nil⟩, mixed⟩
theorem speciShapeOk (N : Nat) : Spec Try.prog (coniShapeOk N) :=
  Spec.of_eq (fn_spec (cxiShapeOk N) (f := 88) (fn := Try.f88) (c := codeOf Try.f88) (by kernel_rfl) (by kernel_rfl) (by kernel_rfl) (loops_at (ids := []) (by kernel_rfl) (trivial)) (by kernel_rfl)) (fun x r h => (FiShapeOk_eq N x).trans h)

/-! ### 43: impl.OpOk -/

noncomputable def diniOpOk : Desc := { n := 1, regs := [.one (.val (.pair (.int .i64) (.pair (.int .i64) (.pair (.int .i64) (.pair (.int .i64) (.pair (.int .i64) (.pair (.int .i64) (.pair (.pair (.int .i64) (.pair (.int .i64) .unit)) .unit))))))))], bx := [], pins := [] }
noncomputable def outiOpOk : Outs := [(.ret, { n := 1, regs := [.one (.val .bool)], bx := [], pins := [] })]
noncomputable def HiOpOk : Hints := [(0, [(0, { fz := true })])]
noncomputable def EiOpOk (N : Nat) : Env := { te := TE, cs := [coniShapeOk N] }
noncomputable def FiOpOk (N : Nat) (x : ((Int × (Int × (Int × (Int × (Int × (Int × ((Int × (Int × Unit)) × Unit))))))) × Unit)) : Option (Bool × Unit) :=
  bif decide (x.1.1 ≥ (1 : Int)) then
   bif decide (x.1.1 ≤ (11 : Int)) then
    bif x.1.1 != (1 : Int) then
     some (true, ())
    else
    (FiShapeOk N (x.1.2.2.2.2.2.2.1, ())).bind fun r1 =>
    some (r1.1, ())
   else
   some (false, ())
  else
  some (false, ())
noncomputable def coniOpOk (N : Nat) : Con := { f := 43, din := diniOpOk, outs := outiOpOk, F := FiOpOk N }
noncomputable def XiOpOk (N : Nat) : Ctx := { E := EiOpOk N, H := HiOpOk, lp := [], jn := [] }
theorem FiOpOk_eq (N : Nat) (x : ((Int × (Int × (Int × (Int × (Int × (Int × ((Int × (Int × Unit)) × Unit))))))) × Unit)) : evFn (XiOpOk N) Try.f43 diniOpOk outiOpOk x = FiOpOk N x := by kernel_rfl
theorem cxiOpOk (N : Nat) : CtxOk Try.prog (XiOpOk N) := ⟨⟨TE_ok, List.forall_mem_cons.2 ⟨speciShapeOk N, fun k hk => absurd hk List.not_mem_nil⟩⟩, mixed⟩
theorem speciOpOk (N : Nat) : Spec Try.prog (coniOpOk N) :=
  Spec.of_eq (fn_spec (cxiOpOk N) (f := 43) (fn := Try.f43) (c := codeOf Try.f43) (by kernel_rfl) (by kernel_rfl) (by kernel_rfl) (loops_at (ids := []) (by kernel_rfl) (trivial)) (by kernel_rfl)) (fun x r h => (FiOpOk_eq N x).trans h)

/-! ### 63: slices.Clone[[]int,int] -/

noncomputable def dinkClone_Sint_int : Desc := { n := 1, regs := [.one (.val (.sl (.int .i64)))], bx := [], pins := [] }
noncomputable def outkClone_Sint_int : Outs := [(.ret, { n := 1, regs := [.one (.lit (.row 1025600))], bx := [(1025600, .row (.int .i64))], pins := [] })]
noncomputable def HkClone_Sint_int : Hints := [(2, [(0, { nl := [(0, (.int .i64))] })])]
noncomputable def EkClone_Sint_int (_N : Nat) : Env := { te := TE, cs := [] }
noncomputable def FkClone_Sint_int (N : Nat) (x : ((List Int) × Unit)) : Option ((List Int) × Unit) :=
  bif x.1.isEmpty then
   anyOf (2) fun i1 =>
    bif bif i1 == 0 then false else true then
     some (([] : (List Int)), ())
    else
    bif decide (([] : (List Int)).length + x.1.length ≤ lim) then
    some (([] : (List Int)) ++ x.1, ())
    else none
  else
  bif decide (([] : (List Int)).length + x.1.length ≤ lim) then
  some (([] : (List Int)) ++ x.1, ())
  else none
noncomputable def conkClone_Sint_int (N : Nat) : Con := { f := 63, din := dinkClone_Sint_int, outs := outkClone_Sint_int, F := FkClone_Sint_int N }
noncomputable def XkClone_Sint_int (N : Nat) : Ctx := { E := EkClone_Sint_int N, H := HkClone_Sint_int, lp := [], jn := [] }
theorem FkClone_Sint_int_eq (N : Nat) (x : ((List Int) × Unit)) : evFn (XkClone_Sint_int N) Try.f63 dinkClone_Sint_int outkClone_Sint_int x = FkClone_Sint_int N x := by kernel_rfl
theorem cxkClone_Sint_int (N : Nat) : CtxOk Try.prog (XkClone_Sint_int N) := ⟨⟨TE_ok, fun k hk => absurd hk List.not_mem_nil⟩, mixed⟩
theorem speckClone_Sint_int (N : Nat) : Spec Try.prog (conkClone_Sint_int N) :=
  Spec.of_eq (fn_spec (cxkClone_Sint_int N) (f := 63) (fn := Try.f63) (c := codeOf Try.f63) (by kernel_rfl) (by kernel_rfl) (by kernel_rfl) (loops_at (ids := []) (by kernel_rfl) (trivial)) (by kernel_rfl)) (fun x r h => (FkClone_Sint_int_eq N x).trans h)

end Go.Fl

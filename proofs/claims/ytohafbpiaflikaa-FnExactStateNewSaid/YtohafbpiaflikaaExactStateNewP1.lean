/- Proved: for every input the law FnExactStateNew returns true and leaves its arguments as they were. Part 1: the functions that the law reaches, as plain functions, and plain laws about them; no conditions. -/
import Derived.Test.YtohafbpiaflikaaK3
import Derived.Test.YtohafbpiaflikaaProg
set_option linter.all false
-- FUNCS vtoConfig sConfigOk sRegionBase sTableNew sShapeOk sShapeSize sWordsOk sRegionOf sl3Fits sShapeWord sThingMake sStateNew iConfigOk iShapeOk iShapeSize iWordsOk ifits kClone_Sint_int iShapeWord iThingMake iedge iRegionBase ifree iTableNew iStateNew veqIntS veqRegion veqRegionS veqBoolS veqThread veqThreadS veqState vmarkIntS vmarkRegionS vmarkBoolS vmarkThreadS vmarkIntS_a vmarkState vheldIntS vheldRegionS vheldBoolS vheldThreadS vheldState vFnExactStateNew
set_option maxRecDepth 100000
set_option linter.all false
namespace Go.Fl
open Go Go.Proofs
noncomputable def TE : List (Nat × Ty) := [(3, (.int .i64)),
  (4, .bool),
  (23, (.sl (.int .i64))),
  (27, (.sl (.pair (.int .i64) (.pair (.int .i64) (.pair (.int .i64) (.pair (.int .i64) (.pair (.int .i64) .unit))))))),
  (36, (.pair (.int .i64) (.pair (.int .i64) (.pair (.int .i64) .unit)))),
  (37, (.sl .bool)),
  (38, (.sl (.pair (.sl (.int .i64)) (.pair (.int .i64) (.pair .bool (.pair (.int .i64) .unit)))))),
  (40, (.pair (.sl (.int .i64)) (.pair (.sl (.pair (.int .i64) (.pair (.int .i64) (.pair (.int .i64) (.pair (.int .i64) (.pair (.int .i64) .unit)))))) (.pair (.sl .bool) (.pair (.int .i64) (.pair .bool (.pair .bool (.pair .bool (.pair (.int .i64) (.pair (.sl (.pair (.sl (.int .i64)) (.pair (.int .i64) (.pair .bool (.pair (.int .i64) .unit))))) (.pair (.sl (.int .i64)) (.pair (.sl (.int .i64)) (.pair (.int .i64) (.pair (.int .i64) .unit)))))))))))))),
  (43, (.pair (.int .i64) (.pair (.int .i64) (.pair (.int .i64) .unit)))),
  (66, (.pair (.int .i64) (.pair (.int .i64) (.pair (.int .i64) (.pair (.int .i64) (.pair (.int .i64) .unit)))))),
  (78, (.pair (.int .i64) (.pair (.int .i64) .unit))),
  (82, (.pair (.sl (.int .i64)) (.pair (.int .i64) (.pair .bool (.pair (.int .i64) .unit)))))]
theorem TE_ok : TyOk Try.prog TE := tysB_spec (by kernel_rfl)
theorem mixed : Try.prog.follows .mixedOrders = true := by kernel_rfl

/-! ### 25: laws.toConfig -/

noncomputable def dinvtoConfig : Desc := { n := 1, regs := [.one (.val (.pair (.int .i64) (.pair (.int .i64) (.pair (.int .i64) .unit))))], bx := [], pins := [] }
noncomputable def outvtoConfig : Outs := [(.ret, { n := 1, regs := [.agg [.val (.int .i64), .val (.int .i64), .val (.int .i64)]], bx := [], pins := [] })]
noncomputable def HvtoConfig : Hints := [(0, [(0, { fz := true })])]
noncomputable def EvtoConfig (_N : Nat) : Env := { te := TE, cs := [] }
noncomputable def FvtoConfig (N : Nat) (x : ((Int × (Int × (Int × Unit))) × Unit)) : Option (Int × (Int × (Int × Unit))) :=
  some (x.1.1, x.1.2.1, x.1.2.2.1, ())
noncomputable def convtoConfig (N : Nat) : Con := { f := 25, din := dinvtoConfig, outs := outvtoConfig, F := FvtoConfig N }
noncomputable def XvtoConfig (N : Nat) : Ctx := { E := EvtoConfig N, H := HvtoConfig, lp := [], jn := [] }
theorem FvtoConfig_eq (N : Nat) (x : ((Int × (Int × (Int × Unit))) × Unit)) : evFn (XvtoConfig N) Try.f25 dinvtoConfig outvtoConfig x = FvtoConfig N x := by kernel_rfl
theorem cxvtoConfig (N : Nat) : CtxOk Try.prog (XvtoConfig N) := ⟨⟨TE_ok, fun k hk => absurd hk List.not_mem_nil⟩, mixed⟩
theorem specvtoConfig (N : Nat) : Spec Try.prog (convtoConfig N) :=
  Spec.of_eq (fn_spec (cxvtoConfig N) (f := 25) (fn := Try.f25) (c := codeOf Try.f25) (by kernel_rfl) (by kernel_rfl) (by kernel_rfl) (loops_at (ids := []) (by kernel_rfl) (trivial)) (by kernel_rfl)) (fun x r h => (FvtoConfig_eq N x).trans h)

/-! ### 64: spec.ConfigOk -/

noncomputable def dinsConfigOk : Desc := { n := 1, regs := [.one (.val (.pair (.int .i64) (.pair (.int .i64) (.pair (.int .i64) .unit))))], bx := [], pins := [] }
noncomputable def outsConfigOk : Outs := [(.ret, { n := 1, regs := [.one (.val .bool)], bx := [], pins := [] })]
noncomputable def HsConfigOk : Hints := [(0, [(0, { fz := true })])]
noncomputable def EsConfigOk (_N : Nat) : Env := { te := TE, cs := [] }
noncomputable def FsConfigOk (N : Nat) (x : ((Int × (Int × (Int × Unit))) × Unit)) : Option (Bool × Unit) :=
  bif decide (x.1.1 ≥ (3 : Int)) then
   bif decide (x.1.1 ≤ (12 : Int)) then
    bif decide (x.1.2.1 ≥ (1 : Int)) then
     bif decide (x.1.2.1 ≤ (3 : Int)) then
      bif decide (x.1.2.2.1 ≥ (0 : Int)) then
       some (decide (x.1.2.2.1 ≤ (100 : Int)), ())
      else
      some (false, ())
     else
     some (false, ())
    else
    some (false, ())
   else
   some (false, ())
  else
  some (false, ())
noncomputable def consConfigOk (N : Nat) : Con := { f := 64, din := dinsConfigOk, outs := outsConfigOk, F := FsConfigOk N }
noncomputable def XsConfigOk (N : Nat) : Ctx := { E := EsConfigOk N, H := HsConfigOk, lp := [], jn := [] }
theorem FsConfigOk_eq (N : Nat) (x : ((Int × (Int × (Int × Unit))) × Unit)) : evFn (XsConfigOk N) Try.f64 dinsConfigOk outsConfigOk x = FsConfigOk N x := by kernel_rfl
theorem cxsConfigOk (N : Nat) : CtxOk Try.prog (XsConfigOk N) := ⟨⟨TE_ok, fun k hk => absurd hk List.not_mem_nil⟩, mixed⟩
theorem specsConfigOk (N : Nat) : Spec Try.prog (consConfigOk N) :=
  Spec.of_eq (fn_spec (cxsConfigOk N) (f := 64) (fn := Try.f64) (c := codeOf Try.f64) (by kernel_rfl) (by kernel_rfl) (by kernel_rfl) (loops_at (ids := []) (by kernel_rfl) (trivial)) (by kernel_rfl)) (fun x r h => (FsConfigOk_eq N x).trans h)

/-! ### 54: spec.RegionBase -/

noncomputable def dinsRegionBase : Desc := { n := 1, regs := [.one (.val (.int .i64))], bx := [], pins := [] }
noncomputable def outsRegionBase : Outs := [(.ret, { n := 1, regs := [.one (.val (.int .i64))], bx := [], pins := [] })]
noncomputable def HsRegionBase : Hints := []
noncomputable def EsRegionBase (_N : Nat) : Env := { te := TE, cs := [] }
noncomputable def FsRegionBase (N : Nat) (x : (Int × Unit)) : Option (Int × Unit) :=
  bif decide (x.1 < (0 : Int)) then
   some ((0 : Int), ())
  else
  bif decide (x.1 ≥ (12 : Int)) then
   some ((0 : Int), ())
  else
  some (w64 (x.1 * (16 : Int)), ())
noncomputable def consRegionBase (N : Nat) : Con := { f := 54, din := dinsRegionBase, outs := outsRegionBase, F := FsRegionBase N }
noncomputable def XsRegionBase (N : Nat) : Ctx := { E := EsRegionBase N, H := HsRegionBase, lp := [], jn := [] }
theorem FsRegionBase_eq (N : Nat) (x : (Int × Unit)) : evFn (XsRegionBase N) Try.f54 dinsRegionBase outsRegionBase x = FsRegionBase N x := by kernel_rfl
theorem cxsRegionBase (N : Nat) : CtxOk Try.prog (XsRegionBase N) := ⟨⟨TE_ok, fun k hk => absurd hk List.not_mem_nil⟩, mixed⟩
theorem specsRegionBase (N : Nat) : Spec Try.prog (consRegionBase N) :=
  Spec.of_eq (fn_spec (cxsRegionBase N) (f := 54) (fn := Try.f54) (c := codeOf Try.f54) (by kernel_rfl) (by kernel_rfl) (by kernel_rfl) (loops_at (ids := []) (by kernel_rfl) (trivial)) (by kernel_rfl)) (fun x r h => (FsRegionBase_eq N x).trans h)

/-! ### 65: spec.TableNew -/

noncomputable def dinsTableNew : Desc := { n := 1, regs := [.one (.val (.int .i64))], bx := [], pins := [] }
noncomputable def outsTableNew : Outs := [(.ret, { n := 2, regs := [.one (.lit (.row 1038400)), .one (.val .bool)], bx := [(1038400, .row (.pair (.int .i64) (.pair (.int .i64) (.pair (.int .i64) (.pair (.int .i64) (.pair (.int .i64) .unit))))))], pins := [] })]
noncomputable def HsTableNew : Hints := [(2, [(0, { nl := [(0, (.pair (.int .i64) (.pair (.int .i64) (.pair (.int .i64) (.pair (.int .i64) (.pair (.int .i64) .unit))))))] })]),
  (3, [(0, { nl := [(0, (.pair (.int .i64) (.pair (.int .i64) (.pair (.int .i64) (.pair (.int .i64) (.pair (.int .i64) .unit))))))] })])]
noncomputable def EsTableNew (N : Nat) : Env := { te := TE, cs := [consRegionBase N] }
noncomputable def dsTableNew_0 : Desc := { n := 29, regs := [.one (.val (.int .i64)), u, u, u, .one (.lit (.row 1038400)), .one (.val (.int .i64))], bx := [(1038400, .row (.pair (.int .i64) (.pair (.int .i64) (.pair (.int .i64) (.pair (.int .i64) (.pair (.int .i64) .unit))))))], pins := [] }
noncomputable def osTableNew_0 : Outs := [(.exit 0, { n := 29, regs := [u, u, u, u, .one (.lit (.row 1038400))], bx := [(1038400, .row (.pair (.int .i64) (.pair (.int .i64) (.pair (.int .i64) (.pair (.int .i64) (.pair (.int .i64) .unit))))))], pins := [] })]
noncomputable def jsTableNew_3 : Outs := [(.normal, { n := 29, regs := [.one (.val (.int .i64))], bx := [], pins := [] }), (.ret, { n := 29, regs := [u, u, .one (.lit (.row 1025600)), .one (.val .bool)], bx := [(1025600, .row (.pair (.int .i64) (.pair (.int .i64) (.pair (.int .i64) (.pair (.int .i64) (.pair (.int .i64) .unit))))))], pins := [] })]
noncomputable def lsTableNew_0 (N : Nat) : Nat → (Int × (Int × ((List (Int × (Int × (Int × (Int × (Int × Unit)))))) × Unit))) → Option ((List (Int × (Int × (Int × (Int × (Int × Unit)))))) × Unit)
  | 0, _ => none
  | n + 1, v =>
    bif decide (v.2.1 < v.1) then
     (FsRegionBase N (v.2.1, ())).bind fun r6 =>
     (FsRegionBase N (v.2.1, ())).bind fun r7 =>
     let y8 := [((1 : Int), (-1 : Int), r6.1, r7.1, (0 : Int), ())]
     bif decide (v.2.2.1.length + y8.length ≤ lim) then
     lsTableNew_0 N n (v.1, w64 (v.2.1 + (1 : Int)), v.2.2.1 ++ y8, ())
     else none
    else
    some (v.2.2.1, ())
noncomputable def FsTableNew (N : Nat) (x : (Int × Unit)) : Option (Bool × ((List (Int × (Int × (Int × (Int × (Int × Unit)))))) × Unit)) :=
  Option.bind (
   bif decide (x.1 < (2 : Int)) then
    let y1 := ([] : (List (Int × (Int × (Int × (Int × (Int × Unit)))))))
    some (.inr ((false, y1, ())))
   else
   bif decide (x.1 > (12 : Int)) then
    let y2 := ([] : (List (Int × (Int × (Int × (Int × (Int × Unit)))))))
    some (.inr ((false, y2, ())))
   else
   some (.inl (x.1, ()))) fun o3 =>
  Sum.elim (fun o4 =>
   let y5 := ([] : (List (Int × (Int × (Int × (Int × (Int × Unit)))))))
   (lsTableNew_0 N N (o4.1, (0 : Int), y5, ())).bind fun o9 =>
   bif decide (0 ≤ (0 : Int)) then
   bif decide ((0 : Int).toNat < o9.1.length) then
   let y10 := o9.1.set ((0 : Int).toNat) ((0 : Int), (-1 : Int), (0 : Int), (0 : Int), (0 : Int), ())
   some (true, y10, ())
   else none
   else none) (fun o11 =>
   some (o11.1, o11.2.1, ())) o3
noncomputable def consTableNew (N : Nat) : Con := { f := 65, din := dinsTableNew, outs := outsTableNew, F := FsTableNew N }
noncomputable def XsTableNew (N : Nat) : Ctx := { E := EsTableNew N, H := HsTableNew, lp := [(0, { hd := dsTableNew_0, outs := osTableNew_0, run := fun v => lsTableNew_0 N N v })], jn := [(3, jsTableNew_3)] }
noncomputable def bsTableNew_0 : Code := loopBody (codeOf Try.f65) 0
theorem FsTableNew_eq (N : Nat) (x : (Int × Unit)) : evFn (XsTableNew N) Try.f65 dinsTableNew outsTableNew x = FsTableNew N x := by kernel_rfl
theorem lsTableNew_0_eq (N n : Nat) (v : (Int × (Int × ((List (Int × (Int × (Int × (Int × (Int × Unit)))))) × Unit)))) : lsTableNew_0 N (n + 1) v = ev (XsTableNew N) bsTableNew_0 (roundK dsTableNew_0 osTableNew_0 (lsTableNew_0 N n)) (dsTableNew_0.mk' v) := by kernel_rfl
theorem cxsTableNew (N : Nat) : CtxOk Try.prog (XsTableNew N) := ⟨⟨TE_ok, List.forall_mem_cons.2 ⟨specsRegionBase N, fun k hk => absurd hk List.not_mem_nil⟩⟩, mixed⟩
theorem lpsTableNew_0 (N : Nat) : LoopOk Try.prog { hd := dsTableNew_0, outs := osTableNew_0, run := fun v => lsTableNew_0 N N v } bsTableNew_0 :=
  loop_fuel (d := dsTableNew_0) (os := osTableNew_0) (cxsTableNew N) (loops_at (ids := []) (by kernel_rfl) (trivial)) (lsTableNew_0 N) (fun _ => rfl) (fun n v => lsTableNew_0_eq N n v) (fun _ => N)
theorem specsTableNew (N : Nat) : Spec Try.prog (consTableNew N) :=
  Spec.of_eq (fn_spec (cxsTableNew N) (f := 65) (fn := Try.f65) (c := codeOf Try.f65) (by kernel_rfl) (by kernel_rfl) (by kernel_rfl) (loops_at (ids := [0]) (by kernel_rfl) ⟨lp_of (lpsTableNew_0 N), trivial⟩) (by kernel_rfl)) (fun x r h => (FsTableNew_eq N x).trans h)

/-! ### 106: spec.ShapeOk -/

noncomputable def dinsShapeOk : Desc := { n := 1, regs := [.one (.val (.pair (.int .i64) (.pair (.int .i64) .unit)))], bx := [], pins := [] }
noncomputable def outsShapeOk : Outs := [(.ret, { n := 1, regs := [.one (.val .bool)], bx := [], pins := [] })]
noncomputable def HsShapeOk : Hints := [(0, [(0, { fz := true })])]
noncomputable def EsShapeOk (_N : Nat) : Env := { te := TE, cs := [] }
noncomputable def FsShapeOk (N : Nat) (x : ((Int × (Int × Unit)) × Unit)) : Option (Bool × Unit) :=
  bif decide (x.1.1 ≥ (0 : Int)) then
   bif decide (x.1.1 ≤ (4 : Int)) then
    bif decide (x.1.2.1 ≥ (0 : Int)) then
     some (decide (x.1.2.1 ≤ (4 : Int)), ())
    else
    some (false, ())
   else
   some (false, ())
  else
  some (false, ())
noncomputable def consShapeOk (N : Nat) : Con := { f := 106, din := dinsShapeOk, outs := outsShapeOk, F := FsShapeOk N }
noncomputable def XsShapeOk (N : Nat) : Ctx := { E := EsShapeOk N, H := HsShapeOk, lp := [], jn := [] }
theorem FsShapeOk_eq (N : Nat) (x : ((Int × (Int × Unit)) × Unit)) : evFn (XsShapeOk N) Try.f106 dinsShapeOk outsShapeOk x = FsShapeOk N x := by kernel_rfl
theorem cxsShapeOk (N : Nat) : CtxOk Try.prog (XsShapeOk N) := ⟨⟨TE_ok, fun k hk => absurd hk List.not_mem_nil⟩, mixed⟩
theorem specsShapeOk (N : Nat) : Spec Try.prog (consShapeOk N) :=
  Spec.of_eq (fn_spec (cxsShapeOk N) (f := 106) (fn := Try.f106) (c := codeOf Try.f106) (by kernel_rfl) (by kernel_rfl) (by kernel_rfl) (loops_at (ids := []) (by kernel_rfl) (trivial)) (by kernel_rfl)) (fun x r h => (FsShapeOk_eq N x).trans h)

/-! ### 67: spec.ShapeSize -/

noncomputable def dinsShapeSize : Desc := { n := 1, regs := [.one (.val (.pair (.int .i64) (.pair (.int .i64) .unit)))], bx := [], pins := [] }
noncomputable def outsShapeSize : Outs := [(.ret, { n := 1, regs := [.one (.val (.int .i64))], bx := [], pins := [] })]
noncomputable def HsShapeSize : Hints := [(0, [(0, { fz := true })])]
noncomputable def EsShapeSize (N : Nat) : Env := { te := TE, cs := [consShapeOk N] }
noncomputable def FsShapeSize (N : Nat) (x : ((Int × (Int × Unit)) × Unit)) : Option (Int × Unit) :=
  (FsShapeOk N (x.1, ())).bind fun r1 =>
  bif !r1.1 then
   some ((0 : Int), ())
  else
  let y2 := w64 ((w64 ((2 : Int) + x.1.1)) + x.1.2.1)
  some (y2, ())
noncomputable def consShapeSize (N : Nat) : Con := { f := 67, din := dinsShapeSize, outs := outsShapeSize, F := FsShapeSize N }
noncomputable def XsShapeSize (N : Nat) : Ctx := { E := EsShapeSize N, H := HsShapeSize, lp := [], jn := [] }
theorem FsShapeSize_eq (N : Nat) (x : ((Int × (Int × Unit)) × Unit)) : evFn (XsShapeSize N) Try.f67 dinsShapeSize outsShapeSize x = FsShapeSize N x := by kernel_rfl
theorem cxsShapeSize (N : Nat) : CtxOk Try.prog (XsShapeSize N) := ⟨⟨TE_ok, List.forall_mem_cons.2 ⟨specsShapeOk N, fun k hk => absurd hk List.not_mem_nil⟩⟩, mixed⟩
theorem specsShapeSize (N : Nat) : Spec Try.prog (consShapeSize N) :=
  Spec.of_eq (fn_spec (cxsShapeSize N) (f := 67) (fn := Try.f67) (c := codeOf Try.f67) (by kernel_rfl) (by kernel_rfl) (by kernel_rfl) (loops_at (ids := []) (by kernel_rfl) (trivial)) (by kernel_rfl)) (fun x r h => (FsShapeSize_eq N x).trans h)

/-! ### 89: spec.WordsOk -/

noncomputable def dinsWordsOk : Desc := { n := 1, regs := [.one (.val (.sl (.int .i64)))], bx := [], pins := [] }
noncomputable def outsWordsOk : Outs := [(.ret, { n := 1, regs := [.one (.val .bool)], bx := [], pins := [] })]
noncomputable def HsWordsOk : Hints := []
noncomputable def EsWordsOk (_N : Nat) : Env := { te := TE, cs := [] }
noncomputable def FsWordsOk (N : Nat) (x : ((List Int) × Unit)) : Option (Bool × Unit) :=
  bif decide ((16 : Int) = 0) then
   none
  else
  let y1 := w64 (Int.tdiv (x.1.length : Int) (16 : Int))
  bif decide ((16 : Int) = 0) then
   none
  else
  let y2 := Int.tmod (x.1.length : Int) (16 : Int)
  bif y2 == (0 : Int) then
   bif decide (y1 ≥ (2 : Int)) then
    some (decide (y1 ≤ (12 : Int)), ())
   else
   some (false, ())
  else
  some (false, ())
noncomputable def consWordsOk (N : Nat) : Con := { f := 89, din := dinsWordsOk, outs := outsWordsOk, F := FsWordsOk N }
noncomputable def XsWordsOk (N : Nat) : Ctx := { E := EsWordsOk N, H := HsWordsOk, lp := [], jn := [] }
theorem FsWordsOk_eq (N : Nat) (x : ((List Int) × Unit)) : evFn (XsWordsOk N) Try.f89 dinsWordsOk outsWordsOk x = FsWordsOk N x := by kernel_rfl
theorem cxsWordsOk (N : Nat) : CtxOk Try.prog (XsWordsOk N) := ⟨⟨TE_ok, fun k hk => absurd hk List.not_mem_nil⟩, mixed⟩
theorem specsWordsOk (N : Nat) : Spec Try.prog (consWordsOk N) :=
  Spec.of_eq (fn_spec (cxsWordsOk N) (f := 89) (fn := Try.f89) (c := codeOf Try.f89) (by kernel_rfl) (by kernel_rfl) (by kernel_rfl) (loops_at (ids := []) (by kernel_rfl) (trivial)) (by kernel_rfl)) (fun x r h => (FsWordsOk_eq N x).trans h)

/-! ### 85: spec.RegionOf -/

noncomputable def dinsRegionOf : Desc := { n := 1, regs := [.one (.val (.int .i64))], bx := [], pins := [] }
noncomputable def outsRegionOf : Outs := [(.ret, { n := 1, regs := [.one (.val (.int .i64))], bx := [], pins := [] })]
noncomputable def HsRegionOf : Hints := []
noncomputable def EsRegionOf (_N : Nat) : Env := { te := TE, cs := [] }
noncomputable def FsRegionOf (N : Nat) (x : (Int × Unit)) : Option (Int × Unit) :=
  bif decide (x.1 < (0 : Int)) then
   some ((-1 : Int), ())
  else
  bif decide ((16 : Int) = 0) then
   none
  else
  some (w64 (Int.tdiv x.1 (16 : Int)), ())
noncomputable def consRegionOf (N : Nat) : Con := { f := 85, din := dinsRegionOf, outs := outsRegionOf, F := FsRegionOf N }
noncomputable def XsRegionOf (N : Nat) : Ctx := { E := EsRegionOf N, H := HsRegionOf, lp := [], jn := [] }
theorem FsRegionOf_eq (N : Nat) (x : (Int × Unit)) : evFn (XsRegionOf N) Try.f85 dinsRegionOf outsRegionOf x = FsRegionOf N x := by kernel_rfl
theorem cxsRegionOf (N : Nat) : CtxOk Try.prog (XsRegionOf N) := ⟨⟨TE_ok, fun k hk => absurd hk List.not_mem_nil⟩, mixed⟩
theorem specsRegionOf (N : Nat) : Spec Try.prog (consRegionOf N) :=
  Spec.of_eq (fn_spec (cxsRegionOf N) (f := 85) (fn := Try.f85) (c := codeOf Try.f85) (by kernel_rfl) (by kernel_rfl) (by kernel_rfl) (loops_at (ids := []) (by kernel_rfl) (trivial)) (by kernel_rfl)) (fun x r h => (FsRegionOf_eq N x).trans h)

/-! ### 104: spec.l3Fits -/

noncomputable def dinsl3Fits : Desc := { n := 3, regs := [.one (.val (.sl (.int .i64))), .one (.val (.int .i64)), .one (.val (.int .i64))], bx := [], pins := [] }
noncomputable def outsl3Fits : Outs := [(.ret, { n := 1, regs := [.one (.val .bool)], bx := [], pins := [] })]
noncomputable def Hsl3Fits : Hints := [(1, [(22, { con := 1 }), (27, { con := 1 })])]
noncomputable def Esl3Fits (N : Nat) : Env := { te := TE, cs := [consWordsOk N, consRegionOf N] }
noncomputable def Fsl3Fits (N : Nat) (x : ((List Int) × (Int × (Int × Unit)))) : Option (Bool × Unit) :=
  (FsWordsOk N (x.1, ())).bind fun r1 =>
  bif r1.1 then
   bif decide (x.2.2.1 > (0 : Int)) then
    bif decide (x.2.2.1 ≤ (16 : Int)) then
     bif decide (x.2.1 ≥ (16 : Int)) then
      bif decide (x.2.1 < (x.1.length : Int)) then
       (FsRegionOf N (x.2.1, ())).bind fun r2 =>
       let y3 := w64 ((w64 (x.2.1 + x.2.2.1)) - (1 : Int))
       (FsRegionOf N (y3, ())).bind fun r4 =>
       some (r2.1 == r4.1, ())
      else
      some (false, ())
     else
     some (false, ())
    else
    some (false, ())
   else
   some (false, ())
  else
  some (false, ())
noncomputable def consl3Fits (N : Nat) : Con := { f := 104, din := dinsl3Fits, outs := outsl3Fits, F := Fsl3Fits N }
noncomputable def Xsl3Fits (N : Nat) : Ctx := { E := Esl3Fits N, H := Hsl3Fits, lp := [], jn := [] }
theorem Fsl3Fits_eq (N : Nat) (x : ((List Int) × (Int × (Int × Unit)))) : evFn (Xsl3Fits N) Try.f104 dinsl3Fits outsl3Fits x = Fsl3Fits N x := by kernel_rfl
theorem cxsl3Fits (N : Nat) : CtxOk Try.prog (Xsl3Fits N) := ⟨⟨TE_ok, List.forall_mem_cons.2 ⟨specsWordsOk N, List.forall_mem_cons.2 ⟨specsRegionOf N, fun k hk => absurd hk List.not_mem_nil⟩⟩⟩, mixed⟩
theorem specsl3Fits (N : Nat) : Spec Try.prog (consl3Fits N) :=
  Spec.of_eq (fn_spec (cxsl3Fits N) (f := 104) (fn := Try.f104) (c := codeOf Try.f104) (by kernel_rfl) (by kernel_rfl) (by kernel_rfl) (loops_at (ids := []) (by kernel_rfl) (trivial)) (by kernel_rfl)) (fun x r h => (Fsl3Fits_eq N x).trans h)

/-! ### 105: spec.ShapeWord -/

noncomputable def dinsShapeWord : Desc := { n := 1, regs := [.one (.val (.pair (.int .i64) (.pair (.int .i64) .unit)))], bx := [], pins := [] }
noncomputable def outsShapeWord : Outs := [(.ret, { n := 1, regs := [.one (.val (.int .i64))], bx := [], pins := [] })]
noncomputable def HsShapeWord : Hints := [(0, [(0, { fz := true })])]
noncomputable def EsShapeWord (N : Nat) : Env := { te := TE, cs := [consShapeOk N] }
noncomputable def FsShapeWord (N : Nat) (x : ((Int × (Int × Unit)) × Unit)) : Option (Int × Unit) :=
  (FsShapeOk N (x.1, ())).bind fun r1 =>
  bif !r1.1 then
   some ((-1 : Int), ())
  else
  let y2 := w64 ((w64 ((16 : Int) * x.1.1)) + x.1.2.1)
  some (y2, ())
noncomputable def consShapeWord (N : Nat) : Con := { f := 105, din := dinsShapeWord, outs := outsShapeWord, F := FsShapeWord N }
noncomputable def XsShapeWord (N : Nat) : Ctx := { E := EsShapeWord N, H := HsShapeWord, lp := [], jn := [] }
theorem FsShapeWord_eq (N : Nat) (x : ((Int × (Int × Unit)) × Unit)) : evFn (XsShapeWord N) Try.f105 dinsShapeWord outsShapeWord x = FsShapeWord N x := by kernel_rfl
theorem cxsShapeWord (N : Nat) : CtxOk Try.prog (XsShapeWord N) := ⟨⟨TE_ok, List.forall_mem_cons.2 ⟨specsShapeOk N, fun k hk => absurd hk List.not_mem_nil⟩⟩, mixed⟩
theorem specsShapeWord (N : Nat) : Spec Try.prog (consShapeWord N) :=
  Spec.of_eq (fn_spec (cxsShapeWord N) (f := 105) (fn := Try.f105) (c := codeOf Try.f105) (by kernel_rfl) (by kernel_rfl) (by kernel_rfl) (loops_at (ids := []) (by kernel_rfl) (trivial)) (by kernel_rfl)) (fun x r h => (FsShapeWord_eq N x).trans h)

/-! ### 66: spec.ThingMake -/

noncomputable def dinsThingMake : Desc := { n := 3, regs := [.one (.val (.sl (.int .i64))), .one (.val (.int .i64)), .one (.val (.pair (.int .i64) (.pair (.int .i64) .unit)))], bx := [], pins := [] }
noncomputable def outsThingMake : Outs := [(.ret, { n := 2, regs := [.one (.lit (.row 1038400)), .one (.val .bool)], bx := [(1038400, .row (.int .i64))], pins := [] })]
noncomputable def HsThingMake : Hints := [(0, [(0, { fz := true })]),
  (2, [(3, { con := 1 })]),
  (3, [(0, { nl := [(0, (.int .i64))] })]),
  (10, [(4, { con := 2 })])]
noncomputable def EsThingMake (N : Nat) : Env := { te := TE, cs := [consShapeSize N, consl3Fits N, consShapeWord N] }
noncomputable def dsThingMake_0 : Desc := { n := 42, regs := [u, .one (.val (.int .i64)), u, u, u, .one (.fpt (.pair (.int .i64) (.pair (.int .i64) .unit))), u, u, .one (.val (.int .i64)), .one (.lit (.row 1051200)), .one (.val (.int .i64))], bx := [(1051200, .row (.int .i64))], pins := [] }
noncomputable def osThingMake_0 : Outs := [(.exit 0, { n := 42, regs := [u, .one (.val (.int .i64)), u, u, u, .one (.fpt (.pair (.int .i64) (.pair (.int .i64) .unit))), u, u, u, .one (.lit (.row 1051200))], bx := [(1051200, .row (.int .i64))], pins := [] })]
noncomputable def lsThingMake_0 (N : Nat) : Nat → (Int × ((Int × (Int × Unit)) × (Int × (Int × ((List Int) × Unit))))) → Option (Int × ((Int × (Int × Unit)) × ((List Int) × Unit)))
  | 0, _ => none
  | n + 1, v =>
    bif decide (v.2.2.2.1 < v.2.2.1) then
     bif decide (0 ≤ (w64 (v.1 + v.2.2.2.1))) then
     bif decide ((w64 (v.1 + v.2.2.2.1)).toNat < v.2.2.2.2.1.length) then
     let y3 := v.2.2.2.2.1.set ((w64 (v.1 + v.2.2.2.1)).toNat) (0 : Int)
     lsThingMake_0 N n (v.1, v.2.1, v.2.2.1, w64 (v.2.2.2.1 + (1 : Int)), y3, ())
     else none
     else none
    else
    some (v.1, v.2.1, v.2.2.2.2.1, ())
noncomputable def FsThingMake (N : Nat) (x : ((List Int) × (Int × ((Int × (Int × Unit)) × Unit)))) : Option (Bool × ((List Int) × Unit)) :=
  (FsShapeSize N (x.2.2.1, ())).bind fun r1 =>
  (Fsl3Fits N (x.1, x.2.1, r1.1, ())).bind fun r2 =>
  bif !r2.1 then
   some (false, ([] : (List Int)), ())
  else
  bif decide (([] : (List Int)).length + x.1.length ≤ lim) then
  (lsThingMake_0 N N (x.2.1, x.2.2.1, r1.1, (0 : Int), ([] : (List Int)) ++ x.1, ())).bind fun o4 =>
  bif decide (0 ≤ o4.1) then
  bif decide (o4.1.toNat < o4.2.2.1.length) then
  (FsShapeWord N (o4.2.1, ())).bind fun r5 =>
  bif decide (0 ≤ (w64 (o4.1 + (1 : Int)))) then
  bif decide ((w64 (o4.1 + (1 : Int))).toNat < (o4.2.2.1.set o4.1.toNat o4.1).length) then
  let y6 := (o4.2.2.1.set o4.1.toNat o4.1).set ((w64 (o4.1 + (1 : Int))).toNat) r5.1
  some (true, y6, ())
  else none
  else none
  else none
  else none
  else none
noncomputable def consThingMake (N : Nat) : Con := { f := 66, din := dinsThingMake, outs := outsThingMake, F := FsThingMake N }
noncomputable def XsThingMake (N : Nat) : Ctx := { E := EsThingMake N, H := HsThingMake, lp := [(0, { hd := dsThingMake_0, outs := osThingMake_0, run := fun v => lsThingMake_0 N N v })], jn := [] }
noncomputable def bsThingMake_0 : Code := loopBody (codeOf Try.f66) 0
theorem FsThingMake_eq (N : Nat) (x : ((List Int) × (Int × ((Int × (Int × Unit)) × Unit)))) : evFn (XsThingMake N) Try.f66 dinsThingMake outsThingMake x = FsThingMake N x := by kernel_rfl
theorem lsThingMake_0_eq (N n : Nat) (v : (Int × ((Int × (Int × Unit)) × (Int × (Int × ((List Int) × Unit)))))) : lsThingMake_0 N (n + 1) v = ev (XsThingMake N) bsThingMake_0 (roundK dsThingMake_0 osThingMake_0 (lsThingMake_0 N n)) (dsThingMake_0.mk' v) := by kernel_rfl
theorem cxsThingMake (N : Nat) : CtxOk Try.prog (XsThingMake N) := ⟨⟨TE_ok, List.forall_mem_cons.2 ⟨specsShapeSize N, List.forall_mem_cons.2 ⟨specsl3Fits N, List.forall_mem_cons.2 ⟨specsShapeWord N, fun k hk => absurd hk List.not_mem_nil⟩⟩⟩⟩, mixed⟩
theorem lpsThingMake_0 (N : Nat) : LoopOk Try.prog { hd := dsThingMake_0, outs := osThingMake_0, run := fun v => lsThingMake_0 N N v } bsThingMake_0 :=
  loop_fuel (d := dsThingMake_0) (os := osThingMake_0) (cxsThingMake N) (loops_at (ids := []) (by kernel_rfl) (trivial)) (lsThingMake_0 N) (fun _ => rfl) (fun n v => lsThingMake_0_eq N n v) (fun _ => N)
theorem specsThingMake (N : Nat) : Spec Try.prog (consThingMake N) :=
  Spec.of_eq (fn_spec (cxsThingMake N) (f := 66) (fn := Try.f66) (c := codeOf Try.f66) (by kernel_rfl) (by kernel_rfl) (by kernel_rfl) (loops_at (ids := [0]) (by kernel_rfl) ⟨lp_of (lpsThingMake_0 N), trivial⟩) (by kernel_rfl)) (fun x r h => (FsThingMake_eq N x).trans h)

/-! ### 24: spec.StateNew -/

noncomputable def dinsStateNew : Desc := { n := 1, regs := [.one (.val (.pair (.int .i64) (.pair (.int .i64) (.pair (.int .i64) .unit))))], bx := [], pins := [] }
noncomputable def outsStateNew : Outs := [(.ret, { n := 2, regs := [.agg [.lit (.row 1025601), .lit (.row 1025602), .lit (.row 1025603), .val (.int .i64), .val .bool, .val .bool, .val .bool, .val (.int .i64), .lit (.row 1025609), .lit .nil, .lit .nil, .val (.int .i64), .val (.int .i64)], .one (.val .bool)], bx := [(1025601, .row (.int .i64)), (1025602, .row (.pair (.int .i64) (.pair (.int .i64) (.pair (.int .i64) (.pair (.int .i64) (.pair (.int .i64) .unit)))))), (1025603, .row .bool), (1025609, .row (.pair (.sl (.int .i64)) (.pair (.int .i64) (.pair .bool (.pair (.int .i64) .unit)))))], pins := [] })]
noncomputable def HsStateNew : Hints := [(0, [(0, { fz := true })]),
  (2, [(0, { nl := [(0, (.int .i64)), (1, (.pair (.int .i64) (.pair (.int .i64) (.pair (.int .i64) (.pair (.int .i64) (.pair (.int .i64) .unit)))))), (2, .bool), (8, (.pair (.sl (.int .i64)) (.pair (.int .i64) (.pair .bool (.pair (.int .i64) .unit)))))] })]),
  (3, [(2, { con := 1 })]),
  (4, [(9, { nl := [(8, (.pair (.sl (.int .i64)) (.pair (.int .i64) (.pair .bool (.pair (.int .i64) .unit)))))] })]),
  (6, [(3, { con := 2 })]),
  (8, [(1, { con := 3 })]),
  (13, [(4, { dp := true }), (5, { dp := true })])]
noncomputable def EsStateNew (N : Nat) : Env := { te := TE, cs := [consConfigOk N, consTableNew N, consThingMake N, consShapeSize N] }
noncomputable def dsStateNew_0 : Desc := { n := 65, regs := [u, .one (.fpt (.pair (.int .i64) (.pair (.int .i64) (.pair (.int .i64) .unit)))), .one (.lit (.ptr 1000064 0)), u, u, u, .one (.lit (.ptr 1051840 0)), u, u, u, u, .one (.val (.int .i64))], bx := [(1000064, .var [.lit .nil, .lit .nil, .lit .nil, .val (.int .i64), .val .bool, .val .bool, .val .bool, .val (.int .i64), .lit .nil, .lit .nil, .lit .nil, .val (.int .i64), .val (.int .i64)]), (1051840, .var [.lit (.row 1076993), .lit (.row 1038529), .lit (.row 1051712), .val (.int .i64), .val .bool, .val .bool, .val .bool, .val (.int .i64), .lit (.row 1051785), .lit .nil, .lit .nil, .val (.int .i64), .val (.int .i64)]), (1076993, .row (.int .i64)), (1038529, .row (.pair (.int .i64) (.pair (.int .i64) (.pair (.int .i64) (.pair (.int .i64) (.pair (.int .i64) .unit)))))), (1051712, .row .bool), (1051785, .row (.pair (.sl (.int .i64)) (.pair (.int .i64) (.pair .bool (.pair (.int .i64) .unit)))))], pins := [] }
noncomputable def osStateNew_0 : Outs := [(.exit 0, { n := 65, regs := [u, u, .one (.lit (.ptr 1000064 0)), u, u, u, .one (.lit (.ptr 1051840 0))], bx := [(1000064, .var [.lit .nil, .lit .nil, .lit .nil, .val (.int .i64), .val .bool, .val .bool, .val .bool, .val (.int .i64), .lit .nil, .lit .nil, .lit .nil, .val (.int .i64), .val (.int .i64)]), (1051840, .var [.lit (.row 1076993), .lit (.row 1038529), .lit (.row 1051712), .val (.int .i64), .val .bool, .val .bool, .val .bool, .val (.int .i64), .lit (.row 1051785), .lit .nil, .lit .nil, .val (.int .i64), .val (.int .i64)]), (1076993, .row (.int .i64)), (1038529, .row (.pair (.int .i64) (.pair (.int .i64) (.pair (.int .i64) (.pair (.int .i64) (.pair (.int .i64) .unit)))))), (1051712, .row .bool), (1051785, .row (.pair (.sl (.int .i64)) (.pair (.int .i64) (.pair .bool (.pair (.int .i64) .unit)))))], pins := [] })]
noncomputable def lsStateNew_0 (N : Nat) : Nat → ((Int × (Int × (Int × Unit))) × (Int × (Int × (Bool × (Bool × (Bool × (Int × (Int × (Int × (Int × (Bool × (Bool × (Bool × (Int × (Int × (Int × ((List Int) × ((List (Int × (Int × (Int × (Int × (Int × Unit)))))) × ((List Bool) × ((List ((List Int) × (Int × (Bool × (Int × Unit))))) × Unit)))))))))))))))))))) → Option (Int × (Bool × (Bool × (Bool × (Int × (Int × (Int × (Int × (Bool × (Bool × (Bool × (Int × (Int × (Int × ((List Int) × ((List (Int × (Int × (Int × (Int × (Int × Unit)))))) × ((List Bool) × ((List ((List Int) × (Int × (Bool × (Int × Unit))))) × Unit))))))))))))))))))
  | 0, _ => none
  | n + 1, v =>
    bif decide (v.2.1 < v.1.2.1) then
     let y11 := [([(16 : Int)], (0 : Int), false, (0 : Int), ())]
     bif decide (v.2.2.2.2.2.2.2.2.2.2.2.2.2.2.2.2.2.2.2.1.length + y11.length ≤ lim) then
     let y12 := v.2.2.2.2.2.2.2.2.2.2.2.2.2.2.2.2.2.2.2.1 ++ y11
     lsStateNew_0 N n (v.1, w64 (v.2.1 + (1 : Int)), v.2.2.1, v.2.2.2.1, v.2.2.2.2.1, v.2.2.2.2.2.1, v.2.2.2.2.2.2.1, v.2.2.2.2.2.2.2.1, v.2.2.2.2.2.2.2.2.1, v.2.2.2.2.2.2.2.2.2.1, v.2.2.2.2.2.2.2.2.2.2.1, v.2.2.2.2.2.2.2.2.2.2.2.1, v.2.2.2.2.2.2.2.2.2.2.2.2.1, v.2.2.2.2.2.2.2.2.2.2.2.2.2.1, v.2.2.2.2.2.2.2.2.2.2.2.2.2.2.1, v.2.2.2.2.2.2.2.2.2.2.2.2.2.2.2.1, v.2.2.2.2.2.2.2.2.2.2.2.2.2.2.2.2.1, v.2.2.2.2.2.2.2.2.2.2.2.2.2.2.2.2.2.1, v.2.2.2.2.2.2.2.2.2.2.2.2.2.2.2.2.2.2.1, y12, ())
     else none
    else
    some (v.2.2.1, v.2.2.2.1, v.2.2.2.2.1, v.2.2.2.2.2.1, v.2.2.2.2.2.2.1, v.2.2.2.2.2.2.2.1, v.2.2.2.2.2.2.2.2.1, v.2.2.2.2.2.2.2.2.2.1, v.2.2.2.2.2.2.2.2.2.2.1, v.2.2.2.2.2.2.2.2.2.2.2.1, v.2.2.2.2.2.2.2.2.2.2.2.2.1, v.2.2.2.2.2.2.2.2.2.2.2.2.2.1, v.2.2.2.2.2.2.2.2.2.2.2.2.2.2.1, v.2.2.2.2.2.2.2.2.2.2.2.2.2.2.2.1, v.2.2.2.2.2.2.2.2.2.2.2.2.2.2.2.2.1, v.2.2.2.2.2.2.2.2.2.2.2.2.2.2.2.2.2.1, v.2.2.2.2.2.2.2.2.2.2.2.2.2.2.2.2.2.2.1, v.2.2.2.2.2.2.2.2.2.2.2.2.2.2.2.2.2.2.2.1, ())
noncomputable def FsStateNew (N : Nat) (x : ((Int × (Int × (Int × Unit))) × Unit)) : Option (Int × (Bool × (Bool × (Bool × (Int × (Int × (Int × (Bool × ((List Int) × ((List (Int × (Int × (Int × (Int × (Int × Unit)))))) × ((List Bool) × ((List ((List Int) × (Int × (Bool × (Int × Unit))))) × Unit)))))))))))) :=
  (FsConfigOk N (x.1, ())).bind fun r1 =>
  bif !r1.1 then
   let y2 := ([] : (List (Int × (Int × (Int × (Int × (Int × Unit)))))))
   let y3 := ([] : (List ((List Int) × (Int × (Bool × (Int × Unit))))))
   some ((0 : Int), false, false, false, (0 : Int), (0 : Int), (0 : Int), false, ([] : (List Int)), y2, ([] : (List Bool)), y3, ())
  else
  (FsTableNew N (x.1.1, ())).bind fun r4 =>
  bif decide (0 ≤ (w64 (x.1.1 * (16 : Int)))) then
  bif decide ((w64 (x.1.1 * (16 : Int))).toNat ≤ lim) then
  let y5 := List.replicate (w64 (x.1.1 * (16 : Int))).toNat (0 : Int)
  bif decide (0 ≤ (w64 (x.1.1 * (16 : Int)))) then
  bif decide ((w64 (x.1.1 * (16 : Int))).toNat ≤ lim) then
  let y6 := List.replicate (w64 (x.1.1 * (16 : Int))).toNat false
  let y7 := ([] : (List ((List Int) × (Int × (Bool × (Int × Unit))))))
  (FsThingMake N (y5, (16 : Int), ((4 : Int), (2 : Int), ()), ())).bind fun r8 =>
  (FsShapeSize N (((4 : Int), (2 : Int), ()), ())).bind fun r9 =>
  bif decide (0 ≤ (1 : Int)) then
  bif decide ((1 : Int).toNat < r4.2.1.length) then
  let y10 := r4.2.1.set ((1 : Int).toNat) ((3 : Int), (-1 : Int), w64 ((16 : Int) + r9.1), w64 ((16 : Int) + r9.1), (0 : Int), ())
  (lsStateNew_0 N N (x.1, (0 : Int), (0 : Int), false, false, false, (0 : Int), (0 : Int), (0 : Int), (0 : Int), false, false, false, (0 : Int), (0 : Int), (0 : Int), r8.2.1, y10, y6, y7, ())).bind fun o13 =>
  some (o13.2.2.2.2.2.2.2.1, o13.2.2.2.2.2.2.2.2.1, o13.2.2.2.2.2.2.2.2.2.1, o13.2.2.2.2.2.2.2.2.2.2.1, o13.2.2.2.2.2.2.2.2.2.2.2.1, o13.2.2.2.2.2.2.2.2.2.2.2.2.1, o13.2.2.2.2.2.2.2.2.2.2.2.2.2.1, true, o13.2.2.2.2.2.2.2.2.2.2.2.2.2.2.1, o13.2.2.2.2.2.2.2.2.2.2.2.2.2.2.2.1, o13.2.2.2.2.2.2.2.2.2.2.2.2.2.2.2.2.1, o13.2.2.2.2.2.2.2.2.2.2.2.2.2.2.2.2.2.1, ())
  else none
  else none
  else none
  else none
  else none
  else none
noncomputable def consStateNew (N : Nat) : Con := { f := 24, din := dinsStateNew, outs := outsStateNew, F := FsStateNew N }
noncomputable def XsStateNew (N : Nat) : Ctx := { E := EsStateNew N, H := HsStateNew, lp := [(0, { hd := dsStateNew_0, outs := osStateNew_0, run := fun v => lsStateNew_0 N N v })], jn := [] }
noncomputable def bsStateNew_0 : Code := loopBody (codeOf Try.f24) 0
theorem FsStateNew_eq (N : Nat) (x : ((Int × (Int × (Int × Unit))) × Unit)) : evFn (XsStateNew N) Try.f24 dinsStateNew outsStateNew x = FsStateNew N x := by kernel_rfl
theorem lsStateNew_0_eq (N n : Nat) (v : ((Int × (Int × (Int × Unit))) × (Int × (Int × (Bool × (Bool × (Bool × (Int × (Int × (Int × (Int × (Bool × (Bool × (Bool × (Int × (Int × (Int × ((List Int) × ((List (Int × (Int × (Int × (Int × (Int × Unit)))))) × ((List Bool) × ((List ((List Int) × (Int × (Bool × (Int × Unit))))) × Unit))))))))))))))))))))) : lsStateNew_0 N (n + 1) v = ev (XsStateNew N) bsStateNew_0 (roundK dsStateNew_0 osStateNew_0 (lsStateNew_0 N n)) (dsStateNew_0.mk' v) := by kernel_rfl
theorem cxsStateNew (N : Nat) : CtxOk Try.prog (XsStateNew N) := ⟨⟨TE_ok, List.forall_mem_cons.2 ⟨specsConfigOk N, List.forall_mem_cons.2 ⟨specsTableNew N, List.forall_mem_cons.2 ⟨specsThingMake N, List.forall_mem_cons.2 ⟨specsShapeSize N, fun k hk => absurd hk List.not_mem_nil⟩⟩⟩⟩⟩, mixed⟩
theorem lpsStateNew_0 (N : Nat) : LoopOk Try.prog { hd := dsStateNew_0, outs := osStateNew_0, run := fun v => lsStateNew_0 N N v } bsStateNew_0 :=
  loop_fuel (d := dsStateNew_0) (os := osStateNew_0) (cxsStateNew N) (loops_at (ids := []) (by kernel_rfl) (trivial)) (lsStateNew_0 N) (fun _ => rfl) (fun n v => lsStateNew_0_eq N n v) (fun _ => N)
theorem specsStateNew (N : Nat) : Spec Try.prog (consStateNew N) :=
  Spec.of_eq (fn_spec (cxsStateNew N) (f := 24) (fn := Try.f24) (c := codeOf Try.f24) (by kernel_rfl) (by kernel_rfl) (by kernel_rfl) (loops_at (ids := [0]) (by kernel_rfl) ⟨lp_of (lpsStateNew_0 N), trivial⟩) (by kernel_rfl)) (fun x r h => (FsStateNew_eq N x).trans h)

/-! ### 68: impl.ConfigOk -/

noncomputable def diniConfigOk : Desc := { n := 1, regs := [.one (.val (.pair (.int .i64) (.pair (.int .i64) (.pair (.int .i64) .unit))))], bx := [], pins := [] }
noncomputable def outiConfigOk : Outs := [(.ret, { n := 1, regs := [.one (.val .bool)], bx := [], pins := [] })]
noncomputable def HiConfigOk : Hints := [(0, [(0, { fz := true })])]
noncomputable def EiConfigOk (_N : Nat) : Env := { te := TE, cs := [] }
noncomputable def FiConfigOk (N : Nat) (x : ((Int × (Int × (Int × Unit))) × Unit)) : Option (Bool × Unit) :=
  bif decide (x.1.1 ≥ (3 : Int)) then
   bif decide (x.1.1 ≤ (12 : Int)) then
    bif decide (x.1.2.1 ≥ (1 : Int)) then
     bif decide (x.1.2.1 ≤ (3 : Int)) then
      bif decide (x.1.2.2.1 ≥ (0 : Int)) then
       some (decide (x.1.2.2.1 ≤ (100 : Int)), ())
      else
      some (false, ())
     else
     some (false, ())
    else
    some (false, ())
   else
   some (false, ())
  else
  some (false, ())
noncomputable def coniConfigOk (N : Nat) : Con := { f := 68, din := diniConfigOk, outs := outiConfigOk, F := FiConfigOk N }
noncomputable def XiConfigOk (N : Nat) : Ctx := { E := EiConfigOk N, H := HiConfigOk, lp := [], jn := [] }
theorem FiConfigOk_eq (N : Nat) (x : ((Int × (Int × (Int × Unit))) × Unit)) : evFn (XiConfigOk N) Try.f68 diniConfigOk outiConfigOk x = FiConfigOk N x := by kernel_rfl
theorem cxiConfigOk (N : Nat) : CtxOk Try.prog (XiConfigOk N) := ⟨⟨TE_ok, fun k hk => absurd hk List.not_mem_nil⟩, mixed⟩
theorem speciConfigOk (N : Nat) : Spec Try.prog (coniConfigOk N) :=
  Spec.of_eq (fn_spec (cxiConfigOk N) (f := 68) (fn := Try.f68) (c := codeOf Try.f68) (by kernel_rfl) (by kernel_rfl) (by kernel_rfl) (loops_at (ids := []) (by kernel_rfl) (trivial)) (by kernel_rfl)) (fun x r h => (FiConfigOk_eq N x).trans h)

/-! ### 107: impl.ShapeOk -/

noncomputable def diniShapeOk : Desc := { n := 1, regs := [.one (.val (.pair (.int .i64) (.pair (.int .i64) .unit)))], bx := [], pins := [] }
noncomputable def outiShapeOk : Outs := [(.ret, { n := 1, regs := [.one (.val .bool)], bx := [], pins := [] })]
noncomputable def HiShapeOk : Hints := [(0, [(0, { fz := true })])]
noncomputable def EiShapeOk (_N : Nat) : Env := { te := TE, cs := [] }
noncomputable def FiShapeOk (N : Nat) (x : ((Int × (Int × Unit)) × Unit)) : Option (Bool × Unit) :=
  bif decide (x.1.1 ≥ (0 : Int)) then
   bif decide (x.1.1 ≤ (4 : Int)) then
    bif decide (x.1.2.1 ≥ (0 : Int)) then
     some (decide (x.1.2.1 ≤ (4 : Int)), ())
    else
    some (false, ())
   else
   some (false, ())
  else
  some (false, ())
noncomputable def coniShapeOk (N : Nat) : Con := { f := 107, din := diniShapeOk, outs := outiShapeOk, F := FiShapeOk N }
noncomputable def XiShapeOk (N : Nat) : Ctx := { E := EiShapeOk N, H := HiShapeOk, lp := [], jn := [] }
theorem FiShapeOk_eq (N : Nat) (x : ((Int × (Int × Unit)) × Unit)) : evFn (XiShapeOk N) Try.f107 diniShapeOk outiShapeOk x = FiShapeOk N x := by kernel_rfl
theorem cxiShapeOk (N : Nat) : CtxOk Try.prog (XiShapeOk N) := ⟨⟨TE_ok, fun k hk => absurd hk List.not_mem_nil⟩, mixed⟩
theorem speciShapeOk (N : Nat) : Spec Try.prog (coniShapeOk N) :=
  Spec.of_eq (fn_spec (cxiShapeOk N) (f := 107) (fn := Try.f107) (c := codeOf Try.f107) (by kernel_rfl) (by kernel_rfl) (by kernel_rfl) (loops_at (ids := []) (by kernel_rfl) (trivial)) (by kernel_rfl)) (fun x r h => (FiShapeOk_eq N x).trans h)

/-! ### 71: impl.ShapeSize -/

noncomputable def diniShapeSize : Desc := { n := 1, regs := [.one (.val (.pair (.int .i64) (.pair (.int .i64) .unit)))], bx := [], pins := [] }
noncomputable def outiShapeSize : Outs := [(.ret, { n := 1, regs := [.one (.val (.int .i64))], bx := [], pins := [] })]
noncomputable def HiShapeSize : Hints := [(0, [(0, { fz := true })])]
noncomputable def EiShapeSize (N : Nat) : Env := { te := TE, cs := [coniShapeOk N] }
noncomputable def FiShapeSize (N : Nat) (x : ((Int × (Int × Unit)) × Unit)) : Option (Int × Unit) :=
  (FiShapeOk N (x.1, ())).bind fun r1 =>
  bif !r1.1 then
   some ((0 : Int), ())
  else
  let y2 := w64 ((w64 ((2 : Int) + x.1.1)) + x.1.2.1)
  some (y2, ())
noncomputable def coniShapeSize (N : Nat) : Con := { f := 71, din := diniShapeSize, outs := outiShapeSize, F := FiShapeSize N }
noncomputable def XiShapeSize (N : Nat) : Ctx := { E := EiShapeSize N, H := HiShapeSize, lp := [], jn := [] }
theorem FiShapeSize_eq (N : Nat) (x : ((Int × (Int × Unit)) × Unit)) : evFn (XiShapeSize N) Try.f71 diniShapeSize outiShapeSize x = FiShapeSize N x := by kernel_rfl
theorem cxiShapeSize (N : Nat) : CtxOk Try.prog (XiShapeSize N) := ⟨⟨TE_ok, List.forall_mem_cons.2 ⟨speciShapeOk N, fun k hk => absurd hk List.not_mem_nil⟩⟩, mixed⟩
theorem speciShapeSize (N : Nat) : Spec Try.prog (coniShapeSize N) :=
  Spec.of_eq (fn_spec (cxiShapeSize N) (f := 71) (fn := Try.f71) (c := codeOf Try.f71) (by kernel_rfl) (by kernel_rfl) (by kernel_rfl) (loops_at (ids := []) (by kernel_rfl) (trivial)) (by kernel_rfl)) (fun x r h => (FiShapeSize_eq N x).trans h)

/-! ### 125: impl.WordsOk -/

noncomputable def diniWordsOk : Desc := { n := 1, regs := [.one (.val (.sl (.int .i64)))], bx := [], pins := [] }
noncomputable def outiWordsOk : Outs := [(.ret, { n := 1, regs := [.one (.val .bool)], bx := [], pins := [] })]
noncomputable def HiWordsOk : Hints := []
noncomputable def EiWordsOk (_N : Nat) : Env := { te := TE, cs := [] }
noncomputable def FiWordsOk (N : Nat) (x : ((List Int) × Unit)) : Option (Bool × Unit) :=
  bif decide ((16 : Int) = 0) then
   none
  else
  let y1 := Int.tmod (x.1.length : Int) (16 : Int)
  bif y1 == (0 : Int) then
   let y2 := decide ((x.1.length : Int) ≥ (32 : Int))
   bif y2 then
    let y3 := decide ((x.1.length : Int) ≤ (192 : Int))
    some (y3, ())
   else
   some (false, ())
  else
  some (false, ())
noncomputable def coniWordsOk (N : Nat) : Con := { f := 125, din := diniWordsOk, outs := outiWordsOk, F := FiWordsOk N }
noncomputable def XiWordsOk (N : Nat) : Ctx := { E := EiWordsOk N, H := HiWordsOk, lp := [], jn := [] }
theorem FiWordsOk_eq (N : Nat) (x : ((List Int) × Unit)) : evFn (XiWordsOk N) Try.f125 diniWordsOk outiWordsOk x = FiWordsOk N x := by kernel_rfl
theorem cxiWordsOk (N : Nat) : CtxOk Try.prog (XiWordsOk N) := ⟨⟨TE_ok, fun k hk => absurd hk List.not_mem_nil⟩, mixed⟩
theorem speciWordsOk (N : Nat) : Spec Try.prog (coniWordsOk N) :=
  Spec.of_eq (fn_spec (cxiWordsOk N) (f := 125) (fn := Try.f125) (c := codeOf Try.f125) (by kernel_rfl) (by kernel_rfl) (by kernel_rfl) (loops_at (ids := []) (by kernel_rfl) (trivial)) (by kernel_rfl)) (fun x r h => (FiWordsOk_eq N x).trans h)

/-! ### 108: impl.fits -/

noncomputable def dinifits : Desc := { n := 3, regs := [.one (.val (.sl (.int .i64))), .one (.val (.int .i64)), .one (.val (.int .i64))], bx := [], pins := [] }
noncomputable def outifits : Outs := [(.ret, { n := 1, regs := [.one (.val .bool)], bx := [], pins := [] })]
noncomputable def Hifits : Hints := []
noncomputable def Eifits (N : Nat) : Env := { te := TE, cs := [coniWordsOk N] }
noncomputable def Fifits (N : Nat) (x : ((List Int) × (Int × (Int × Unit)))) : Option (Bool × Unit) :=
  (FiWordsOk N (x.1, ())).bind fun r1 =>
  bif r1.1 then
   bif decide (x.2.1 ≥ (16 : Int)) then
    bif decide (x.2.1 < (x.1.length : Int)) then
     bif decide ((16 : Int) = 0) then
      none
     else
     let y2 := w64 ((Int.tmod x.2.1 (16 : Int)) + x.2.2.1)
     some (decide (y2 ≤ (16 : Int)), ())
    else
    some (false, ())
   else
   some (false, ())
  else
  some (false, ())
noncomputable def conifits (N : Nat) : Con := { f := 108, din := dinifits, outs := outifits, F := Fifits N }
noncomputable def Xifits (N : Nat) : Ctx := { E := Eifits N, H := Hifits, lp := [], jn := [] }
theorem Fifits_eq (N : Nat) (x : ((List Int) × (Int × (Int × Unit)))) : evFn (Xifits N) Try.f108 dinifits outifits x = Fifits N x := by kernel_rfl
theorem cxifits (N : Nat) : CtxOk Try.prog (Xifits N) := ⟨⟨TE_ok, List.forall_mem_cons.2 ⟨speciWordsOk N, fun k hk => absurd hk List.not_mem_nil⟩⟩, mixed⟩
theorem specifits (N : Nat) : Spec Try.prog (conifits N) :=
  Spec.of_eq (fn_spec (cxifits N) (f := 108) (fn := Try.f108) (c := codeOf Try.f108) (by kernel_rfl) (by kernel_rfl) (by kernel_rfl) (loops_at (ids := []) (by kernel_rfl) (trivial)) (by kernel_rfl)) (fun x r h => (Fifits_eq N x).trans h)

/-! ### 109: slices.Clone[[]int,int] -/

noncomputable def dinkClone_Sint_int : Desc := { n := 1, regs := [.one (.val (.sl (.int .i64)))], bx := [], pins := [] }
noncomputable def outkClone_Sint_int : Outs := [(.ret, { n := 1, regs := [.one (.lit (.row 1025600))], bx := [(1025600, .row (.int .i64))], pins := [] })]
noncomputable def HkClone_Sint_int : Hints := [(2, [(0, { nl := [(0, (.int .i64))] })])]
noncomputable def EkClone_Sint_int (_N : Nat) : Env := { te := TE, cs := [] }
noncomputable def FkClone_Sint_int (N : Nat) (x : ((List Int) × Unit)) : Option ((List Int) × Unit) :=
  bif x.1.isEmpty then
   anyOf (2) fun i1 =>
    bif bif i1 == 0 then false else true then
     some (([] : (List Int)), ())
    else
    bif decide (([] : (List Int)).length + x.1.length ≤ lim) then
    some (([] : (List Int)) ++ x.1, ())
    else none
  else
  bif decide (([] : (List Int)).length + x.1.length ≤ lim) then
  some (([] : (List Int)) ++ x.1, ())
  else none
noncomputable def conkClone_Sint_int (N : Nat) : Con := { f := 109, din := dinkClone_Sint_int, outs := outkClone_Sint_int, F := FkClone_Sint_int N }
noncomputable def XkClone_Sint_int (N : Nat) : Ctx := { E := EkClone_Sint_int N, H := HkClone_Sint_int, lp := [], jn := [] }
theorem FkClone_Sint_int_eq (N : Nat) (x : ((List Int) × Unit)) : evFn (XkClone_Sint_int N) Try.f109 dinkClone_Sint_int outkClone_Sint_int x = FkClone_Sint_int N x := by kernel_rfl
theorem cxkClone_Sint_int (N : Nat) : CtxOk Try.prog (XkClone_Sint_int N) := ⟨⟨TE_ok, fun k hk => absurd hk List.not_mem_nil⟩, mixed⟩
theorem speckClone_Sint_int (N : Nat) : Spec Try.prog (conkClone_Sint_int N) :=
  Spec.of_eq (fn_spec (cxkClone_Sint_int N) (f := 109) (fn := Try.f109) (c := codeOf Try.f109) (by kernel_rfl) (by kernel_rfl) (by kernel_rfl) (loops_at (ids := []) (by kernel_rfl) (trivial)) (by kernel_rfl)) (fun x r h => (FkClone_Sint_int_eq N x).trans h)

/-! ### 110: impl.ShapeWord -/

noncomputable def diniShapeWord : Desc := { n := 1, regs := [.one (.val (.pair (.int .i64) (.pair (.int .i64) .unit)))], bx := [], pins := [] }
noncomputable def outiShapeWord : Outs := [(.ret, { n := 1, regs := [.one (.val (.int .i64))], bx := [], pins := [] })]
noncomputable def HiShapeWord : Hints := [(0, [(0, { fz := true })])]
noncomputable def EiShapeWord (N : Nat) : Env := { te := TE, cs := [coniShapeOk N] }
noncomputable def FiShapeWord (N : Nat) (x : ((Int × (Int × Unit)) × Unit)) : Option (Int × Unit) :=
  (FiShapeOk N (x.1, ())).bind fun r1 =>
  bif !r1.1 then
   some ((-1 : Int), ())
  else
  let y2 := w64 ((w64 ((16 : Int) * x.1.1)) + x.1.2.1)
  some (y2, ())
noncomputable def coniShapeWord (N : Nat) : Con := { f := 110, din := diniShapeWord, outs := outiShapeWord, F := FiShapeWord N }
noncomputable def XiShapeWord (N : Nat) : Ctx := { E := EiShapeWord N, H := HiShapeWord, lp := [], jn := [] }
theorem FiShapeWord_eq (N : Nat) (x : ((Int × (Int × Unit)) × Unit)) : evFn (XiShapeWord N) Try.f110 diniShapeWord outiShapeWord x = FiShapeWord N x := by kernel_rfl
theorem cxiShapeWord (N : Nat) : CtxOk Try.prog (XiShapeWord N) := ⟨⟨TE_ok, List.forall_mem_cons.2 ⟨speciShapeOk N, fun k hk => absurd hk List.not_mem_nil⟩⟩, mixed⟩
theorem speciShapeWord (N : Nat) : Spec Try.prog (coniShapeWord N) :=
  Spec.of_eq (fn_spec (cxiShapeWord N) (f := 110) (fn := Try.f110) (c := codeOf Try.f110) (by kernel_rfl) (by kernel_rfl) (by kernel_rfl) (loops_at (ids := []) (by kernel_rfl) (trivial)) (by kernel_rfl)) (fun x r h => (FiShapeWord_eq N x).trans h)

/-! ### 69: impl.ThingMake -/

noncomputable def diniThingMake : Desc := { n := 3, regs := [.one (.val (.sl (.int .i64))), .one (.val (.int .i64)), .one (.val (.pair (.int .i64) (.pair (.int .i64) .unit)))], bx := [], pins := [] }
noncomputable def outiThingMake : Outs := [(.ret, { n := 2, regs := [.one (.lit (.row 1038465)), .one (.val .bool)], bx := [(1038465, .row (.int .i64))], pins := [] })]
noncomputable def HiThingMake : Hints := [(0, [(0, { fz := true })]),
  (1, [(7, { con := 1 }), (8, { con := 2 })]),
  (2, [(0, { nl := [(0, (.int .i64))] })]),
  (3, [(1, { con := 3 })]),
  (4, [(4, { con := 1 })]),
  (5, [(7, { con := 4 })])]
noncomputable def EiThingMake (N : Nat) : Env := { te := TE, cs := [coniShapeOk N, coniShapeSize N, conifits N, conkClone_Sint_int N, coniShapeWord N] }
noncomputable def jiThingMake_3 : Outs := [(.normal, { n := 40, regs := [.one (.val (.sl (.int .i64))), .one (.val (.int .i64)), u, u, u, .one (.fpt (.pair (.int .i64) (.pair (.int .i64) .unit)))], bx := [], pins := [] }), (.ret, { n := 40, regs := [u, u, u, u, u, u, .one (.lit (.row 1025600)), .one (.val .bool)], bx := [(1025600, .row (.int .i64))], pins := [] })]
noncomputable def FiThingMake (N : Nat) (x : ((List Int) × (Int × ((Int × (Int × Unit)) × Unit)))) : Option (Bool × ((List Int) × Unit)) :=
  Option.bind (
   (FiShapeOk N (x.2.2.1, ())).bind fun r1 =>
   bif !r1.1 then
    some (.inr ((false, ([] : (List Int)), ())))
   else
   (FiShapeSize N (x.2.2.1, ())).bind fun r2 =>
   (Fifits N (x.1, x.2.1, r2.1, ())).bind fun r3 =>
   bif !r3.1 then
    some (.inr ((false, ([] : (List Int)), ())))
   else
   some (.inl (x.1, x.2.1, x.2.2.1, ()))) fun o4 =>
  Sum.elim (fun o5 =>
   (FkClone_Sint_int N (o5.1, ())).bind fun r6 =>
   (FiShapeSize N (o5.2.2.1, ())).bind fun r7 =>
   bif decide (0 ≤ (w64 (o5.2.1 + r7.1))) then
   bif decide ((w64 (o5.2.1 + r7.1)) ≤ (r6.1.length : Int)) then
   bif decide (0 ≤ o5.2.1) then
   bif decide (o5.2.1 ≤ (w64 (o5.2.1 + r7.1))) then
   let y8 := lay r6.1 o5.2.1.toNat (List.replicate ((w64 (o5.2.1 + r7.1)).toNat - o5.2.1.toNat) (0 : Int))
   (FiShapeWord N (o5.2.2.1, ())).bind fun r9 =>
   bif decide (0 ≤ o5.2.1) then
   bif decide (o5.2.1.toNat < y8.length) then
   bif decide (0 ≤ (w64 (o5.2.1 + (1 : Int)))) then
   bif decide ((w64 (o5.2.1 + (1 : Int))).toNat < (y8.set o5.2.1.toNat o5.2.1).length) then
   let y10 := (y8.set o5.2.1.toNat o5.2.1).set ((w64 (o5.2.1 + (1 : Int))).toNat) r9.1
   some (true, y10, ())
   else none
   else none
   else none
   else none
   else none
   else none
   else none
   else none) (fun o11 =>
   some (o11.1, o11.2.1, ())) o4
noncomputable def coniThingMake (N : Nat) : Con := { f := 69, din := diniThingMake, outs := outiThingMake, F := FiThingMake N }
noncomputable def XiThingMake (N : Nat) : Ctx := { E := EiThingMake N, H := HiThingMake, lp := [], jn := [(3, jiThingMake_3)] }
theorem FiThingMake_eq (N : Nat) (x : ((List Int) × (Int × ((Int × (Int × Unit)) × Unit)))) : evFn (XiThingMake N) Try.f69 diniThingMake outiThingMake x = FiThingMake N x := by kernel_rfl
theorem cxiThingMake (N : Nat) : CtxOk Try.prog (XiThingMake N) := ⟨⟨TE_ok, List.forall_mem_cons.2 ⟨speciShapeOk N, List.forall_mem_cons.2 ⟨speciShapeSize N, List.forall_mem_cons.2 ⟨specifits N, List.forall_mem_cons.2 ⟨speckClone_Sint_int N, List.forall_mem_cons.2 ⟨speciShapeWord N, fun k hk => absurd hk List.not_mem_nil⟩⟩⟩⟩⟩⟩, mixed⟩
theorem speciThingMake (N : Nat) : Spec Try.prog (coniThingMake N) :=
  Spec.of_eq (fn_spec (cxiThingMake N) (f := 69) (fn := Try.f69) (c := codeOf Try.f69) (by kernel_rfl) (by kernel_rfl) (by kernel_rfl) (loops_at (ids := []) (by kernel_rfl) (trivial)) (by kernel_rfl)) (fun x r h => (FiThingMake_eq N x).trans h)

/-! ### 99: impl.edge -/

noncomputable def diniedge : Desc := { n := 0, regs := [], bx := [], pins := [] }
noncomputable def outiedge : Outs := [(.ret, { n := 1, regs := [.agg [.val (.int .i64), .val (.int .i64), .val (.int .i64), .val (.int .i64), .val (.int .i64)]], bx := [], pins := [] })]
noncomputable def Hiedge : Hints := []
noncomputable def Eiedge (_N : Nat) : Env := { te := TE, cs := [] }
noncomputable def Fiedge (N : Nat) (x : Unit) : Option (Int × (Int × (Int × (Int × (Int × Unit))))) :=
  some ((0 : Int), (-1 : Int), (0 : Int), (0 : Int), (0 : Int), ())
noncomputable def coniedge (N : Nat) : Con := { f := 99, din := diniedge, outs := outiedge, F := Fiedge N }
noncomputable def Xiedge (N : Nat) : Ctx := { E := Eiedge N, H := Hiedge, lp := [], jn := [] }
theorem Fiedge_eq (N : Nat) (x : Unit) : evFn (Xiedge N) Try.f99 diniedge outiedge x = Fiedge N x := by kernel_rfl
theorem cxiedge (N : Nat) : CtxOk Try.prog (Xiedge N) := ⟨⟨TE_ok, fun k hk => absurd hk List.not_mem_nil⟩, mixed⟩
theorem speciedge (N : Nat) : Spec Try.prog (coniedge N) :=
  Spec.of_eq (fn_spec (cxiedge N) (f := 99) (fn := Try.f99) (c := codeOf Try.f99) (by kernel_rfl) (by kernel_rfl) (by kernel_rfl) (loops_at (ids := []) (by kernel_rfl) (trivial)) (by kernel_rfl)) (fun x r h => (Fiedge_eq N x).trans h)

/-! ### 58: impl.RegionBase -/

noncomputable def diniRegionBase : Desc := { n := 1, regs := [.one (.val (.int .i64))], bx := [], pins := [] }
noncomputable def outiRegionBase : Outs := [(.ret, { n := 1, regs := [.one (.val (.int .i64))], bx := [], pins := [] })]
noncomputable def HiRegionBase : Hints := []
noncomputable def EiRegionBase (_N : Nat) : Env := { te := TE, cs := [] }
noncomputable def FiRegionBase (N : Nat) (x : (Int × Unit)) : Option (Int × Unit) :=
  bif decide (x.1 < (0 : Int)) then
   some ((0 : Int), ())
  else
  bif decide (x.1 ≥ (12 : Int)) then
   some ((0 : Int), ())
  else
  some (w64 (x.1 * (16 : Int)), ())
noncomputable def coniRegionBase (N : Nat) : Con := { f := 58, din := diniRegionBase, outs := outiRegionBase, F := FiRegionBase N }
noncomputable def XiRegionBase (N : Nat) : Ctx := { E := EiRegionBase N, H := HiRegionBase, lp := [], jn := [] }
theorem FiRegionBase_eq (N : Nat) (x : (Int × Unit)) : evFn (XiRegionBase N) Try.f58 diniRegionBase outiRegionBase x = FiRegionBase N x := by kernel_rfl
theorem cxiRegionBase (N : Nat) : CtxOk Try.prog (XiRegionBase N) := ⟨⟨TE_ok, fun k hk => absurd hk List.not_mem_nil⟩, mixed⟩
theorem speciRegionBase (N : Nat) : Spec Try.prog (coniRegionBase N) :=
  Spec.of_eq (fn_spec (cxiRegionBase N) (f := 58) (fn := Try.f58) (c := codeOf Try.f58) (by kernel_rfl) (by kernel_rfl) (by kernel_rfl) (loops_at (ids := []) (by kernel_rfl) (trivial)) (by kernel_rfl)) (fun x r h => (FiRegionBase_eq N x).trans h)

/-! ### 111: impl.free -/

noncomputable def dinifree : Desc := { n := 1, regs := [.one (.val (.int .i64))], bx := [], pins := [] }
noncomputable def outifree : Outs := [(.ret, { n := 1, regs := [.agg [.val (.int .i64), .val (.int .i64), .val (.int .i64), .val (.int .i64), .val (.int .i64)]], bx := [], pins := [] })]
noncomputable def Hifree : Hints := []
noncomputable def Eifree (N : Nat) : Env := { te := TE, cs := [coniRegionBase N] }
noncomputable def Fifree (N : Nat) (x : (Int × Unit)) : Option (Int × (Int × (Int × (Int × (Int × Unit))))) :=
  (FiRegionBase N (x.1, ())).bind fun r1 =>
  some ((1 : Int), (-1 : Int), r1.1, r1.1, (0 : Int), ())
noncomputable def conifree (N : Nat) : Con := { f := 111, din := dinifree, outs := outifree, F := Fifree N }
noncomputable def Xifree (N : Nat) : Ctx := { E := Eifree N, H := Hifree, lp := [], jn := [] }
theorem Fifree_eq (N : Nat) (x : (Int × Unit)) : evFn (Xifree N) Try.f111 dinifree outifree x = Fifree N x := by kernel_rfl
theorem cxifree (N : Nat) : CtxOk Try.prog (Xifree N) := ⟨⟨TE_ok, List.forall_mem_cons.2 ⟨speciRegionBase N, fun k hk => absurd hk List.not_mem_nil⟩⟩, mixed⟩
theorem specifree (N : Nat) : Spec Try.prog (conifree N) :=
  Spec.of_eq (fn_spec (cxifree N) (f := 111) (fn := Try.f111) (c := codeOf Try.f111) (by kernel_rfl) (by kernel_rfl) (by kernel_rfl) (loops_at (ids := []) (by kernel_rfl) (trivial)) (by kernel_rfl)) (fun x r h => (Fifree_eq N x).trans h)

/-! ### 70: impl.TableNew -/

noncomputable def diniTableNew : Desc := { n := 1, regs := [.one (.val (.int .i64))], bx := [], pins := [] }
noncomputable def outiTableNew : Outs := [(.ret, { n := 2, regs := [.one (.lit (.row 1038464)), .one (.val .bool)], bx := [(1038464, .row (.pair (.int .i64) (.pair (.int .i64) (.pair (.int .i64) (.pair (.int .i64) (.pair (.int .i64) .unit))))))], pins := [] })]
noncomputable def HiTableNew : Hints := [(2, [(0, { nl := [(0, (.pair (.int .i64) (.pair (.int .i64) (.pair (.int .i64) (.pair (.int .i64) (.pair (.int .i64) .unit))))))] })]),
  (7, [(2, { con := 1 })])]
noncomputable def EiTableNew (N : Nat) : Env := { te := TE, cs := [coniedge N, conifree N] }
noncomputable def diTableNew_0 : Desc := { n := 25, regs := [.one (.val (.int .i64)), u, u, u, .one (.lit (.row 1038464)), .one (.val (.int .i64))], bx := [(1038464, .row (.pair (.int .i64) (.pair (.int .i64) (.pair (.int .i64) (.pair (.int .i64) (.pair (.int .i64) .unit))))))], pins := [] }
noncomputable def oiTableNew_0 : Outs := [(.exit 0, { n := 25, regs := [u, u, u, u, .one (.lit (.row 1038464))], bx := [(1038464, .row (.pair (.int .i64) (.pair (.int .i64) (.pair (.int .i64) (.pair (.int .i64) (.pair (.int .i64) .unit))))))], pins := [] })]
noncomputable def jiTableNew_3 : Outs := [(.normal, { n := 25, regs := [.one (.val (.int .i64))], bx := [], pins := [] }), (.ret, { n := 25, regs := [u, u, .one (.lit (.row 1025600)), .one (.val .bool)], bx := [(1025600, .row (.pair (.int .i64) (.pair (.int .i64) (.pair (.int .i64) (.pair (.int .i64) (.pair (.int .i64) .unit))))))], pins := [] })]
noncomputable def liTableNew_0 (N : Nat) : Nat → (Int × (Int × ((List (Int × (Int × (Int × (Int × (Int × Unit)))))) × Unit))) → Option ((List (Int × (Int × (Int × (Int × (Int × Unit)))))) × Unit)
  | 0, _ => none
  | n + 1, v =>
    bif decide (v.2.1 < v.1) then
     (Fifree N (v.2.1, ())).bind fun r7 =>
     let y8 := [(r7.1, r7.2.1, r7.2.2.1, r7.2.2.2.1, r7.2.2.2.2.1, ())]
     bif decide (v.2.2.1.length + y8.length ≤ lim) then
     liTableNew_0 N n (v.1, w64 (v.2.1 + (1 : Int)), v.2.2.1 ++ y8, ())
     else none
    else
    some (v.2.2.1, ())
noncomputable def FiTableNew (N : Nat) (x : (Int × Unit)) : Option (Bool × ((List (Int × (Int × (Int × (Int × (Int × Unit)))))) × Unit)) :=
  Option.bind (
   bif decide (x.1 < (2 : Int)) then
    let y1 := ([] : (List (Int × (Int × (Int × (Int × (Int × Unit)))))))
    some (.inr ((false, y1, ())))
   else
   bif decide (x.1 > (12 : Int)) then
    let y2 := ([] : (List (Int × (Int × (Int × (Int × (Int × Unit)))))))
    some (.inr ((false, y2, ())))
   else
   some (.inl (x.1, ()))) fun o3 =>
  Sum.elim (fun o4 =>
   (Fiedge N ()).bind fun r5 =>
   let y6 := [(r5.1, r5.2.1, r5.2.2.1, r5.2.2.2.1, r5.2.2.2.2.1, ())]
   (liTableNew_0 N N (o4.1, (1 : Int), y6, ())).bind fun o9 =>
   some (true, o9.1, ())) (fun o10 =>
   some (o10.1, o10.2.1, ())) o3
noncomputable def coniTableNew (N : Nat) : Con := { f := 70, din := diniTableNew, outs := outiTableNew, F := FiTableNew N }
noncomputable def XiTableNew (N : Nat) : Ctx := { E := EiTableNew N, H := HiTableNew, lp := [(0, { hd := diTableNew_0, outs := oiTableNew_0, run := fun v => liTableNew_0 N N v })], jn := [(3, jiTableNew_3)] }
noncomputable def biTableNew_0 : Code := loopBody (codeOf Try.f70) 0
theorem FiTableNew_eq (N : Nat) (x : (Int × Unit)) : evFn (XiTableNew N) Try.f70 diniTableNew outiTableNew x = FiTableNew N x := by kernel_rfl
theorem liTableNew_0_eq (N n : Nat) (v : (Int × (Int × ((List (Int × (Int × (Int × (Int × (Int × Unit)))))) × Unit)))) : liTableNew_0 N (n + 1) v = ev (XiTableNew N) biTableNew_0 (roundK diTableNew_0 oiTableNew_0 (liTableNew_0 N n)) (diTableNew_0.mk' v) := by kernel_rfl
theorem cxiTableNew (N : Nat) : CtxOk Try.prog (XiTableNew N) := ⟨⟨TE_ok, List.forall_mem_cons.2 ⟨speciedge N, List.forall_mem_cons.2 ⟨specifree N, fun k hk => absurd hk List.not_mem_nil⟩⟩⟩, mixed⟩
theorem lpiTableNew_0 (N : Nat) : LoopOk Try.prog { hd := diTableNew_0, outs := oiTableNew_0, run := fun v => liTableNew_0 N N v } biTableNew_0 :=
  loop_fuel (d := diTableNew_0) (os := oiTableNew_0) (cxiTableNew N) (loops_at (ids := []) (by kernel_rfl) (trivial)) (liTableNew_0 N) (fun _ => rfl) (fun n v => liTableNew_0_eq N n v) (fun _ => N)
theorem speciTableNew (N : Nat) : Spec Try.prog (coniTableNew N) :=
  Spec.of_eq (fn_spec (cxiTableNew N) (f := 70) (fn := Try.f70) (c := codeOf Try.f70) (by kernel_rfl) (by kernel_rfl) (by kernel_rfl) (loops_at (ids := [0]) (by kernel_rfl) ⟨lp_of (lpiTableNew_0 N), trivial⟩) (by kernel_rfl)) (fun x r h => (FiTableNew_eq N x).trans h)

/-! ### 26: impl.StateNew -/

noncomputable def diniStateNew : Desc := { n := 1, regs := [.one (.val (.pair (.int .i64) (.pair (.int .i64) (.pair (.int .i64) .unit))))], bx := [], pins := [] }
noncomputable def outiStateNew : Outs := [(.ret, { n := 2, regs := [.agg [.lit (.row 1025601), .lit (.row 1025602), .lit (.row 1025603), .val (.int .i64), .val .bool, .val .bool, .val .bool, .val (.int .i64), .lit (.row 1025609), .lit .nil, .lit .nil, .val (.int .i64), .val (.int .i64)], .one (.val .bool)], bx := [(1025601, .row (.int .i64)), (1025602, .row (.pair (.int .i64) (.pair (.int .i64) (.pair (.int .i64) (.pair (.int .i64) (.pair (.int .i64) .unit)))))), (1025603, .row .bool), (1025609, .row (.pair (.sl (.int .i64)) (.pair (.int .i64) (.pair .bool (.pair (.int .i64) .unit)))))], pins := [] })]
noncomputable def HiStateNew : Hints := [(0, [(0, { fz := true })]),
  (2, [(0, { nl := [(0, (.int .i64)), (1, (.pair (.int .i64) (.pair (.int .i64) (.pair (.int .i64) (.pair (.int .i64) (.pair (.int .i64) .unit)))))), (2, .bool), (8, (.pair (.sl (.int .i64)) (.pair (.int .i64) (.pair .bool (.pair (.int .i64) .unit)))))] })]),
  (4, [(5, { con := 1 })]),
  (5, [(2, { con := 2 })]),
  (6, [(1, { con := 3 })]),
  (8, [(5, { nl := [(8, (.pair (.sl (.int .i64)) (.pair (.int .i64) (.pair .bool (.pair (.int .i64) .unit)))))] })]),
  (11, [(4, { dp := true }), (5, { dp := true })])]
noncomputable def EiStateNew (N : Nat) : Env := { te := TE, cs := [coniConfigOk N, coniThingMake N, coniTableNew N, coniShapeSize N] }
noncomputable def diStateNew_0 : Desc := { n := 58, regs := [u, u, .one (.lit (.ptr 1000064 0)), u, u, u, u, u, u, u, .one (.lit (.ptr 1102784 0)), u, u, u, u, u, u, u, u, u, u, u, u, u, u, u, u, u, u, u, u, u, u, u, u, u, u, u, u, u, u, u, u, u, u, u, .one (.val (.int .i64)), .one (.val (.int .i64))], bx := [(1000064, .var [.lit .nil, .lit .nil, .lit .nil, .val (.int .i64), .val .bool, .val .bool, .val .bool, .val (.int .i64), .lit .nil, .lit .nil, .lit .nil, .val (.int .i64), .val (.int .i64)]), (1102784, .var [.lit (.row 1051521), .lit (.row 1064129), .lit (.row 1102656), .val (.int .i64), .val .bool, .val .bool, .val .bool, .val (.int .i64), .lit (.row 1102729), .lit .nil, .lit .nil, .val (.int .i64), .val (.int .i64)]), (1051521, .row (.int .i64)), (1064129, .row (.pair (.int .i64) (.pair (.int .i64) (.pair (.int .i64) (.pair (.int .i64) (.pair (.int .i64) .unit)))))), (1102656, .row .bool), (1102729, .row (.pair (.sl (.int .i64)) (.pair (.int .i64) (.pair .bool (.pair (.int .i64) .unit)))))], pins := [] }
noncomputable def oiStateNew_0 : Outs := [(.exit 0, { n := 58, regs := [u, u, .one (.lit (.ptr 1000064 0)), u, u, u, u, u, u, u, .one (.lit (.ptr 1102784 0))], bx := [(1000064, .var [.lit .nil, .lit .nil, .lit .nil, .val (.int .i64), .val .bool, .val .bool, .val .bool, .val (.int .i64), .lit .nil, .lit .nil, .lit .nil, .val (.int .i64), .val (.int .i64)]), (1102784, .var [.lit (.row 1051521), .lit (.row 1064129), .lit (.row 1102656), .val (.int .i64), .val .bool, .val .bool, .val .bool, .val (.int .i64), .lit (.row 1102729), .lit .nil, .lit .nil, .val (.int .i64), .val (.int .i64)]), (1051521, .row (.int .i64)), (1064129, .row (.pair (.int .i64) (.pair (.int .i64) (.pair (.int .i64) (.pair (.int .i64) (.pair (.int .i64) .unit)))))), (1102656, .row .bool), (1102729, .row (.pair (.sl (.int .i64)) (.pair (.int .i64) (.pair .bool (.pair (.int .i64) .unit)))))], pins := [] })]
noncomputable def liStateNew_0 (N : Nat) : Nat → (Int × (Int × (Int × (Bool × (Bool × (Bool × (Int × (Int × (Int × (Int × (Bool × (Bool × (Bool × (Int × (Int × (Int × ((List Int) × ((List (Int × (Int × (Int × (Int × (Int × Unit)))))) × ((List Bool) × ((List ((List Int) × (Int × (Bool × (Int × Unit))))) × Unit)))))))))))))))))))) → Option (Int × (Bool × (Bool × (Bool × (Int × (Int × (Int × (Int × (Bool × (Bool × (Bool × (Int × (Int × (Int × ((List Int) × ((List (Int × (Int × (Int × (Int × (Int × Unit)))))) × ((List Bool) × ((List ((List Int) × (Int × (Bool × (Int × Unit))))) × Unit))))))))))))))))))
  | 0, _ => none
  | n + 1, v =>
    bif decide (v.2.1 < v.1) then
     let y11 := [([(16 : Int)], (0 : Int), false, (0 : Int), ())]
     bif decide (v.2.2.2.2.2.2.2.2.2.2.2.2.2.2.2.2.2.2.2.1.length + y11.length ≤ lim) then
     let y12 := v.2.2.2.2.2.2.2.2.2.2.2.2.2.2.2.2.2.2.2.1 ++ y11
     liStateNew_0 N n (v.1, w64 (v.2.1 + (1 : Int)), v.2.2.1, v.2.2.2.1, v.2.2.2.2.1, v.2.2.2.2.2.1, v.2.2.2.2.2.2.1, v.2.2.2.2.2.2.2.1, v.2.2.2.2.2.2.2.2.1, v.2.2.2.2.2.2.2.2.2.1, v.2.2.2.2.2.2.2.2.2.2.1, v.2.2.2.2.2.2.2.2.2.2.2.1, v.2.2.2.2.2.2.2.2.2.2.2.2.1, v.2.2.2.2.2.2.2.2.2.2.2.2.2.1, v.2.2.2.2.2.2.2.2.2.2.2.2.2.2.1, v.2.2.2.2.2.2.2.2.2.2.2.2.2.2.2.1, v.2.2.2.2.2.2.2.2.2.2.2.2.2.2.2.2.1, v.2.2.2.2.2.2.2.2.2.2.2.2.2.2.2.2.2.1, v.2.2.2.2.2.2.2.2.2.2.2.2.2.2.2.2.2.2.1, y12, ())
     else none
    else
    some (v.2.2.1, v.2.2.2.1, v.2.2.2.2.1, v.2.2.2.2.2.1, v.2.2.2.2.2.2.1, v.2.2.2.2.2.2.2.1, v.2.2.2.2.2.2.2.2.1, v.2.2.2.2.2.2.2.2.2.1, v.2.2.2.2.2.2.2.2.2.2.1, v.2.2.2.2.2.2.2.2.2.2.2.1, v.2.2.2.2.2.2.2.2.2.2.2.2.1, v.2.2.2.2.2.2.2.2.2.2.2.2.2.1, v.2.2.2.2.2.2.2.2.2.2.2.2.2.2.1, v.2.2.2.2.2.2.2.2.2.2.2.2.2.2.2.1, v.2.2.2.2.2.2.2.2.2.2.2.2.2.2.2.2.1, v.2.2.2.2.2.2.2.2.2.2.2.2.2.2.2.2.2.1, v.2.2.2.2.2.2.2.2.2.2.2.2.2.2.2.2.2.2.1, v.2.2.2.2.2.2.2.2.2.2.2.2.2.2.2.2.2.2.2.1, ())
noncomputable def FiStateNew (N : Nat) (x : ((Int × (Int × (Int × Unit))) × Unit)) : Option (Int × (Bool × (Bool × (Bool × (Int × (Int × (Int × (Bool × ((List Int) × ((List (Int × (Int × (Int × (Int × (Int × Unit)))))) × ((List Bool) × ((List ((List Int) × (Int × (Bool × (Int × Unit))))) × Unit)))))))))))) :=
  (FiConfigOk N (x.1, ())).bind fun r1 =>
  bif !r1.1 then
   let y2 := ([] : (List (Int × (Int × (Int × (Int × (Int × Unit)))))))
   let y3 := ([] : (List ((List Int) × (Int × (Bool × (Int × Unit))))))
   some ((0 : Int), false, false, false, (0 : Int), (0 : Int), (0 : Int), false, ([] : (List Int)), y2, ([] : (List Bool)), y3, ())
  else
  bif decide (0 ≤ (w64 (x.1.1 * (16 : Int)))) then
  bif decide ((w64 (x.1.1 * (16 : Int))).toNat ≤ lim) then
  let y4 := List.replicate (w64 (x.1.1 * (16 : Int))).toNat (0 : Int)
  (FiThingMake N (y4, (16 : Int), ((4 : Int), (2 : Int), ()), ())).bind fun r5 =>
  (FiTableNew N (x.1.1, ())).bind fun r6 =>
  (FiShapeSize N (((4 : Int), (2 : Int), ()), ())).bind fun r7 =>
  bif decide (0 ≤ (1 : Int)) then
  bif decide ((1 : Int).toNat < r6.2.1.length) then
  let y8 := r6.2.1.set ((1 : Int).toNat) ((3 : Int), (-1 : Int), w64 ((16 : Int) + r7.1), w64 ((16 : Int) + r7.1), (0 : Int), ())
  bif decide (0 ≤ (r5.2.1.length : Int)) then
  bif decide ((r5.2.1.length : Int).toNat ≤ lim) then
  let y9 := List.replicate (r5.2.1.length : Int).toNat false
  let y10 := ([] : (List ((List Int) × (Int × (Bool × (Int × Unit))))))
  (liStateNew_0 N N (x.1.2.1, (0 : Int), (0 : Int), false, false, false, (0 : Int), (0 : Int), (0 : Int), (0 : Int), false, false, false, (0 : Int), (0 : Int), (0 : Int), r5.2.1, y8, y9, y10, ())).bind fun o13 =>
  some (o13.2.2.2.2.2.2.2.1, o13.2.2.2.2.2.2.2.2.1, o13.2.2.2.2.2.2.2.2.2.1, o13.2.2.2.2.2.2.2.2.2.2.1, o13.2.2.2.2.2.2.2.2.2.2.2.1, o13.2.2.2.2.2.2.2.2.2.2.2.2.1, o13.2.2.2.2.2.2.2.2.2.2.2.2.2.1, true, o13.2.2.2.2.2.2.2.2.2.2.2.2.2.2.1, o13.2.2.2.2.2.2.2.2.2.2.2.2.2.2.2.1, o13.2.2.2.2.2.2.2.2.2.2.2.2.2.2.2.2.1, o13.2.2.2.2.2.2.2.2.2.2.2.2.2.2.2.2.2.1, ())
  else none
  else none
  else none
  else none
  else none
  else none
noncomputable def coniStateNew (N : Nat) : Con := { f := 26, din := diniStateNew, outs := outiStateNew, F := FiStateNew N }
noncomputable def XiStateNew (N : Nat) : Ctx := { E := EiStateNew N, H := HiStateNew, lp := [(0, { hd := diStateNew_0, outs := oiStateNew_0, run := fun v => liStateNew_0 N N v })], jn := [] }
noncomputable def biStateNew_0 : Code := loopBody (codeOf Try.f26) 0
theorem FiStateNew_eq (N : Nat) (x : ((Int × (Int × (Int × Unit))) × Unit)) : evFn (XiStateNew N) Try.f26 diniStateNew outiStateNew x = FiStateNew N x := by kernel_rfl
theorem liStateNew_0_eq (N n : Nat) (v : (Int × (Int × (Int × (Bool × (Bool × (Bool × (Int × (Int × (Int × (Int × (Bool × (Bool × (Bool × (Int × (Int × (Int × ((List Int) × ((List (Int × (Int × (Int × (Int × (Int × Unit)))))) × ((List Bool) × ((List ((List Int) × (Int × (Bool × (Int × Unit))))) × Unit))))))))))))))))))))) : liStateNew_0 N (n + 1) v = ev (XiStateNew N) biStateNew_0 (roundK diStateNew_0 oiStateNew_0 (liStateNew_0 N n)) (diStateNew_0.mk' v) := by kernel_rfl
theorem cxiStateNew (N : Nat) : CtxOk Try.prog (XiStateNew N) := ⟨⟨TE_ok, List.forall_mem_cons.2 ⟨speciConfigOk N, List.forall_mem_cons.2 ⟨speciThingMake N, List.forall_mem_cons.2 ⟨speciTableNew N, List.forall_mem_cons.2 ⟨speciShapeSize N, fun k hk => absurd hk List.not_mem_nil⟩⟩⟩⟩⟩, mixed⟩
theorem lpiStateNew_0 (N : Nat) : LoopOk Try.prog { hd := diStateNew_0, outs := oiStateNew_0, run := fun v => liStateNew_0 N N v } biStateNew_0 :=
  loop_fuel (d := diStateNew_0) (os := oiStateNew_0) (cxiStateNew N) (loops_at (ids := []) (by kernel_rfl) (trivial)) (liStateNew_0 N) (fun _ => rfl) (fun n v => liStateNew_0_eq N n v) (fun _ => N)
theorem speciStateNew (N : Nat) : Spec Try.prog (coniStateNew N) :=
  Spec.of_eq (fn_spec (cxiStateNew N) (f := 26) (fn := Try.f26) (c := codeOf Try.f26) (by kernel_rfl) (by kernel_rfl) (by kernel_rfl) (loops_at (ids := [0]) (by kernel_rfl) ⟨lp_of (lpiStateNew_0 N), trivial⟩) (by kernel_rfl)) (fun x r h => (FiStateNew_eq N x).trans h)

/-! ### 19: laws.eqIntS -/

noncomputable def dinveqIntS : Desc := { n := 2, regs := [.one (.val (.sl (.int .i64))), .one (.val (.sl (.int .i64)))], bx := [], pins := [] }
noncomputable def outveqIntS : Outs := [(.ret, { n := 1, regs := [.one (.val .bool)], bx := [], pins := [] })]
noncomputable def HveqIntS : Hints := []
noncomputable def EveqIntS (_N : Nat) : Env := { te := TE, cs := [] }
noncomputable def dveqIntS_0 : Desc := { n := 26, regs := [.one (.val (.sl (.int .i64))), .one (.val (.sl (.int .i64))), u, u, u, .one (.val (.int .i64))], bx := [], pins := [] }
noncomputable def oveqIntS_0 : Outs := [(.exit 0, { n := 26, regs := [], bx := [], pins := [] }), (.ret, { n := 26, regs := [u, u, u, u, .one (.val .bool)], bx := [], pins := [] })]
noncomputable def lveqIntS_0 (N : Nat) : Nat → ((List Int) × ((List Int) × (Int × Unit))) → Option (Unit ⊕ (Bool × Unit))
  | 0, _ => none
  | n + 1, v =>
    let y2 := decide (v.2.2.1 < (v.1.length : Int))
    bif y2 then
     bif decide (0 ≤ v.2.2.1) then
     bif decide (v.2.2.1.toNat < v.1.length) then
     bif decide (0 ≤ v.2.2.1) then
     bif decide (v.2.2.1.toNat < v.2.1.length) then
     let y3 := (v.1.getD v.2.2.1.toNat (0 : Int)) != (v.2.1.getD v.2.2.1.toNat (0 : Int))
     bif y3 then
      some (.inr ((false, ())))
     else
     lveqIntS_0 N n (v.1, v.2.1, w64 (v.2.2.1 + (1 : Int)), ())
     else none
     else none
     else none
     else none
    else
    some (.inl ())
noncomputable def FveqIntS (N : Nat) (x : ((List Int) × ((List Int) × Unit))) : Option (Bool × Unit) :=
  let y1 := (x.1.length : Int) != (x.2.1.length : Int)
  bif y1 then
   some (false, ())
  else
  (lveqIntS_0 N N (x.1, x.2.1, (0 : Int), ())).bind fun o4 =>
  Sum.elim (fun o5 =>
   some (true, ())) (fun o6 =>
   some (o6.1, ())) o4
noncomputable def conveqIntS (N : Nat) : Con := { f := 19, din := dinveqIntS, outs := outveqIntS, F := FveqIntS N }
noncomputable def XveqIntS (N : Nat) : Ctx := { E := EveqIntS N, H := HveqIntS, lp := [(0, { hd := dveqIntS_0, outs := oveqIntS_0, run := fun v => lveqIntS_0 N N v })], jn := [] }
noncomputable def bveqIntS_0 : Code := loopBody (codeOf Try.f19) 0
theorem FveqIntS_eq (N : Nat) (x : ((List Int) × ((List Int) × Unit))) : evFn (XveqIntS N) Try.f19 dinveqIntS outveqIntS x = FveqIntS N x := by kernel_rfl
theorem lveqIntS_0_eq (N n : Nat) (v : ((List Int) × ((List Int) × (Int × Unit)))) : lveqIntS_0 N (n + 1) v = ev (XveqIntS N) bveqIntS_0 (roundK dveqIntS_0 oveqIntS_0 (lveqIntS_0 N n)) (dveqIntS_0.mk' v) := by kernel_rfl
theorem cxveqIntS (N : Nat) : CtxOk Try.prog (XveqIntS N) := ⟨⟨TE_ok, fun k hk => absurd hk List.not_mem_nil⟩, mixed⟩
theorem lpveqIntS_0 (N : Nat) : LoopOk Try.prog { hd := dveqIntS_0, outs := oveqIntS_0, run := fun v => lveqIntS_0 N N v } bveqIntS_0 :=
  loop_fuel (d := dveqIntS_0) (os := oveqIntS_0) (cxveqIntS N) (loops_at (ids := []) (by kernel_rfl) (trivial)) (lveqIntS_0 N) (fun _ => rfl) (fun n v => lveqIntS_0_eq N n v) (fun _ => N)
theorem specveqIntS (N : Nat) : Spec Try.prog (conveqIntS N) :=
  Spec.of_eq (fn_spec (cxveqIntS N) (f := 19) (fn := Try.f19) (c := codeOf Try.f19) (by kernel_rfl) (by kernel_rfl) (by kernel_rfl) (loops_at (ids := [0]) (by kernel_rfl) ⟨lp_of (lpveqIntS_0 N), trivial⟩) (by kernel_rfl)) (fun x r h => (FveqIntS_eq N x).trans h)

/-! ### 63: laws.eqRegion -/

noncomputable def dinveqRegion : Desc := { n := 2, regs := [.one (.val (.pair (.int .i64) (.pair (.int .i64) (.pair (.int .i64) (.pair (.int .i64) (.pair (.int .i64) .unit)))))), .one (.val (.pair (.int .i64) (.pair (.int .i64) (.pair (.int .i64) (.pair (.int .i64) (.pair (.int .i64) .unit))))))], bx := [], pins := [] }
noncomputable def outveqRegion : Outs := [(.ret, { n := 1, regs := [.one (.val .bool)], bx := [], pins := [] })]
noncomputable def HveqRegion : Hints := [(0, [(0, { fz := true }), (1, { fz := true })])]
noncomputable def EveqRegion (_N : Nat) : Env := { te := TE, cs := [] }
noncomputable def FveqRegion (N : Nat) (x : ((Int × (Int × (Int × (Int × (Int × Unit))))) × ((Int × (Int × (Int × (Int × (Int × Unit))))) × Unit))) : Option (Bool × Unit) :=
  bif x.1.1 != x.2.1.1 then
   some (false, ())
  else
  bif x.1.2.1 != x.2.1.2.1 then
   some (false, ())
  else
  bif x.1.2.2.1 != x.2.1.2.2.1 then
   some (false, ())
  else
  bif x.1.2.2.2.1 != x.2.1.2.2.2.1 then
   some (false, ())
  else
  bif x.1.2.2.2.2.1 != x.2.1.2.2.2.2.1 then
   some (false, ())
  else
  some (true, ())
noncomputable def conveqRegion (N : Nat) : Con := { f := 63, din := dinveqRegion, outs := outveqRegion, F := FveqRegion N }
noncomputable def XveqRegion (N : Nat) : Ctx := { E := EveqRegion N, H := HveqRegion, lp := [], jn := [] }
theorem FveqRegion_eq (N : Nat) (x : ((Int × (Int × (Int × (Int × (Int × Unit))))) × ((Int × (Int × (Int × (Int × (Int × Unit))))) × Unit))) : evFn (XveqRegion N) Try.f63 dinveqRegion outveqRegion x = FveqRegion N x := by kernel_rfl
theorem cxveqRegion (N : Nat) : CtxOk Try.prog (XveqRegion N) := ⟨⟨TE_ok, fun k hk => absurd hk List.not_mem_nil⟩, mixed⟩
theorem specveqRegion (N : Nat) : Spec Try.prog (conveqRegion N) :=
  Spec.of_eq (fn_spec (cxveqRegion N) (f := 63) (fn := Try.f63) (c := codeOf Try.f63) (by kernel_rfl) (by kernel_rfl) (by kernel_rfl) (loops_at (ids := []) (by kernel_rfl) (trivial)) (by kernel_rfl)) (fun x r h => (FveqRegion_eq N x).trans h)

/-! ### 20: laws.eqRegionS -/

noncomputable def dinveqRegionS : Desc := { n := 2, regs := [.one (.val (.sl (.pair (.int .i64) (.pair (.int .i64) (.pair (.int .i64) (.pair (.int .i64) (.pair (.int .i64) .unit))))))), .one (.val (.sl (.pair (.int .i64) (.pair (.int .i64) (.pair (.int .i64) (.pair (.int .i64) (.pair (.int .i64) .unit)))))))], bx := [], pins := [] }
noncomputable def outveqRegionS : Outs := [(.ret, { n := 1, regs := [.one (.val .bool)], bx := [], pins := [] })]
noncomputable def HveqRegionS : Hints := []
noncomputable def EveqRegionS (N : Nat) : Env := { te := TE, cs := [conveqRegion N] }
noncomputable def dveqRegionS_0 : Desc := { n := 27, regs := [.one (.val (.sl (.pair (.int .i64) (.pair (.int .i64) (.pair (.int .i64) (.pair (.int .i64) (.pair (.int .i64) .unit))))))), .one (.val (.sl (.pair (.int .i64) (.pair (.int .i64) (.pair (.int .i64) (.pair (.int .i64) (.pair (.int .i64) .unit))))))), u, u, u, .one (.val (.int .i64))], bx := [], pins := [] }
noncomputable def oveqRegionS_0 : Outs := [(.exit 0, { n := 27, regs := [], bx := [], pins := [] }), (.ret, { n := 27, regs := [u, u, u, u, .one (.val .bool)], bx := [], pins := [] })]
noncomputable def lveqRegionS_0 (N : Nat) : Nat → ((List (Int × (Int × (Int × (Int × (Int × Unit)))))) × ((List (Int × (Int × (Int × (Int × (Int × Unit)))))) × (Int × Unit))) → Option (Unit ⊕ (Bool × Unit))
  | 0, _ => none
  | n + 1, v =>
    let y2 := decide (v.2.2.1 < (v.1.length : Int))
    bif y2 then
     bif decide (0 ≤ v.2.2.1) then
     bif decide (v.2.2.1.toNat < v.1.length) then
     let y3 := v.1.getD v.2.2.1.toNat ((0 : Int), (0 : Int), (0 : Int), (0 : Int), (0 : Int), ())
     bif decide (0 ≤ v.2.2.1) then
     bif decide (v.2.2.1.toNat < v.2.1.length) then
     let y4 := v.2.1.getD v.2.2.1.toNat ((0 : Int), (0 : Int), (0 : Int), (0 : Int), (0 : Int), ())
     (FveqRegion N (y3, y4, ())).bind fun r5 =>
     bif !r5.1 then
      some (.inr ((false, ())))
     else
     lveqRegionS_0 N n (v.1, v.2.1, w64 (v.2.2.1 + (1 : Int)), ())
     else none
     else none
     else none
     else none
    else
    some (.inl ())
noncomputable def FveqRegionS (N : Nat) (x : ((List (Int × (Int × (Int × (Int × (Int × Unit)))))) × ((List (Int × (Int × (Int × (Int × (Int × Unit)))))) × Unit))) : Option (Bool × Unit) :=
  let y1 := (x.1.length : Int) != (x.2.1.length : Int)
  bif y1 then
   some (false, ())
  else
  (lveqRegionS_0 N N (x.1, x.2.1, (0 : Int), ())).bind fun o6 =>
  Sum.elim (fun o7 =>
   some (true, ())) (fun o8 =>
   some (o8.1, ())) o6
noncomputable def conveqRegionS (N : Nat) : Con := { f := 20, din := dinveqRegionS, outs := outveqRegionS, F := FveqRegionS N }
noncomputable def XveqRegionS (N : Nat) : Ctx := { E := EveqRegionS N, H := HveqRegionS, lp := [(0, { hd := dveqRegionS_0, outs := oveqRegionS_0, run := fun v => lveqRegionS_0 N N v })], jn := [] }
noncomputable def bveqRegionS_0 : Code := loopBody (codeOf Try.f20) 0
theorem FveqRegionS_eq (N : Nat) (x : ((List (Int × (Int × (Int × (Int × (Int × Unit)))))) × ((List (Int × (Int × (Int × (Int × (Int × Unit)))))) × Unit))) : evFn (XveqRegionS N) Try.f20 dinveqRegionS outveqRegionS x = FveqRegionS N x := by kernel_rfl
theorem lveqRegionS_0_eq (N n : Nat) (v : ((List (Int × (Int × (Int × (Int × (Int × Unit)))))) × ((List (Int × (Int × (Int × (Int × (Int × Unit)))))) × (Int × Unit)))) : lveqRegionS_0 N (n + 1) v = ev (XveqRegionS N) bveqRegionS_0 (roundK dveqRegionS_0 oveqRegionS_0 (lveqRegionS_0 N n)) (dveqRegionS_0.mk' v) := by kernel_rfl
theorem cxveqRegionS (N : Nat) : CtxOk Try.prog (XveqRegionS N) := ⟨⟨TE_ok, List.forall_mem_cons.2 ⟨specveqRegion N, fun k hk => absurd hk List.not_mem_nil⟩⟩, mixed⟩
theorem lpveqRegionS_0 (N : Nat) : LoopOk Try.prog { hd := dveqRegionS_0, outs := oveqRegionS_0, run := fun v => lveqRegionS_0 N N v } bveqRegionS_0 :=
  loop_fuel (d := dveqRegionS_0) (os := oveqRegionS_0) (cxveqRegionS N) (loops_at (ids := []) (by kernel_rfl) (trivial)) (lveqRegionS_0 N) (fun _ => rfl) (fun n v => lveqRegionS_0_eq N n v) (fun _ => N)
theorem specveqRegionS (N : Nat) : Spec Try.prog (conveqRegionS N) :=
  Spec.of_eq (fn_spec (cxveqRegionS N) (f := 20) (fn := Try.f20) (c := codeOf Try.f20) (by kernel_rfl) (by kernel_rfl) (by kernel_rfl) (loops_at (ids := [0]) (by kernel_rfl) ⟨lp_of (lpveqRegionS_0 N), trivial⟩) (by kernel_rfl)) (fun x r h => (FveqRegionS_eq N x).trans h)

/-! ### 48: laws.eqBoolS -/

noncomputable def dinveqBoolS : Desc := { n := 2, regs := [.one (.val (.sl .bool)), .one (.val (.sl .bool))], bx := [], pins := [] }
noncomputable def outveqBoolS : Outs := [(.ret, { n := 1, regs := [.one (.val .bool)], bx := [], pins := [] })]
noncomputable def HveqBoolS : Hints := []
noncomputable def EveqBoolS (_N : Nat) : Env := { te := TE, cs := [] }
noncomputable def dveqBoolS_0 : Desc := { n := 26, regs := [.one (.val (.sl .bool)), .one (.val (.sl .bool)), u, u, u, .one (.val (.int .i64))], bx := [], pins := [] }
noncomputable def oveqBoolS_0 : Outs := [(.exit 0, { n := 26, regs := [], bx := [], pins := [] }), (.ret, { n := 26, regs := [u, u, u, u, .one (.val .bool)], bx := [], pins := [] })]
noncomputable def lveqBoolS_0 (N : Nat) : Nat → ((List Bool) × ((List Bool) × (Int × Unit))) → Option (Unit ⊕ (Bool × Unit))
  | 0, _ => none
  | n + 1, v =>
    let y2 := decide (v.2.2.1 < (v.1.length : Int))
    bif y2 then
     bif decide (0 ≤ v.2.2.1) then
     bif decide (v.2.2.1.toNat < v.1.length) then
     bif decide (0 ≤ v.2.2.1) then
     bif decide (v.2.2.1.toNat < v.2.1.length) then
     let y3 := !((v.1.getD v.2.2.1.toNat false) == (v.2.1.getD v.2.2.1.toNat false))
     bif y3 then
      some (.inr ((false, ())))
     else
     lveqBoolS_0 N n (v.1, v.2.1, w64 (v.2.2.1 + (1 : Int)), ())
     else none
     else none
     else none
     else none
    else
    some (.inl ())
noncomputable def FveqBoolS (N : Nat) (x : ((List Bool) × ((List Bool) × Unit))) : Option (Bool × Unit) :=
  let y1 := (x.1.length : Int) != (x.2.1.length : Int)
  bif y1 then
   some (false, ())
  else
  (lveqBoolS_0 N N (x.1, x.2.1, (0 : Int), ())).bind fun o4 =>
  Sum.elim (fun o5 =>
   some (true, ())) (fun o6 =>
   some (o6.1, ())) o4
noncomputable def conveqBoolS (N : Nat) : Con := { f := 48, din := dinveqBoolS, outs := outveqBoolS, F := FveqBoolS N }
noncomputable def XveqBoolS (N : Nat) : Ctx := { E := EveqBoolS N, H := HveqBoolS, lp := [(0, { hd := dveqBoolS_0, outs := oveqBoolS_0, run := fun v => lveqBoolS_0 N N v })], jn := [] }
noncomputable def bveqBoolS_0 : Code := loopBody (codeOf Try.f48) 0
theorem FveqBoolS_eq (N : Nat) (x : ((List Bool) × ((List Bool) × Unit))) : evFn (XveqBoolS N) Try.f48 dinveqBoolS outveqBoolS x = FveqBoolS N x := by kernel_rfl
theorem lveqBoolS_0_eq (N n : Nat) (v : ((List Bool) × ((List Bool) × (Int × Unit)))) : lveqBoolS_0 N (n + 1) v = ev (XveqBoolS N) bveqBoolS_0 (roundK dveqBoolS_0 oveqBoolS_0 (lveqBoolS_0 N n)) (dveqBoolS_0.mk' v) := by kernel_rfl
theorem cxveqBoolS (N : Nat) : CtxOk Try.prog (XveqBoolS N) := ⟨⟨TE_ok, fun k hk => absurd hk List.not_mem_nil⟩, mixed⟩
theorem lpveqBoolS_0 (N : Nat) : LoopOk Try.prog { hd := dveqBoolS_0, outs := oveqBoolS_0, run := fun v => lveqBoolS_0 N N v } bveqBoolS_0 :=
  loop_fuel (d := dveqBoolS_0) (os := oveqBoolS_0) (cxveqBoolS N) (loops_at (ids := []) (by kernel_rfl) (trivial)) (lveqBoolS_0 N) (fun _ => rfl) (fun n v => lveqBoolS_0_eq N n v) (fun _ => N)
theorem specveqBoolS (N : Nat) : Spec Try.prog (conveqBoolS N) :=
  Spec.of_eq (fn_spec (cxveqBoolS N) (f := 48) (fn := Try.f48) (c := codeOf Try.f48) (by kernel_rfl) (by kernel_rfl) (by kernel_rfl) (loops_at (ids := [0]) (by kernel_rfl) ⟨lp_of (lpveqBoolS_0 N), trivial⟩) (by kernel_rfl)) (fun x r h => (FveqBoolS_eq N x).trans h)

/-! ### 112: laws.eqThread -/

noncomputable def dinveqThread : Desc := { n := 2, regs := [.one (.val (.pair (.sl (.int .i64)) (.pair (.int .i64) (.pair .bool (.pair (.int .i64) .unit))))), .one (.val (.pair (.sl (.int .i64)) (.pair (.int .i64) (.pair .bool (.pair (.int .i64) .unit)))))], bx := [], pins := [] }
noncomputable def outveqThread : Outs := [(.ret, { n := 1, regs := [.one (.val .bool)], bx := [], pins := [] })]
noncomputable def HveqThread : Hints := [(0, [(0, { fz := true }), (1, { fz := true })])]
noncomputable def EveqThread (N : Nat) : Env := { te := TE, cs := [conveqIntS N] }
noncomputable def FveqThread (N : Nat) (x : (((List Int) × (Int × (Bool × (Int × Unit)))) × (((List Int) × (Int × (Bool × (Int × Unit)))) × Unit))) : Option (Bool × Unit) :=
  (FveqIntS N (x.1.1, x.2.1.1, ())).bind fun r1 =>
  bif !r1.1 then
   some (false, ())
  else
  bif x.1.2.1 != x.2.1.2.1 then
   some (false, ())
  else
  bif !(x.1.2.2.1 == x.2.1.2.2.1) then
   some (false, ())
  else
  bif x.1.2.2.2.1 != x.2.1.2.2.2.1 then
   some (false, ())
  else
  some (true, ())
noncomputable def conveqThread (N : Nat) : Con := { f := 112, din := dinveqThread, outs := outveqThread, F := FveqThread N }
noncomputable def XveqThread (N : Nat) : Ctx := { E := EveqThread N, H := HveqThread, lp := [], jn := [] }
theorem FveqThread_eq (N : Nat) (x : (((List Int) × (Int × (Bool × (Int × Unit)))) × (((List Int) × (Int × (Bool × (Int × Unit)))) × Unit))) : evFn (XveqThread N) Try.f112 dinveqThread outveqThread x = FveqThread N x := by kernel_rfl
theorem cxveqThread (N : Nat) : CtxOk Try.prog (XveqThread N) := ⟨⟨TE_ok, List.forall_mem_cons.2 ⟨specveqIntS N, fun k hk => absurd hk List.not_mem_nil⟩⟩, mixed⟩
theorem specveqThread (N : Nat) : Spec Try.prog (conveqThread N) :=
  Spec.of_eq (fn_spec (cxveqThread N) (f := 112) (fn := Try.f112) (c := codeOf Try.f112) (by kernel_rfl) (by kernel_rfl) (by kernel_rfl) (loops_at (ids := []) (by kernel_rfl) (trivial)) (by kernel_rfl)) (fun x r h => (FveqThread_eq N x).trans h)

/-! ### 72: laws.eqThreadS -/

noncomputable def dinveqThreadS : Desc := { n := 2, regs := [.one (.val (.sl (.pair (.sl (.int .i64)) (.pair (.int .i64) (.pair .bool (.pair (.int .i64) .unit)))))), .one (.val (.sl (.pair (.sl (.int .i64)) (.pair (.int .i64) (.pair .bool (.pair (.int .i64) .unit))))))], bx := [], pins := [] }
noncomputable def outveqThreadS : Outs := [(.ret, { n := 1, regs := [.one (.val .bool)], bx := [], pins := [] })]
noncomputable def HveqThreadS : Hints := []
noncomputable def EveqThreadS (N : Nat) : Env := { te := TE, cs := [conveqThread N] }
noncomputable def dveqThreadS_0 : Desc := { n := 27, regs := [.one (.val (.sl (.pair (.sl (.int .i64)) (.pair (.int .i64) (.pair .bool (.pair (.int .i64) .unit)))))), .one (.val (.sl (.pair (.sl (.int .i64)) (.pair (.int .i64) (.pair .bool (.pair (.int .i64) .unit)))))), u, u, u, .one (.val (.int .i64))], bx := [], pins := [] }
noncomputable def oveqThreadS_0 : Outs := [(.exit 0, { n := 27, regs := [], bx := [], pins := [] }), (.ret, { n := 27, regs := [u, u, u, u, .one (.val .bool)], bx := [], pins := [] })]
noncomputable def lveqThreadS_0 (N : Nat) : Nat → ((List ((List Int) × (Int × (Bool × (Int × Unit))))) × ((List ((List Int) × (Int × (Bool × (Int × Unit))))) × (Int × Unit))) → Option (Unit ⊕ (Bool × Unit))
  | 0, _ => none
  | n + 1, v =>
    let y2 := decide (v.2.2.1 < (v.1.length : Int))
    bif y2 then
     bif decide (0 ≤ v.2.2.1) then
     bif decide (v.2.2.1.toNat < v.1.length) then
     let y3 := v.1.getD v.2.2.1.toNat (([] : (List Int)), (0 : Int), false, (0 : Int), ())
     bif decide (0 ≤ v.2.2.1) then
     bif decide (v.2.2.1.toNat < v.2.1.length) then
     let y4 := v.2.1.getD v.2.2.1.toNat (([] : (List Int)), (0 : Int), false, (0 : Int), ())
     (FveqThread N (y3, y4, ())).bind fun r5 =>
     bif !r5.1 then
      some (.inr ((false, ())))
     else
     lveqThreadS_0 N n (v.1, v.2.1, w64 (v.2.2.1 + (1 : Int)), ())
     else none
     else none
     else none
     else none
    else
    some (.inl ())
noncomputable def FveqThreadS (N : Nat) (x : ((List ((List Int) × (Int × (Bool × (Int × Unit))))) × ((List ((List Int) × (Int × (Bool × (Int × Unit))))) × Unit))) : Option (Bool × Unit) :=
  let y1 := (x.1.length : Int) != (x.2.1.length : Int)
  bif y1 then
   some (false, ())
  else
  (lveqThreadS_0 N N (x.1, x.2.1, (0 : Int), ())).bind fun o6 =>
  Sum.elim (fun o7 =>
   some (true, ())) (fun o8 =>
   some (o8.1, ())) o6
noncomputable def conveqThreadS (N : Nat) : Con := { f := 72, din := dinveqThreadS, outs := outveqThreadS, F := FveqThreadS N }
noncomputable def XveqThreadS (N : Nat) : Ctx := { E := EveqThreadS N, H := HveqThreadS, lp := [(0, { hd := dveqThreadS_0, outs := oveqThreadS_0, run := fun v => lveqThreadS_0 N N v })], jn := [] }
noncomputable def bveqThreadS_0 : Code := loopBody (codeOf Try.f72) 0
theorem FveqThreadS_eq (N : Nat) (x : ((List ((List Int) × (Int × (Bool × (Int × Unit))))) × ((List ((List Int) × (Int × (Bool × (Int × Unit))))) × Unit))) : evFn (XveqThreadS N) Try.f72 dinveqThreadS outveqThreadS x = FveqThreadS N x := by kernel_rfl
theorem lveqThreadS_0_eq (N n : Nat) (v : ((List ((List Int) × (Int × (Bool × (Int × Unit))))) × ((List ((List Int) × (Int × (Bool × (Int × Unit))))) × (Int × Unit)))) : lveqThreadS_0 N (n + 1) v = ev (XveqThreadS N) bveqThreadS_0 (roundK dveqThreadS_0 oveqThreadS_0 (lveqThreadS_0 N n)) (dveqThreadS_0.mk' v) := by kernel_rfl
theorem cxveqThreadS (N : Nat) : CtxOk Try.prog (XveqThreadS N) := ⟨⟨TE_ok, List.forall_mem_cons.2 ⟨specveqThread N, fun k hk => absurd hk List.not_mem_nil⟩⟩, mixed⟩
theorem lpveqThreadS_0 (N : Nat) : LoopOk Try.prog { hd := dveqThreadS_0, outs := oveqThreadS_0, run := fun v => lveqThreadS_0 N N v } bveqThreadS_0 :=
  loop_fuel (d := dveqThreadS_0) (os := oveqThreadS_0) (cxveqThreadS N) (loops_at (ids := []) (by kernel_rfl) (trivial)) (lveqThreadS_0 N) (fun _ => rfl) (fun n v => lveqThreadS_0_eq N n v) (fun _ => N)
theorem specveqThreadS (N : Nat) : Spec Try.prog (conveqThreadS N) :=
  Spec.of_eq (fn_spec (cxveqThreadS N) (f := 72) (fn := Try.f72) (c := codeOf Try.f72) (by kernel_rfl) (by kernel_rfl) (by kernel_rfl) (loops_at (ids := [0]) (by kernel_rfl) ⟨lp_of (lpveqThreadS_0 N), trivial⟩) (by kernel_rfl)) (fun x r h => (FveqThreadS_eq N x).trans h)

/-! ### 27: laws.eqState -/

noncomputable def dinveqState : Desc := { n := 2, regs := [.one (.val (.pair (.sl (.int .i64)) (.pair (.sl (.pair (.int .i64) (.pair (.int .i64) (.pair (.int .i64) (.pair (.int .i64) (.pair (.int .i64) .unit)))))) (.pair (.sl .bool) (.pair (.int .i64) (.pair .bool (.pair .bool (.pair .bool (.pair (.int .i64) (.pair (.sl (.pair (.sl (.int .i64)) (.pair (.int .i64) (.pair .bool (.pair (.int .i64) .unit))))) (.pair (.sl (.int .i64)) (.pair (.sl (.int .i64)) (.pair (.int .i64) (.pair (.int .i64) .unit)))))))))))))), .one (.val (.pair (.sl (.int .i64)) (.pair (.sl (.pair (.int .i64) (.pair (.int .i64) (.pair (.int .i64) (.pair (.int .i64) (.pair (.int .i64) .unit)))))) (.pair (.sl .bool) (.pair (.int .i64) (.pair .bool (.pair .bool (.pair .bool (.pair (.int .i64) (.pair (.sl (.pair (.sl (.int .i64)) (.pair (.int .i64) (.pair .bool (.pair (.int .i64) .unit))))) (.pair (.sl (.int .i64)) (.pair (.sl (.int .i64)) (.pair (.int .i64) (.pair (.int .i64) .unit))))))))))))))], bx := [], pins := [] }
noncomputable def outveqState : Outs := [(.ret, { n := 1, regs := [.one (.val .bool)], bx := [], pins := [] })]
noncomputable def HveqState : Hints := [(0, [(0, { fz := true }), (1, { fz := true })]),
  (3, [(4, { con := 1 })]),
  (5, [(4, { con := 2 })]),
  (17, [(4, { con := 3 })])]
noncomputable def EveqState (N : Nat) : Env := { te := TE, cs := [conveqIntS N, conveqRegionS N, conveqBoolS N, conveqThreadS N] }
noncomputable def FveqState (N : Nat) (x : (((List Int) × ((List (Int × (Int × (Int × (Int × (Int × Unit)))))) × ((List Bool) × (Int × (Bool × (Bool × (Bool × (Int × ((List ((List Int) × (Int × (Bool × (Int × Unit))))) × ((List Int) × ((List Int) × (Int × (Int × Unit))))))))))))) × (((List Int) × ((List (Int × (Int × (Int × (Int × (Int × Unit)))))) × ((List Bool) × (Int × (Bool × (Bool × (Bool × (Int × ((List ((List Int) × (Int × (Bool × (Int × Unit))))) × ((List Int) × ((List Int) × (Int × (Int × Unit))))))))))))) × Unit))) : Option (Bool × Unit) :=
  (FveqIntS N (x.1.1, x.2.1.1, ())).bind fun r1 =>
  bif !r1.1 then
   some (false, ())
  else
  (FveqRegionS N (x.1.2.1, x.2.1.2.1, ())).bind fun r2 =>
  bif !r2.1 then
   some (false, ())
  else
  (FveqBoolS N (x.1.2.2.1, x.2.1.2.2.1, ())).bind fun r3 =>
  bif !r3.1 then
   some (false, ())
  else
  bif x.1.2.2.2.1 != x.2.1.2.2.2.1 then
   some (false, ())
  else
  bif !(x.1.2.2.2.2.1 == x.2.1.2.2.2.2.1) then
   some (false, ())
  else
  let y4 := !(x.1.2.2.2.2.2.1 == x.2.1.2.2.2.2.2.1)
  bif y4 then
   some (false, ())
  else
  let y5 := !(x.1.2.2.2.2.2.2.1 == x.2.1.2.2.2.2.2.2.1)
  bif y5 then
   some (false, ())
  else
  let y6 := x.1.2.2.2.2.2.2.2.1 != x.2.1.2.2.2.2.2.2.2.1
  bif y6 then
   some (false, ())
  else
  (FveqThreadS N (x.1.2.2.2.2.2.2.2.2.1, x.2.1.2.2.2.2.2.2.2.2.1, ())).bind fun r7 =>
  bif !r7.1 then
   some (false, ())
  else
  (FveqIntS N (x.1.2.2.2.2.2.2.2.2.2.1, x.2.1.2.2.2.2.2.2.2.2.2.1, ())).bind fun r8 =>
  bif !r8.1 then
   some (false, ())
  else
  (FveqIntS N (x.1.2.2.2.2.2.2.2.2.2.2.1, x.2.1.2.2.2.2.2.2.2.2.2.2.1, ())).bind fun r9 =>
  bif !r9.1 then
   some (false, ())
  else
  let y10 := x.1.2.2.2.2.2.2.2.2.2.2.2.1 != x.2.1.2.2.2.2.2.2.2.2.2.2.2.1
  bif y10 then
   some (false, ())
  else
  let y11 := x.1.2.2.2.2.2.2.2.2.2.2.2.2.1 != x.2.1.2.2.2.2.2.2.2.2.2.2.2.2.1
  bif y11 then
   some (false, ())
  else
  some (true, ())
noncomputable def conveqState (N : Nat) : Con := { f := 27, din := dinveqState, outs := outveqState, F := FveqState N }
noncomputable def XveqState (N : Nat) : Ctx := { E := EveqState N, H := HveqState, lp := [], jn := [] }
theorem FveqState_eq (N : Nat) (x : (((List Int) × ((List (Int × (Int × (Int × (Int × (Int × Unit)))))) × ((List Bool) × (Int × (Bool × (Bool × (Bool × (Int × ((List ((List Int) × (Int × (Bool × (Int × Unit))))) × ((List Int) × ((List Int) × (Int × (Int × Unit))))))))))))) × (((List Int) × ((List (Int × (Int × (Int × (Int × (Int × Unit)))))) × ((List Bool) × (Int × (Bool × (Bool × (Bool × (Int × ((List ((List Int) × (Int × (Bool × (Int × Unit))))) × ((List Int) × ((List Int) × (Int × (Int × Unit))))))))))))) × Unit))) : evFn (XveqState N) Try.f27 dinveqState outveqState x = FveqState N x := by kernel_rfl
theorem cxveqState (N : Nat) : CtxOk Try.prog (XveqState N) := ⟨⟨TE_ok, List.forall_mem_cons.2 ⟨specveqIntS N, List.forall_mem_cons.2 ⟨specveqRegionS N, List.forall_mem_cons.2 ⟨specveqBoolS N, List.forall_mem_cons.2 ⟨specveqThreadS N, fun k hk => absurd hk List.not_mem_nil⟩⟩⟩⟩⟩, mixed⟩
theorem specveqState (N : Nat) : Spec Try.prog (conveqState N) :=
  Spec.of_eq (fn_spec (cxveqState N) (f := 27) (fn := Try.f27) (c := codeOf Try.f27) (by kernel_rfl) (by kernel_rfl) (by kernel_rfl) (loops_at (ids := []) (by kernel_rfl) (trivial)) (by kernel_rfl)) (fun x r h => (FveqState_eq N x).trans h)

/-! ### 22: laws.markIntS -/

noncomputable def dinvmarkIntS : Desc := { n := 2, regs := [.one (.lit (.row 0)), .one (.val (.int .i64))], bx := [(0, .row (.int .i64))], pins := [] }
noncomputable def outvmarkIntS : Outs := [(.ret, { n := 1, regs := [.one (.val (.int .i64))], bx := [(0, .row (.int .i64))], pins := [.one (.lit (.row 0))] })]
noncomputable def HvmarkIntS : Hints := []
noncomputable def EvmarkIntS (_N : Nat) : Env := { te := TE, cs := [] }
noncomputable def dvmarkIntS_0 : Desc := { n := 19, regs := [.one (.lit (.row 0)), .one (.val (.int .i64)), u, u, u, .one (.val (.int .i64))], bx := [(0, .row (.int .i64))], pins := [.one (.lit (.row 0))] }
noncomputable def ovmarkIntS_0 : Outs := [(.exit 0, { n := 19, regs := [u, .one (.val (.int .i64))], bx := [(0, .row (.int .i64))], pins := [.one (.lit (.row 0))] })]
noncomputable def lvmarkIntS_0 (N : Nat) : Nat → (Int × (Int × ((List Int) × Unit))) → Option (Int × ((List Int) × Unit))
  | 0, _ => none
  | n + 1, v =>
    let y1 := decide (v.2.1 < (v.2.2.1.length : Int))
    bif y1 then
     bif decide (0 ≤ v.2.1) then
     bif decide (v.2.1.toNat < v.2.2.1.length) then
     lvmarkIntS_0 N n (w64 (v.1 + (1 : Int)), w64 (v.2.1 + (1 : Int)), v.2.2.1.set v.2.1.toNat v.1, ())
     else none
     else none
    else
    some (v.1, v.2.2.1, ())
noncomputable def FvmarkIntS (N : Nat) (x : (Int × ((List Int) × Unit))) : Option (Int × ((List Int) × Unit)) :=
  (lvmarkIntS_0 N N (x.1, (0 : Int), x.2.1, ())).bind fun o2 =>
  some (o2.1, o2.2.1, ())
noncomputable def convmarkIntS (N : Nat) : Con := { f := 22, din := dinvmarkIntS, outs := outvmarkIntS, F := FvmarkIntS N }
noncomputable def XvmarkIntS (N : Nat) : Ctx := { E := EvmarkIntS N, H := HvmarkIntS, lp := [(0, { hd := dvmarkIntS_0, outs := ovmarkIntS_0, run := fun v => lvmarkIntS_0 N N v })], jn := [] }
noncomputable def bvmarkIntS_0 : Code := loopBody (codeOf Try.f22) 0
theorem FvmarkIntS_eq (N : Nat) (x : (Int × ((List Int) × Unit))) : evFn (XvmarkIntS N) Try.f22 dinvmarkIntS outvmarkIntS x = FvmarkIntS N x := by kernel_rfl
theorem lvmarkIntS_0_eq (N n : Nat) (v : (Int × (Int × ((List Int) × Unit)))) : lvmarkIntS_0 N (n + 1) v = ev (XvmarkIntS N) bvmarkIntS_0 (roundK dvmarkIntS_0 ovmarkIntS_0 (lvmarkIntS_0 N n)) (dvmarkIntS_0.mk' v) := by kernel_rfl
theorem cxvmarkIntS (N : Nat) : CtxOk Try.prog (XvmarkIntS N) := ⟨⟨TE_ok, fun k hk => absurd hk List.not_mem_nil⟩, mixed⟩
theorem lpvmarkIntS_0 (N : Nat) : LoopOk Try.prog { hd := dvmarkIntS_0, outs := ovmarkIntS_0, run := fun v => lvmarkIntS_0 N N v } bvmarkIntS_0 :=
  loop_fuel (d := dvmarkIntS_0) (os := ovmarkIntS_0) (cxvmarkIntS N) (loops_at (ids := []) (by kernel_rfl) (trivial)) (lvmarkIntS_0 N) (fun _ => rfl) (fun n v => lvmarkIntS_0_eq N n v) (fun _ => N)
theorem specvmarkIntS (N : Nat) : Spec Try.prog (convmarkIntS N) :=
  Spec.of_eq (fn_spec (cxvmarkIntS N) (f := 22) (fn := Try.f22) (c := codeOf Try.f22) (by kernel_rfl) (by kernel_rfl) (by kernel_rfl) (loops_at (ids := [0]) (by kernel_rfl) ⟨lp_of (lpvmarkIntS_0 N), trivial⟩) (by kernel_rfl)) (fun x r h => (FvmarkIntS_eq N x).trans h)

/-! ### 21: laws.markRegionS -/

noncomputable def dinvmarkRegionS : Desc := { n := 2, regs := [.one (.lit (.row 0)), .one (.val (.int .i64))], bx := [(0, .row (.pair (.int .i64) (.pair (.int .i64) (.pair (.int .i64) (.pair (.int .i64) (.pair (.int .i64) .unit))))))], pins := [] }
noncomputable def outvmarkRegionS : Outs := [(.ret, { n := 1, regs := [.one (.val (.int .i64))], bx := [(0, .row (.pair (.int .i64) (.pair (.int .i64) (.pair (.int .i64) (.pair (.int .i64) (.pair (.int .i64) .unit))))))], pins := [.one (.lit (.row 0))] })]
noncomputable def HvmarkRegionS : Hints := []
noncomputable def EvmarkRegionS (_N : Nat) : Env := { te := TE, cs := [] }
noncomputable def dvmarkRegionS_0 : Desc := { n := 48, regs := [.one (.lit (.row 0)), .one (.val (.int .i64)), u, u, u, .one (.val (.int .i64))], bx := [(0, .row (.pair (.int .i64) (.pair (.int .i64) (.pair (.int .i64) (.pair (.int .i64) (.pair (.int .i64) .unit))))))], pins := [.one (.lit (.row 0))] }
noncomputable def ovmarkRegionS_0 : Outs := [(.exit 0, { n := 48, regs := [u, .one (.val (.int .i64))], bx := [(0, .row (.pair (.int .i64) (.pair (.int .i64) (.pair (.int .i64) (.pair (.int .i64) (.pair (.int .i64) .unit))))))], pins := [.one (.lit (.row 0))] })]
noncomputable def lvmarkRegionS_0 (N : Nat) : Nat → (Int × (Int × ((List (Int × (Int × (Int × (Int × (Int × Unit)))))) × Unit))) → Option (Int × ((List (Int × (Int × (Int × (Int × (Int × Unit)))))) × Unit))
  | 0, _ => none
  | n + 1, v =>
    let y1 := decide (v.2.1 < (v.2.2.1.length : Int))
    bif y1 then
     bif decide (0 ≤ v.2.1) then
     bif decide (v.2.1.toNat < v.2.2.1.length) then
     let y2 := v.2.2.1.set v.2.1.toNat (v.1, (v.2.2.1.getD v.2.1.toNat ((0 : Int), (0 : Int), (0 : Int), (0 : Int), (0 : Int), ())).2)
     bif decide (0 ≤ v.2.1) then
     bif decide (v.2.1.toNat < y2.length) then
     let y3 := y2.set v.2.1.toNat ((y2.getD v.2.1.toNat ((0 : Int), (0 : Int), (0 : Int), (0 : Int), (0 : Int), ())).1, w64 (v.1 + (1 : Int)), ((y2.getD v.2.1.toNat ((0 : Int), (0 : Int), (0 : Int), (0 : Int), (0 : Int), ())).2).2)
     let y4 := w64 ((w64 (v.1 + (1 : Int))) + (1 : Int))
     bif decide (0 ≤ v.2.1) then
     bif decide (v.2.1.toNat < y3.length) then
     let y5 := y3.set v.2.1.toNat ((y3.getD v.2.1.toNat ((0 : Int), (0 : Int), (0 : Int), (0 : Int), (0 : Int), ())).1, ((y3.getD v.2.1.toNat ((0 : Int), (0 : Int), (0 : Int), (0 : Int), (0 : Int), ())).2).1, y4, (((y3.getD v.2.1.toNat ((0 : Int), (0 : Int), (0 : Int), (0 : Int), (0 : Int), ())).2).2).2)
     bif decide (0 ≤ v.2.1) then
     bif decide (v.2.1.toNat < y5.length) then
     let y6 := y5.set v.2.1.toNat ((y5.getD v.2.1.toNat ((0 : Int), (0 : Int), (0 : Int), (0 : Int), (0 : Int), ())).1, ((y5.getD v.2.1.toNat ((0 : Int), (0 : Int), (0 : Int), (0 : Int), (0 : Int), ())).2).1, (((y5.getD v.2.1.toNat ((0 : Int), (0 : Int), (0 : Int), (0 : Int), (0 : Int), ())).2).2).1, w64 (y4 + (1 : Int)), ((((y5.getD v.2.1.toNat ((0 : Int), (0 : Int), (0 : Int), (0 : Int), (0 : Int), ())).2).2).2).2)
     let y7 := w64 ((w64 (y4 + (1 : Int))) + (1 : Int))
     bif decide (0 ≤ v.2.1) then
     bif decide (v.2.1.toNat < y6.length) then
     let y8 := y6.set v.2.1.toNat ((y6.getD v.2.1.toNat ((0 : Int), (0 : Int), (0 : Int), (0 : Int), (0 : Int), ())).1, ((y6.getD v.2.1.toNat ((0 : Int), (0 : Int), (0 : Int), (0 : Int), (0 : Int), ())).2).1, (((y6.getD v.2.1.toNat ((0 : Int), (0 : Int), (0 : Int), (0 : Int), (0 : Int), ())).2).2).1, ((((y6.getD v.2.1.toNat ((0 : Int), (0 : Int), (0 : Int), (0 : Int), (0 : Int), ())).2).2).2).1, y7, (((((y6.getD v.2.1.toNat ((0 : Int), (0 : Int), (0 : Int), (0 : Int), (0 : Int), ())).2).2).2).2).2)
     lvmarkRegionS_0 N n (w64 (y7 + (1 : Int)), w64 (v.2.1 + (1 : Int)), y8, ())
     else none
     else none
     else none
     else none
     else none
     else none
     else none
     else none
     else none
     else none
    else
    some (v.1, v.2.2.1, ())
noncomputable def FvmarkRegionS (N : Nat) (x : (Int × ((List (Int × (Int × (Int × (Int × (Int × Unit)))))) × Unit))) : Option (Int × ((List (Int × (Int × (Int × (Int × (Int × Unit)))))) × Unit)) :=
  (lvmarkRegionS_0 N N (x.1, (0 : Int), x.2.1, ())).bind fun o9 =>
  some (o9.1, o9.2.1, ())
noncomputable def convmarkRegionS (N : Nat) : Con := { f := 21, din := dinvmarkRegionS, outs := outvmarkRegionS, F := FvmarkRegionS N }
noncomputable def XvmarkRegionS (N : Nat) : Ctx := { E := EvmarkRegionS N, H := HvmarkRegionS, lp := [(0, { hd := dvmarkRegionS_0, outs := ovmarkRegionS_0, run := fun v => lvmarkRegionS_0 N N v })], jn := [] }
noncomputable def bvmarkRegionS_0 : Code := loopBody (codeOf Try.f21) 0
theorem FvmarkRegionS_eq (N : Nat) (x : (Int × ((List (Int × (Int × (Int × (Int × (Int × Unit)))))) × Unit))) : evFn (XvmarkRegionS N) Try.f21 dinvmarkRegionS outvmarkRegionS x = FvmarkRegionS N x := by kernel_rfl
theorem lvmarkRegionS_0_eq (N n : Nat) (v : (Int × (Int × ((List (Int × (Int × (Int × (Int × (Int × Unit)))))) × Unit)))) : lvmarkRegionS_0 N (n + 1) v = ev (XvmarkRegionS N) bvmarkRegionS_0 (roundK dvmarkRegionS_0 ovmarkRegionS_0 (lvmarkRegionS_0 N n)) (dvmarkRegionS_0.mk' v) := by kernel_rfl
theorem cxvmarkRegionS (N : Nat) : CtxOk Try.prog (XvmarkRegionS N) := ⟨⟨TE_ok, fun k hk => absurd hk List.not_mem_nil⟩, mixed⟩
theorem lpvmarkRegionS_0 (N : Nat) : LoopOk Try.prog { hd := dvmarkRegionS_0, outs := ovmarkRegionS_0, run := fun v => lvmarkRegionS_0 N N v } bvmarkRegionS_0 :=
  loop_fuel (d := dvmarkRegionS_0) (os := ovmarkRegionS_0) (cxvmarkRegionS N) (loops_at (ids := []) (by kernel_rfl) (trivial)) (lvmarkRegionS_0 N) (fun _ => rfl) (fun n v => lvmarkRegionS_0_eq N n v) (fun _ => N)
theorem specvmarkRegionS (N : Nat) : Spec Try.prog (convmarkRegionS N) :=
  Spec.of_eq (fn_spec (cxvmarkRegionS N) (f := 21) (fn := Try.f21) (c := codeOf Try.f21) (by kernel_rfl) (by kernel_rfl) (by kernel_rfl) (loops_at (ids := [0]) (by kernel_rfl) ⟨lp_of (lpvmarkRegionS_0 N), trivial⟩) (by kernel_rfl)) (fun x r h => (FvmarkRegionS_eq N x).trans h)

/-! ### 49: laws.markBoolS -/

noncomputable def dinvmarkBoolS : Desc := { n := 2, regs := [.one (.lit (.row 0)), .one (.val (.int .i64))], bx := [(0, .row .bool)], pins := [] }
noncomputable def outvmarkBoolS : Outs := [(.ret, { n := 1, regs := [.one (.val (.int .i64))], bx := [(0, .row .bool)], pins := [.one (.lit (.row 0))] })]
noncomputable def HvmarkBoolS : Hints := []
noncomputable def EvmarkBoolS (_N : Nat) : Env := { te := TE, cs := [] }
noncomputable def dvmarkBoolS_0 : Desc := { n := 21, regs := [.one (.lit (.row 0)), .one (.val (.int .i64)), u, u, u, .one (.val (.int .i64))], bx := [(0, .row .bool)], pins := [.one (.lit (.row 0))] }
noncomputable def ovmarkBoolS_0 : Outs := [(.exit 0, { n := 21, regs := [u, .one (.val (.int .i64))], bx := [(0, .row .bool)], pins := [.one (.lit (.row 0))] })]
noncomputable def lvmarkBoolS_0 (N : Nat) : Nat → (Int × (Int × ((List Bool) × Unit))) → Option (Int × ((List Bool) × Unit))
  | 0, _ => none
  | n + 1, v =>
    let y1 := decide (v.2.1 < (v.2.2.1.length : Int))
    bif y1 then
     bif decide ((3 : Int) = 0) then
      none
     else
     let y2 := (Int.tmod v.1 (3 : Int)) == (0 : Int)
     bif decide (0 ≤ v.2.1) then
     bif decide (v.2.1.toNat < v.2.2.1.length) then
     lvmarkBoolS_0 N n (w64 (v.1 + (1 : Int)), w64 (v.2.1 + (1 : Int)), v.2.2.1.set v.2.1.toNat y2, ())
     else none
     else none
    else
    some (v.1, v.2.2.1, ())
noncomputable def FvmarkBoolS (N : Nat) (x : (Int × ((List Bool) × Unit))) : Option (Int × ((List Bool) × Unit)) :=
  (lvmarkBoolS_0 N N (x.1, (0 : Int), x.2.1, ())).bind fun o3 =>
  some (o3.1, o3.2.1, ())
noncomputable def convmarkBoolS (N : Nat) : Con := { f := 49, din := dinvmarkBoolS, outs := outvmarkBoolS, F := FvmarkBoolS N }
noncomputable def XvmarkBoolS (N : Nat) : Ctx := { E := EvmarkBoolS N, H := HvmarkBoolS, lp := [(0, { hd := dvmarkBoolS_0, outs := ovmarkBoolS_0, run := fun v => lvmarkBoolS_0 N N v })], jn := [] }
noncomputable def bvmarkBoolS_0 : Code := loopBody (codeOf Try.f49) 0
theorem FvmarkBoolS_eq (N : Nat) (x : (Int × ((List Bool) × Unit))) : evFn (XvmarkBoolS N) Try.f49 dinvmarkBoolS outvmarkBoolS x = FvmarkBoolS N x := by kernel_rfl
theorem lvmarkBoolS_0_eq (N n : Nat) (v : (Int × (Int × ((List Bool) × Unit)))) : lvmarkBoolS_0 N (n + 1) v = ev (XvmarkBoolS N) bvmarkBoolS_0 (roundK dvmarkBoolS_0 ovmarkBoolS_0 (lvmarkBoolS_0 N n)) (dvmarkBoolS_0.mk' v) := by kernel_rfl
theorem cxvmarkBoolS (N : Nat) : CtxOk Try.prog (XvmarkBoolS N) := ⟨⟨TE_ok, fun k hk => absurd hk List.not_mem_nil⟩, mixed⟩
theorem lpvmarkBoolS_0 (N : Nat) : LoopOk Try.prog { hd := dvmarkBoolS_0, outs := ovmarkBoolS_0, run := fun v => lvmarkBoolS_0 N N v } bvmarkBoolS_0 :=
  loop_fuel (d := dvmarkBoolS_0) (os := ovmarkBoolS_0) (cxvmarkBoolS N) (loops_at (ids := []) (by kernel_rfl) (trivial)) (lvmarkBoolS_0 N) (fun _ => rfl) (fun n v => lvmarkBoolS_0_eq N n v) (fun _ => N)
theorem specvmarkBoolS (N : Nat) : Spec Try.prog (convmarkBoolS N) :=
  Spec.of_eq (fn_spec (cxvmarkBoolS N) (f := 49) (fn := Try.f49) (c := codeOf Try.f49) (by kernel_rfl) (by kernel_rfl) (by kernel_rfl) (loops_at (ids := [0]) (by kernel_rfl) ⟨lp_of (lpvmarkBoolS_0 N), trivial⟩) (by kernel_rfl)) (fun x r h => (FvmarkBoolS_eq N x).trans h)

/-! ### 73: laws.markThreadS -/

noncomputable def dinvmarkThreadS : Desc := { n := 2, regs := [.one (.lit (.row 0)), .one (.val (.int .i64))], bx := [(0, .row (.pair (.sl (.int .i64)) (.pair (.int .i64) (.pair .bool (.pair (.int .i64) .unit)))))], pins := [] }
noncomputable def outvmarkThreadS : Outs := [(.ret, { n := 1, regs := [.one (.val (.int .i64))], bx := [(0, .row (.pair (.sl (.int .i64)) (.pair (.int .i64) (.pair .bool (.pair (.int .i64) .unit)))))], pins := [.one (.lit (.row 0))] })]
noncomputable def HvmarkThreadS : Hints := [(4, [(6, { sg := [(0, 1051624)], pre := [.take 16 1051624], post := [.give 1051624 0] })])]
noncomputable def EvmarkThreadS (N : Nat) : Env := { te := TE, cs := [convmarkIntS N] }
noncomputable def dvmarkThreadS_0 : Desc := { n := 43, regs := [.one (.lit (.row 0)), .one (.val (.int .i64)), u, u, u, .one (.val (.int .i64))], bx := [(0, .row (.pair (.sl (.int .i64)) (.pair (.int .i64) (.pair .bool (.pair (.int .i64) .unit)))))], pins := [.one (.lit (.row 0))] }
noncomputable def ovmarkThreadS_0 : Outs := [(.exit 0, { n := 43, regs := [u, .one (.val (.int .i64))], bx := [(0, .row (.pair (.sl (.int .i64)) (.pair (.int .i64) (.pair .bool (.pair (.int .i64) .unit)))))], pins := [.one (.lit (.row 0))] })]
noncomputable def lvmarkThreadS_0 (N : Nat) : Nat → (Int × (Int × ((List ((List Int) × (Int × (Bool × (Int × Unit))))) × Unit))) → Option (Int × ((List ((List Int) × (Int × (Bool × (Int × Unit))))) × Unit))
  | 0, _ => none
  | n + 1, v =>
    let y1 := decide (v.2.1 < (v.2.2.1.length : Int))
    bif y1 then
     bif decide (0 ≤ v.2.1) then
     bif decide (v.2.1.toNat < v.2.2.1.length) then
     (FvmarkIntS N (v.1, (v.2.2.1.getD v.2.1.toNat (([] : (List Int)), (0 : Int), false, (0 : Int), ())).1, ())).bind fun r2 =>
     bif decide (0 ≤ v.2.1) then
     bif decide (v.2.1.toNat < (v.2.2.1.set v.2.1.toNat (r2.2.1, (v.2.2.1.getD v.2.1.toNat (([] : (List Int)), (0 : Int), false, (0 : Int), ())).2)).length) then
     let y3 := (v.2.2.1.set v.2.1.toNat (r2.2.1, (v.2.2.1.getD v.2.1.toNat (([] : (List Int)), (0 : Int), false, (0 : Int), ())).2)).set v.2.1.toNat (((v.2.2.1.set v.2.1.toNat (r2.2.1, (v.2.2.1.getD v.2.1.toNat (([] : (List Int)), (0 : Int), false, (0 : Int), ())).2)).getD v.2.1.toNat (([] : (List Int)), (0 : Int), false, (0 : Int), ())).1, r2.1, (((v.2.2.1.set v.2.1.toNat (r2.2.1, (v.2.2.1.getD v.2.1.toNat (([] : (List Int)), (0 : Int), false, (0 : Int), ())).2)).getD v.2.1.toNat (([] : (List Int)), (0 : Int), false, (0 : Int), ())).2).2)
     bif decide ((3 : Int) = 0) then
      none
     else
     let y4 := Int.tmod (w64 (r2.1 + (1 : Int))) (3 : Int)
     bif decide (0 ≤ v.2.1) then
     bif decide (v.2.1.toNat < y3.length) then
     let y5 := y3.set v.2.1.toNat ((y3.getD v.2.1.toNat (([] : (List Int)), (0 : Int), false, (0 : Int), ())).1, ((y3.getD v.2.1.toNat (([] : (List Int)), (0 : Int), false, (0 : Int), ())).2).1, y4 == (0 : Int), (((y3.getD v.2.1.toNat (([] : (List Int)), (0 : Int), false, (0 : Int), ())).2).2).2)
     let y6 := w64 ((w64 (r2.1 + (1 : Int))) + (1 : Int))
     bif decide (0 ≤ v.2.1) then
     bif decide (v.2.1.toNat < y5.length) then
     let y7 := y5.set v.2.1.toNat ((y5.getD v.2.1.toNat (([] : (List Int)), (0 : Int), false, (0 : Int), ())).1, ((y5.getD v.2.1.toNat (([] : (List Int)), (0 : Int), false, (0 : Int), ())).2).1, (((y5.getD v.2.1.toNat (([] : (List Int)), (0 : Int), false, (0 : Int), ())).2).2).1, y6, ((((y5.getD v.2.1.toNat (([] : (List Int)), (0 : Int), false, (0 : Int), ())).2).2).2).2)
     lvmarkThreadS_0 N n (w64 (y6 + (1 : Int)), w64 (v.2.1 + (1 : Int)), y7, ())
     else none
     else none
     else none
     else none
     else none
     else none
     else none
     else none
    else
    some (v.1, v.2.2.1, ())
noncomputable def FvmarkThreadS (N : Nat) (x : (Int × ((List ((List Int) × (Int × (Bool × (Int × Unit))))) × Unit))) : Option (Int × ((List ((List Int) × (Int × (Bool × (Int × Unit))))) × Unit)) :=
  (lvmarkThreadS_0 N N (x.1, (0 : Int), x.2.1, ())).bind fun o8 =>
  some (o8.1, o8.2.1, ())
noncomputable def convmarkThreadS (N : Nat) : Con := { f := 73, din := dinvmarkThreadS, outs := outvmarkThreadS, F := FvmarkThreadS N }
noncomputable def XvmarkThreadS (N : Nat) : Ctx := { E := EvmarkThreadS N, H := HvmarkThreadS, lp := [(0, { hd := dvmarkThreadS_0, outs := ovmarkThreadS_0, run := fun v => lvmarkThreadS_0 N N v })], jn := [] }
noncomputable def bvmarkThreadS_0 : Code := loopBody (codeOf Try.f73) 0
theorem FvmarkThreadS_eq (N : Nat) (x : (Int × ((List ((List Int) × (Int × (Bool × (Int × Unit))))) × Unit))) : evFn (XvmarkThreadS N) Try.f73 dinvmarkThreadS outvmarkThreadS x = FvmarkThreadS N x := by kernel_rfl
theorem lvmarkThreadS_0_eq (N n : Nat) (v : (Int × (Int × ((List ((List Int) × (Int × (Bool × (Int × Unit))))) × Unit)))) : lvmarkThreadS_0 N (n + 1) v = ev (XvmarkThreadS N) bvmarkThreadS_0 (roundK dvmarkThreadS_0 ovmarkThreadS_0 (lvmarkThreadS_0 N n)) (dvmarkThreadS_0.mk' v) := by kernel_rfl
theorem cxvmarkThreadS (N : Nat) : CtxOk Try.prog (XvmarkThreadS N) := ⟨⟨TE_ok, List.forall_mem_cons.2 ⟨specvmarkIntS N, fun k hk => absurd hk List.not_mem_nil⟩⟩, mixed⟩
theorem lpvmarkThreadS_0 (N : Nat) : LoopOk Try.prog { hd := dvmarkThreadS_0, outs := ovmarkThreadS_0, run := fun v => lvmarkThreadS_0 N N v } bvmarkThreadS_0 :=
  loop_fuel (d := dvmarkThreadS_0) (os := ovmarkThreadS_0) (cxvmarkThreadS N) (loops_at (ids := []) (by kernel_rfl) (trivial)) (lvmarkThreadS_0 N) (fun _ => rfl) (fun n v => lvmarkThreadS_0_eq N n v) (fun _ => N)
theorem specvmarkThreadS (N : Nat) : Spec Try.prog (convmarkThreadS N) :=
  Spec.of_eq (fn_spec (cxvmarkThreadS N) (f := 73) (fn := Try.f73) (c := codeOf Try.f73) (by kernel_rfl) (by kernel_rfl) (by kernel_rfl) (loops_at (ids := [0]) (by kernel_rfl) ⟨lp_of (lpvmarkThreadS_0 N), trivial⟩) (by kernel_rfl)) (fun x r h => (FvmarkThreadS_eq N x).trans h)

/-! ### 22: laws.markIntS -/

noncomputable def dinvmarkIntS_a : Desc := { n := 2, regs := [.one (.lit .nil), .one (.val (.int .i64))], bx := [], pins := [] }
noncomputable def outvmarkIntS_a : Outs := [(.ret, { n := 1, regs := [.one (.val (.int .i64))], bx := [], pins := [] })]
noncomputable def HvmarkIntS_a : Hints := []
noncomputable def EvmarkIntS_a (_N : Nat) : Env := { te := TE, cs := [] }
noncomputable def dvmarkIntS_a_0 : Desc := { n := 19, regs := [.one (.lit .nil), .one (.val (.int .i64)), u, u, u, .one (.val (.int .i64))], bx := [], pins := [] }
noncomputable def ovmarkIntS_a_0 : Outs := [(.exit 0, { n := 19, regs := [u, .one (.val (.int .i64))], bx := [], pins := [] })]
noncomputable def lvmarkIntS_a_0 (N : Nat) : Nat → (Int × (Int × Unit)) → Option (Int × Unit)
  | 0, _ => none
  | n + 1, v =>
    bif decide (v.2.1 < (0 : Int)) then
     none
    else
    some (v.1, ())
noncomputable def FvmarkIntS_a (N : Nat) (x : (Int × Unit)) : Option (Int × Unit) :=
  (lvmarkIntS_a_0 N N (x.1, (0 : Int), ())).bind fun o1 =>
  some (o1.1, ())
noncomputable def convmarkIntS_a (N : Nat) : Con := { f := 22, din := dinvmarkIntS_a, outs := outvmarkIntS_a, F := FvmarkIntS_a N }
noncomputable def XvmarkIntS_a (N : Nat) : Ctx := { E := EvmarkIntS_a N, H := HvmarkIntS_a, lp := [(0, { hd := dvmarkIntS_a_0, outs := ovmarkIntS_a_0, run := fun v => lvmarkIntS_a_0 N N v })], jn := [] }
noncomputable def bvmarkIntS_a_0 : Code := loopBody (codeOf Try.f22) 0
theorem FvmarkIntS_a_eq (N : Nat) (x : (Int × Unit)) : evFn (XvmarkIntS_a N) Try.f22 dinvmarkIntS_a outvmarkIntS_a x = FvmarkIntS_a N x := by kernel_rfl
theorem lvmarkIntS_a_0_eq (N n : Nat) (v : (Int × (Int × Unit))) : lvmarkIntS_a_0 N (n + 1) v = ev (XvmarkIntS_a N) bvmarkIntS_a_0 (roundK dvmarkIntS_a_0 ovmarkIntS_a_0 (lvmarkIntS_a_0 N n)) (dvmarkIntS_a_0.mk' v) := by kernel_rfl
theorem cxvmarkIntS_a (N : Nat) : CtxOk Try.prog (XvmarkIntS_a N) := ⟨⟨TE_ok, fun k hk => absurd hk List.not_mem_nil⟩, mixed⟩
theorem lpvmarkIntS_a_0 (N : Nat) : LoopOk Try.prog { hd := dvmarkIntS_a_0, outs := ovmarkIntS_a_0, run := fun v => lvmarkIntS_a_0 N N v } bvmarkIntS_a_0 :=
  loop_fuel (d := dvmarkIntS_a_0) (os := ovmarkIntS_a_0) (cxvmarkIntS_a N) (loops_at (ids := []) (by kernel_rfl) (trivial)) (lvmarkIntS_a_0 N) (fun _ => rfl) (fun n v => lvmarkIntS_a_0_eq N n v) (fun _ => N)
theorem specvmarkIntS_a (N : Nat) : Spec Try.prog (convmarkIntS_a N) :=
  Spec.of_eq (fn_spec (cxvmarkIntS_a N) (f := 22) (fn := Try.f22) (c := codeOf Try.f22) (by kernel_rfl) (by kernel_rfl) (by kernel_rfl) (loops_at (ids := [0]) (by kernel_rfl) ⟨lp_of (lpvmarkIntS_a_0 N), trivial⟩) (by kernel_rfl)) (fun x r h => (FvmarkIntS_a_eq N x).trans h)

/-! ### 28: laws.markState -/

noncomputable def dinvmarkState : Desc := { n := 2, regs := [.agg [.lit (.row 0), .lit (.row 1), .lit (.row 2), .val (.int .i64), .val .bool, .val .bool, .val .bool, .val (.int .i64), .lit (.row 3), .lit .nil, .lit .nil, .val (.int .i64), .val (.int .i64)], .one (.val (.int .i64))], bx := [(0, .row (.int .i64)), (1, .row (.pair (.int .i64) (.pair (.int .i64) (.pair (.int .i64) (.pair (.int .i64) (.pair (.int .i64) .unit)))))), (2, .row .bool), (3, .row (.pair (.sl (.int .i64)) (.pair (.int .i64) (.pair .bool (.pair (.int .i64) .unit)))))], pins := [] }
noncomputable def outvmarkState : Outs := [(.ret, { n := 1, regs := [.one (.val (.int .i64))], bx := [(0, .row (.int .i64)), (1, .row (.pair (.int .i64) (.pair (.int .i64) (.pair (.int .i64) (.pair (.int .i64) (.pair (.int .i64) .unit)))))), (2, .row .bool), (3, .row (.pair (.sl (.int .i64)) (.pair (.int .i64) (.pair .bool (.pair (.int .i64) .unit)))))], pins := [.agg [.lit (.row 0), .lit (.row 1), .lit (.row 2), .un, .un, .un, .un, .un, .lit (.row 3), .un, .un, .un, .un]] })]
noncomputable def HvmarkState : Hints := [(2, [(3, { con := 1, sg := [(0, 1)] })]),
  (3, [(3, { con := 2, sg := [(0, 2)] })]),
  (4, [(3, { con := 3, sg := [(0, 3)] })]),
  (5, [(3, { con := 4 })]),
  (6, [(3, { con := 4 })])]
noncomputable def EvmarkState (N : Nat) : Env := { te := TE, cs := [convmarkIntS N, convmarkRegionS N, convmarkBoolS N, convmarkThreadS N, convmarkIntS_a N] }
noncomputable def FvmarkState (N : Nat) (x : (Int × (Bool × (Bool × (Bool × (Int × (Int × (Int × (Int × ((List Int) × ((List (Int × (Int × (Int × (Int × (Int × Unit)))))) × ((List Bool) × ((List ((List Int) × (Int × (Bool × (Int × Unit))))) × Unit))))))))))))) : Option (Int × ((List Int) × ((List (Int × (Int × (Int × (Int × (Int × Unit)))))) × ((List Bool) × ((List ((List Int) × (Int × (Bool × (Int × Unit))))) × Unit))))) :=
  (FvmarkIntS N (x.2.2.2.2.2.2.2.1, x.2.2.2.2.2.2.2.2.1, ())).bind fun r1 =>
  (FvmarkRegionS N (r1.1, x.2.2.2.2.2.2.2.2.2.1, ())).bind fun r2 =>
  (FvmarkBoolS N (r2.1, x.2.2.2.2.2.2.2.2.2.2.1, ())).bind fun r3 =>
  (FvmarkThreadS N (r3.1, x.2.2.2.2.2.2.2.2.2.2.2.1, ())).bind fun r4 =>
  (FvmarkIntS_a N (r4.1, ())).bind fun r5 =>
  (FvmarkIntS_a N (r5.1, ())).bind fun r6 =>
  some (r6.1, r1.2.1, r2.2.1, r3.2.1, r4.2.1, ())
noncomputable def convmarkState (N : Nat) : Con := { f := 28, din := dinvmarkState, outs := outvmarkState, F := FvmarkState N }
noncomputable def XvmarkState (N : Nat) : Ctx := { E := EvmarkState N, H := HvmarkState, lp := [], jn := [] }
theorem FvmarkState_eq (N : Nat) (x : (Int × (Bool × (Bool × (Bool × (Int × (Int × (Int × (Int × ((List Int) × ((List (Int × (Int × (Int × (Int × (Int × Unit)))))) × ((List Bool) × ((List ((List Int) × (Int × (Bool × (Int × Unit))))) × Unit))))))))))))) : evFn (XvmarkState N) Try.f28 dinvmarkState outvmarkState x = FvmarkState N x := by kernel_rfl
theorem cxvmarkState (N : Nat) : CtxOk Try.prog (XvmarkState N) := ⟨⟨TE_ok, List.forall_mem_cons.2 ⟨specvmarkIntS N, List.forall_mem_cons.2 ⟨specvmarkRegionS N, List.forall_mem_cons.2 ⟨specvmarkBoolS N, List.forall_mem_cons.2 ⟨specvmarkThreadS N, List.forall_mem_cons.2 ⟨specvmarkIntS_a N, fun k hk => absurd hk List.not_mem_nil⟩⟩⟩⟩⟩⟩, mixed⟩
theorem specvmarkState (N : Nat) : Spec Try.prog (convmarkState N) :=
  Spec.of_eq (fn_spec (cxvmarkState N) (f := 28) (fn := Try.f28) (c := codeOf Try.f28) (by kernel_rfl) (by kernel_rfl) (by kernel_rfl) (loops_at (ids := []) (by kernel_rfl) (trivial)) (by kernel_rfl)) (fun x r h => (FvmarkState_eq N x).trans h)

/-! ### 23: laws.heldIntS -/

noncomputable def dinvheldIntS : Desc := { n := 2, regs := [.one (.val (.sl (.int .i64))), .one (.val (.int .i64))], bx := [], pins := [] }
noncomputable def outvheldIntS : Outs := [(.ret, { n := 1, regs := [.one (.val (.int .i64))], bx := [], pins := [] })]
noncomputable def HvheldIntS : Hints := []
noncomputable def EvheldIntS (_N : Nat) : Env := { te := TE, cs := [] }
noncomputable def dvheldIntS_0 : Desc := { n := 21, regs := [.one (.val (.sl (.int .i64))), .one (.val (.int .i64)), u, u, u, .one (.val (.int .i64))], bx := [], pins := [] }
noncomputable def ovheldIntS_0 : Outs := [(.exit 0, { n := 21, regs := [u, .one (.val (.int .i64))], bx := [], pins := [] }), (.ret, { n := 21, regs := [u, u, u, u, .one (.val (.int .i64))], bx := [], pins := [] })]
noncomputable def lvheldIntS_0 (N : Nat) : Nat → ((List Int) × (Int × (Int × Unit))) → Option ((Int × Unit) ⊕ (Int × Unit))
  | 0, _ => none
  | n + 1, v =>
    let y1 := decide (v.2.2.1 < (v.1.length : Int))
    bif y1 then
     bif decide (0 ≤ v.2.2.1) then
     bif decide (v.2.2.1.toNat < v.1.length) then
     let y2 := (v.1.getD v.2.2.1.toNat (0 : Int)) != v.2.1
     bif y2 then
      some (.inr (((-1 : Int), ())))
     else
     lvheldIntS_0 N n (v.1, w64 (v.2.1 + (1 : Int)), w64 (v.2.2.1 + (1 : Int)), ())
     else none
     else none
    else
    some (.inl (v.2.1, ()))
noncomputable def FvheldIntS (N : Nat) (x : ((List Int) × (Int × Unit))) : Option (Int × Unit) :=
  (lvheldIntS_0 N N (x.1, x.2.1, (0 : Int), ())).bind fun o3 =>
  Sum.elim (fun o4 =>
   some (o4.1, ())) (fun o5 =>
   some (o5.1, ())) o3
noncomputable def convheldIntS (N : Nat) : Con := { f := 23, din := dinvheldIntS, outs := outvheldIntS, F := FvheldIntS N }
noncomputable def XvheldIntS (N : Nat) : Ctx := { E := EvheldIntS N, H := HvheldIntS, lp := [(0, { hd := dvheldIntS_0, outs := ovheldIntS_0, run := fun v => lvheldIntS_0 N N v })], jn := [] }
noncomputable def bvheldIntS_0 : Code := loopBody (codeOf Try.f23) 0
theorem FvheldIntS_eq (N : Nat) (x : ((List Int) × (Int × Unit))) : evFn (XvheldIntS N) Try.f23 dinvheldIntS outvheldIntS x = FvheldIntS N x := by kernel_rfl
theorem lvheldIntS_0_eq (N n : Nat) (v : ((List Int) × (Int × (Int × Unit)))) : lvheldIntS_0 N (n + 1) v = ev (XvheldIntS N) bvheldIntS_0 (roundK dvheldIntS_0 ovheldIntS_0 (lvheldIntS_0 N n)) (dvheldIntS_0.mk' v) := by kernel_rfl
theorem cxvheldIntS (N : Nat) : CtxOk Try.prog (XvheldIntS N) := ⟨⟨TE_ok, fun k hk => absurd hk List.not_mem_nil⟩, mixed⟩
theorem lpvheldIntS_0 (N : Nat) : LoopOk Try.prog { hd := dvheldIntS_0, outs := ovheldIntS_0, run := fun v => lvheldIntS_0 N N v } bvheldIntS_0 :=
  loop_fuel (d := dvheldIntS_0) (os := ovheldIntS_0) (cxvheldIntS N) (loops_at (ids := []) (by kernel_rfl) (trivial)) (lvheldIntS_0 N) (fun _ => rfl) (fun n v => lvheldIntS_0_eq N n v) (fun _ => N)
theorem specvheldIntS (N : Nat) : Spec Try.prog (convheldIntS N) :=
  Spec.of_eq (fn_spec (cxvheldIntS N) (f := 23) (fn := Try.f23) (c := codeOf Try.f23) (by kernel_rfl) (by kernel_rfl) (by kernel_rfl) (loops_at (ids := [0]) (by kernel_rfl) ⟨lp_of (lpvheldIntS_0 N), trivial⟩) (by kernel_rfl)) (fun x r h => (FvheldIntS_eq N x).trans h)

/-! ### 74: laws.heldRegionS -/

noncomputable def dinvheldRegionS : Desc := { n := 2, regs := [.one (.val (.sl (.pair (.int .i64) (.pair (.int .i64) (.pair (.int .i64) (.pair (.int .i64) (.pair (.int .i64) .unit))))))), .one (.val (.int .i64))], bx := [], pins := [] }
noncomputable def outvheldRegionS : Outs := [(.ret, { n := 1, regs := [.one (.val (.int .i64))], bx := [], pins := [] })]
noncomputable def HvheldRegionS : Hints := []
noncomputable def EvheldRegionS (_N : Nat) : Env := { te := TE, cs := [] }
noncomputable def dvheldRegionS_0 : Desc := { n := 58, regs := [.one (.val (.sl (.pair (.int .i64) (.pair (.int .i64) (.pair (.int .i64) (.pair (.int .i64) (.pair (.int .i64) .unit))))))), .one (.val (.int .i64)), u, u, u, .one (.val (.int .i64))], bx := [], pins := [] }
noncomputable def ovheldRegionS_0 : Outs := [(.exit 0, { n := 58, regs := [u, .one (.val (.int .i64))], bx := [], pins := [] }), (.ret, { n := 58, regs := [u, u, u, u, .one (.val (.int .i64))], bx := [], pins := [] })]
noncomputable def lvheldRegionS_0 (N : Nat) : Nat → ((List (Int × (Int × (Int × (Int × (Int × Unit)))))) × (Int × (Int × Unit))) → Option ((Int × Unit) ⊕ (Int × Unit))
  | 0, _ => none
  | n + 1, v =>
    let y1 := decide (v.2.2.1 < (v.1.length : Int))
    bif y1 then
     bif decide (0 ≤ v.2.2.1) then
     bif decide (v.2.2.1.toNat < v.1.length) then
     let y2 := v.1.getD v.2.2.1.toNat ((0 : Int), (0 : Int), (0 : Int), (0 : Int), (0 : Int), ())
     bif y2.1 != v.2.1 then
      some (.inr (((-1 : Int), ())))
     else
     bif decide (0 ≤ v.2.2.1) then
     bif decide (v.2.2.1.toNat < v.1.length) then
     let y3 := v.1.getD v.2.2.1.toNat ((0 : Int), (0 : Int), (0 : Int), (0 : Int), (0 : Int), ())
     bif y3.2.1 != (w64 (v.2.1 + (1 : Int))) then
      some (.inr (((-1 : Int), ())))
     else
     let y4 := w64 ((w64 (v.2.1 + (1 : Int))) + (1 : Int))
     bif decide (0 ≤ v.2.2.1) then
     bif decide (v.2.2.1.toNat < v.1.length) then
     let y5 := v.1.getD v.2.2.1.toNat ((0 : Int), (0 : Int), (0 : Int), (0 : Int), (0 : Int), ())
     bif y5.2.2.1 != y4 then
      some (.inr (((-1 : Int), ())))
     else
     bif decide (0 ≤ v.2.2.1) then
     bif decide (v.2.2.1.toNat < v.1.length) then
     let y6 := v.1.getD v.2.2.1.toNat ((0 : Int), (0 : Int), (0 : Int), (0 : Int), (0 : Int), ())
     bif y6.2.2.2.1 != (w64 (y4 + (1 : Int))) then
      some (.inr (((-1 : Int), ())))
     else
     let y7 := w64 ((w64 (y4 + (1 : Int))) + (1 : Int))
     bif decide (0 ≤ v.2.2.1) then
     bif decide (v.2.2.1.toNat < v.1.length) then
     let y8 := v.1.getD v.2.2.1.toNat ((0 : Int), (0 : Int), (0 : Int), (0 : Int), (0 : Int), ())
     bif y8.2.2.2.2.1 != y7 then
      some (.inr (((-1 : Int), ())))
     else
     lvheldRegionS_0 N n (v.1, w64 (y7 + (1 : Int)), w64 (v.2.2.1 + (1 : Int)), ())
     else none
     else none
     else none
     else none
     else none
     else none
     else none
     else none
     else none
     else none
    else
    some (.inl (v.2.1, ()))
noncomputable def FvheldRegionS (N : Nat) (x : ((List (Int × (Int × (Int × (Int × (Int × Unit)))))) × (Int × Unit))) : Option (Int × Unit) :=
  (lvheldRegionS_0 N N (x.1, x.2.1, (0 : Int), ())).bind fun o9 =>
  Sum.elim (fun o10 =>
   some (o10.1, ())) (fun o11 =>
   some (o11.1, ())) o9
noncomputable def convheldRegionS (N : Nat) : Con := { f := 74, din := dinvheldRegionS, outs := outvheldRegionS, F := FvheldRegionS N }
noncomputable def XvheldRegionS (N : Nat) : Ctx := { E := EvheldRegionS N, H := HvheldRegionS, lp := [(0, { hd := dvheldRegionS_0, outs := ovheldRegionS_0, run := fun v => lvheldRegionS_0 N N v })], jn := [] }
noncomputable def bvheldRegionS_0 : Code := loopBody (codeOf Try.f74) 0
theorem FvheldRegionS_eq (N : Nat) (x : ((List (Int × (Int × (Int × (Int × (Int × Unit)))))) × (Int × Unit))) : evFn (XvheldRegionS N) Try.f74 dinvheldRegionS outvheldRegionS x = FvheldRegionS N x := by kernel_rfl
theorem lvheldRegionS_0_eq (N n : Nat) (v : ((List (Int × (Int × (Int × (Int × (Int × Unit)))))) × (Int × (Int × Unit)))) : lvheldRegionS_0 N (n + 1) v = ev (XvheldRegionS N) bvheldRegionS_0 (roundK dvheldRegionS_0 ovheldRegionS_0 (lvheldRegionS_0 N n)) (dvheldRegionS_0.mk' v) := by kernel_rfl
theorem cxvheldRegionS (N : Nat) : CtxOk Try.prog (XvheldRegionS N) := ⟨⟨TE_ok, fun k hk => absurd hk List.not_mem_nil⟩, mixed⟩
theorem lpvheldRegionS_0 (N : Nat) : LoopOk Try.prog { hd := dvheldRegionS_0, outs := ovheldRegionS_0, run := fun v => lvheldRegionS_0 N N v } bvheldRegionS_0 :=
  loop_fuel (d := dvheldRegionS_0) (os := ovheldRegionS_0) (cxvheldRegionS N) (loops_at (ids := []) (by kernel_rfl) (trivial)) (lvheldRegionS_0 N) (fun _ => rfl) (fun n v => lvheldRegionS_0_eq N n v) (fun _ => N)
theorem specvheldRegionS (N : Nat) : Spec Try.prog (convheldRegionS N) :=
  Spec.of_eq (fn_spec (cxvheldRegionS N) (f := 74) (fn := Try.f74) (c := codeOf Try.f74) (by kernel_rfl) (by kernel_rfl) (by kernel_rfl) (loops_at (ids := [0]) (by kernel_rfl) ⟨lp_of (lpvheldRegionS_0 N), trivial⟩) (by kernel_rfl)) (fun x r h => (FvheldRegionS_eq N x).trans h)

/-! ### 50: laws.heldBoolS -/

noncomputable def dinvheldBoolS : Desc := { n := 2, regs := [.one (.val (.sl .bool)), .one (.val (.int .i64))], bx := [], pins := [] }
noncomputable def outvheldBoolS : Outs := [(.ret, { n := 1, regs := [.one (.val (.int .i64))], bx := [], pins := [] })]
noncomputable def HvheldBoolS : Hints := []
noncomputable def EvheldBoolS (_N : Nat) : Env := { te := TE, cs := [] }
noncomputable def dvheldBoolS_0 : Desc := { n := 23, regs := [.one (.val (.sl .bool)), .one (.val (.int .i64)), u, u, u, .one (.val (.int .i64))], bx := [], pins := [] }
noncomputable def ovheldBoolS_0 : Outs := [(.exit 0, { n := 23, regs := [u, .one (.val (.int .i64))], bx := [], pins := [] }), (.ret, { n := 23, regs := [u, u, u, u, .one (.val (.int .i64))], bx := [], pins := [] })]
noncomputable def lvheldBoolS_0 (N : Nat) : Nat → ((List Bool) × (Int × (Int × Unit))) → Option ((Int × Unit) ⊕ (Int × Unit))
  | 0, _ => none
  | n + 1, v =>
    let y1 := decide (v.2.2.1 < (v.1.length : Int))
    bif y1 then
     bif decide (0 ≤ v.2.2.1) then
     bif decide (v.2.2.1.toNat < v.1.length) then
     bif decide ((3 : Int) = 0) then
      none
     else
     let y2 := (Int.tmod v.2.1 (3 : Int)) == (0 : Int)
     let y3 := !((v.1.getD v.2.2.1.toNat false) == y2)
     bif y3 then
      some (.inr (((-1 : Int), ())))
     else
     lvheldBoolS_0 N n (v.1, w64 (v.2.1 + (1 : Int)), w64 (v.2.2.1 + (1 : Int)), ())
     else none
     else none
    else
    some (.inl (v.2.1, ()))
noncomputable def FvheldBoolS (N : Nat) (x : ((List Bool) × (Int × Unit))) : Option (Int × Unit) :=
  (lvheldBoolS_0 N N (x.1, x.2.1, (0 : Int), ())).bind fun o4 =>
  Sum.elim (fun o5 =>
   some (o5.1, ())) (fun o6 =>
   some (o6.1, ())) o4
noncomputable def convheldBoolS (N : Nat) : Con := { f := 50, din := dinvheldBoolS, outs := outvheldBoolS, F := FvheldBoolS N }
noncomputable def XvheldBoolS (N : Nat) : Ctx := { E := EvheldBoolS N, H := HvheldBoolS, lp := [(0, { hd := dvheldBoolS_0, outs := ovheldBoolS_0, run := fun v => lvheldBoolS_0 N N v })], jn := [] }
noncomputable def bvheldBoolS_0 : Code := loopBody (codeOf Try.f50) 0
theorem FvheldBoolS_eq (N : Nat) (x : ((List Bool) × (Int × Unit))) : evFn (XvheldBoolS N) Try.f50 dinvheldBoolS outvheldBoolS x = FvheldBoolS N x := by kernel_rfl
theorem lvheldBoolS_0_eq (N n : Nat) (v : ((List Bool) × (Int × (Int × Unit)))) : lvheldBoolS_0 N (n + 1) v = ev (XvheldBoolS N) bvheldBoolS_0 (roundK dvheldBoolS_0 ovheldBoolS_0 (lvheldBoolS_0 N n)) (dvheldBoolS_0.mk' v) := by kernel_rfl
theorem cxvheldBoolS (N : Nat) : CtxOk Try.prog (XvheldBoolS N) := ⟨⟨TE_ok, fun k hk => absurd hk List.not_mem_nil⟩, mixed⟩
theorem lpvheldBoolS_0 (N : Nat) : LoopOk Try.prog { hd := dvheldBoolS_0, outs := ovheldBoolS_0, run := fun v => lvheldBoolS_0 N N v } bvheldBoolS_0 :=
  loop_fuel (d := dvheldBoolS_0) (os := ovheldBoolS_0) (cxvheldBoolS N) (loops_at (ids := []) (by kernel_rfl) (trivial)) (lvheldBoolS_0 N) (fun _ => rfl) (fun n v => lvheldBoolS_0_eq N n v) (fun _ => N)
theorem specvheldBoolS (N : Nat) : Spec Try.prog (convheldBoolS N) :=
  Spec.of_eq (fn_spec (cxvheldBoolS N) (f := 50) (fn := Try.f50) (c := codeOf Try.f50) (by kernel_rfl) (by kernel_rfl) (by kernel_rfl) (loops_at (ids := [0]) (by kernel_rfl) ⟨lp_of (lpvheldBoolS_0 N), trivial⟩) (by kernel_rfl)) (fun x r h => (FvheldBoolS_eq N x).trans h)

/-! ### 75: laws.heldThreadS -/

noncomputable def dinvheldThreadS : Desc := { n := 2, regs := [.one (.val (.sl (.pair (.sl (.int .i64)) (.pair (.int .i64) (.pair .bool (.pair (.int .i64) .unit)))))), .one (.val (.int .i64))], bx := [], pins := [] }
noncomputable def outvheldThreadS : Outs := [(.ret, { n := 1, regs := [.one (.val (.int .i64))], bx := [], pins := [] })]
noncomputable def HvheldThreadS : Hints := []
noncomputable def EvheldThreadS (N : Nat) : Env := { te := TE, cs := [convheldIntS N] }
noncomputable def dvheldThreadS_0 : Desc := { n := 51, regs := [.one (.val (.sl (.pair (.sl (.int .i64)) (.pair (.int .i64) (.pair .bool (.pair (.int .i64) .unit)))))), .one (.val (.int .i64)), u, u, u, .one (.val (.int .i64))], bx := [], pins := [] }
noncomputable def ovheldThreadS_0 : Outs := [(.exit 0, { n := 51, regs := [u, .one (.val (.int .i64))], bx := [], pins := [] }), (.ret, { n := 51, regs := [u, u, u, u, .one (.val (.int .i64))], bx := [], pins := [] })]
noncomputable def lvheldThreadS_0 (N : Nat) : Nat → ((List ((List Int) × (Int × (Bool × (Int × Unit))))) × (Int × (Int × Unit))) → Option ((Int × Unit) ⊕ (Int × Unit))
  | 0, _ => none
  | n + 1, v =>
    let y1 := decide (v.2.2.1 < (v.1.length : Int))
    bif y1 then
     bif decide (0 ≤ v.2.2.1) then
     bif decide (v.2.2.1.toNat < v.1.length) then
     let y2 := v.1.getD v.2.2.1.toNat (([] : (List Int)), (0 : Int), false, (0 : Int), ())
     (FvheldIntS N (y2.1, v.2.1, ())).bind fun r3 =>
     bif decide (r3.1 < (0 : Int)) then
      some (.inr (((-1 : Int), ())))
     else
     bif decide (0 ≤ v.2.2.1) then
     bif decide (v.2.2.1.toNat < v.1.length) then
     let y4 := v.1.getD v.2.2.1.toNat (([] : (List Int)), (0 : Int), false, (0 : Int), ())
     bif y4.2.1 != r3.1 then
      some (.inr (((-1 : Int), ())))
     else
     bif decide (0 ≤ v.2.2.1) then
     bif decide (v.2.2.1.toNat < v.1.length) then
     let y5 := v.1.getD v.2.2.1.toNat (([] : (List Int)), (0 : Int), false, (0 : Int), ())
     bif decide ((3 : Int) = 0) then
      none
     else
     let y6 := Int.tmod (w64 (r3.1 + (1 : Int))) (3 : Int)
     bif !(y5.2.2.1 == (y6 == (0 : Int))) then
      some (.inr (((-1 : Int), ())))
     else
     let y7 := w64 ((w64 (r3.1 + (1 : Int))) + (1 : Int))
     bif decide (0 ≤ v.2.2.1) then
     bif decide (v.2.2.1.toNat < v.1.length) then
     let y8 := v.1.getD v.2.2.1.toNat (([] : (List Int)), (0 : Int), false, (0 : Int), ())
     bif y8.2.2.2.1 != y7 then
      some (.inr (((-1 : Int), ())))
     else
     lvheldThreadS_0 N n (v.1, w64 (y7 + (1 : Int)), w64 (v.2.2.1 + (1 : Int)), ())
     else none
     else none
     else none
     else none
     else none
     else none
     else none
     else none
    else
    some (.inl (v.2.1, ()))
noncomputable def FvheldThreadS (N : Nat) (x : ((List ((List Int) × (Int × (Bool × (Int × Unit))))) × (Int × Unit))) : Option (Int × Unit) :=
  (lvheldThreadS_0 N N (x.1, x.2.1, (0 : Int), ())).bind fun o9 =>
  Sum.elim (fun o10 =>
   some (o10.1, ())) (fun o11 =>
   some (o11.1, ())) o9
noncomputable def convheldThreadS (N : Nat) : Con := { f := 75, din := dinvheldThreadS, outs := outvheldThreadS, F := FvheldThreadS N }
noncomputable def XvheldThreadS (N : Nat) : Ctx := { E := EvheldThreadS N, H := HvheldThreadS, lp := [(0, { hd := dvheldThreadS_0, outs := ovheldThreadS_0, run := fun v => lvheldThreadS_0 N N v })], jn := [] }
noncomputable def bvheldThreadS_0 : Code := loopBody (codeOf Try.f75) 0
theorem FvheldThreadS_eq (N : Nat) (x : ((List ((List Int) × (Int × (Bool × (Int × Unit))))) × (Int × Unit))) : evFn (XvheldThreadS N) Try.f75 dinvheldThreadS outvheldThreadS x = FvheldThreadS N x := by kernel_rfl
theorem lvheldThreadS_0_eq (N n : Nat) (v : ((List ((List Int) × (Int × (Bool × (Int × Unit))))) × (Int × (Int × Unit)))) : lvheldThreadS_0 N (n + 1) v = ev (XvheldThreadS N) bvheldThreadS_0 (roundK dvheldThreadS_0 ovheldThreadS_0 (lvheldThreadS_0 N n)) (dvheldThreadS_0.mk' v) := by kernel_rfl
theorem cxvheldThreadS (N : Nat) : CtxOk Try.prog (XvheldThreadS N) := ⟨⟨TE_ok, List.forall_mem_cons.2 ⟨specvheldIntS N, fun k hk => absurd hk List.not_mem_nil⟩⟩, mixed⟩
theorem lpvheldThreadS_0 (N : Nat) : LoopOk Try.prog { hd := dvheldThreadS_0, outs := ovheldThreadS_0, run := fun v => lvheldThreadS_0 N N v } bvheldThreadS_0 :=
  loop_fuel (d := dvheldThreadS_0) (os := ovheldThreadS_0) (cxvheldThreadS N) (loops_at (ids := []) (by kernel_rfl) (trivial)) (lvheldThreadS_0 N) (fun _ => rfl) (fun n v => lvheldThreadS_0_eq N n v) (fun _ => N)
theorem specvheldThreadS (N : Nat) : Spec Try.prog (convheldThreadS N) :=
  Spec.of_eq (fn_spec (cxvheldThreadS N) (f := 75) (fn := Try.f75) (c := codeOf Try.f75) (by kernel_rfl) (by kernel_rfl) (by kernel_rfl) (loops_at (ids := [0]) (by kernel_rfl) ⟨lp_of (lpvheldThreadS_0 N), trivial⟩) (by kernel_rfl)) (fun x r h => (FvheldThreadS_eq N x).trans h)

/-! ### 29: laws.heldState -/

noncomputable def dinvheldState : Desc := { n := 2, regs := [.one (.val (.pair (.sl (.int .i64)) (.pair (.sl (.pair (.int .i64) (.pair (.int .i64) (.pair (.int .i64) (.pair (.int .i64) (.pair (.int .i64) .unit)))))) (.pair (.sl .bool) (.pair (.int .i64) (.pair .bool (.pair .bool (.pair .bool (.pair (.int .i64) (.pair (.sl (.pair (.sl (.int .i64)) (.pair (.int .i64) (.pair .bool (.pair (.int .i64) .unit))))) (.pair (.sl (.int .i64)) (.pair (.sl (.int .i64)) (.pair (.int .i64) (.pair (.int .i64) .unit)))))))))))))), .one (.val (.int .i64))], bx := [], pins := [] }
noncomputable def outvheldState : Outs := [(.ret, { n := 1, regs := [.one (.val (.int .i64))], bx := [], pins := [] })]
noncomputable def HvheldState : Hints := [(0, [(0, { fz := true })]),
  (4, [(3, { con := 1 })]),
  (7, [(3, { con := 2 })]),
  (10, [(3, { con := 3 })])]
noncomputable def EvheldState (N : Nat) : Env := { te := TE, cs := [convheldIntS N, convheldRegionS N, convheldBoolS N, convheldThreadS N] }
noncomputable def FvheldState (N : Nat) (x : (((List Int) × ((List (Int × (Int × (Int × (Int × (Int × Unit)))))) × ((List Bool) × (Int × (Bool × (Bool × (Bool × (Int × ((List ((List Int) × (Int × (Bool × (Int × Unit))))) × ((List Int) × ((List Int) × (Int × (Int × Unit))))))))))))) × (Int × Unit))) : Option (Int × Unit) :=
  (FvheldIntS N (x.1.1, x.2.1, ())).bind fun r1 =>
  bif decide (r1.1 < (0 : Int)) then
   some ((-1 : Int), ())
  else
  (FvheldRegionS N (x.1.2.1, r1.1, ())).bind fun r2 =>
  bif decide (r2.1 < (0 : Int)) then
   some ((-1 : Int), ())
  else
  (FvheldBoolS N (x.1.2.2.1, r2.1, ())).bind fun r3 =>
  bif decide (r3.1 < (0 : Int)) then
   some ((-1 : Int), ())
  else
  (FvheldThreadS N (x.1.2.2.2.2.2.2.2.2.1, r3.1, ())).bind fun r4 =>
  bif decide (r4.1 < (0 : Int)) then
   some ((-1 : Int), ())
  else
  (FvheldIntS N (x.1.2.2.2.2.2.2.2.2.2.1, r4.1, ())).bind fun r5 =>
  bif decide (r5.1 < (0 : Int)) then
   some ((-1 : Int), ())
  else
  (FvheldIntS N (x.1.2.2.2.2.2.2.2.2.2.2.1, r5.1, ())).bind fun r6 =>
  bif decide (r6.1 < (0 : Int)) then
   some ((-1 : Int), ())
  else
  some (r6.1, ())
noncomputable def convheldState (N : Nat) : Con := { f := 29, din := dinvheldState, outs := outvheldState, F := FvheldState N }
noncomputable def XvheldState (N : Nat) : Ctx := { E := EvheldState N, H := HvheldState, lp := [], jn := [] }
theorem FvheldState_eq (N : Nat) (x : (((List Int) × ((List (Int × (Int × (Int × (Int × (Int × Unit)))))) × ((List Bool) × (Int × (Bool × (Bool × (Bool × (Int × ((List ((List Int) × (Int × (Bool × (Int × Unit))))) × ((List Int) × ((List Int) × (Int × (Int × Unit))))))))))))) × (Int × Unit))) : evFn (XvheldState N) Try.f29 dinvheldState outvheldState x = FvheldState N x := by kernel_rfl
theorem cxvheldState (N : Nat) : CtxOk Try.prog (XvheldState N) := ⟨⟨TE_ok, List.forall_mem_cons.2 ⟨specvheldIntS N, List.forall_mem_cons.2 ⟨specvheldRegionS N, List.forall_mem_cons.2 ⟨specvheldBoolS N, List.forall_mem_cons.2 ⟨specvheldThreadS N, fun k hk => absurd hk List.not_mem_nil⟩⟩⟩⟩⟩, mixed⟩
theorem specvheldState (N : Nat) : Spec Try.prog (convheldState N) :=
  Spec.of_eq (fn_spec (cxvheldState N) (f := 29) (fn := Try.f29) (c := codeOf Try.f29) (by kernel_rfl) (by kernel_rfl) (by kernel_rfl) (loops_at (ids := []) (by kernel_rfl) (trivial)) (by kernel_rfl)) (fun x r h => (FvheldState_eq N x).trans h)

/-! ### 4: laws.FnExactStateNew -/

noncomputable def dinvFnExactStateNew : Desc := { n := 1, regs := [.one (.val (.pair (.int .i64) (.pair (.int .i64) (.pair (.int .i64) .unit))))], bx := [], pins := [] }
noncomputable def outvFnExactStateNew : Outs := [(.ret, { n := 1, regs := [.one (.val .bool)], bx := [], pins := [] })]
noncomputable def HvFnExactStateNew : Hints := [(0, [(0, { fz := true })]),
  (1, [(2, { con := 1 })]),
  (2, [(2, { con := 2 })]),
  (3, [(2, { con := 3 })]),
  (6, [(2, { con := 4, sg := [(0, 1025729), (1, 1025730), (2, 1025731), (3, 1025732)] })]),
  (8, [(2, { con := 5 })]),
  (13, [(2, { con := 2 })]),
  (14, [(2, { con := 3 })]),
  (17, [(2, { con := 5 })])]
noncomputable def EvFnExactStateNew (N : Nat) : Env := { te := TE, cs := [convtoConfig N, consStateNew N, coniStateNew N, conveqState N, convmarkState N, convheldState N] }
noncomputable def jvFnExactStateNew_5 : Outs := [(.normal, { n := 66, regs := [u, .one (.fpt (.pair (.int .i64) (.pair (.int .i64) (.pair (.int .i64) .unit)))), u, .one (.lit (.ptr 1013184 0)), .one (.val .bool), .one (.lit (.ptr 1025984 0))], bx := [(1013184, .var [.lit (.row 1012929), .lit (.row 1012930), .lit (.row 1012931), .val (.int .i64), .val .bool, .val .bool, .val .bool, .val (.int .i64), .lit (.row 1012932), .lit .nil, .lit .nil, .val (.int .i64), .val (.int .i64)]), (1012929, .row (.int .i64)), (1012930, .row (.pair (.int .i64) (.pair (.int .i64) (.pair (.int .i64) (.pair (.int .i64) (.pair (.int .i64) .unit)))))), (1012931, .row .bool), (1012932, .row (.pair (.sl (.int .i64)) (.pair (.int .i64) (.pair .bool (.pair (.int .i64) .unit))))), (1025984, .var [.lit (.row 1025729), .lit (.row 1025730), .lit (.row 1025731), .val (.int .i64), .val .bool, .val .bool, .val .bool, .val (.int .i64), .lit (.row 1025732), .lit .nil, .lit .nil, .val (.int .i64), .val (.int .i64)]), (1025729, .row (.int .i64)), (1025730, .row (.pair (.int .i64) (.pair (.int .i64) (.pair (.int .i64) (.pair (.int .i64) (.pair (.int .i64) .unit)))))), (1025731, .row .bool), (1025732, .row (.pair (.sl (.int .i64)) (.pair (.int .i64) (.pair .bool (.pair (.int .i64) .unit)))))], pins := [] }), (.ret, { n := 66, regs := [u, u, .one (.val .bool)], bx := [], pins := [] })]
noncomputable def jvFnExactStateNew_16 : Outs := [(.normal, { n := 66, regs := [u, u, u, u, u, .one (.lit (.ptr 1025984 0)), u, .one (.val (.int .i64))], bx := [(1025984, .var [.lit (.row 1025729), .lit (.row 1025730), .lit (.row 1025731), .val (.int .i64), .val .bool, .val .bool, .val .bool, .val (.int .i64), .lit (.row 1025732), .lit .nil, .lit .nil, .val (.int .i64), .val (.int .i64)]), (1025729, .row (.int .i64)), (1025730, .row (.pair (.int .i64) (.pair (.int .i64) (.pair (.int .i64) (.pair (.int .i64) (.pair (.int .i64) .unit)))))), (1025731, .row .bool), (1025732, .row (.pair (.sl (.int .i64)) (.pair (.int .i64) (.pair .bool (.pair (.int .i64) .unit)))))], pins := [] }), (.ret, { n := 66, regs := [u, u, .one (.val .bool)], bx := [], pins := [] })]
noncomputable def FvFnExactStateNew (N : Nat) (x : ((Int × (Int × (Int × Unit))) × Unit)) : Option (Bool × Unit) :=
  (FvtoConfig N (x.1, ())).bind fun r1 =>
  (FsStateNew N ((r1.1, r1.2.1, r1.2.2.1, ()), ())).bind fun r2 =>
  (FvtoConfig N (x.1, ())).bind fun r3 =>
  (FiStateNew N ((r3.1, r3.2.1, r3.2.2.1, ()), ())).bind fun r4 =>
  Option.bind (
   (FveqState N ((r4.2.2.2.2.2.2.2.2.1, r4.2.2.2.2.2.2.2.2.2.1, r4.2.2.2.2.2.2.2.2.2.2.1, r4.1, r4.2.1, r4.2.2.1, r4.2.2.2.1, r4.2.2.2.2.1, r4.2.2.2.2.2.2.2.2.2.2.2.1, ([] : (List Int)), ([] : (List Int)), r4.2.2.2.2.2.1, r4.2.2.2.2.2.2.1, ()), (r2.2.2.2.2.2.2.2.2.1, r2.2.2.2.2.2.2.2.2.2.1, r2.2.2.2.2.2.2.2.2.2.2.1, r2.1, r2.2.1, r2.2.2.1, r2.2.2.2.1, r2.2.2.2.2.1, r2.2.2.2.2.2.2.2.2.2.2.2.1, ([] : (List Int)), ([] : (List Int)), r2.2.2.2.2.2.1, r2.2.2.2.2.2.2.1, ()), ())).bind fun r5 =>
   bif !r5.1 then
    some (.inr ((false, ())))
   else
   let y6 := !(r4.2.2.2.2.2.2.2.1 == r2.2.2.2.2.2.2.2.1)
   bif y6 then
    some (.inr ((false, ())))
   else
   some (.inl (x.1, r2.2.2.2.2.2.2.2.1, r2.1, r2.2.1, r2.2.2.1, r2.2.2.2.1, r2.2.2.2.2.1, r2.2.2.2.2.2.1, r2.2.2.2.2.2.2.1, r2.2.2.2.2.2.2.2.2.1, r2.2.2.2.2.2.2.2.2.2.1, r2.2.2.2.2.2.2.2.2.2.2.1, r2.2.2.2.2.2.2.2.2.2.2.2.1, r4.1, r4.2.1, r4.2.2.1, r4.2.2.2.1, r4.2.2.2.2.1, r4.2.2.2.2.2.1, r4.2.2.2.2.2.2.1, r4.2.2.2.2.2.2.2.2.1, r4.2.2.2.2.2.2.2.2.2.1, r4.2.2.2.2.2.2.2.2.2.2.1, r4.2.2.2.2.2.2.2.2.2.2.2.1, ()))) fun o7 =>
  Sum.elim (fun o8 =>
   let y9 := o8.2.2.2.2.2.2.2.2.2.2.2.2.2.2.2.2.2.1
   let y10 := o8.2.2.2.2.2.2.2.2.2.2.2.2.2.2.2.2.2.2.1
   let y11 := o8.2.2.2.2.2.2.2.2.2.2.2.2.2.2.2.2.2.2.2.1
   (FvmarkState N (o8.2.2.2.2.2.2.2.2.2.2.2.2.2.1, o8.2.2.2.2.2.2.2.2.2.2.2.2.2.2.1, o8.2.2.2.2.2.2.2.2.2.2.2.2.2.2.2.1, o8.2.2.2.2.2.2.2.2.2.2.2.2.2.2.2.2.1, y9, y10, y11, (1 : Int), o8.2.2.2.2.2.2.2.2.2.2.2.2.2.2.2.2.2.2.2.2.1, o8.2.2.2.2.2.2.2.2.2.2.2.2.2.2.2.2.2.2.2.2.2.1, o8.2.2.2.2.2.2.2.2.2.2.2.2.2.2.2.2.2.2.2.2.2.2.1, o8.2.2.2.2.2.2.2.2.2.2.2.2.2.2.2.2.2.2.2.2.2.2.2.1, ())).bind fun r12 =>
   let y13 := o8.2.2.2.2.2.2.2.2.2.2.2.2.2.2.2.2.2.1
   let y14 := o8.2.2.2.2.2.2.2.2.2.2.2.2.2.2.2.2.2.2.1
   let y15 := o8.2.2.2.2.2.2.2.2.2.2.2.2.2.2.2.2.2.2.2.1
   (FvheldState N ((r12.2.1, r12.2.2.1, r12.2.2.2.1, o8.2.2.2.2.2.2.2.2.2.2.2.2.2.1, o8.2.2.2.2.2.2.2.2.2.2.2.2.2.2.1, o8.2.2.2.2.2.2.2.2.2.2.2.2.2.2.2.1, o8.2.2.2.2.2.2.2.2.2.2.2.2.2.2.2.2.1, y13, r12.2.2.2.2.1, ([] : (List Int)), ([] : (List Int)), y14, y15, ()), (1 : Int), ())).bind fun r16 =>
   bif decide (r16.1 < (0 : Int)) then
    some (false, ())
   else
   bif r16.1 != r12.1 then
    some (false, ())
   else
   (FvtoConfig N (o8.1, ())).bind fun r17 =>
   (FiStateNew N ((r17.1, r17.2.1, r17.2.2.1, ()), ())).bind fun r18 =>
   Option.bind (
    (FveqState N ((r18.2.2.2.2.2.2.2.2.1, r18.2.2.2.2.2.2.2.2.2.1, r18.2.2.2.2.2.2.2.2.2.2.1, r18.1, r18.2.1, r18.2.2.1, r18.2.2.2.1, r18.2.2.2.2.1, r18.2.2.2.2.2.2.2.2.2.2.2.1, ([] : (List Int)), ([] : (List Int)), r18.2.2.2.2.2.1, r18.2.2.2.2.2.2.1, ()), (o8.2.2.2.2.2.2.2.2.2.1, o8.2.2.2.2.2.2.2.2.2.2.1, o8.2.2.2.2.2.2.2.2.2.2.2.1, o8.2.2.1, o8.2.2.2.1, o8.2.2.2.2.1, o8.2.2.2.2.2.1, o8.2.2.2.2.2.2.1, o8.2.2.2.2.2.2.2.2.2.2.2.2.1, ([] : (List Int)), ([] : (List Int)), o8.2.2.2.2.2.2.2.1, o8.2.2.2.2.2.2.2.2.1, ()), ())).bind fun r19 =>
    bif !r19.1 then
     some (.inr ((false, ())))
    else
    bif !(r18.2.2.2.2.2.2.2.1 == o8.2.1) then
     some (.inr ((false, ())))
    else
    some (.inl (r12.1, o8.2.2.2.2.2.2.2.2.2.2.2.2.2.1, o8.2.2.2.2.2.2.2.2.2.2.2.2.2.2.1, o8.2.2.2.2.2.2.2.2.2.2.2.2.2.2.2.1, o8.2.2.2.2.2.2.2.2.2.2.2.2.2.2.2.2.1, o8.2.2.2.2.2.2.2.2.2.2.2.2.2.2.2.2.2.1, o8.2.2.2.2.2.2.2.2.2.2.2.2.2.2.2.2.2.2.1, o8.2.2.2.2.2.2.2.2.2.2.2.2.2.2.2.2.2.2.2.1, r12.2.1, r12.2.2.1, r12.2.2.2.1, r12.2.2.2.2.1, ()))) fun o20 =>
   Sum.elim (fun o21 =>
    (FvheldState N ((o21.2.2.2.2.2.2.2.2.1, o21.2.2.2.2.2.2.2.2.2.1, o21.2.2.2.2.2.2.2.2.2.2.1, o21.2.1, o21.2.2.1, o21.2.2.2.1, o21.2.2.2.2.1, o21.2.2.2.2.2.1, o21.2.2.2.2.2.2.2.2.2.2.2.1, ([] : (List Int)), ([] : (List Int)), o21.2.2.2.2.2.2.1, o21.2.2.2.2.2.2.2.1, ()), (1 : Int), ())).bind fun r22 =>
    bif decide (r22.1 < (0 : Int)) then
     some (false, ())
    else
    bif r22.1 != o21.1 then
     some (false, ())
    else
    some (true, ())) (fun o23 =>
    some (o23.1, ())) o20) (fun o24 =>
   some (o24.1, ())) o7
noncomputable def convFnExactStateNew (N : Nat) : Con := { f := 4, din := dinvFnExactStateNew, outs := outvFnExactStateNew, F := FvFnExactStateNew N }
noncomputable def XvFnExactStateNew (N : Nat) : Ctx := { E := EvFnExactStateNew N, H := HvFnExactStateNew, lp := [], jn := [(5, jvFnExactStateNew_5), (16, jvFnExactStateNew_16)] }
theorem FvFnExactStateNew_eq (N : Nat) (x : ((Int × (Int × (Int × Unit))) × Unit)) : evFn (XvFnExactStateNew N) Try.f4 dinvFnExactStateNew outvFnExactStateNew x = FvFnExactStateNew N x := by kernel_rfl
theorem cxvFnExactStateNew (N : Nat) : CtxOk Try.prog (XvFnExactStateNew N) := ⟨⟨TE_ok, List.forall_mem_cons.2 ⟨specvtoConfig N, List.forall_mem_cons.2 ⟨specsStateNew N, List.forall_mem_cons.2 ⟨speciStateNew N, List.forall_mem_cons.2 ⟨specveqState N, List.forall_mem_cons.2 ⟨specvmarkState N, List.forall_mem_cons.2 ⟨specvheldState N, fun k hk => absurd hk List.not_mem_nil⟩⟩⟩⟩⟩⟩⟩, mixed⟩
theorem specvFnExactStateNew (N : Nat) : Spec Try.prog (convFnExactStateNew N) :=
  Spec.of_eq (fn_spec (cxvFnExactStateNew N) (f := 4) (fn := Try.f4) (c := codeOf Try.f4) (by kernel_rfl) (by kernel_rfl) (by kernel_rfl) (loops_at (ids := []) (by kernel_rfl) (trivial)) (by kernel_rfl)) (fun x r h => (FvFnExactStateNew_eq N x).trans h)

end Go.Fl
set_option linter.all false
set_option maxRecDepth 10000
namespace Go.Fl
open Go
/-- A law's inputs are at most so large. -/
abbrev sm (n : Nat) : Prop := n ≤ 1048576

abbrev Nd := List Int × List Int × Unit

abbrev Gr := List Nd × List (List Int) × List Int × Unit

def smN (x : Nd) : Prop := sm x.1.length ∧ sm x.2.1.length

def smG (g : Gr) : Prop := sm g.1.length ∧ (∀ x ∈ g.1, smN x) ∧ sm g.2.1.length ∧ (∀ x ∈ g.2.1, sm x.length) ∧ sm g.2.2.1.length

abbrev ml (n : Nat) : Prop := n ≤ 9223372036854775807

def mlN (x : Nd) : Prop := ml x.1.length ∧ ml x.2.1.length

def mlG (g : Gr) : Prop := ml g.1.length ∧ (∀ x ∈ g.1, mlN x) ∧ ml g.2.1.length ∧ (∀ x ∈ g.2.1, ml x.length) ∧ ml g.2.2.1.length

/-- A loop that tells what is left, or stops. -/
theorem size_loop {α : Type} {xs : List α} (P : α → Prop) {L : Nat → Nat → Int → Option ((Int × Unit) ⊕ (Int × Unit))} (hl : xs.length ≤ lim)
    (h1 : ∀ n i (h : i < xs.length) (left : Int), 0 ≤ left → left ≤ 1048576 → w64 ((i : Int) + 1) = ((i + 1 : Nat) : Int) →
      L (n + 1) i left = some (.inr (-1, ())) ∨ ∃ r, 0 ≤ r ∧ r ≤ left ∧ P xs[i] ∧ L (n + 1) i left = L n (i + 1) r)
    (h3 : ∀ n left, L (n + 1) xs.length left = some (.inl (left, ()))) {n : Nat} (hn : xs.length < n) {left : Int} (h0 : 0 ≤ left) (h1' : left ≤ 1048576) :
    L n 0 left = some (.inr (-1, ())) ∨ ∃ r, 0 ≤ r ∧ r ≤ left ∧ (∀ x ∈ xs, P x) ∧ L n 0 left = some (.inl (r, ())) := by
  have key : ∀ n i left, 0 ≤ left → left ≤ 1048576 → i ≤ xs.length → xs.length - i < n → L n i left = some (.inr (-1, ())) ∨ ∃ r, 0 ≤ r ∧ r ≤ left ∧ (∀ x ∈ xs.drop i, P x) ∧ L n i left = some (.inl (r, ())) := by
    intro n
    induction n with
    | zero => intro i left _ _ _ h; exact absurd h (Nat.not_lt_zero _)
    | succ n ih =>
      intro i left h0 h2 hi hn
      by_cases h : i < xs.length
      · rcases h1 n i h left h0 h2 (w64_succ (by have : lim = 2147483648 := rfl; omega)) with h4 | ⟨r, h4, h5, h6, h7⟩
        · exact .inl h4
        · rw [h7]
          rcases ih (i + 1) r h4 (by omega) (by omega) (by omega) with h8 | ⟨q, h8, h9, h10, h11⟩
          · exact .inl h8
          · refine .inr ⟨q, h8, by omega, ?_, h11⟩
            rw [drop_at h]
            exact List.forall_mem_cons.2 ⟨h6, h10⟩
      · have : i = xs.length := by omega
        subst this
        exact .inr ⟨left, h0, Int.le_refl _, by simp, h3 _ _⟩
  simpa using key n 0 left h0 h1' (by omega) (by omega)

theorem sm_lim {n : Nat} (h : sm n) : n ≤ lim := by simp only [sm] at h; rw [lim_eq]; omega

def okR (m : Nat) (l : List Int) : Bool := l.all fun x => decide (-1 ≤ x) && decide (x < (m : Int))

def okN (m : Nat) (x : Nd) : Bool := decide (x.1.length ≤ 4) && (decide (x.2.1.length ≤ 4) && okR m x.1)

def okG (g : Gr) : Bool :=
  decide (g.1.length ≤ 200) && (decide (1 ≤ g.2.1.length) && (decide (g.2.1.length ≤ 3) && (g.1.all (okN g.1.length) && (g.2.1.all (fun r => decide (r.length ≤ 8) && okR g.1.length r) &&
    (decide (g.2.2.1.length ≤ 8) && (g.2.2.1.all (fun x => decide (0 ≤ x)) && okR g.1.length g.2.2.1))))))

theorem okG_iff {g : Gr} : okG g = true ↔ g.1.length ≤ 200 ∧ 1 ≤ g.2.1.length ∧ g.2.1.length ≤ 3 ∧ (∀ x ∈ g.1, x.1.length ≤ 4 ∧ x.2.1.length ≤ 4 ∧ okR g.1.length x.1 = true) ∧
    (∀ r ∈ g.2.1, r.length ≤ 8 ∧ okR g.1.length r = true) ∧ g.2.2.1.length ≤ 8 ∧ (∀ x ∈ g.2.2.1, 0 ≤ x) ∧ okR g.1.length g.2.2.1 = true := by
  simp only [okG, okN, Bool.and_eq_true, decide_eq_true_eq, List.all_eq_true]

theorem okR_iff {m : Nat} {l : List Int} : okR m l = true ↔ ∀ x ∈ l, -1 ≤ x ∧ x < (m : Int) := by
  simp only [okR, List.all_eq_true, Bool.and_eq_true, decide_eq_true_eq]

abbrev Mst := List Int × List Bool

/-- A reference is met. -/
def meet (st : Mst) (r : Int) : Mst := if 0 ≤ r ∧ st.2.getD r.toNat false = false then (st.1 ++ [r], st.2.set r.toNat true) else st

structure Met (m : Nat) (st : Mst) : Prop where
  len : st.2.length = m
  cnt : st.1.length + st.2.count false = m
  rng : ∀ r ∈ st.1, 0 ≤ r ∧ r < (m : Int)
  had : ∀ r : Int, 0 ≤ r → (st.2.getD r.toNat false = true ↔ r ∈ st.1)
  nd : st.1.Nodup

theorem count_set_true : ∀ {l : List Bool} {i : Nat}, i < l.length → l.getD i false = false → (l.set i true).count false + 1 = l.count false
  | [], _, h, _ => by simp at h
  | b :: l, 0, _, h => by simp at h; subst h; simp
  | b :: l, i + 1, h, h2 => by
    have ih := count_set_true (l := l) (i := i) (by simpa using h) (by simpa using h2)
    simp only [List.set_cons_succ, List.count_cons]
    omega

theorem Met.le {m : Nat} {st : Mst} (h : Met m st) : st.1.length ≤ m := by have := h.cnt; omega

theorem Met.meet {m : Nat} {st : Mst} (h : Met m st) {r : Int} (hr : r < (m : Int)) : Met m (meet st r) := by
  unfold Fl.meet
  split
  · rename_i hc
    have hl : r.toNat < st.2.length := by rw [h.len]; omega
    have hn : ¬ r ∈ st.1 := fun hm => by
      have := (h.had r hc.1).2 hm
      rw [hc.2] at this
      cases this
    refine ⟨by simp [h.len], ?_, ?_, ?_, ?_⟩
    · have := count_set_true hl hc.2
      have := h.cnt
      simp only [List.length_append, List.length_singleton]
      omega
    · intro x hx
      simp only [List.mem_append, List.mem_singleton] at hx
      rcases hx with hx | rfl
      · exact h.rng x hx
      · exact ⟨hc.1, hr⟩
    · intro x hx
      simp only [List.mem_append, List.mem_singleton]
      rw [← h.had x hx]
      simp only [List.getD_eq_getElem?_getD, List.getElem?_set]
      by_cases e : r.toNat = x.toNat
      · have : x = r := by omega
        subst this
        simp [hl]
      · have : ¬ x = r := fun e' => e (by rw [e'])
        simp [e, this]
    · rw [List.nodup_append]
      refine ⟨h.nd, by simp, ?_⟩
      intro a ha b hb e
      simp at hb
      subst hb
      subst e
      exact hn ha
  · exact h

theorem Met.meets {m : Nat} {l : List Int} : ∀ {st : Mst}, Met m st → (∀ r ∈ l, r < (m : Int)) → Met m (l.foldl Fl.meet st) := by
  induction l with
  | nil => intro st h _; exact h
  | cons r l ih => intro st h hl; exact ih (h.meet (hl r (by simp))) fun x hx => hl x (by simp [hx])

/-- Met is only more and more. -/
theorem meet_pre (st : Mst) (r : Int) : st.1 <+: (meet st r).1 := by
  unfold meet
  split
  · exact List.prefix_append _ _
  · exact List.prefix_refl _

theorem meets_pre {l : List Int} : ∀ {st : Mst}, st.1 <+: (l.foldl meet st).1 := by
  induction l with
  | nil => intro st; exact List.prefix_refl _
  | cons r l ih => intro st; exact (meet_pre st r).trans ih

theorem meet_mem {m : Nat} {st : Mst} (h : Met m st) {r : Int} (h0 : 0 ≤ r) : r ∈ (meet st r).1 := by
  unfold meet
  split
  · simp
  · rename_i hc
    exact (h.had r h0).1 (by
      cases hb : st.2.getD r.toNat false with
      | true => rfl
      | false => exact absurd ⟨h0, hb⟩ hc)

theorem meets_mem {m : Nat} {l : List Int} : ∀ {st : Mst}, Met m st → (∀ r ∈ l, r < (m : Int)) → ∀ r ∈ l, 0 ≤ r → r ∈ (l.foldl meet st).1 := by
  induction l with
  | nil => intro st _ _ r hr; simp at hr
  | cons x l ih =>
    intro st h hl r hr h0
    have h1 := h.meet (hl x (by simp))
    simp only [List.mem_cons] at hr
    rcases hr with rfl | hr
    · exact (meets_pre (l := l)).subset (meet_mem h h0)
    · exact ih h1 (fun y hy => hl y (by simp [hy])) r hr h0

theorem meet_sub {st : Mst} {r x : Int} (hx : x ∈ (meet st r).1) : x ∈ st.1 ∨ (x = r ∧ 0 ≤ r) := by
  unfold meet at hx
  split at hx
  · rename_i hc
    simp only [List.mem_append, List.mem_singleton] at hx
    rcases hx with hx | hx
    · exact .inl hx
    · exact .inr ⟨hx, hc.1⟩
  · exact .inl hx

theorem meets_sub {l : List Int} : ∀ {st : Mst} {x : Int}, x ∈ (l.foldl meet st).1 → x ∈ st.1 ∨ (x ∈ l ∧ 0 ≤ x) := by
  induction l with
  | nil => intro st x hx; exact .inl hx
  | cons r l ih =>
    intro st x hx
    rcases ih hx with h | ⟨h, h0⟩
    · rcases meet_sub h with h | ⟨rfl, h0⟩
      · exact .inl h
      · exact .inr ⟨by simp, h0⟩
    · exact .inr ⟨by simp [h], h0⟩

/-- What a node leads to. -/
def refsOf (g : Gr) (r : Int) : List Int := (g.1.getD r.toNat ([], [], ())).1

/-- The met are gone through. -/
def walk (R : Int → List Int) : Nat → Nat → Mst → Mst
  | 0, _, st => st
  | n + 1, i, st => if i < st.1.length then walk R n (i + 1) ((R (st.1.getD i 0)).foldl meet st) else st

def met0 (m : Nat) : Mst := ([], List.replicate m false)

theorem met0_ok (m : Nat) : Met m (met0 m) := by
  refine ⟨by simp [met0], by simp [met0], by simp [met0], ?_, by simp [met0]⟩
  intro r _
  simp only [met0, List.getD_eq_getElem?_getD, List.getElem?_replicate]
  split <;> simp

theorem walk_met {m : Nat} {R : Int → List Int} (hR : ∀ r, 0 ≤ r → r < (m : Int) → ∀ x ∈ R r, x < (m : Int)) : ∀ (n i : Nat) {st : Mst}, Met m st → Met m (walk R n i st)
  | 0, _, _, h => h
  | n + 1, i, st, h => by
    unfold walk
    split
    · rename_i hi
      refine walk_met hR n (i + 1) (h.meets ?_)
      rw [getD_lt hi]
      exact hR _ (h.rng _ (List.getElem_mem hi)).1 (h.rng _ (List.getElem_mem hi)).2
    · exact h

theorem walk_pre {R : Int → List Int} : ∀ (n i : Nat) {st : Mst}, st.1 <+: (walk R n i st).1
  | 0, _, st => List.prefix_refl _
  | n + 1, i, st => by
    unfold walk
    split
    · exact (meets_pre (l := R (st.1.getD i 0))).trans (walk_pre n (i + 1))
    · exact List.prefix_refl _

/-- What is behind the places that were gone through, was met. -/
theorem walk_closed {m : Nat} {R : Int → List Int} (hR : ∀ r, 0 ≤ r → r < (m : Int) → ∀ x ∈ R r, x < (m : Int)) : ∀ (n i : Nat) {st : Mst}, Met m st → m - i < n →
    (∀ j (hj : j < st.1.length), j < i → ∀ x ∈ R st.1[j], 0 ≤ x → x ∈ st.1) → ∀ r ∈ (walk R n i st).1, ∀ x ∈ R r, 0 ≤ x → x ∈ (walk R n i st).1
  | 0, _, _, _, h, _ => absurd h (Nat.not_lt_zero _)
  | n + 1, i, st, h, hn, hc => by
    unfold walk
    split
    · rename_i hi
      have hb : ∀ x ∈ R (st.1.getD i 0), x < (m : Int) := by
        rw [getD_lt hi]
        exact hR _ (h.rng _ (List.getElem_mem hi)).1 (h.rng _ (List.getElem_mem hi)).2
      have hle := h.le
      refine walk_closed hR n (i + 1) (h.meets hb) (by omega) ?_
      intro j hj hji x hx h0
      have hp := meets_pre (l := R (st.1.getD i 0)) (st := st)
      rcases Nat.lt_or_ge j i with hlt | hge
      · have hj' : j < st.1.length := by omega
        have e : ((R (st.1.getD i 0)).foldl meet st).1[j] = st.1[j] := (hp.getElem hj').symm
        rw [e] at hx
        exact hp.subset (hc j hj' hlt x hx h0)
      · have : j = i := by omega
        subst this
        have e : ((R (st.1.getD j 0)).foldl meet st).1[j] = st.1[j] := (hp.getElem hi).symm
        rw [e] at hx
        exact meets_mem h hb x (by rw [getD_lt hi]; exact hx) h0
    · rename_i hi
      intro r hr x hx h0
      obtain ⟨j, hj, rfl⟩ := List.getElem_of_mem hr
      exact hc j hj (by omega) x hx h0

/-- Whatever holds of the first ones and is handed on, holds of all. -/
theorem walk_ind {R : Int → List Int} {P : Int → Prop} (hP : ∀ r, P r → ∀ x ∈ R r, 0 ≤ x → P x) : ∀ (n i : Nat) {st : Mst}, (∀ r ∈ st.1, P r) → ∀ r ∈ (walk R n i st).1, P r
  | 0, _, _, h => h
  | n + 1, i, st, h => by
    unfold walk
    split
    · rename_i hi
      refine walk_ind hP n (i + 1) fun r hr => ?_
      rcases meets_sub hr with h1 | ⟨h1, h0⟩
      · exact h r h1
      · rw [getD_lt hi] at h1
        exact hP _ (h _ (List.getElem_mem hi)) r h1 h0
    · exact h

def begin0 (g : Gr) : Mst := g.2.2.1.foldl meet (g.2.1.foldl (fun s l => l.foldl meet s) (met0 g.1.length))

/-- The nodes that are reached, as they are met. -/
def order (g : Gr) : List Int := (walk (refsOf g) (g.1.length + 1) 0 (begin0 g)).1

theorem refs_rng {g : Gr} (h : okG g = true) (r : Int) : ∀ x ∈ refsOf g r, x < (g.1.length : Int) := by
  obtain ⟨_, _, _, h4, _⟩ := okG_iff.1 h
  intro x hx
  unfold refsOf at hx
  by_cases hr : r.toNat < g.1.length
  · rw [getD_lt hr] at hx
    exact (okR_iff.1 (h4 _ (List.getElem_mem hr)).2.2 x hx).2
  · rw [List.getD_eq_getElem?_getD, List.getElem?_eq_none (by omega)] at hx
    simp at hx

theorem roots_met {m : Nat} {ls : List (List Int)} : ∀ {st : Mst}, Met m st → (∀ l ∈ ls, ∀ x ∈ l, x < (m : Int)) → Met m (ls.foldl (fun s l => l.foldl meet s) st) := by
  induction ls with
  | nil => intro st h _; exact h
  | cons l ls ih => intro st h hl; exact ih (h.meets (hl l (by simp))) fun x hx => hl x (by simp [hx])

theorem roots_pre {ls : List (List Int)} : ∀ {st : Mst}, st.1 <+: (ls.foldl (fun s l => l.foldl meet s) st).1 := by
  induction ls with
  | nil => intro st; exact List.prefix_refl _
  | cons r l ih => intro st; exact meets_pre.trans ih

theorem roots_mem {m : Nat} {ls : List (List Int)} : ∀ {st : Mst}, Met m st → (∀ l ∈ ls, ∀ x ∈ l, x < (m : Int)) → ∀ l ∈ ls, ∀ r ∈ l, 0 ≤ r → r ∈ (ls.foldl (fun s l => l.foldl meet s) st).1 := by
  induction ls with
  | nil => intro st _ _ r hr; simp at hr
  | cons x ls ih =>
    intro st h hl l hm r hr h0
    have h1 := h.meets (hl x (by simp))
    simp only [List.mem_cons] at hm
    rcases hm with rfl | hm
    · exact (roots_pre (ls := ls)).subset (meets_mem h (hl l (by simp)) r hr h0)
    · exact ih h1 (fun y hy => hl y (by simp [hy])) l hm r hr h0

theorem roots_sub {ls : List (List Int)} : ∀ {st : Mst} {x : Int}, x ∈ (ls.foldl (fun s l => l.foldl meet s) st).1 → x ∈ st.1 ∨ ∃ l ∈ ls, x ∈ l ∧ 0 ≤ x := by
  induction ls with
  | nil => intro st x hx; exact .inl hx
  | cons r l ih =>
    intro st x hx
    rcases ih hx with h | ⟨l', h, h0⟩
    · rcases meets_sub h with h | h
      · exact .inl h
      · exact .inr ⟨r, by simp, h⟩
    · exact .inr ⟨l', by simp [h], h0⟩

theorem rootsrng {g : Gr} (h : okG g = true) : ∀ l ∈ g.2.1, ∀ x ∈ l, x < (g.1.length : Int) := fun l hl x hx => by
  obtain ⟨_, _, _, _, h5, _⟩ := okG_iff.1 h
  exact (okR_iff.1 (h5 l hl).2 x hx).2

theorem pinsrng {g : Gr} (h : okG g = true) : ∀ x ∈ g.2.2.1, x < (g.1.length : Int) := fun x hx => by
  obtain ⟨_, _, _, _, _, _, _, h8⟩ := okG_iff.1 h
  exact (okR_iff.1 h8 x hx).2

theorem begin0_ok {g : Gr} (h : okG g = true) : Met g.1.length (begin0 g) :=
  (roots_met (met0_ok _) (rootsrng h)).meets (pinsrng h)

theorem order_met {g : Gr} (h : okG g = true) : Met g.1.length (walk (refsOf g) (g.1.length + 1) 0 (begin0 g)) :=
  walk_met (fun r _ _ => refs_rng h r) _ _ (begin0_ok h)

theorem order_rng {g : Gr} (h : okG g = true) : ∀ r ∈ order g, 0 ≤ r ∧ r < (g.1.length : Int) := (order_met h).rng

theorem order_nodup {g : Gr} (h : okG g = true) : (order g).Nodup := (order_met h).nd

theorem order_le {g : Gr} (h : okG g = true) : (order g).length ≤ g.1.length := (order_met h).le

theorem order_closed {g : Gr} (h : okG g = true) : ∀ r ∈ order g, ∀ x ∈ refsOf g r, 0 ≤ x → x ∈ order g :=
  walk_closed (fun r _ _ => refs_rng h r) _ _ (begin0_ok h) (by omega) fun j _ hj => absurd hj (Nat.not_lt_zero _)

theorem order_roots {g : Gr} (h : okG g = true) : ∀ l ∈ g.2.1, ∀ x ∈ l, 0 ≤ x → x ∈ order g := fun l hl x hx h0 =>
  (walk_pre _ _).subset (meets_pre.subset (roots_mem (met0_ok _) (rootsrng h) l hl x hx h0))

theorem order_pins {g : Gr} (h : okG g = true) : ∀ x ∈ g.2.2.1, x ∈ order g := fun x hx => by
  obtain ⟨_, _, _, _, _, _, h7, _⟩ := okG_iff.1 h
  exact (walk_pre _ _).subset (meets_mem (roots_met (met0_ok _) (rootsrng h)) (pinsrng h) x hx (h7 x hx))

/-- The reached are the least that holds what is begun with and is closed. -/
theorem order_ind {g : Gr} {P : Int → Prop} (hr : ∀ l ∈ g.2.1, ∀ x ∈ l, 0 ≤ x → P x) (hp : ∀ x ∈ g.2.2.1, 0 ≤ x → P x) (hP : ∀ r, P r → ∀ x ∈ refsOf g r, 0 ≤ x → P x) : ∀ r ∈ order g, P r :=
  walk_ind hP _ _ fun r h => by
    rcases meets_sub h with h | ⟨h, h0⟩
    · rcases roots_sub h with h | ⟨l, hl, h, h0⟩
      · simp [met0] at h
      · exact hr l hl r h h0
    · exact hp r h h0

abbrev Opx := Int × Int × Int × Int × Int × Int × (Int × Int × Unit) × Unit
def shOk (s : Int × Int × Unit) : Bool := decide (0 ≤ s.1) && (decide (s.1 ≤ 4) && (decide (0 ≤ s.2.1) && decide (s.2.1 ≤ 4)))
def opOk (o : Opx) : Bool := decide (1 ≤ o.1) && (decide (o.1 ≤ 11) && (!(decide (o.1 = 1)) || shOk o.2.2.2.2.2.2.1))
/-- A place of a list. -/
def inB (i : Int) (n : Nat) : Prop := 0 ≤ i ∧ i < (n : Int)
instance (i : Int) (n : Nat) : Decidable (inB i n) := by unfold inB; infer_instance
/-- The code told ahead of an operation. -/
def beginC (o : Opx) (rs : List Int) (nil : Int) : Int :=
  if (o.1 = 8 ∧ rs.length = 0) ∨ (o.1 ≠ 1 ∧ o.1 ≠ 8 ∧ ¬ inB o.2.1 rs.length) ∨ ((o.1 = 3 ∨ o.1 = 6 ∨ o.1 = 7) ∧ ¬ inB o.2.2.1 rs.length) ∨ (o.1 = 7 ∧ ¬ inB o.2.2.2.1 rs.length) then 2
  else if o.1 ≠ 1 ∧ o.1 ≠ 6 ∧ o.1 ≠ 8 ∧ o.1 ≠ 9 ∧ rs.getD o.2.1.toNat 0 = nil then 3
  else if (o.1 = 1 ∨ o.1 = 2 ∨ o.1 = 9) ∧ rs.length = 8 then 5
  else 0
/-- The last place of a number. -/
def lastFrom : List Int → Int → Int → Int → Int
  | [], _, _, at' => at'
  | x :: l, a, i, at' => lastFrom l a (i + 1) (if x = a then i else at')
def lastP (l : List Int) (a : Int) : Int := lastFrom l a 0 (-1)

abbrev nd0 : Nd := ([], [], ())
/-- What an operation does when no code was told ahead. -/
def actG (g : Gr) (t : Int) (o : Opx) (rs : List Int) : Int × Int × Gr :=
  let ra := rs.getD o.2.1.toNat 0
  let rb := rs.getD o.2.2.1.toNat 0
  let rc := rs.getD o.2.2.2.1.toNat 0
  let n := g.1.getD ra.toNat nd0
  let f := o.2.2.2.2.1
  if o.1 = 1 then if g.1.length = 200 then (0, 6, g) else (0, 0, g.1 ++ [(List.replicate o.2.2.2.2.2.2.1.1.toNat (-1), List.replicate o.2.2.2.2.2.2.1.2.1.toNat 0, ())], g.2.1.set t.toNat (rs ++ [(g.1.length : Int)]), g.2.2.1, ())
  else if o.1 = 2 then if inB f n.1.length then (0, 0, g.1, g.2.1.set t.toNat (rs ++ [n.1.getD f.toNat 0]), g.2.2.1, ()) else (0, 4, g)
  else if o.1 = 3 then if inB f n.1.length then (0, 0, g.1.set ra.toNat (n.1.set f.toNat rb, n.2), g.2.1, g.2.2.1, ()) else (0, 4, g)
  else if o.1 = 4 then if inB f n.2.1.length then (0, 0, g.1.set ra.toNat (n.1, n.2.1.set f.toNat o.2.2.2.2.2.1, ()), g.2.1, g.2.2.1, ()) else (0, 4, g)
  else if o.1 = 5 then if inB f n.2.1.length then (n.2.1.getD f.toNat 0, 0, g) else (0, 4, g)
  else if o.1 = 6 then (if ra = rb then 1 else 0, 0, g)
  else if o.1 = 7 then if inB f n.1.length then (if n.1.getD f.toNat 0 = rb then (1, 0, g.1.set ra.toNat (n.1.set f.toNat rc, n.2), g.2.1, g.2.2.1, ()) else (0, 0, g)) else (0, 4, g)
  else if o.1 = 8 then (0, 0, g.1, g.2.1.set t.toNat (rs.take (rs.length - 1)), g.2.2.1, ())
  else if o.1 = 9 then (0, 0, g.1, g.2.1.set t.toNat (rs ++ [ra]), g.2.2.1, ())
  else if o.1 = 10 then if g.2.2.1.length = 8 then (0, 7, g) else (0, 0, g.1, g.2.1, g.2.2.1 ++ [ra], ())
  else if lastP g.2.2.1 ra < 0 then (0, 7, g) else (0, 0, g.1, g.2.1, g.2.2.1.take (lastP g.2.2.1 ra).toNat ++ g.2.2.1.drop ((lastP g.2.2.1 ra).toNat + 1), ())

/-- An operation on a graph: the answer, the code, the graph behind it. -/
def doG (g : Gr) (t : Int) (o : Opx) : Int × Int × Gr :=
  if okG g = true ∧ inB t g.2.1.length ∧ opOk o = true then
    (if beginC o (g.2.1.getD t.toNat []) (-1) = 0 then actG g t o (g.2.1.getD t.toNat []) else (0, beginC o (g.2.1.getD t.toNat []) (-1), g))
  else (0, 1, [], [], [], ())

theorem lastFrom_rng : ∀ (l : List Int) (a i at' : Int), -1 ≤ at' → at' < i → -1 ≤ lastFrom l a i at' ∧ lastFrom l a i at' < i + l.length
  | [], _, _, _, h, h' => by simp only [lastFrom, List.length_nil]; omega
  | x :: l, a, i, at', h, h' => by
    simp only [lastFrom]
    have := lastFrom_rng l a (i + 1) (if x = a then i else at') (by split <;> omega) (by split <;> omega)
    simp only [List.length_cons]
    omega

theorem opOk_kind {o : Opx} (h : opOk o = true) : 1 ≤ o.1 ∧ o.1 ≤ 11 := by
  simp only [opOk, Bool.and_eq_true, decide_eq_true_eq] at h
  exact ⟨h.1, h.2.1⟩

theorem kind_cases {k : Int} (h1 : 1 ≤ k) (h2 : k ≤ 11) : k = 1 ∨ k = 2 ∨ k = 3 ∨ k = 4 ∨ k = 5 ∨ k = 6 ∨ k = 7 ∨ k = 8 ∨ k = 9 ∨ k = 10 ∨ k = 11 := by omega
/-- It comes to an end, and what it comes to is so. -/
def Ret {α : Type} (o : Option α) (P : α → Prop) : Prop := ∃ r, o = some r ∧ P r

theorem Ret.pure {α : Type} {a : α} {P : α → Prop} (h : P a) : Ret (some a) P := ⟨a, rfl, h⟩
theorem Ret.bind {α β : Type} {o : Option α} {k : α → Option β} {P : β → Prop} (Q : α → Prop) (h : Ret o Q) (hk : ∀ r, Q r → Ret (k r) P) : Ret (o.bind k) P := by
  obtain ⟨r, e, hr⟩ := h
  rw [e]
  exact hk r hr
theorem Ret.bindE {α β : Type} {o : Option α} {k : α → Option β} {P : β → Prop} {r : α} (e : o = some r) (hk : Ret (k r) P) : Ret (o.bind k) P := by
  rw [e]; exact hk
theorem Ret.mono {α : Type} {o : Option α} {P Q : α → Prop} (h : Ret o P) (hm : ∀ r, P r → Q r) : Ret o Q := by
  obtain ⟨r, e, hr⟩ := h; exact ⟨r, e, hm r hr⟩
theorem Ret.bif {α : Type} {c : Bool} {a b : Option α} {P : α → Prop} (h1 : c = true → Ret a P) (h2 : c = false → Ret b P) : Ret (bif c then a else b) P := by
  cases c with
  | true => exact h1 rfl
  | false => exact h2 rfl
theorem Ret.dec {α : Type} {p : Prop} [Decidable p] {a b : Option α} {P : α → Prop} (h1 : p → Ret a P) (h2 : ¬ p → Ret b P) : Ret (_root_.cond (decide p) a b) P := by
  by_cases h : p
  · simpa [h] using h1 h
  · simpa [h] using h2 h
theorem Ret.guard {α : Type} {p : Prop} [Decidable p] {a : Option α} {P : α → Prop} (hp : p) (h : Ret a P) : Ret (_root_.cond (decide p) a none) P := by
  simpa [hp] using h
theorem Ret.guardN {α : Type} {p : Prop} [Decidable p] {a : Option α} {P : α → Prop} (hp : ¬ p) (h : Ret a P) : Ret (_root_.cond (decide p) none a) P := by
  simpa [hp] using h
theorem Ret.beq {α β : Type} [DecidableEq β] {x y : β} {a b : Option α} {P : α → Prop} (h1 : x = y → Ret a P) (h2 : ¬ x = y → Ret b P) : Ret (_root_.cond (x == y) a b) P := by
  rw [bif_beq]
  by_cases h : x = y
  · simpa [h] using h1 h
  · simpa [h] using h2 h
theorem obind_eq {α β : Type} {o : Option α} {r : α} {k : α → Option β} {z : Option β} (e : o = some r) (h : k r = z) : o.bind k = z := by
  rw [e]; exact h
abbrev Shx := Int × Int × Unit
abbrev Rgx := Int × Int × Int × Int × Int × Unit
def wordsOk (w : List Int) : Bool := decide (w.length % 16 = 0) && (decide (32 ≤ w.length) && decide (w.length ≤ 192))
theorem wordsOk_iff {w : List Int} : wordsOk w = true ↔ w.length % 16 = 0 ∧ 32 ≤ w.length ∧ w.length ≤ 192 := by
  simp only [wordsOk, Bool.and_eq_true, decide_eq_true_eq]
/-- So many words from an address on lie in one region behind the edge. -/
def fitsB (w : List Int) (a n : Int) : Bool := wordsOk w && (decide (1 ≤ n) && (decide (16 ≤ a) && (decide (a < (w.length : Int)) && decide (a % 16 + n ≤ 16))))
theorem fitsB_iff {w : List Int} {a n : Int} : fitsB w a n = true ↔ wordsOk w = true ∧ 1 ≤ n ∧ 16 ≤ a ∧ a < (w.length : Int) ∧ a % 16 + n ≤ 16 := by
  simp only [fitsB, Bool.and_eq_true, decide_eq_true_eq]
def shSz (s : Shx) : Int := if shOk s = true then 2 + s.1 + s.2.1 else 0
def shWd (s : Shx) : Int := if shOk s = true then 16 * s.1 + s.2.1 else -1
theorem shOk_iff {s : Shx} : shOk s = true ↔ 0 ≤ s.1 ∧ s.1 ≤ 4 ∧ 0 ≤ s.2.1 ∧ s.2.1 ≤ 4 := by
  simp only [shOk, Bool.and_eq_true, decide_eq_true_eq]
theorem shSz_rng {s : Shx} : 0 ≤ shSz s ∧ shSz s ≤ 10 := by
  unfold shSz
  split
  · rename_i h; have := shOk_iff.1 h; omega
  · omega
theorem fits_room {w : List Int} {a n : Int} (h : fitsB w a n = true) : a + n ≤ (w.length : Int) ∧ a < 192 ∧ w.length ≤ 192 := by
  obtain ⟨h1, h2, h3, h4, h5⟩ := fitsB_iff.1 h
  obtain ⟨h6, h7, h8⟩ := wordsOk_iff.1 h1
  omega
def thingMake (w : List Int) (a : Int) (s : Shx) : Bool × List Int :=
  if shOk s = true ∧ fitsB w a (shSz s) = true then (true, ((lay w a.toNat (List.replicate (shSz s).toNat 0)).set a.toNat a).set (a + 1).toNat (shWd s)) else (false, [])
def freeRow (r : Nat) : Rgx := (1, -1, 16 * (r : Int), 16 * (r : Int), 0, ())
def edgeRow : Rgx := (0, -1, 0, 0, 0, ())
def tableNew (R : Int) : List Rgx := edgeRow :: (List.range' 1 (R.toNat - 1)).map freeRow
def regBase (r : Int) : Int := if r < 0 ∨ r ≥ 12 then 0 else 16 * r
def regOf (a : Int) : Int := if a < 0 then -1 else a / 16

theorem wlay_len {α : Type} {xs ys : List α} {p : Nat} (h : p + ys.length ≤ xs.length) : (lay xs p ys).length = xs.length := by
  simp only [lay, List.length_append, List.length_take, List.length_drop]
  omega
/-- A loop that sets one place after the other. -/
theorem wlay_set {α : Type} {xs ys : List α} {p : Nat} {x : α} (h : p + ys.length < xs.length) : (lay xs p ys).set (p + ys.length) x = lay xs p (ys ++ [x]) := by
  simp only [lay]
  have e1 : p + ys.length = (xs.take p ++ ys).length := by simp; omega
  conv => lhs; rw [e1]
  rw [List.set_append_right _ _ (Nat.le_refl _), Nat.sub_self]
  have e2 : xs.drop (p + ys.length) = xs[p + ys.length] :: xs.drop (p + ys.length + 1) := List.drop_eq_getElem_cons h
  rw [← e1, e2]
  simp only [List.set_cons_zero, List.length_append, List.length_singleton, List.append_assoc, List.cons_append, List.nil_append]
  rfl

/-- A loop that puts one row behind the other. -/
theorem push_loop {α ρ : Type} {m : Nat} (f : Nat → α) {L : Nat → Nat → List α → Option ρ} {fin : List α → ρ} (hm : m ≤ 1048576)
    (h1 : ∀ n i s, i < m → s.length + 1 ≤ lim → w64 ((i : Int) + 1) = ((i + 1 : Nat) : Int) → L (n + 1) i s = L n (i + 1) (s ++ [f i])) (h3 : ∀ n s, L (n + 1) m s = some (fin s)) :
    ∀ (n i : Nat) (s : List α), i ≤ m → m - i < n → s.length + m ≤ 2097152 + i → L n i s = some (fin (s ++ (List.range' i (m - i)).map f))
  | 0, _, _, _, h, _ => absurd h (Nat.not_lt_zero _)
  | n + 1, i, s, hi, hn, hs => by
    have hlim : lim = 2147483648 := rfl
    by_cases h : i < m
    · rw [h1 n i s h (by omega) (w64_succ (by omega)), push_loop f hm h1 h3 n (i + 1) _ (by omega) (by omega) (by simp; omega)]
      have e : m - i = (m - (i + 1)) + 1 := by omega
      rw [e, List.range'_succ]
      simp
    · have : i = m := by omega
      subst this
      rw [h3]
      simp
section
variable {N : Nat}
theorem sWordsOk_ok {w : List Int} (hl : w.length ≤ 1048576) : FsWordsOk N (w, ()) = some (wordsOk w, ()) := by
  unfold FsWordsOk wordsOk
  dsimp only
  have e1 : w64 (Int.tdiv (w.length : Int) 16) = ((w.length / 16 : Nat) : Int) := by
    rw [Int.tdiv_eq_ediv_of_nonneg (by omega), w64_id (by omega) (by omega)]; omega
  have e2 : Int.tmod (w.length : Int) 16 = ((w.length % 16 : Nat) : Int) := by rw [Int.tmod_eq_emod_of_nonneg (by omega)]; omega
  simp only [e1, e2, show decide ((16 : Int) = 0) = false from rfl, cond_false, bif_beq]
  by_cases h : w.length % 16 = 0
  · have h1 : ((w.length % 16 : Nat) : Int) = 0 := by omega
    have h2 : decide (((w.length / 16 : Nat) : Int) ≥ 2) = decide (32 ≤ w.length) := by by_cases h3 : 32 ≤ w.length <;> simp [h3] <;> omega
    have h4 : decide (((w.length / 16 : Nat) : Int) ≤ 12) = decide (w.length ≤ 192) := by by_cases h3 : w.length ≤ 192 <;> simp [h3] <;> omega
    rw [if_pos h1, h2, h4]
    cases decide (32 ≤ w.length) <;> simp [h]
  · have h1 : ¬ ((w.length % 16 : Nat) : Int) = 0 := by omega
    rw [if_neg h1]
    simp [h]
theorem sRegionOf_ok {a : Int} (h : a < 9223372036854775808) : FsRegionOf N (a, ()) = some (regOf a, ()) := by
  unfold FsRegionOf regOf
  dsimp only
  by_cases h0 : a < 0
  · simp [h0]
  · have e1 : w64 (Int.tdiv a 16) = a / 16 := by
      rw [Int.tdiv_eq_ediv_of_nonneg (by omega), w64_id (by omega) (by omega)]
    simp only [h0, decide_false, cond_false, show decide ((16 : Int) = 0) = false from rfl, e1, if_false]
theorem sl3Fits_ok {w : List Int} {a n : Int} (hl : w.length ≤ 1048576) : Fsl3Fits N (w, a, n, ()) = some (fitsB w a n, ()) := by
  unfold Fsl3Fits fitsB
  simp only [sWordsOk_ok hl, Option.bind_some]
  cases hw : wordsOk w with
  | false => simp
  | true =>
    by_cases h1 : 1 ≤ n
    · have h1' : n > 0 := by omega
      by_cases h2 : n ≤ 16
      · by_cases h3 : 16 ≤ a
        · by_cases h4 : a < (w.length : Int)
          · have e1 := sRegionOf_ok (N := N) (a := a) (by omega)
            have e2 := sRegionOf_ok (N := N) (a := a + n - 1) (by omega)
            have e3 : w64 (a + n) = a + n := w64_id (by omega) (by omega)
            have e4 : w64 (a + n - 1) = a + n - 1 := w64_id (by omega) (by omega)
            simp only [h1, h1', h2, h3, h4, ge_iff_le, e1, e2, e3, e4, decide_true, cond_true, Option.bind_some, Bool.true_and]
            have h5 : (regOf a == regOf (a + n - 1)) = decide (a % 16 + n ≤ 16) := by
              have n1 : ¬ a < 0 := by omega
              have n2 : ¬ a + n - 1 < 0 := by omega
              simp only [regOf, n1, n2, if_false]
              by_cases h6 : a % 16 + n ≤ 16
              · have : a / 16 = (a + n - 1) / 16 := by omega
                simp [h6, this]
              · have : ¬ a / 16 = (a + n - 1) / 16 := by omega
                simp [h6, this]
            rw [h5]
          · simp [h1, h1', h2, h3, h4]
        · simp [h1, h1', h2, h3]
      · have : ¬ a % 16 + n ≤ 16 := by omega
        simp [h1', h2, this]
    · have h1' : ¬ n > 0 := by omega
      simp [h1, h1']
theorem sShapeOk_ok {s : Shx} : FsShapeOk N (s, ()) = some (shOk s, ()) := by
  unfold FsShapeOk shOk
  dsimp only
  by_cases h1 : 0 ≤ s.1 <;> by_cases h2 : s.1 ≤ 4 <;> by_cases h3 : 0 ≤ s.2.1 <;> simp [h1, h2, h3]
theorem sShapeSize_ok {s : Shx} : FsShapeSize N (s, ()) = some (shSz s, ()) := by
  unfold FsShapeSize shSz
  simp only [sShapeOk_ok, Option.bind_some]
  cases h : shOk s with
  | false => simp
  | true =>
    have := shOk_iff.1 h
    have e1 : w64 (2 + s.1) = 2 + s.1 := w64_id (by omega) (by omega)
    have e2 : w64 (2 + s.1 + s.2.1) = 2 + s.1 + s.2.1 := w64_id (by omega) (by omega)
    simp only [Bool.not_true, cond_false, e1, e2, if_true]
theorem sShapeWord_ok {s : Shx} : FsShapeWord N (s, ()) = some (shWd s, ()) := by
  unfold FsShapeWord shWd
  simp only [sShapeOk_ok, Option.bind_some]
  cases h : shOk s with
  | false => simp
  | true =>
    have := shOk_iff.1 h
    have e1 : w64 (16 * s.1) = 16 * s.1 := w64_id (by omega) (by omega)
    have e2 : w64 (16 * s.1 + s.2.1) = 16 * s.1 + s.2.1 := w64_id (by omega) (by omega)
    simp only [Bool.not_true, cond_false, e1, e2, if_true]
end
section
variable {N : Nat} (hN : lim < N)
include hN
theorem sThingMake_ok {w : List Int} {a : Int} {s : Shx} (hl : w.length ≤ 1048576) : FsThingMake N (w, a, s, ()) = some ((thingMake w a s).1, (thingMake w a s).2, ()) := by
  have hlim : lim = 2147483648 := rfl
  unfold FsThingMake thingMake
  simp only [sShapeSize_ok, sl3Fits_ok hl, Option.bind_some]
  cases hf : fitsB w a (shSz s) with
  | false => simp
  | true =>
    obtain ⟨f1, f2, f3, f4, f5⟩ := fitsB_iff.1 hf
    obtain ⟨g1, g2, g3⟩ := fits_room hf
    have hs : shOk s = true := by
      cases h : shOk s with
      | true => rfl
      | false => simp [shSz, h] at f2
    obtain ⟨k, hk⟩ := Int.eq_ofNat_of_zero_le (show 0 ≤ shSz s by omega)
    obtain ⟨b, rfl⟩ := Int.eq_ofNat_of_zero_le (show 0 ≤ a by omega)
    rw [hk] at f2 f5 g1
    have key : ∀ (n i : Nat), i ≤ k → k - i < n → lsThingMake_0 N n ((b : Int), s, (k : Int), (i : Int), lay w b (List.replicate i 0), ()) = some ((b : Int), s, lay w b (List.replicate k 0), ()) := by
      intro n
      induction n with
      | zero => intro i _ h; exact absurd h (Nat.not_lt_zero _)
      | succ n ih =>
        intro i hi hn
        unfold lsThingMake_0
        dsimp only
        by_cases h : i < k
        · have h' : (i : Int) < (k : Int) := by omega
          have e1 : w64 ((b : Int) + (i : Int)) = ((b + i : Nat) : Int) := by rw [w64_id (by omega) (by omega)]; omega
          have e2 : w64 ((i : Int) + 1) = ((i + 1 : Nat) : Int) := w64_succ (by omega)
          have e3 : b + i < (lay w b (List.replicate i (0 : Int))).length := by rw [wlay_len (by simp; omega)]; omega
          have e4 := wlay_set (xs := w) (ys := List.replicate i (0 : Int)) (p := b) (x := 0) (by simp; omega)
          simp only [List.length_replicate] at e4
          simp only [h', e1, e2, e3, decide_true, cond_true, Int.natCast_nonneg, Int.toNat_natCast, e4]
          have e5 : List.replicate i (0 : Int) ++ [0] = List.replicate (i + 1) 0 := by rw [List.replicate_succ']
          rw [e5]
          exact ih (i + 1) (by omega) (by omega)
        · have : i = k := by omega
          subst this
          simp
    have e0 : lay w b (List.replicate 0 (0 : Int)) = w := by simp [lay]
    have hL := key N 0 (by omega) (by omega)
    rw [e0] at hL
    simp only [Int.natCast_zero] at hL
    have l1 : (lay w b (List.replicate k (0 : Int))).length = w.length := wlay_len (by simp; omega)
    have e1 : w64 ((b : Int) + 1) = (b : Int) + 1 := w64_id (by omega) (by omega)
    have e2 : ((b : Int) + 1).toNat = b + 1 := by omega
    have l0 : ([] : List Int).length + w.length ≤ lim := by simp; omega
    simp only [hs, hk, Bool.not_true, cond_false, l0, decide_true, cond_true, List.nil_append, hL, Option.bind_some, Int.natCast_nonneg, Int.toNat_natCast, sShapeWord_ok, e1, e2, List.length_set, l1, and_self, if_true]
    have l2 : b < w.length := by omega
    have l3 : b + 1 < w.length := by simp [shSz, hs] at hk; have := shOk_iff.1 hs; omega
    have l4 : (0 : Int) ≤ (b : Int) + 1 := by omega
    simp only [l2, l3, l4, decide_true, cond_true]
end
section
variable {N : Nat}
theorem iWordsOk_ok {w : List Int} (hl : w.length ≤ 1048576) : FiWordsOk N (w, ()) = some (wordsOk w, ()) := by
  unfold FiWordsOk wordsOk
  dsimp only
  have e2 : Int.tmod (w.length : Int) 16 = ((w.length % 16 : Nat) : Int) := by rw [Int.tmod_eq_emod_of_nonneg (by omega)]; omega
  simp only [e2, show decide ((16 : Int) = 0) = false from rfl, cond_false, bif_beq]
  by_cases h : w.length % 16 = 0
  · have h1 : ((w.length % 16 : Nat) : Int) = 0 := by omega
    have h2 : decide ((w.length : Int) ≥ 32) = decide (32 ≤ w.length) := by by_cases h3 : 32 ≤ w.length <;> simp [h3] <;> omega
    have h4 : decide ((w.length : Int) ≤ 192) = decide (w.length ≤ 192) := by by_cases h3 : w.length ≤ 192 <;> simp [h3] <;> omega
    rw [if_pos h1, h2, h4]
    cases decide (32 ≤ w.length) <;> simp [h]
  · have h1 : ¬ ((w.length % 16 : Nat) : Int) = 0 := by omega
    rw [if_neg h1]
    simp [h]
theorem ifits_ok {w : List Int} {a n : Int} (hl : w.length ≤ 1048576) (h1 : 1 ≤ n) (h2 : n ≤ 1048576) : Fifits N (w, a, n, ()) = some (fitsB w a n, ()) := by
  unfold Fifits fitsB
  simp only [iWordsOk_ok hl, Option.bind_some]
  cases hw : wordsOk w with
  | false => simp
  | true =>
    by_cases h3 : 16 ≤ a
    · by_cases h4 : a < (w.length : Int)
      · have e2 : Int.tmod a 16 = a % 16 := Int.tmod_eq_emod_of_nonneg (by omega)
        have e3 : w64 (a % 16 + n) = a % 16 + n := w64_id (by omega) (by omega)
        simp [h1, h3, h4, e2, e3]
      · simp [h3, h4]
    · simp [h3]
theorem iShapeOk_ok {s : Shx} : FiShapeOk N (s, ()) = some (shOk s, ()) := by
  unfold FiShapeOk shOk
  dsimp only
  by_cases h1 : 0 ≤ s.1 <;> by_cases h2 : s.1 ≤ 4 <;> by_cases h3 : 0 ≤ s.2.1 <;> simp [h1, h2, h3]
theorem iShapeSize_ok {s : Shx} : FiShapeSize N (s, ()) = some (shSz s, ()) := by
  unfold FiShapeSize shSz
  simp only [iShapeOk_ok, Option.bind_some]
  cases h : shOk s with
  | false => simp
  | true =>
    have := shOk_iff.1 h
    have e1 : w64 (2 + s.1) = 2 + s.1 := w64_id (by omega) (by omega)
    have e2 : w64 (2 + s.1 + s.2.1) = 2 + s.1 + s.2.1 := w64_id (by omega) (by omega)
    simp only [Bool.not_true, cond_false, e1, e2, if_true]
theorem iShapeWord_ok {s : Shx} : FiShapeWord N (s, ()) = some (shWd s, ()) := by
  unfold FiShapeWord shWd
  simp only [iShapeOk_ok, Option.bind_some]
  cases h : shOk s with
  | false => simp
  | true =>
    have := shOk_iff.1 h
    have e1 : w64 (16 * s.1) = 16 * s.1 := w64_id (by omega) (by omega)
    have e2 : w64 (16 * s.1 + s.2.1) = 16 * s.1 + s.2.1 := w64_id (by omega) (by omega)
    simp only [Bool.not_true, cond_false, e1, e2, if_true]
end
section
variable {N : Nat} (hN : lim < N)
include hN

theorem kClone_ok {xs : List Int} (hl : xs.length ≤ lim) : FkClone_Sint_int N (xs, ()) = some (xs, ()) := by
  cases xs with
  | nil =>
    simp only [FkClone_Sint_int, List.isEmpty_nil, cond_true]
    refine anyOf_eq (by omega) fun i _ => ?_
    cases hi : (i == 0) <;> simp
  | cons x xs =>
    have hl' : xs.length + 1 ≤ lim := by simpa using hl
    simp [FkClone_Sint_int, hl']

end
section
variable {N : Nat} (hN : lim < N)
include hN
theorem iThingMake_ok {w : List Int} {a : Int} {s : Shx} (hl : w.length ≤ 1048576) : FiThingMake N (w, a, s, ()) = some ((thingMake w a s).1, (thingMake w a s).2, ()) := by
  have hlim : lim = 2147483648 := rfl
  unfold FiThingMake thingMake
  simp only [iShapeOk_ok, Option.bind_some]
  cases hs : shOk s with
  | false => simp
  | true =>
    have hz : 1 ≤ shSz s ∧ shSz s ≤ 10 := by simp only [shSz, hs, if_true]; have := shOk_iff.1 hs; omega
    simp only [iShapeSize_ok, ifits_ok hl hz.1 (by omega), Option.bind_some, Bool.not_true, cond_false]
    cases hf : fitsB w a (shSz s) with
    | false => simp
    | true =>
      obtain ⟨f1, f2, f3, f4, f5⟩ := fitsB_iff.1 hf
      obtain ⟨g1, g2, g3⟩ := fits_room hf
      obtain ⟨k, hk⟩ := Int.eq_ofNat_of_zero_le (show 0 ≤ shSz s by omega)
      obtain ⟨b, rfl⟩ := Int.eq_ofNat_of_zero_le (show 0 ≤ a by omega)
      rw [hk] at f2 f5 g1 hz
      have l1 : (lay w b (List.replicate k (0 : Int))).length = w.length := wlay_len (by simp; omega)
      have e1 : w64 ((b : Int) + 1) = (b : Int) + 1 := w64_id (by omega) (by omega)
      have e3 : w64 ((b : Int) + (k : Int)) = ((b + k : Nat) : Int) := by rw [w64_id (by omega) (by omega)]; omega
      have e2 : ((b : Int) + 1).toNat = b + 1 := by omega
      have l2 : b < w.length := by omega
      have l3 : b + 1 < w.length := by simp [shSz, hs] at hk; have := shOk_iff.1 hs; omega
      have l4 : (0 : Int) ≤ (b : Int) + 1 := by omega
      have l5 : ((b + k : Nat) : Int) ≤ (w.length : Int) := by omega
      have l6 : (b : Int) ≤ ((b + k : Nat) : Int) := by omega
      have l7 : b + k - b = k := by omega
      simp only [hk, Bool.not_true, cond_false, Option.bind_some, Sum.elim_inl, kClone_ok hN (show w.length ≤ lim by omega), iShapeSize_ok, iShapeWord_ok, e3, Int.natCast_nonneg, Int.toNat_natCast, decide_true, cond_true, l5, l6, l7, l1, l2, e1, e2, l4, l3, List.length_set, and_self, if_true]
end
section
variable {N : Nat} (hN : lim < N)
theorem sRegionBase_ok {r : Int} : FsRegionBase N (r, ()) = some (regBase r, ()) := by
  unfold FsRegionBase regBase
  dsimp only
  by_cases h1 : r < 0
  · simp [h1]
  · by_cases h2 : r ≥ 12
    · simp only [h1, h2, decide_true, decide_false, cond_true, cond_false, or_true, if_true]
    · have e : w64 (r * 16) = 16 * r := by rw [w64_id (by omega) (by omega)]; omega
      simp only [h1, h2, decide_false, cond_false, or_self, if_false, e]
include hN
theorem sTableNew_ok {R : Int} (h2 : 2 ≤ R) (h12 : R ≤ 12) : FsTableNew N (R, ()) = some (true, tableNew R, ()) := by
  have hlim : lim = 2147483648 := rfl
  obtain ⟨k, rfl⟩ := Int.eq_ofNat_of_zero_le (show 0 ≤ R by omega)
  have hL := push_loop (m := k) freeRow (L := fun n i s => lsTableNew_0 N n ((k : Int), (i : Int), s, ())) (fin := fun s => (s, ())) (by omega)
    (fun n i s h hs hw => by
      have h' : (i : Int) < (k : Int) := by omega
      have e : regBase (i : Int) = 16 * (i : Int) := by unfold regBase; rw [if_neg (by omega)]
      have l : s.length + [((1, -1, 16 * (i : Int), 16 * (i : Int), 0, ()) : Rgx)].length ≤ lim := by simpa using hs
      simp only [lsTableNew_0, h', decide_true, cond_true, sRegionBase_ok, Option.bind_some, e, hw, l]
      rfl)
    (fun n s => by simp [lsTableNew_0]) N 0 [] (by omega) (by omega) (by simp; omega)
  simp only [Int.natCast_zero, Nat.sub_zero, List.nil_append] at hL
  have n1 : ¬ (k : Int) < 2 := by omega
  have n2 : ¬ (k : Int) > 12 := by omega
  unfold FsTableNew
  simp only [n1, n2, decide_false, cond_false, Option.bind_some, Sum.elim_inl, hL]
  obtain ⟨j, rfl⟩ : ∃ j, k = j + 1 := ⟨k - 1, by omega⟩
  simp [tableNew, List.range'_succ, edgeRow]
end
section
variable {N : Nat} (hN : lim < N)
theorem iRegionBase_ok {r : Int} : FiRegionBase N (r, ()) = some (regBase r, ()) := by
  unfold FiRegionBase regBase
  dsimp only
  by_cases h1 : r < 0
  · simp [h1]
  · by_cases h2 : r ≥ 12
    · simp only [h1, h2, decide_true, decide_false, cond_true, cond_false, or_true, if_true]
    · have e : w64 (r * 16) = 16 * r := by rw [w64_id (by omega) (by omega)]; omega
      simp only [h1, h2, decide_false, cond_false, or_self, if_false, e]
include hN
theorem iTableNew_ok {R : Int} (h2 : 2 ≤ R) (h12 : R ≤ 12) : FiTableNew N (R, ()) = some (true, tableNew R, ()) := by
  have hlim : lim = 2147483648 := rfl
  obtain ⟨k, rfl⟩ := Int.eq_ofNat_of_zero_le (show 0 ≤ R by omega)
  have hL := push_loop (m := k) freeRow (L := fun n i s => liTableNew_0 N n ((k : Int), (i : Int), s, ())) (fin := fun s => (s, ())) (by omega)
    (fun n i s h hs hw => by
      have h' : (i : Int) < (k : Int) := by omega
      have e : regBase (i : Int) = 16 * (i : Int) := by unfold regBase; rw [if_neg (by omega)]
      have l : s.length + [((1, -1, 16 * (i : Int), 16 * (i : Int), 0, ()) : Rgx)].length ≤ lim := by simpa using hs
      simp only [liTableNew_0, h', decide_true, cond_true, Fifree, iRegionBase_ok, Option.bind_some, e, hw, l]
      rfl)
    (fun n s => by simp [liTableNew_0]) N 1 [edgeRow] (by omega) (by omega) (by simp; omega)
  simp only [Int.natCast_one] at hL
  have n1 : ¬ (k : Int) < 2 := by omega
  have n2 : ¬ (k : Int) > 12 := by omega
  unfold FiTableNew
  simp only [edgeRow] at hL
  simp only [n1, n2, decide_false, cond_false, Option.bind_some, Sum.elim_inl, Fiedge, hL]
  simp [tableNew, edgeRow]
end
theorem wf_u8 {n : Int} (h : (Lit.int .u8 n).wf = true) : 0 ≤ n ∧ n < 256 := by
  simp only [Lit.wf, IntKind.min, IntKind.max, IntKind.signed, IntKind.bits] at h
  simp at h
  omega
theorem wf_i64 {n : Int} (h : (Lit.int .i64 n).wf = true) : -9223372036854775808 ≤ n ∧ n < 9223372036854775808 := by
  simp only [Lit.wf, IntKind.min, IntKind.max, IntKind.signed, IntKind.bits] at h
  simp at h
  omega
/-- Rows of at most so many elements. -/
def lnT : (t : Ty) → t.den → Prop
  | .pair a b, x => lnT a x.1 ∧ lnT b x.2
  | .sl t, xs => xs.length ≤ 1048576 ∧ ∀ x ∈ xs, lnT t x
  | .fz t, x => lnT t x
  | _, _ => True

/-- Marks, one element behind the other. -/
def mkS {α : Type} (f : Int → α → Int × α) : Int → List α → Int × List α
  | k, [] => (k, [])
  | k, x :: r => ((mkS f (f k x).1 r).1, (f k x).2 :: (mkS f (f k x).1 r).2)

/-- Marks in an element. -/
def markE : (t : Ty) → Int → t.den → Int × t.den
  | .int _, k, _ => (k + 1, k)
  | .bool, k, _ => (k + 1, Int.tmod k 3 == 0)
  | .pair a b, k, x => ((markE b (markE a k x.1).1 x.2).1, ((markE a k x.1).2, (markE b (markE a k x.1).1 x.2).2))
  | .sl t, k, xs => mkS (markE t) k xs
  | .fz t, k, x => markE t k x
  | .str, k, x => (k, x)
  | .unit, k, x => (k, x)
  | .mp _, k, x => (k, x)

/-- So many marks at most. -/
def bndT : Ty → Int
  | .int _ | .bool => 1
  | .pair a b => bndT a + bndT b
  | .sl t => 1048576 * bndT t
  | .fz t => bndT t
  | _ => 0

theorem bndT_nn : ∀ t : Ty, 0 ≤ bndT t
  | .int _ | .bool => by simp [bndT]
  | .pair a b => by have := bndT_nn a; have := bndT_nn b; simp only [bndT]; omega
  | .sl t => by have := bndT_nn t; simp only [bndT]; omega
  | .fz t => by have := bndT_nn t; simp only [bndT]; omega
  | .str | .unit | .mp _ => by simp [bndT]

theorem mkS_rng {α : Type} {f : Int → α → Int × α} {P : α → Prop} {B : Int} (hB : ∀ k x, P x → k ≤ (f k x).1 ∧ (f k x).1 ≤ k + B) : ∀ {xs : List α} (k : Int), (∀ x ∈ xs, P x) → k ≤ (mkS f k xs).1 ∧ (mkS f k xs).1 ≤ k + B * xs.length
  | [], k, _ => by simp [mkS]
  | x :: r, k, h => by
    have h1 := hB k x (h x (by simp))
    have h2 := mkS_rng hB (xs := r) (f k x).1 fun y hy => h y (by simp [hy])
    simp only [mkS, List.length_cons, Int.natCast_add, Int.natCast_one, Int.mul_add, Int.mul_one]
    omega

theorem mkS_len {α : Type} {f : Int → α → Int × α} : ∀ {xs : List α} (k : Int), (mkS f k xs).2.length = xs.length
  | [], _ => rfl
  | x :: r, k => by simp [mkS, mkS_len]

theorem markE_rng : ∀ {t : Ty} {x : t.den} (k : Int), lnT t x → k ≤ (markE t k x).1 ∧ (markE t k x).1 ≤ k + bndT t
  | .int _, _, _, _ | .bool, _, _, _ => by simp only [markE, bndT]; omega
  | .pair a b, x, k, h => by
    have h1 := markE_rng (t := a) (x := x.1) k h.1
    have h2 := markE_rng (t := b) (x := x.2) (markE a k x.1).1 h.2
    simp only [markE, bndT]; omega
  | .sl t, xs, k, h => by
    have h1 := mkS_rng (f := markE t) (P := lnT t) (B := bndT t) (fun k x hx => markE_rng k hx) (xs := xs) k h.2
    have h2 : bndT t * (xs.length : Int) ≤ bndT t * 1048576 := Int.mul_le_mul_of_nonneg_left (by have := h.1; omega) (bndT_nn t)
    simp only [markE, bndT]; omega
  | .fz t, x, k, h => markE_rng (t := t) (x := x) k h
  | .str, _, _, _ | .unit, _, _, _ | .mp _, _, _, _ => by simp only [markE, bndT]; omega

/-- Marking goes element by element. -/
theorem mark_loop {α ρ : Type} {f : Int → α → Int × α} {P : α → Prop} {B : Int} {xs : List α} {L : Nat → Int → Nat → List α → Option ρ} {fin : Int → List α → ρ} (hl : xs.length ≤ lim) (hx : ∀ x ∈ xs, P x) (b0 : 0 ≤ B)
    (hB : ∀ k x, P x → k ≤ (f k x).1 ∧ (f k x).1 ≤ k + B)
    (h1 : ∀ n k i (s : List α) (h : i < s.length), P s[i] → 0 ≤ k → k + B ≤ 4611686018427387904 → w64 ((i : Int) + 1) = ((i + 1 : Nat) : Int) → L (n + 1) k i s = L n (f k s[i]).1 (i + 1) (s.set i (f k s[i]).2))
    (h3 : ∀ n k s, L (n + 1) k s.length s = some (fin k s)) {n : Nat} (hn : xs.length < n) {k : Int} (h0 : 0 ≤ k) (hk : k + B * xs.length ≤ 4611686018427387904) : L n k 0 xs = some (fin (mkS f k xs).1 (mkS f k xs).2) := by
  have key : ∀ (ys pre : List α) (n : Nat) (k : Int), (∀ x ∈ ys, P x) → pre.length + ys.length ≤ lim → ys.length < n → 0 ≤ k → k + B * ys.length ≤ 4611686018427387904 →
      L n k pre.length (pre ++ ys) = some (fin (mkS f k ys).1 (pre ++ (mkS f k ys).2)) := by
    intro ys
    induction ys with
    | nil =>
      intro pre n k _ _ hn _ _
      obtain ⟨n, rfl⟩ : ∃ n', n = n' + 1 := ⟨n - 1, by simp at hn; omega⟩
      have := h3 n k pre
      simpa [mkS] using this
    | cons y ys ih =>
      intro pre n k hy hl hn h0 hk
      obtain ⟨n, rfl⟩ : ∃ n', n = n' + 1 := ⟨n - 1, by simp at hn; omega⟩
      have hlim : lim = 2147483648 := rfl
      simp only [List.length_cons, Int.natCast_add, Int.natCast_one, Int.mul_add, Int.mul_one] at hl hn hk
      have b1 : 0 ≤ B * (ys.length : Int) := Int.mul_nonneg b0 (by omega)
      have hlt : pre.length < (pre ++ y :: ys).length := by simp
      have hg : (pre ++ y :: ys)[pre.length] = y := by simp
      have hPy := hy y (by simp)
      have h4 := hB k y hPy
      have := h1 n k pre.length (pre ++ y :: ys) hlt (by rw [hg]; exact hPy) h0 (by omega) (w64_succ (by omega))
      rw [this, hg]
      have e : (pre ++ y :: ys).set pre.length (f k y).2 = (pre ++ [(f k y).2]) ++ ys := by simp
      have := ih (pre ++ [(f k y).2]) n (f k y).1 (fun x hx => hy x (by simp [hx])) (by simp; omega) (by omega) (by omega) (by omega)
      simp only [List.length_append, List.length_singleton] at this
      rw [e, this]
      simp [mkS]
  have := key xs [] n k hx (by simpa using hl) hn h0 hk
  simpa using this

/-- What was marked is held. -/
theorem held_loop {α ρ : Type} {f : Int → α → Int × α} {P : α → Prop} {B : Int} {xs : List α} {L : Nat → List α → Int → Nat → Option ρ} {fin : Int → ρ} (hl : xs.length ≤ lim) (hx : ∀ x ∈ xs, P x) (b0 : 0 ≤ B)
    (hB : ∀ k x, P x → k ≤ (f k x).1 ∧ (f k x).1 ≤ k + B)
    (h1 : ∀ n k i (s : List α) (h : i < s.length) x, s[i] = (f k x).2 → P x → 0 ≤ k → k + B ≤ 4611686018427387904 → w64 ((i : Int) + 1) = ((i + 1 : Nat) : Int) → L (n + 1) s k i = L n s (f k x).1 (i + 1))
    (h3 : ∀ n k s, L (n + 1) s k s.length = some (fin k)) {n : Nat} (hn : xs.length < n) {k : Int} (h0 : 0 ≤ k) (hk : k + B * xs.length ≤ 4611686018427387904) : L n (mkS f k xs).2 k 0 = some (fin (mkS f k xs).1) := by
  have key : ∀ (ys pre : List α) (n : Nat) (k : Int), (∀ x ∈ ys, P x) → pre.length + ys.length ≤ lim → ys.length < n → 0 ≤ k → k + B * ys.length ≤ 4611686018427387904 →
      L n (pre ++ (mkS f k ys).2) k pre.length = some (fin (mkS f k ys).1) := by
    intro ys
    induction ys with
    | nil =>
      intro pre n k _ _ hn _ _
      obtain ⟨n, rfl⟩ : ∃ n', n = n' + 1 := ⟨n - 1, by simp at hn; omega⟩
      have := h3 n k pre
      simpa [mkS] using this
    | cons y ys ih =>
      intro pre n k hy hl hn h0 hk
      obtain ⟨n, rfl⟩ : ∃ n', n = n' + 1 := ⟨n - 1, by simp at hn; omega⟩
      have hlim : lim = 2147483648 := rfl
      simp only [List.length_cons, Int.natCast_add, Int.natCast_one, Int.mul_add, Int.mul_one] at hl hn hk
      have b1 : 0 ≤ B * (ys.length : Int) := Int.mul_nonneg b0 (by omega)
      have hPy := hy y (by simp)
      have h4 := hB k y hPy
      simp only [mkS]
      generalize hq : (mkS f (f k y).1 ys).2 = q
      have hlt : pre.length < (pre ++ (f k y).2 :: q).length := by simp
      have hg : (pre ++ (f k y).2 :: q)[pre.length] = (f k y).2 := by simp
      rw [h1 n k pre.length _ hlt y hg hPy h0 (by omega) (w64_succ (by omega))]
      have := ih (pre ++ [(f k y).2]) n (f k y).1 (fun x hx => hy x (by simp [hx])) (by simp; omega) (by omega) (by omega) (by omega)
      rw [hq] at this
      simp only [List.length_append, List.length_singleton, List.append_assoc, List.cons_append, List.nil_append] at this
      exact this
  have := key xs [] n k hx (by simpa using hl) hn h0 hk
  simpa using this

theorem getD_set_i {α : Type} {l : List α} {i : Nat} {x d : α} (h : i < l.length) : (l.set i x).getD i d = x := by
  rw [getD_lt (by simpa using h)]; exact List.getElem_set_self _

theorem ne_step {α : Type} [DecidableEq α] {a b : α} {c : Bool} : (_root_.cond (a != b) (some (false, ())) (some (c, ())) : Option (Bool × Unit)) = some (decide (a = b) && c, ()) := by
  by_cases h : a = b <;> simp [h]
theorem not_step {d c : Bool} : (_root_.cond (!d) (some (false, ())) (some (c, ())) : Option (Bool × Unit)) = some (d && c, ()) := by
  cases d <;> rfl
theorem bool_beq {a b : Bool} : (a == b) = decide (a = b) := by cases a <;> cases b <;> rfl

/-- A row's size. -/
theorem sz_loop {α : Type} {xs : List α} (P : α → Prop) {L : Nat → Nat → Int → Option ((Int × Unit) ⊕ (Int × Unit))} {N : Nat} (hN : lim < N) {left : Int} (hx : (xs.length : Int) ≤ 9223372036854775807) (h0 : 0 ≤ left) (h1' : left ≤ 1048576)
    (h1 : ∀ n i (h : i < xs.length) (left : Int), 0 ≤ left → left ≤ 1048576 → w64 ((i : Int) + 1) = ((i + 1 : Nat) : Int) →
      L (n + 1) i left = some (.inr (-1, ())) ∨ ∃ r, 0 ≤ r ∧ r ≤ left ∧ P xs[i] ∧ L (n + 1) i left = L n (i + 1) r)
    (h3 : ∀ n left, L (n + 1) xs.length left = some (.inl (left, ()))) :
    ∃ r : Int, (_root_.cond (decide (w64 (left - (xs.length : Int)) < 0)) (some ((-1 : Int), ())) ((L N 0 (w64 (left - (xs.length : Int)))).bind fun o => Sum.elim (fun o => some (o.1, ())) (fun o => some (o.1, ())) o) : Option (Int × Unit)) = some (r, ()) ∧
      (r < 0 ∨ (0 ≤ r ∧ r ≤ left ∧ xs.length ≤ 1048576 ∧ ∀ x ∈ xs, P x)) := by
  rw [w64_id (by omega) (by omega)]
  by_cases h : left - (xs.length : Int) < 0
  · exact ⟨-1, by simp [h], by simp⟩
  · simp only [h, decide_false, cond_false]
    have hlim : lim = 2147483648 := rfl
    rcases size_loop (xs := xs) (n := N) P (by omega) h1 h3 (by omega) (left := left - xs.length) (by omega) (by omega) with hL | ⟨r, h2, h3, h4, hL⟩
    · exact ⟨-1, by rw [hL]; rfl, by simp⟩
    · exact ⟨r, by rw [hL]; rfl, .inr ⟨h2, by omega, by omega, h4⟩⟩
abbrev tIntS : Ty := (.sl (.int .i64))
abbrev tBoolS : Ty := (.sl .bool)
abbrev tShape : Ty := (.pair (.int .i64) (.pair (.int .i64) .unit))
abbrev tOp : Ty := (.pair (.int .i64) (.pair (.int .i64) (.pair (.int .i64) (.pair (.int .i64) (.pair (.int .i64) (.pair (.int .i64) (.pair (.pair (.int .i64) (.pair (.int .i64) .unit)) .unit)))))))
abbrev tOpS : Ty := (.sl (.pair (.int .i64) (.pair (.int .i64) (.pair (.int .i64) (.pair (.int .i64) (.pair (.int .i64) (.pair (.int .i64) (.pair (.pair (.int .i64) (.pair (.int .i64) .unit)) .unit))))))))
abbrev tOpSS : Ty := (.sl (.sl (.pair (.int .i64) (.pair (.int .i64) (.pair (.int .i64) (.pair (.int .i64) (.pair (.int .i64) (.pair (.int .i64) (.pair (.pair (.int .i64) (.pair (.int .i64) .unit)) .unit)))))))))
abbrev tEvent : Ty := (.pair (.int .i64) (.pair (.int .i64) (.pair (.int .i64) (.pair (.int .i64) .unit))))
abbrev tEventS : Ty := (.sl (.pair (.int .i64) (.pair (.int .i64) (.pair (.int .i64) (.pair (.int .i64) .unit)))))
abbrev tRegion : Ty := (.pair (.int .i64) (.pair (.int .i64) (.pair (.int .i64) (.pair (.int .i64) (.pair (.int .i64) .unit)))))
abbrev tRegionS : Ty := (.sl (.pair (.int .i64) (.pair (.int .i64) (.pair (.int .i64) (.pair (.int .i64) (.pair (.int .i64) .unit))))))
abbrev tThread : Ty := (.pair (.sl (.int .i64)) (.pair (.int .i64) (.pair .bool (.pair (.int .i64) .unit))))
abbrev tThreadS : Ty := (.sl (.pair (.sl (.int .i64)) (.pair (.int .i64) (.pair .bool (.pair (.int .i64) .unit)))))
abbrev tState : Ty := (.pair (.sl (.int .i64)) (.pair (.sl (.pair (.int .i64) (.pair (.int .i64) (.pair (.int .i64) (.pair (.int .i64) (.pair (.int .i64) .unit)))))) (.pair (.sl .bool) (.pair (.int .i64) (.pair .bool (.pair .bool (.pair .bool (.pair (.int .i64) (.pair (.sl (.pair (.sl (.int .i64)) (.pair (.int .i64) (.pair .bool (.pair (.int .i64) .unit))))) (.pair (.sl (.int .i64)) (.pair (.sl (.int .i64)) (.pair (.int .i64) (.pair (.int .i64) .unit)))))))))))))
abbrev tConfig : Ty := (.pair (.int .i64) (.pair (.int .i64) (.pair (.int .i64) .unit)))
abbrev tCall : Ty := (.pair (.int .i64) (.pair (.int .i64) (.pair (.int .i64) (.pair (.int .i64) (.pair (.int .i64) (.pair (.int .i64) .unit))))))
abbrev tCallS : Ty := (.sl (.pair (.int .i64) (.pair (.int .i64) (.pair (.int .i64) (.pair (.int .i64) (.pair (.int .i64) (.pair (.int .i64) .unit)))))))
abbrev tNode : Ty := (.pair (.sl (.int .i64)) (.pair (.sl (.int .i64)) .unit))
abbrev tNodeS : Ty := (.sl (.pair (.sl (.int .i64)) (.pair (.sl (.int .i64)) .unit)))
abbrev tIntSS : Ty := (.sl (.sl (.int .i64)))
abbrev tGraph : Ty := (.pair (.sl (.pair (.sl (.int .i64)) (.pair (.sl (.int .i64)) .unit))) (.pair (.sl (.sl (.int .i64))) (.pair (.sl (.int .i64)) .unit)))
instance decOp_6 : DecidableEq ((Int × Int × Unit) × Unit) := @instDecidableEqProd _ _ inferInstance inferInstance
instance decOp_5 : DecidableEq (Int × ((Int × Int × Unit) × Unit)) := @instDecidableEqProd _ _ inferInstance decOp_6
instance decOp_4 : DecidableEq (Int × (Int × (Int × Int × Unit) × Unit)) := @instDecidableEqProd _ _ inferInstance decOp_5
instance decOp_3 : DecidableEq (Int × (Int × Int × (Int × Int × Unit) × Unit)) := @instDecidableEqProd _ _ inferInstance decOp_4
instance decOp_2 : DecidableEq (Int × (Int × Int × Int × (Int × Int × Unit) × Unit)) := @instDecidableEqProd _ _ inferInstance decOp_3
instance decOp_1 : DecidableEq (Int × (Int × Int × Int × Int × (Int × Int × Unit) × Unit)) := @instDecidableEqProd _ _ inferInstance decOp_2
instance decOp_0 : DecidableEq (Int × (Int × Int × Int × Int × Int × (Int × Int × Unit) × Unit)) := @instDecidableEqProd _ _ inferInstance decOp_1
instance decRegion_4 : DecidableEq (Int × Unit) := @instDecidableEqProd _ _ inferInstance inferInstance
instance decRegion_3 : DecidableEq (Int × (Int × Unit)) := @instDecidableEqProd _ _ inferInstance decRegion_4
instance decRegion_2 : DecidableEq (Int × (Int × Int × Unit)) := @instDecidableEqProd _ _ inferInstance decRegion_3
instance decRegion_1 : DecidableEq (Int × (Int × Int × Int × Unit)) := @instDecidableEqProd _ _ inferInstance decRegion_2
instance decRegion_0 : DecidableEq (Int × (Int × Int × Int × Int × Unit)) := @instDecidableEqProd _ _ inferInstance decRegion_1
instance decState_12 : DecidableEq (Int × Unit) := @instDecidableEqProd _ _ inferInstance inferInstance
instance decState_11 : DecidableEq (Int × (Int × Unit)) := @instDecidableEqProd _ _ inferInstance decState_12
instance decState_10 : DecidableEq ((List Int) × (Int × Int × Unit)) := @instDecidableEqProd _ _ inferInstance decState_11
instance decState_9 : DecidableEq ((List Int) × ((List Int) × Int × Int × Unit)) := @instDecidableEqProd _ _ inferInstance decState_10
instance decState_8 : DecidableEq ((List ((List Int) × Int × Bool × Int × Unit)) × ((List Int) × (List Int) × Int × Int × Unit)) := @instDecidableEqProd _ _ inferInstance decState_9
instance decState_7 : DecidableEq (Int × ((List ((List Int) × Int × Bool × Int × Unit)) × (List Int) × (List Int) × Int × Int × Unit)) := @instDecidableEqProd _ _ inferInstance decState_8
instance decState_6 : DecidableEq (Bool × (Int × (List ((List Int) × Int × Bool × Int × Unit)) × (List Int) × (List Int) × Int × Int × Unit)) := @instDecidableEqProd _ _ inferInstance decState_7
instance decState_5 : DecidableEq (Bool × (Bool × Int × (List ((List Int) × Int × Bool × Int × Unit)) × (List Int) × (List Int) × Int × Int × Unit)) := @instDecidableEqProd _ _ inferInstance decState_6
instance decState_4 : DecidableEq (Bool × (Bool × Bool × Int × (List ((List Int) × Int × Bool × Int × Unit)) × (List Int) × (List Int) × Int × Int × Unit)) := @instDecidableEqProd _ _ inferInstance decState_5
instance decState_3 : DecidableEq (Int × (Bool × Bool × Bool × Int × (List ((List Int) × Int × Bool × Int × Unit)) × (List Int) × (List Int) × Int × Int × Unit)) := @instDecidableEqProd _ _ inferInstance decState_4
instance decState_2 : DecidableEq ((List Bool) × (Int × Bool × Bool × Bool × Int × (List ((List Int) × Int × Bool × Int × Unit)) × (List Int) × (List Int) × Int × Int × Unit)) := @instDecidableEqProd _ _ inferInstance decState_3
instance decState_1 : DecidableEq ((List (Int × Int × Int × Int × Int × Unit)) × ((List Bool) × Int × Bool × Bool × Bool × Int × (List ((List Int) × Int × Bool × Int × Unit)) × (List Int) × (List Int) × Int × Int × Unit)) := @instDecidableEqProd _ _ inferInstance decState_2
instance decState_0 : DecidableEq ((List Int) × ((List (Int × Int × Int × Int × Int × Unit)) × (List Bool) × Int × Bool × Bool × Bool × Int × (List ((List Int) × Int × Bool × Int × Unit)) × (List Int) × (List Int) × Int × Int × Unit)) := @instDecidableEqProd _ _ inferInstance decState_1
instance decCall_5 : DecidableEq (Int × Unit) := @instDecidableEqProd _ _ inferInstance inferInstance
instance decCall_4 : DecidableEq (Int × (Int × Unit)) := @instDecidableEqProd _ _ inferInstance decCall_5
instance decCall_3 : DecidableEq (Int × (Int × Int × Unit)) := @instDecidableEqProd _ _ inferInstance decCall_4
instance decCall_2 : DecidableEq (Int × (Int × Int × Int × Unit)) := @instDecidableEqProd _ _ inferInstance decCall_3
instance decCall_1 : DecidableEq (Int × (Int × Int × Int × Int × Unit)) := @instDecidableEqProd _ _ inferInstance decCall_2
instance decCall_0 : DecidableEq (Int × (Int × Int × Int × Int × Int × Unit)) := @instDecidableEqProd _ _ inferInstance decCall_1
section
variable {N : Nat} (hN : lim < N)
include hN

theorem wtoConfig_ok {x : (Int × Int × Int × Unit)} (hx : lnT tConfig x) : FvtoConfig N (x, ()) = some (x.1, x.2.1, x.2.2.1, ()) := by
  simp [FvtoConfig]
end
section
variable {N : Nat} (hN : lim < N)
include hN

theorem weqIntS_ok {xs ys : (List Int)} (hx : lnT tIntS xs) : FveqIntS N (xs, ys, ()) = some (decide (xs = ys), ()) := by
  have hlim : lim = 2147483648 := rfl
  have hl : xs.length ≤ lim := by have := hx.1; omega
  by_cases hlen : xs.length = ys.length
  · have hL := eq_loop (xs := xs) (ys := ys) (n := N) (L := fun n i => lveqIntS_0 N n (xs, ys, (i : Int), ())) (yes := .inl ()) (no := .inr (false, ())) hl hlen
      (fun n i h1 h2 hw hq => by
        simp [lveqIntS_0, h1, h2, hw, hq])
      (fun n i h1 h2 hq => by simp [lveqIntS_0, h1, h2, hq])
      (fun n => by simp [lveqIntS_0, hlen]) (by omega)
    simp only [Int.natCast_zero] at hL
    rcases Decidable.em (xs = ys) with rfl | h
    · simp [FveqIntS, hL]
    · simp [FveqIntS, hL, h, hlen]
  · have h : xs ≠ ys := fun h => hlen (by rw [h])
    have h2 : (xs.length : Int) ≠ ys.length := by omega
    simp [FveqIntS, h, h2]
end
section
variable {N : Nat} (hN : lim < N)
include hN

theorem weqRegion_ok {x y : (Int × Int × Int × Int × Int × Unit)} (hx : lnT tRegion x) : FveqRegion N (x, y, ()) = some (decide (x = y), ()) := by
  obtain ⟨xa, xb, xc, xd, xe, ⟨⟩⟩ := x
  obtain ⟨ya, yb, yc, yd, ye, ⟨⟩⟩ := y
  simp only [FveqRegion, Option.bind_some, ne_step, not_step, bool_beq]
  simp only [Prod.mk.injEq, Bool.decide_and, and_true, Bool.and_true, decide_true]
end
section
variable {N : Nat} (hN : lim < N)
include hN

theorem weqRegionS_ok {xs ys : (List (Int × Int × Int × Int × Int × Unit))} (hx : lnT tRegionS xs) : FveqRegionS N (xs, ys, ()) = some (decide (xs = ys), ()) := by
  have hlim : lim = 2147483648 := rfl
  have hl : xs.length ≤ lim := by have := hx.1; omega
  by_cases hlen : xs.length = ys.length
  · have hL := eq_loop (xs := xs) (ys := ys) (n := N) (L := fun n i => lveqRegionS_0 N n (xs, ys, (i : Int), ())) (yes := .inl ()) (no := .inr (false, ())) hl hlen
      (fun n i h1 h2 hw hq => by
        have e := weqRegion_ok hN (y := ys[i]) (hx.2 _ (List.getElem_mem h1))
        rw [decide_eq_true hq] at e
        simp [lveqRegionS_0, h1, h2, hw, e])
      (fun n i h1 h2 hq => by simp [lveqRegionS_0, h1, h2, hq, weqRegion_ok hN (y := ys[i]) (hx.2 _ (List.getElem_mem h1))])
      (fun n => by simp [lveqRegionS_0, hlen]) (by omega)
    simp only [Int.natCast_zero] at hL
    rcases Decidable.em (xs = ys) with rfl | h
    · simp [FveqRegionS, hL]
    · simp [FveqRegionS, hL, h, hlen]
  · have h : xs ≠ ys := fun h => hlen (by rw [h])
    have h2 : (xs.length : Int) ≠ ys.length := by omega
    simp [FveqRegionS, h, h2]
end
section
variable {N : Nat} (hN : lim < N)
include hN

theorem weqBoolS_ok {xs ys : (List Bool)} (hx : lnT tBoolS xs) : FveqBoolS N (xs, ys, ()) = some (decide (xs = ys), ()) := by
  have hlim : lim = 2147483648 := rfl
  have hl : xs.length ≤ lim := by have := hx.1; omega
  by_cases hlen : xs.length = ys.length
  · have hL := eq_loop (xs := xs) (ys := ys) (n := N) (L := fun n i => lveqBoolS_0 N n (xs, ys, (i : Int), ())) (yes := .inl ()) (no := .inr (false, ())) hl hlen
      (fun n i h1 h2 hw hq => by
        simp [lveqBoolS_0, h1, h2, hw, hq])
      (fun n i h1 h2 hq => by simp [lveqBoolS_0, h1, h2, hq])
      (fun n => by simp [lveqBoolS_0, hlen]) (by omega)
    simp only [Int.natCast_zero] at hL
    rcases Decidable.em (xs = ys) with rfl | h
    · simp [FveqBoolS, hL]
    · simp [FveqBoolS, hL, h, hlen]
  · have h : xs ≠ ys := fun h => hlen (by rw [h])
    have h2 : (xs.length : Int) ≠ ys.length := by omega
    simp [FveqBoolS, h, h2]
end
section
variable {N : Nat} (hN : lim < N)
include hN

theorem weqThread_ok {x y : ((List Int) × Int × Bool × Int × Unit)} (hx : lnT tThread x) : FveqThread N (x, y, ()) = some (decide (x = y), ()) := by
  obtain ⟨xa, xb, xc, xd, ⟨⟩⟩ := x
  obtain ⟨ya, yb, yc, yd, ⟨⟩⟩ := y
  simp only [FveqThread, Option.bind_some, weqIntS_ok hN hx.1, ne_step, not_step, bool_beq]
  simp only [Prod.mk.injEq, Bool.decide_and, and_true, Bool.and_true, decide_true]
end
section
variable {N : Nat} (hN : lim < N)
include hN

theorem weqThreadS_ok {xs ys : (List ((List Int) × Int × Bool × Int × Unit))} (hx : lnT tThreadS xs) : FveqThreadS N (xs, ys, ()) = some (decide (xs = ys), ()) := by
  have hlim : lim = 2147483648 := rfl
  have hl : xs.length ≤ lim := by have := hx.1; omega
  by_cases hlen : xs.length = ys.length
  · have hL := eq_loop (xs := xs) (ys := ys) (n := N) (L := fun n i => lveqThreadS_0 N n (xs, ys, (i : Int), ())) (yes := .inl ()) (no := .inr (false, ())) hl hlen
      (fun n i h1 h2 hw hq => by
        have e := weqThread_ok hN (y := ys[i]) (hx.2 _ (List.getElem_mem h1))
        rw [decide_eq_true hq] at e
        simp [lveqThreadS_0, h1, h2, hw, e])
      (fun n i h1 h2 hq => by simp [lveqThreadS_0, h1, h2, hq, weqThread_ok hN (y := ys[i]) (hx.2 _ (List.getElem_mem h1))])
      (fun n => by simp [lveqThreadS_0, hlen]) (by omega)
    simp only [Int.natCast_zero] at hL
    rcases Decidable.em (xs = ys) with rfl | h
    · simp [FveqThreadS, hL]
    · simp [FveqThreadS, hL, h, hlen]
  · have h : xs ≠ ys := fun h => hlen (by rw [h])
    have h2 : (xs.length : Int) ≠ ys.length := by omega
    simp [FveqThreadS, h, h2]
end
section
variable {N : Nat} (hN : lim < N)
include hN

theorem weqState_ok {x y : ((List Int) × (List (Int × Int × Int × Int × Int × Unit)) × (List Bool) × Int × Bool × Bool × Bool × Int × (List ((List Int) × Int × Bool × Int × Unit)) × (List Int) × (List Int) × Int × Int × Unit)} (hx : lnT tState x) : FveqState N (x, y, ()) = some (decide (x = y), ()) := by
  obtain ⟨xa, xb, xc, xd, xe, xf, xg, xh, xi, xj, xk, xl, xm, ⟨⟩⟩ := x
  obtain ⟨ya, yb, yc, yd, ye, yf, yg, yh, yi, yj, yk, yl, ym, ⟨⟩⟩ := y
  simp only [FveqState, Option.bind_some, weqIntS_ok hN hx.1, weqRegionS_ok hN hx.2.1, weqBoolS_ok hN hx.2.2.1, weqThreadS_ok hN hx.2.2.2.2.2.2.2.2.1, weqIntS_ok hN hx.2.2.2.2.2.2.2.2.2.1, weqIntS_ok hN hx.2.2.2.2.2.2.2.2.2.2.1, ne_step, not_step, bool_beq]
  simp only [Prod.mk.injEq, Bool.decide_and, and_true, Bool.and_true, decide_true]
end
section
variable {N : Nat} (hN : lim < N)
include hN

theorem wmarkRegionS_ok {k : Int} {xs : (List (Int × Int × Int × Int × Int × Unit))} (hx : lnT tRegionS xs) (h0 : 0 ≤ k) (h1 : k + bndT tRegionS ≤ 4611686018427387904) : FvmarkRegionS N (k, xs, ()) = some ((markE tRegionS k xs).1, (markE tRegionS k xs).2, ()) := by
  have hlim : lim = 2147483648 := rfl
  have hx1 := hx.1
  have hL := mark_loop (f := markE tRegion) (P := lnT tRegion) (B := bndT tRegion) (xs := xs) (n := N) (k := k) (L := fun n k i s => lvmarkRegionS_0 N n (k, (i : Int), s, ())) (fin := fun k s => (k, s, ())) (by omega) hx.2 (bndT_nn _) (fun k x hx => markE_rng k hx)
    (fun n k i s h hP hk0 hk hw => by
      have hb := hk; simp only [bndT] at hb
      have w0 : w64 (k + 1) = k + 1 := w64_id (by omega) (by omega)
      have w1 : w64 (k + 1 + 1) = k + 1 + 1 := w64_id (by omega) (by omega)
      have w2 : w64 (k + 1 + 1 + 1) = k + 1 + 1 + 1 := w64_id (by omega) (by omega)
      have w3 : w64 (k + 1 + 1 + 1 + 1) = k + 1 + 1 + 1 + 1 := w64_id (by omega) (by omega)
      have w4 : w64 (k + 1 + 1 + 1 + 1 + 1) = k + 1 + 1 + 1 + 1 + 1 := w64_id (by omega) (by omega)
      simp only [lvmarkRegionS_0, Int.ofNat_lt, h, decide_true, cond_true, Int.natCast_nonneg, Int.toNat_natCast, List.length_set, getD_set_i h, List.set_set, getD_lt h, hw, Option.bind_some, w0, w1, w2, w3, w4, show decide ((3 : Int) = 0) = false from rfl, cond_false]
      try simp only [markE])
    (fun n k s => by simp [lvmarkRegionS_0]) (by omega) h0 (by
      have : bndT tRegion * (xs.length : Int) ≤ bndT tRegion * 1048576 := Int.mul_le_mul_of_nonneg_left (by omega) (bndT_nn _)
      have e2 : bndT tRegionS = 1048576 * bndT tRegion := rfl
      omega)
  simp only [Int.natCast_zero] at hL
  simp only [FvmarkRegionS, hL, Option.bind_some, markE]
end
section
variable {N : Nat} (hN : lim < N)
include hN

theorem wmarkBoolS_ok {k : Int} {xs : (List Bool)} (hx : lnT tBoolS xs) (h0 : 0 ≤ k) (h1 : k + bndT tBoolS ≤ 4611686018427387904) : FvmarkBoolS N (k, xs, ()) = some ((markE tBoolS k xs).1, (markE tBoolS k xs).2, ()) := by
  have hlim : lim = 2147483648 := rfl
  have hx1 := hx.1
  have hL := mark_loop (f := markE .bool) (P := lnT .bool) (B := bndT .bool) (xs := xs) (n := N) (k := k) (L := fun n k i s => lvmarkBoolS_0 N n (k, (i : Int), s, ())) (fin := fun k s => (k, s, ())) (by omega) hx.2 (bndT_nn _) (fun k x hx => markE_rng k hx)
    (fun n k i s h hP hk0 hk hw => by
      have hb := hk; simp only [bndT] at hb
      have w0 : w64 (k + 1) = k + 1 := w64_id (by omega) (by omega)
      simp only [lvmarkBoolS_0, Int.ofNat_lt, h, decide_true, cond_true, Int.natCast_nonneg, Int.toNat_natCast, List.length_set, getD_set_i h, List.set_set, getD_lt h, hw, Option.bind_some, w0, show decide ((3 : Int) = 0) = false from rfl, cond_false]
      try simp only [markE])
    (fun n k s => by simp [lvmarkBoolS_0]) (by omega) h0 (by
      have : bndT .bool * (xs.length : Int) ≤ bndT .bool * 1048576 := Int.mul_le_mul_of_nonneg_left (by omega) (bndT_nn _)
      have e2 : bndT tBoolS = 1048576 * bndT .bool := rfl
      omega)
  simp only [Int.natCast_zero] at hL
  simp only [FvmarkBoolS, hL, Option.bind_some, markE]
end
section
variable {N : Nat} (hN : lim < N)
include hN

theorem wmarkIntS_ok {k : Int} {xs : (List Int)} (hx : lnT tIntS xs) (h0 : 0 ≤ k) (h1 : k + bndT tIntS ≤ 4611686018427387904) : FvmarkIntS N (k, xs, ()) = some ((markE tIntS k xs).1, (markE tIntS k xs).2, ()) := by
  have hlim : lim = 2147483648 := rfl
  have hx1 := hx.1
  have hL := mark_loop (f := markE (.int .i64)) (P := lnT (.int .i64)) (B := bndT (.int .i64)) (xs := xs) (n := N) (k := k) (L := fun n k i s => lvmarkIntS_0 N n (k, (i : Int), s, ())) (fin := fun k s => (k, s, ())) (by omega) hx.2 (bndT_nn _) (fun k x hx => markE_rng k hx)
    (fun n k i s h hP hk0 hk hw => by
      have hb := hk; simp only [bndT] at hb
      have w0 : w64 (k + 1) = k + 1 := w64_id (by omega) (by omega)
      simp only [lvmarkIntS_0, Int.ofNat_lt, h, decide_true, cond_true, Int.natCast_nonneg, Int.toNat_natCast, List.length_set, getD_set_i h, List.set_set, getD_lt h, hw, Option.bind_some, w0, show decide ((3 : Int) = 0) = false from rfl, cond_false]
      try simp only [markE])
    (fun n k s => by simp [lvmarkIntS_0]) (by omega) h0 (by
      have : bndT (.int .i64) * (xs.length : Int) ≤ bndT (.int .i64) * 1048576 := Int.mul_le_mul_of_nonneg_left (by omega) (bndT_nn _)
      have e2 : bndT tIntS = 1048576 * bndT (.int .i64) := rfl
      omega)
  simp only [Int.natCast_zero] at hL
  simp only [FvmarkIntS, hL, Option.bind_some, markE]
end
section
variable {N : Nat} (hN : lim < N)
include hN

theorem wmarkThreadS_ok {k : Int} {xs : (List ((List Int) × Int × Bool × Int × Unit))} (hx : lnT tThreadS xs) (h0 : 0 ≤ k) (h1 : k + bndT tThreadS ≤ 4611686018427387904) : FvmarkThreadS N (k, xs, ()) = some ((markE tThreadS k xs).1, (markE tThreadS k xs).2, ()) := by
  have hlim : lim = 2147483648 := rfl
  have hx1 := hx.1
  have hL := mark_loop (f := markE tThread) (P := lnT tThread) (B := bndT tThread) (xs := xs) (n := N) (k := k) (L := fun n k i s => lvmarkThreadS_0 N n (k, (i : Int), s, ())) (fin := fun k s => (k, s, ())) (by omega) hx.2 (bndT_nn _) (fun k x hx => markE_rng k hx)
    (fun n k i s h hP hk0 hk hw => by
      have hb := hk; simp only [bndT] at hb
      have m0 := wmarkIntS_ok hN (k := k) (xs := s[i].1) (by first | exact hP | exact hP.1) (by omega) (by simp only [bndT]; omega)
      have b0 := markE_rng (t := tIntS) (x := s[i].1) (k) hP.1
      simp only [bndT] at b0
      have w1 : w64 ((markE tIntS (k) s[i].1).1 + 1) = (markE tIntS (k) s[i].1).1 + 1 := w64_id (by omega) (by omega)
      have w2 : w64 ((markE tIntS (k) s[i].1).1 + 1 + 1) = (markE tIntS (k) s[i].1).1 + 1 + 1 := w64_id (by omega) (by omega)
      have w3 : w64 ((markE tIntS (k) s[i].1).1 + 1 + 1 + 1) = (markE tIntS (k) s[i].1).1 + 1 + 1 + 1 := w64_id (by omega) (by omega)
      simp only [lvmarkThreadS_0, Int.ofNat_lt, h, decide_true, cond_true, Int.natCast_nonneg, Int.toNat_natCast, List.length_set, getD_set_i h, List.set_set, getD_lt h, hw, Option.bind_some, m0, w1, w2, w3, show decide ((3 : Int) = 0) = false from rfl, cond_false]
      try simp only [markE])
    (fun n k s => by simp [lvmarkThreadS_0]) (by omega) h0 (by
      have : bndT tThread * (xs.length : Int) ≤ bndT tThread * 1048576 := Int.mul_le_mul_of_nonneg_left (by omega) (bndT_nn _)
      have e2 : bndT tThreadS = 1048576 * bndT tThread := rfl
      omega)
  simp only [Int.natCast_zero] at hL
  simp only [FvmarkThreadS, hL, Option.bind_some, markE]
end
section
variable {N : Nat} (hN : lim < N)
include hN

theorem wheldRegionS_ok {k : Int} {xs : (List (Int × Int × Int × Int × Int × Unit))} (hx : lnT tRegionS xs) (h0 : 0 ≤ k) (h1 : k + bndT tRegionS ≤ 4611686018427387904) : FvheldRegionS N ((markE tRegionS k xs).2, k, ()) = some ((markE tRegionS k xs).1, ()) := by
  have hlim : lim = 2147483648 := rfl
  have hx1 := hx.1
  have hL := held_loop (f := markE tRegion) (P := lnT tRegion) (B := bndT tRegion) (xs := xs) (n := N) (k := k) (L := fun n s k i => lvheldRegionS_0 N n (s, k, (i : Int), ())) (fin := fun k => .inl (k, ())) (by omega) hx.2 (bndT_nn _) (fun k x hx => markE_rng k hx)
    (fun n k i s h x hg hP hk0 hk hw => by
      have hb := hk; simp only [bndT] at hb
      have w0 : w64 (k + 1) = k + 1 := w64_id (by omega) (by omega)
      have w1 : w64 (k + 1 + 1) = k + 1 + 1 := w64_id (by omega) (by omega)
      have w2 : w64 (k + 1 + 1 + 1) = k + 1 + 1 + 1 := w64_id (by omega) (by omega)
      have w3 : w64 (k + 1 + 1 + 1 + 1) = k + 1 + 1 + 1 + 1 := w64_id (by omega) (by omega)
      have w4 : w64 (k + 1 + 1 + 1 + 1 + 1) = k + 1 + 1 + 1 + 1 + 1 := w64_id (by omega) (by omega)
      have hE : markE tRegion k x = (k + 1 + 1 + 1 + 1 + 1, (k, k + 1, k + 1 + 1, k + 1 + 1 + 1, k + 1 + 1 + 1 + 1, ())) := rfl
      rw [hE] at hg ⊢
      simp only [lvheldRegionS_0, Int.ofNat_lt, h, decide_true, cond_true, Int.natCast_nonneg, Int.toNat_natCast, getD_lt h, hg, hw, Option.bind_some, w0, w1, w2, w3, w4, bif_bne, if_true, decide_false, cond_false, beq_self_eq_true, Bool.not_true, show decide ((3 : Int) = 0) = false from rfl])
    (fun n k s => by simp [lvheldRegionS_0]) (by omega) h0 (by
      have : bndT tRegion * (xs.length : Int) ≤ bndT tRegion * 1048576 := Int.mul_le_mul_of_nonneg_left (by omega) (bndT_nn _)
      have e2 : bndT tRegionS = 1048576 * bndT tRegion := rfl
      omega)
  simp only [Int.natCast_zero] at hL
  unfold FvheldRegionS
  dsimp only
  rw [show markE tRegionS k xs = mkS (markE tRegion) k xs from rfl, hL]
  rfl
end
section
variable {N : Nat} (hN : lim < N)
include hN

theorem wheldBoolS_ok {k : Int} {xs : (List Bool)} (hx : lnT tBoolS xs) (h0 : 0 ≤ k) (h1 : k + bndT tBoolS ≤ 4611686018427387904) : FvheldBoolS N ((markE tBoolS k xs).2, k, ()) = some ((markE tBoolS k xs).1, ()) := by
  have hlim : lim = 2147483648 := rfl
  have hx1 := hx.1
  have hL := held_loop (f := markE .bool) (P := lnT .bool) (B := bndT .bool) (xs := xs) (n := N) (k := k) (L := fun n s k i => lvheldBoolS_0 N n (s, k, (i : Int), ())) (fin := fun k => .inl (k, ())) (by omega) hx.2 (bndT_nn _) (fun k x hx => markE_rng k hx)
    (fun n k i s h x hg hP hk0 hk hw => by
      have hb := hk; simp only [bndT] at hb
      have w0 : w64 (k + 1) = k + 1 := w64_id (by omega) (by omega)
      have hE : markE .bool k x = (k + 1, (Int.tmod (k) 3 == 0)) := rfl
      rw [hE] at hg ⊢
      simp only [lvheldBoolS_0, Int.ofNat_lt, h, decide_true, cond_true, Int.natCast_nonneg, Int.toNat_natCast, getD_lt h, hg, hw, Option.bind_some, w0, bif_bne, if_true, decide_false, cond_false, beq_self_eq_true, Bool.not_true, show decide ((3 : Int) = 0) = false from rfl])
    (fun n k s => by simp [lvheldBoolS_0]) (by omega) h0 (by
      have : bndT .bool * (xs.length : Int) ≤ bndT .bool * 1048576 := Int.mul_le_mul_of_nonneg_left (by omega) (bndT_nn _)
      have e2 : bndT tBoolS = 1048576 * bndT .bool := rfl
      omega)
  simp only [Int.natCast_zero] at hL
  unfold FvheldBoolS
  dsimp only
  rw [show markE tBoolS k xs = mkS (markE .bool) k xs from rfl, hL]
  rfl
end
section
variable {N : Nat} (hN : lim < N)
include hN

theorem wheldIntS_ok {k : Int} {xs : (List Int)} (hx : lnT tIntS xs) (h0 : 0 ≤ k) (h1 : k + bndT tIntS ≤ 4611686018427387904) : FvheldIntS N ((markE tIntS k xs).2, k, ()) = some ((markE tIntS k xs).1, ()) := by
  have hlim : lim = 2147483648 := rfl
  have hx1 := hx.1
  have hL := held_loop (f := markE (.int .i64)) (P := lnT (.int .i64)) (B := bndT (.int .i64)) (xs := xs) (n := N) (k := k) (L := fun n s k i => lvheldIntS_0 N n (s, k, (i : Int), ())) (fin := fun k => .inl (k, ())) (by omega) hx.2 (bndT_nn _) (fun k x hx => markE_rng k hx)
    (fun n k i s h x hg hP hk0 hk hw => by
      have hb := hk; simp only [bndT] at hb
      have w0 : w64 (k + 1) = k + 1 := w64_id (by omega) (by omega)
      have hE : markE (.int .i64) k x = (k + 1, k) := rfl
      rw [hE] at hg ⊢
      simp only [lvheldIntS_0, Int.ofNat_lt, h, decide_true, cond_true, Int.natCast_nonneg, Int.toNat_natCast, getD_lt h, hg, hw, Option.bind_some, w0, bif_bne, if_true, decide_false, cond_false, beq_self_eq_true, Bool.not_true, show decide ((3 : Int) = 0) = false from rfl])
    (fun n k s => by simp [lvheldIntS_0]) (by omega) h0 (by
      have : bndT (.int .i64) * (xs.length : Int) ≤ bndT (.int .i64) * 1048576 := Int.mul_le_mul_of_nonneg_left (by omega) (bndT_nn _)
      have e2 : bndT tIntS = 1048576 * bndT (.int .i64) := rfl
      omega)
  simp only [Int.natCast_zero] at hL
  unfold FvheldIntS
  dsimp only
  rw [show markE tIntS k xs = mkS (markE (.int .i64)) k xs from rfl, hL]
  rfl
end
section
variable {N : Nat} (hN : lim < N)
include hN

theorem wheldThreadS_ok {k : Int} {xs : (List ((List Int) × Int × Bool × Int × Unit))} (hx : lnT tThreadS xs) (h0 : 0 ≤ k) (h1 : k + bndT tThreadS ≤ 4611686018427387904) : FvheldThreadS N ((markE tThreadS k xs).2, k, ()) = some ((markE tThreadS k xs).1, ()) := by
  have hlim : lim = 2147483648 := rfl
  have hx1 := hx.1
  have hL := held_loop (f := markE tThread) (P := lnT tThread) (B := bndT tThread) (xs := xs) (n := N) (k := k) (L := fun n s k i => lvheldThreadS_0 N n (s, k, (i : Int), ())) (fin := fun k => .inl (k, ())) (by omega) hx.2 (bndT_nn _) (fun k x hx => markE_rng k hx)
    (fun n k i s h x hg hP hk0 hk hw => by
      have hb := hk; simp only [bndT] at hb
      have m0 := wheldIntS_ok hN (k := k) (xs := x.1) hP.1 (by omega) (by simp only [bndT]; omega)
      have b0 := markE_rng (t := tIntS) (x := x.1) (k) hP.1
      simp only [bndT] at b0
      have n0 : ¬ (markE tIntS (k) x.1).1 < 0 := by omega
      have w1 : w64 ((markE tIntS (k) x.1).1 + 1) = (markE tIntS (k) x.1).1 + 1 := w64_id (by omega) (by omega)
      have w2 : w64 ((markE tIntS (k) x.1).1 + 1 + 1) = (markE tIntS (k) x.1).1 + 1 + 1 := w64_id (by omega) (by omega)
      have w3 : w64 ((markE tIntS (k) x.1).1 + 1 + 1 + 1) = (markE tIntS (k) x.1).1 + 1 + 1 + 1 := w64_id (by omega) (by omega)
      have hE : markE tThread k x = ((markE tIntS (k) x.1).1 + 1 + 1 + 1, ((markE tIntS (k) x.1).2, (markE tIntS (k) x.1).1, (Int.tmod ((markE tIntS (k) x.1).1 + 1) 3 == 0), (markE tIntS (k) x.1).1 + 1 + 1, ())) := rfl
      rw [hE] at hg ⊢
      simp only [lvheldThreadS_0, Int.ofNat_lt, h, decide_true, cond_true, Int.natCast_nonneg, Int.toNat_natCast, getD_lt h, hg, hw, Option.bind_some, m0, n0, w1, w2, w3, bif_bne, if_true, decide_false, cond_false, beq_self_eq_true, Bool.not_true, show decide ((3 : Int) = 0) = false from rfl])
    (fun n k s => by simp [lvheldThreadS_0]) (by omega) h0 (by
      have : bndT tThread * (xs.length : Int) ≤ bndT tThread * 1048576 := Int.mul_le_mul_of_nonneg_left (by omega) (bndT_nn _)
      have e2 : bndT tThreadS = 1048576 * bndT tThread := rfl
      omega)
  simp only [Int.natCast_zero] at hL
  unfold FvheldThreadS
  dsimp only
  rw [show markE tThreadS k xs = mkS (markE tThread) k xs from rfl, hL]
  rfl
end
abbrev Cfx := Int × Int × Int × Unit
def confOk (c : Cfx) : Bool := decide (3 ≤ c.1) && (decide (c.1 ≤ 12) && (decide (1 ≤ c.2.1) && (decide (c.2.1 ≤ 3) && (decide (0 ≤ c.2.2.1) && decide (c.2.2.1 ≤ 100)))))

theorem sConfigOk_ok {N : Nat} {c : Cfx} : FsConfigOk N (c, ()) = some (confOk c, ()) := by
  obtain ⟨a, b, d, ⟨⟩⟩ := c
  unfold FsConfigOk confOk
  dsimp only
  by_cases h1 : 3 ≤ a <;> by_cases h2 : a ≤ 12 <;> by_cases h3 : 1 ≤ b <;> by_cases h4 : b ≤ 3 <;> by_cases h5 : 0 ≤ d <;> simp [h1, h2, h3, h4, h5]
theorem iConfigOk_ok {N : Nat} {c : Cfx} : FiConfigOk N (c, ()) = some (confOk c, ()) := by
  obtain ⟨a, b, d, ⟨⟩⟩ := c
  unfold FiConfigOk confOk
  dsimp only
  by_cases h1 : 3 ≤ a <;> by_cases h2 : a ≤ 12 <;> by_cases h3 : 1 ≤ b <;> by_cases h4 : b ≤ 3 <;> by_cases h5 : 0 ≤ d <;> simp [h1, h2, h3, h4, h5]

theorem confOk_iff {c : Cfx} : confOk c = true ↔ 3 ≤ c.1 ∧ c.1 ≤ 12 ∧ 1 ≤ c.2.1 ∧ c.2.1 ≤ 3 ∧ 0 ≤ c.2.2.1 ∧ c.2.2.1 ≤ 100 := by
  simp only [confOk, Bool.and_eq_true, decide_eq_true_eq]
section
variable {N : Nat} (hN : lim < N)
include hN

abbrev Thx := List Int × Int × Bool × Int × Unit
def words0 (R : Int) : List Int := (thingMake (List.replicate (16 * R).toNat 0) 16 (4, 2, ())).2
def table0 (R : Int) : List Rgx := (tableNew R).set 1 (3, -1, 24, 24, 0, ())
def threads0 (T : Int) : List Thx := List.replicate T.toNat ([16], 0, false, 0, ())

theorem words0_len {R : Int} (h3 : 3 ≤ R) (h12 : R ≤ 12) : (thingMake (List.replicate (16 * R).toNat 0) 16 (4, 2, ())).1 = true ∧ (words0 R).length = (16 * R).toNat := by
  have hs : shOk ((4, 2, ()) : Shx) = true := by decide
  have hz : shSz ((4, 2, ()) : Shx) = 8 := by decide
  have hf : fitsB (List.replicate (16 * R).toNat 0) 16 8 = true := by
    rw [fitsB_iff, wordsOk_iff]
    simp only [List.length_replicate]
    omega
  unfold words0 thingMake
  rw [hz, if_pos ⟨hs, hf⟩]
  refine ⟨rfl, ?_⟩
  simp only [List.length_set]
  rw [wlay_len (by simp; omega)]
  simp

theorem table0_len {R : Int} : (table0 R).length = (R.toNat - 1) + 1 := by simp [table0, tableNew]

theorem range_const {α : Type} (x : α) : ∀ (k i : Nat), (List.range' i k).map (fun _ => x) = List.replicate k x
  | 0, _ => rfl
  | k + 1, i => by simp [List.range'_succ, List.replicate_succ, range_const x k]

theorem sStateNew_ok {c : Cfx} : FsStateNew N (c, ()) = some (if confOk c = true then (0, false, false, false, 0, 0, 0, true, words0 c.1, table0 c.1, List.replicate (16 * c.1).toNat false, threads0 c.2.1, ()) else (0, false, false, false, 0, 0, 0, false, [], [], [], [], ())) := by
  have hlim : lim = 2147483648 := rfl
  unfold FsStateNew
  simp only [sConfigOk_ok, Option.bind_some]
  cases hc : confOk c with
  | false => simp
  | true =>
    obtain ⟨c1, c2, c3, c4, _, _⟩ := confOk_iff.1 hc
    obtain ⟨R, T, V, ⟨⟩⟩ := c
    dsimp only at c1 c2 c3 c4 ⊢
    obtain ⟨k, rfl⟩ := Int.eq_ofNat_of_zero_le (show 0 ≤ T by omega)
    have e1 : w64 (R * 16) = 16 * R := by rw [w64_id (by omega) (by omega)]; omega
    have e2 : (16 * R).toNat ≤ lim := by omega
    have e3 : (0 : Int) ≤ 16 * R := by omega
    have hw := words0_len hN c1 c2
    have hm := sThingMake_ok hN (w := List.replicate (16 * R).toNat 0) (a := 16) (s := (4, 2, ())) (by simp; omega)
    have hL := fun (W : List Int) (tb : List Rgx) (M : List Bool) => push_loop (m := k) (fun _ => (([16], 0, false, 0, ()) : Thx)) (L := fun n i s => lsStateNew_0 N n ((R, (k : Int), V, ()), (i : Int), 0, false, false, false, 0, 0, 0, 0, false, false, false, 0, 0, 0, W, tb, M, s, ()))
      (fin := fun s => (0, false, false, false, 0, 0, 0, 0, false, false, false, 0, 0, 0, W, tb, M, s, ())) (by omega)
      (fun n i s h hs hw => by
        have h' : (i : Int) < (k : Int) := by omega
        have l : s.length + [(([16], 0, false, 0, ()) : Thx)].length ≤ lim := by simpa using hs
        simp only [lsStateNew_0, h', decide_true, cond_true, hw, l])
      (fun n s => by simp [lsStateNew_0]) N 0 [] (by omega) (by omega) (by simp; omega)
    simp only [Int.natCast_zero, Nat.sub_zero, List.nil_append, range_const hN] at hL
    have l1 : 1 < (tableNew R).length := by simp [tableNew]; omega
    simp only [Bool.not_true, cond_false, sTableNew_ok hN (show 2 ≤ R by omega) c2, e1, e2, e3, decide_true, cond_true, Option.bind_some, hm, sShapeSize_ok, show shSz ((4, 2, ()) : Shx) = 8 from rfl, show w64 (16 + 8) = 24 by decide,
      show ((1 : Int)).toNat = 1 from rfl, l1, Int.le_refl, hL, if_true, show decide ((0 : Int) ≤ 1) = true from rfl]
    simp [words0, table0, threads0]

theorem iStateNew_ok {c : Cfx} : FiStateNew N (c, ()) = some (if confOk c = true then (0, false, false, false, 0, 0, 0, true, words0 c.1, table0 c.1, List.replicate (16 * c.1).toNat false, threads0 c.2.1, ()) else (0, false, false, false, 0, 0, 0, false, [], [], [], [], ())) := by
  have hlim : lim = 2147483648 := rfl
  unfold FiStateNew
  simp only [iConfigOk_ok, Option.bind_some]
  cases hc : confOk c with
  | false => simp
  | true =>
    obtain ⟨c1, c2, c3, c4, _, _⟩ := confOk_iff.1 hc
    obtain ⟨R, T, V, ⟨⟩⟩ := c
    dsimp only at c1 c2 c3 c4 ⊢
    obtain ⟨k, rfl⟩ := Int.eq_ofNat_of_zero_le (show 0 ≤ T by omega)
    have e1 : w64 (R * 16) = 16 * R := by rw [w64_id (by omega) (by omega)]; omega
    have e2 : (16 * R).toNat ≤ lim := by omega
    have e3 : (0 : Int) ≤ 16 * R := by omega
    have hw := words0_len hN c1 c2
    have hm := iThingMake_ok hN (w := List.replicate (16 * R).toNat 0) (a := 16) (s := (4, 2, ())) (by simp; omega)
    have hL := fun (W : List Int) (tb : List Rgx) (M : List Bool) => push_loop (m := k) (fun _ => (([16], 0, false, 0, ()) : Thx)) (L := fun n i s => liStateNew_0 N n ((k : Int), (i : Int), 0, false, false, false, 0, 0, 0, 0, false, false, false, 0, 0, 0, W, tb, M, s, ()))
      (fin := fun s => (0, false, false, false, 0, 0, 0, 0, false, false, false, 0, 0, 0, W, tb, M, s, ())) (by omega)
      (fun n i s h hs hw => by
        have h' : (i : Int) < (k : Int) := by omega
        have l : s.length + [(([16], 0, false, 0, ()) : Thx)].length ≤ lim := by simpa using hs
        simp only [liStateNew_0, h', decide_true, cond_true, hw, l])
      (fun n s => by simp [liStateNew_0]) N 0 [] (by omega) (by omega) (by simp; omega)
    simp only [Int.natCast_zero, Nat.sub_zero, List.nil_append, range_const hN] at hL
    have l1 : 1 < (tableNew R).length := by simp [tableNew]; omega
    have l2 : (words0 R).length ≤ lim := by omega
    have hw2 : (thingMake (List.replicate (16 * R).toNat 0) 16 (4, 2, ())).2 = words0 R := rfl
    simp only [Bool.not_true, cond_false, iTableNew_ok hN (show 2 ≤ R by omega) c2, e1, e2, e3, decide_true, cond_true, Option.bind_some, hm, iShapeSize_ok, show shSz ((4, 2, ()) : Shx) = 8 from rfl, show w64 (16 + 8) = 24 by decide,
      show ((1 : Int)).toNat = 1 from rfl, l1, Int.le_refl, hL, if_true, show decide ((0 : Int) ≤ 1) = true from rfl, hw2, Int.natCast_nonneg, Int.toNat_natCast, l2]
    simp [table0, threads0, hw.2]

theorem vmarkIntS_a_ok {k : Int} : FvmarkIntS_a N (k, ()) = some (k, ()) := by
  obtain ⟨m, hm⟩ : ∃ m, N = m + 1 := ⟨N - 1, by omega⟩
  have : lvmarkIntS_a_0 N (m + 1) (k, 0, ()) = some (k, ()) := by simp [lvmarkIntS_a_0]
  rw [← hm] at this
  simp [FvmarkIntS_a, this]

theorem FnExactStateNew_ok {c : Cfx} : FvFnExactStateNew N (c, ()) = some (true, ()) := by
  have hlim : lim = 2147483648 := rfl
  have es := sStateNew_ok hN (c := c)
  have ei := iStateNew_ok hN (c := c)
  have key : ∃ (b : Bool) (W : List Int) (tb : List Rgx) (M : List Bool) (th : List Thx), (if confOk c = true then (((0 : Int), false, false, false, (0 : Int), (0 : Int), (0 : Int), true, words0 c.1, table0 c.1, List.replicate (16 * c.1).toNat false, threads0 c.2.1, ()) : Int × Bool × Bool × Bool × Int × Int × Int × Bool × List Int × List Rgx × List Bool × List Thx × Unit) else (0, false, false, false, 0, 0, 0, false, [], [], [], [], ())) = (0, false, false, false, 0, 0, 0, b, W, tb, M, th, ()) ∧
      lnT tIntS W ∧ lnT tRegionS tb ∧ lnT tBoolS M ∧ lnT tThreadS th := by
    cases hc : confOk c with
    | false => exact ⟨false, [], [], [], [], by simp, ⟨by simp, by simp⟩, ⟨by simp, by simp⟩, ⟨by simp, by simp⟩, ⟨by simp, by simp⟩⟩
    | true =>
      obtain ⟨c1, c2, c3, c4, _, _⟩ := confOk_iff.1 hc
      refine ⟨true, words0 c.1, table0 c.1, List.replicate (16 * c.1).toNat false, threads0 c.2.1, by simp, ⟨?_, fun x _ => by simp [lnT]⟩, ⟨?_, fun x _ => by simp [lnT]⟩, ⟨?_, fun x _ => by simp [lnT]⟩, ⟨?_, fun x hx => ?_⟩⟩
      · rw [(words0_len hN c1 c2).2]; omega
      · rw [table0_len hN]; omega
      · simp; omega
      · simp [threads0]; omega
      · have := List.eq_of_mem_replicate (show x ∈ List.replicate c.2.1.toNat ([16], 0, false, 0, ()) from hx)
        subst this
        simp [lnT]
  obtain ⟨b, W, tb, M, th, e, l1, l2, l3, l4⟩ := key
  rw [e] at es ei
  clear e
  obtain ⟨ca, cb, cc, ⟨⟩⟩ := c
  have t0 := wtoConfig_ok hN (x := (ca, cb, cc, ())) ⟨trivial, trivial, trivial, trivial⟩
  have q1 := weqState_ok hN (x := (W, tb, M, 0, false, false, false, 0, th, [], [], 0, 0, ())) (y := (W, tb, M, 0, false, false, false, 0, th, [], [], 0, 0, ())) ⟨l1, l2, l3, trivial, trivial, trivial, trivial, trivial, l4, ⟨by simp, by simp⟩, ⟨by simp, by simp⟩, trivial, trivial, trivial⟩
  have k1 := wmarkIntS_ok hN (k := 1) l1 (by omega) (by simp only [bndT]; omega)
  have h1 := wheldIntS_ok hN (k := 1) l1 (by omega) (by simp only [bndT]; omega)
  have b1 := markE_rng (t := tIntS) (x := W) 1 l1
  simp only [bndT] at b1
  generalize markE tIntS 1 W = m1 at k1 h1 b1
  obtain ⟨m1, W'⟩ := m1
  dsimp only at k1 h1 b1
  have k2 := wmarkRegionS_ok hN (k := m1) l2 (by omega) (by simp only [bndT]; omega)
  have h2 := wheldRegionS_ok hN (k := m1) l2 (by omega) (by simp only [bndT]; omega)
  have b2 := markE_rng (t := tRegionS) (x := tb) m1 l2
  simp only [bndT] at b2
  generalize markE tRegionS m1 tb = m2 at k2 h2 b2
  obtain ⟨m2, tb'⟩ := m2
  dsimp only at k2 h2 b2
  have k3 := wmarkBoolS_ok hN (k := m2) l3 (by omega) (by simp only [bndT]; omega)
  have h3 := wheldBoolS_ok hN (k := m2) l3 (by omega) (by simp only [bndT]; omega)
  have b3 := markE_rng (t := tBoolS) (x := M) m2 l3
  simp only [bndT] at b3
  generalize markE tBoolS m2 M = m3 at k3 h3 b3
  obtain ⟨m3, M'⟩ := m3
  dsimp only at k3 h3 b3
  have k4 := wmarkThreadS_ok hN (k := m3) l4 (by omega) (by simp only [bndT]; omega)
  have h4 := wheldThreadS_ok hN (k := m3) l4 (by omega) (by simp only [bndT]; omega)
  have b4 := markE_rng (t := tThreadS) (x := th) m3 l4
  simp only [bndT] at b4
  generalize markE tThreadS m3 th = m4 at k4 h4 b4
  obtain ⟨m4, th'⟩ := m4
  dsimp only at k4 h4 b4
  have h5 : FvheldIntS N ([], m4, ()) = some (m4, ()) := wheldIntS_ok hN (k := m4) (xs := []) ⟨by simp, by simp⟩ (by omega) (by simp only [bndT]; omega)
  have n1 : ¬ m1 < 0 := by omega
  have n2 : ¬ m2 < 0 := by omega
  have n3 : ¬ m3 < 0 := by omega
  have n4 : ¬ m4 < 0 := by omega
  have K : FvmarkState N (0, false, false, false, 0, 0, 0, 1, W, tb, M, th, ()) = some (m4, W', tb', M', th', ()) := by
    simp only [FvmarkState, k1, k2, k3, k4, vmarkIntS_a_ok hN, Option.bind_some]
  have H : FvheldState N ((W', tb', M', 0, false, false, false, 0, th', [], [], 0, 0, ()), 1, ()) = some (m4, ()) := by
    simp only [FvheldState, h1, h2, h3, h4, h5, n1, n2, n3, n4, Option.bind_some, decide_false, cond_false]
  unfold FvFnExactStateNew
  simp only [t0, es, ei, q1, K, H, n4, decide_true, decide_false, Bool.not_true, cond_false, Option.bind_some, Sum.elim_inl, beq_self_eq_true, bif_bne, if_true]
end
end Go.Fl

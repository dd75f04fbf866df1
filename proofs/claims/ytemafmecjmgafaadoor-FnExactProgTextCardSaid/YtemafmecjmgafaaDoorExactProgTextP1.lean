/- Proved: for every input the law FnExactProgText returns true and leaves its arguments as they were. Part 1: the functions that the law reaches, as plain functions, and plain laws about them; no conditions. -/
import Derived.Test.YtemafmecjmgafaaDoorK3
import Derived.Test.YtemafmecjmgafaaDoorK4
import Derived.Test.YtemafmecjmgafaaDoorProg
import Derived.Lib.AtoiAll
import Derived.Lib.ItoaNum
import Derived.Lib.SplitLaws
import Derived.Lib.Join
set_option linter.all false
-- FUNCS vszOpS vtoShape vtoOp vtoOpS sShapeOk sOpOk sl11Word sl11Nums sl9Dec sOpText sProgText hProgText veqShape veqOp veqOpS vFnExactProgText
set_option maxRecDepth 100000
set_option linter.all false
namespace Go.Fl
open Go Go.Proofs
noncomputable def TE : List (Nat × Ty) := [(3, (.int .i64)),
  (5, (.int .u8)),
  (9, .str),
  (22, (.sl (.pair (.int .i64) (.pair (.int .i64) (.pair (.int .i64) (.pair (.int .i64) (.pair (.int .i64) (.pair (.int .i64) (.pair (.pair (.int .i64) (.pair (.int .i64) .unit)) .unit))))))))),
  (25, (.sl (.pair (.int .i64) (.pair (.int .i64) (.pair (.int .i64) (.pair (.int .i64) (.pair (.int .i64) (.pair (.int .i64) (.pair (.pair (.int .i64) (.pair (.int .i64) .unit)) .unit))))))))),
  (29, (.sl (.int .u8))),
  (33, (.pair (.int .i64) (.pair (.int .i64) .unit))),
  (35, (.pair (.int .i64) (.pair (.int .i64) (.pair (.int .i64) (.pair (.int .i64) (.pair (.int .i64) (.pair (.int .i64) (.pair (.pair (.int .i64) (.pair (.int .i64) .unit)) .unit)))))))),
  (43, (.sl (.int .i64))),
  (53, (.pair (.int .i64) (.pair (.int .i64) .unit))),
  (55, (.pair (.int .i64) (.pair (.int .i64) (.pair (.int .i64) (.pair (.int .i64) (.pair (.int .i64) (.pair (.int .i64) (.pair (.pair (.int .i64) (.pair (.int .i64) .unit)) .unit)))))))),
  (68, (.sl .str))]
theorem TE_ok : TyOk Tryd.prog TE := tysB_spec (by kernel_rfl)
theorem mixed : Tryd.prog.follows .mixedOrders = true := by kernel_rfl

/-! ### 9: laws.szOpS -/

noncomputable def dinvszOpS : Desc := { n := 2, regs := [.one (.val (.sl (.pair (.int .i64) (.pair (.int .i64) (.pair (.int .i64) (.pair (.int .i64) (.pair (.int .i64) (.pair (.int .i64) (.pair (.pair (.int .i64) (.pair (.int .i64) .unit)) .unit))))))))), .one (.val (.int .i64))], bx := [], pins := [] }
noncomputable def outvszOpS : Outs := [(.ret, { n := 1, regs := [.one (.val (.int .i64))], bx := [], pins := [] })]
noncomputable def HvszOpS : Hints := []
noncomputable def EvszOpS (_N : Nat) : Env := { te := TE, cs := [] }
noncomputable def FvszOpS (N : Nat) (x : ((List (Int × (Int × (Int × (Int × (Int × (Int × ((Int × (Int × Unit)) × Unit)))))))) × (Int × Unit))) : Option (Int × Unit) :=
  let y1 := decide ((w64 (x.2.1 - (x.1.length : Int))) < (0 : Int))
  bif y1 then
   some ((-1 : Int), ())
  else
  some (w64 (x.2.1 - (x.1.length : Int)), ())
noncomputable def convszOpS (N : Nat) : Con := { f := 9, din := dinvszOpS, outs := outvszOpS, F := FvszOpS N }
noncomputable def XvszOpS (N : Nat) : Ctx := { E := EvszOpS N, H := HvszOpS, lp := [], jn := [] }
theorem FvszOpS_eq (N : Nat) (x : ((List (Int × (Int × (Int × (Int × (Int × (Int × ((Int × (Int × Unit)) × Unit)))))))) × (Int × Unit))) : evFn (XvszOpS N) Tryd.f9 dinvszOpS outvszOpS x = FvszOpS N x := by kernel_rfl
theorem cxvszOpS (N : Nat) : CtxOk Tryd.prog (XvszOpS N) := ⟨⟨TE_ok, fun k hk => absurd hk List.not_mem_nil⟩, mixed⟩
theorem specvszOpS (N : Nat) : Spec Tryd.prog (convszOpS N) :=
  Spec.of_eq (fn_spec (cxvszOpS N) (f := 9) (fn := Tryd.f9) (c := codeOf Tryd.f9) (by kernel_rfl) (by kernel_rfl) (by kernel_rfl) (loops_at (ids := []) (by kernel_rfl) (trivial)) (by kernel_rfl)) (fun x r h => (FvszOpS_eq N x).trans h)

/-! ### 60: laws.toShape -/

noncomputable def dinvtoShape : Desc := { n := 1, regs := [.one (.val (.pair (.int .i64) (.pair (.int .i64) .unit)))], bx := [], pins := [] }
noncomputable def outvtoShape : Outs := [(.ret, { n := 1, regs := [.agg [.val (.int .i64), .val (.int .i64)]], bx := [], pins := [] })]
noncomputable def HvtoShape : Hints := [(0, [(0, { fz := true })])]
noncomputable def EvtoShape (_N : Nat) : Env := { te := TE, cs := [] }
noncomputable def FvtoShape (N : Nat) (x : ((Int × (Int × Unit)) × Unit)) : Option (Int × (Int × Unit)) :=
  some (x.1.1, x.1.2.1, ())
noncomputable def convtoShape (N : Nat) : Con := { f := 60, din := dinvtoShape, outs := outvtoShape, F := FvtoShape N }
noncomputable def XvtoShape (N : Nat) : Ctx := { E := EvtoShape N, H := HvtoShape, lp := [], jn := [] }
theorem FvtoShape_eq (N : Nat) (x : ((Int × (Int × Unit)) × Unit)) : evFn (XvtoShape N) Tryd.f60 dinvtoShape outvtoShape x = FvtoShape N x := by kernel_rfl
theorem cxvtoShape (N : Nat) : CtxOk Tryd.prog (XvtoShape N) := ⟨⟨TE_ok, fun k hk => absurd hk List.not_mem_nil⟩, mixed⟩
theorem specvtoShape (N : Nat) : Spec Tryd.prog (convtoShape N) :=
  Spec.of_eq (fn_spec (cxvtoShape N) (f := 60) (fn := Tryd.f60) (c := codeOf Tryd.f60) (by kernel_rfl) (by kernel_rfl) (by kernel_rfl) (loops_at (ids := []) (by kernel_rfl) (trivial)) (by kernel_rfl)) (fun x r h => (FvtoShape_eq N x).trans h)

/-! ### 31: laws.toOp -/

noncomputable def dinvtoOp : Desc := { n := 1, regs := [.one (.val (.pair (.int .i64) (.pair (.int .i64) (.pair (.int .i64) (.pair (.int .i64) (.pair (.int .i64) (.pair (.int .i64) (.pair (.pair (.int .i64) (.pair (.int .i64) .unit)) .unit))))))))], bx := [], pins := [] }
noncomputable def outvtoOp : Outs := [(.ret, { n := 1, regs := [.agg [.val (.int .i64), .val (.int .i64), .val (.int .i64), .val (.int .i64), .val (.int .i64), .val (.int .i64), .val (.int .i64), .val (.int .i64)]], bx := [], pins := [] })]
noncomputable def HvtoOp : Hints := [(0, [(0, { fz := true })])]
noncomputable def EvtoOp (N : Nat) : Env := { te := TE, cs := [convtoShape N] }
noncomputable def FvtoOp (N : Nat) (x : ((Int × (Int × (Int × (Int × (Int × (Int × ((Int × (Int × Unit)) × Unit))))))) × Unit)) : Option (Int × (Int × (Int × (Int × (Int × (Int × (Int × (Int × Unit)))))))) :=
  (FvtoShape N (x.1.2.2.2.2.2.2.1, ())).bind fun r1 =>
  some (x.1.1, x.1.2.1, x.1.2.2.1, x.1.2.2.2.1, x.1.2.2.2.2.1, x.1.2.2.2.2.2.1, r1.1, r1.2.1, ())
noncomputable def convtoOp (N : Nat) : Con := { f := 31, din := dinvtoOp, outs := outvtoOp, F := FvtoOp N }
noncomputable def XvtoOp (N : Nat) : Ctx := { E := EvtoOp N, H := HvtoOp, lp := [], jn := [] }
theorem FvtoOp_eq (N : Nat) (x : ((Int × (Int × (Int × (Int × (Int × (Int × ((Int × (Int × Unit)) × Unit))))))) × Unit)) : evFn (XvtoOp N) Tryd.f31 dinvtoOp outvtoOp x = FvtoOp N x := by kernel_rfl
theorem cxvtoOp (N : Nat) : CtxOk Tryd.prog (XvtoOp N) := ⟨⟨TE_ok, List.forall_mem_cons.2 ⟨(specvtoShape N), fun k hk => absurd hk List.not_mem_nil⟩⟩, mixed⟩
theorem specvtoOp (N : Nat) : Spec Tryd.prog (convtoOp N) :=
  Spec.of_eq (fn_spec (cxvtoOp N) (f := 31) (fn := Tryd.f31) (c := codeOf Tryd.f31) (by kernel_rfl) (by kernel_rfl) (by kernel_rfl) (loops_at (ids := []) (by kernel_rfl) (trivial)) (by kernel_rfl)) (fun x r h => (FvtoOp_eq N x).trans h)

/-! ### 11: laws.toOpS -/

noncomputable def dinvtoOpS : Desc := { n := 1, regs := [.one (.val (.sl (.pair (.int .i64) (.pair (.int .i64) (.pair (.int .i64) (.pair (.int .i64) (.pair (.int .i64) (.pair (.int .i64) (.pair (.pair (.int .i64) (.pair (.int .i64) .unit)) .unit)))))))))], bx := [], pins := [] }
noncomputable def outvtoOpS : Outs := [(.ret, { n := 1, regs := [.one (.lit (.row 1012928))], bx := [(1012928, .row (.pair (.int .i64) (.pair (.int .i64) (.pair (.int .i64) (.pair (.int .i64) (.pair (.int .i64) (.pair (.int .i64) (.pair (.pair (.int .i64) (.pair (.int .i64) .unit)) .unit))))))))], pins := [] })]
noncomputable def HvtoOpS : Hints := []
noncomputable def EvtoOpS (N : Nat) : Env := { te := TE, cs := [convtoOp N] }
noncomputable def dvtoOpS_0 : Desc := { n := 23, regs := [.one (.val (.sl (.pair (.int .i64) (.pair (.int .i64) (.pair (.int .i64) (.pair (.int .i64) (.pair (.int .i64) (.pair (.int .i64) (.pair (.pair (.int .i64) (.pair (.int .i64) .unit)) .unit))))))))), u, u, .one (.lit (.row 1012928)), .one (.val (.int .i64))], bx := [(1012928, .row (.pair (.int .i64) (.pair (.int .i64) (.pair (.int .i64) (.pair (.int .i64) (.pair (.int .i64) (.pair (.int .i64) (.pair (.pair (.int .i64) (.pair (.int .i64) .unit)) .unit))))))))], pins := [] }
noncomputable def ovtoOpS_0 : Outs := [(.exit 0, { n := 23, regs := [u, u, u, .one (.lit (.row 1012928))], bx := [(1012928, .row (.pair (.int .i64) (.pair (.int .i64) (.pair (.int .i64) (.pair (.int .i64) (.pair (.int .i64) (.pair (.int .i64) (.pair (.pair (.int .i64) (.pair (.int .i64) .unit)) .unit))))))))], pins := [] })]
noncomputable def lvtoOpS_0 (N : Nat) : Nat → ((List (Int × (Int × (Int × (Int × (Int × (Int × ((Int × (Int × Unit)) × Unit)))))))) × (Int × ((List (Int × (Int × (Int × (Int × (Int × (Int × ((Int × (Int × Unit)) × Unit)))))))) × Unit))) → Option ((List (Int × (Int × (Int × (Int × (Int × (Int × ((Int × (Int × Unit)) × Unit)))))))) × Unit)
  | 0, _ => none
  | n + 1, v =>
    bif decide (v.2.1 < (v.1.length : Int)) then
     bif decide (0 ≤ v.2.1) then
     bif decide (v.2.1.toNat < v.1.length) then
     let y2 := v.1.getD v.2.1.toNat ((0 : Int), (0 : Int), (0 : Int), (0 : Int), (0 : Int), (0 : Int), ((0 : Int), (0 : Int), ()), ())
     (FvtoOp N (y2, ())).bind fun r3 =>
     bif decide (0 ≤ v.2.1) then
     bif decide (v.2.1.toNat < v.2.2.1.length) then
     let y4 := v.2.2.1.set v.2.1.toNat (r3.1, r3.2.1, r3.2.2.1, r3.2.2.2.1, r3.2.2.2.2.1, r3.2.2.2.2.2.1, (r3.2.2.2.2.2.2.1, r3.2.2.2.2.2.2.2.1, ()), ())
     lvtoOpS_0 N n (v.1, w64 (v.2.1 + (1 : Int)), y4, ())
     else none
     else none
     else none
     else none
    else
    some (v.2.2.1, ())
noncomputable def FvtoOpS (N : Nat) (x : ((List (Int × (Int × (Int × (Int × (Int × (Int × ((Int × (Int × Unit)) × Unit)))))))) × Unit)) : Option ((List (Int × (Int × (Int × (Int × (Int × (Int × ((Int × (Int × Unit)) × Unit)))))))) × Unit) :=
  bif decide (0 ≤ (x.1.length : Int)) then
  bif decide ((x.1.length : Int).toNat ≤ lim) then
  let y1 := List.replicate (x.1.length : Int).toNat ((0 : Int), (0 : Int), (0 : Int), (0 : Int), (0 : Int), (0 : Int), ((0 : Int), (0 : Int), ()), ())
  (lvtoOpS_0 N N (x.1, (0 : Int), y1, ())).bind fun o5 =>
  some (o5.1, ())
  else none
  else none
noncomputable def convtoOpS (N : Nat) : Con := { f := 11, din := dinvtoOpS, outs := outvtoOpS, F := FvtoOpS N }
noncomputable def XvtoOpS (N : Nat) : Ctx := { E := EvtoOpS N, H := HvtoOpS, lp := [(0, { hd := dvtoOpS_0, outs := ovtoOpS_0, run := fun v => lvtoOpS_0 N N v })], jn := [] }
noncomputable def bvtoOpS_0 : Code := loopBody (codeOf Tryd.f11) 0
theorem FvtoOpS_eq (N : Nat) (x : ((List (Int × (Int × (Int × (Int × (Int × (Int × ((Int × (Int × Unit)) × Unit)))))))) × Unit)) : evFn (XvtoOpS N) Tryd.f11 dinvtoOpS outvtoOpS x = FvtoOpS N x := by kernel_rfl
theorem lvtoOpS_0_eq (N n : Nat) (v : ((List (Int × (Int × (Int × (Int × (Int × (Int × ((Int × (Int × Unit)) × Unit)))))))) × (Int × ((List (Int × (Int × (Int × (Int × (Int × (Int × ((Int × (Int × Unit)) × Unit)))))))) × Unit)))) : lvtoOpS_0 N (n + 1) v = ev (XvtoOpS N) bvtoOpS_0 (roundK dvtoOpS_0 ovtoOpS_0 (lvtoOpS_0 N n)) (dvtoOpS_0.mk' v) := by kernel_rfl
theorem cxvtoOpS (N : Nat) : CtxOk Tryd.prog (XvtoOpS N) := ⟨⟨TE_ok, List.forall_mem_cons.2 ⟨(specvtoOp N), fun k hk => absurd hk List.not_mem_nil⟩⟩, mixed⟩
theorem lpvtoOpS_0 (N : Nat) : LoopOk Tryd.prog { hd := dvtoOpS_0, outs := ovtoOpS_0, run := fun v => lvtoOpS_0 N N v } bvtoOpS_0 :=
  loop_fuel (d := dvtoOpS_0) (os := ovtoOpS_0) (cxvtoOpS N) (loops_at (ids := []) (by kernel_rfl) (trivial)) (lvtoOpS_0 N) (fun _ => rfl) (fun n v => lvtoOpS_0_eq N n v) (fun _ => N)
theorem specvtoOpS (N : Nat) : Spec Tryd.prog (convtoOpS N) :=
  Spec.of_eq (fn_spec (cxvtoOpS N) (f := 11) (fn := Tryd.f11) (c := codeOf Tryd.f11) (by kernel_rfl) (by kernel_rfl) (by kernel_rfl) (loops_at (ids := [0]) (by kernel_rfl) ⟨lp_of (lpvtoOpS_0 N), trivial⟩) (by kernel_rfl)) (fun x r h => (FvtoOpS_eq N x).trans h)

/-! ### 66: spec.ShapeOk -/

noncomputable def dinsShapeOk : Desc := { n := 1, regs := [.one (.val (.pair (.int .i64) (.pair (.int .i64) .unit)))], bx := [], pins := [] }
noncomputable def outsShapeOk : Outs := [(.ret, { n := 1, regs := [.one (.val .bool)], bx := [], pins := [] })]
noncomputable def HsShapeOk : Hints := [(0, [(0, { fz := true })])]
noncomputable def EsShapeOk (_N : Nat) : Env := { te := TE, cs := [] }
noncomputable def FsShapeOk (N : Nat) (x : ((Int × (Int × Unit)) × Unit)) : Option (Bool × Unit) :=
  bif decide (x.1.1 ≥ (0 : Int)) then
   bif decide (x.1.1 ≤ (4 : Int)) then
    bif decide (x.1.2.1 ≥ (0 : Int)) then
     some (decide (x.1.2.1 ≤ (4 : Int)), ())
    else
    some (false, ())
   else
   some (false, ())
  else
  some (false, ())
noncomputable def consShapeOk (N : Nat) : Con := { f := 66, din := dinsShapeOk, outs := outsShapeOk, F := FsShapeOk N }
noncomputable def XsShapeOk (N : Nat) : Ctx := { E := EsShapeOk N, H := HsShapeOk, lp := [], jn := [] }
theorem FsShapeOk_eq (N : Nat) (x : ((Int × (Int × Unit)) × Unit)) : evFn (XsShapeOk N) Tryd.f66 dinsShapeOk outsShapeOk x = FsShapeOk N x := by kernel_rfl
theorem cxsShapeOk (N : Nat) : CtxOk Tryd.prog (XsShapeOk N) := ⟨⟨TE_ok, fun k hk => absurd hk List.not_mem_nil⟩, mixed⟩
theorem specsShapeOk (N : Nat) : Spec Tryd.prog (consShapeOk N) :=
  Spec.of_eq (fn_spec (cxsShapeOk N) (f := 66) (fn := Tryd.f66) (c := codeOf Tryd.f66) (by kernel_rfl) (by kernel_rfl) (by kernel_rfl) (loops_at (ids := []) (by kernel_rfl) (trivial)) (by kernel_rfl)) (fun x r h => (FsShapeOk_eq N x).trans h)

/-! ### 41: spec.OpOk -/

noncomputable def dinsOpOk : Desc := { n := 1, regs := [.one (.val (.pair (.int .i64) (.pair (.int .i64) (.pair (.int .i64) (.pair (.int .i64) (.pair (.int .i64) (.pair (.int .i64) (.pair (.pair (.int .i64) (.pair (.int .i64) .unit)) .unit))))))))], bx := [], pins := [] }
noncomputable def outsOpOk : Outs := [(.ret, { n := 1, regs := [.one (.val .bool)], bx := [], pins := [] })]
noncomputable def HsOpOk : Hints := [(0, [(0, { fz := true })])]
noncomputable def EsOpOk (N : Nat) : Env := { te := TE, cs := [consShapeOk N] }
noncomputable def FsOpOk (N : Nat) (x : ((Int × (Int × (Int × (Int × (Int × (Int × ((Int × (Int × Unit)) × Unit))))))) × Unit)) : Option (Bool × Unit) :=
  bif decide (x.1.1 ≥ (1 : Int)) then
   bif decide (x.1.1 ≤ (11 : Int)) then
    bif x.1.1 != (1 : Int) then
     some (true, ())
    else
    (FsShapeOk N (x.1.2.2.2.2.2.2.1, ())).bind fun r1 =>
    some (r1.1, ())
   else
   some (false, ())
  else
  some (false, ())
noncomputable def consOpOk (N : Nat) : Con := { f := 41, din := dinsOpOk, outs := outsOpOk, F := FsOpOk N }
noncomputable def XsOpOk (N : Nat) : Ctx := { E := EsOpOk N, H := HsOpOk, lp := [], jn := [] }
theorem FsOpOk_eq (N : Nat) (x : ((Int × (Int × (Int × (Int × (Int × (Int × ((Int × (Int × Unit)) × Unit))))))) × Unit)) : evFn (XsOpOk N) Tryd.f41 dinsOpOk outsOpOk x = FsOpOk N x := by kernel_rfl
theorem cxsOpOk (N : Nat) : CtxOk Tryd.prog (XsOpOk N) := ⟨⟨TE_ok, List.forall_mem_cons.2 ⟨(specsShapeOk N), fun k hk => absurd hk List.not_mem_nil⟩⟩, mixed⟩
theorem specsOpOk (N : Nat) : Spec Tryd.prog (consOpOk N) :=
  Spec.of_eq (fn_spec (cxsOpOk N) (f := 41) (fn := Tryd.f41) (c := codeOf Tryd.f41) (by kernel_rfl) (by kernel_rfl) (by kernel_rfl) (loops_at (ids := []) (by kernel_rfl) (trivial)) (by kernel_rfl)) (fun x r h => (FsOpOk_eq N x).trans h)

/-! ### 57: spec.l11Word -/

noncomputable def dinsl11Word : Desc := { n := 1, regs := [.one (.val (.int .i64))], bx := [], pins := [] }
noncomputable def outsl11Word : Outs := [(.ret, { n := 1, regs := [.one (.val .str)], bx := [], pins := [] })]
noncomputable def Hsl11Word : Hints := []
noncomputable def Esl11Word (_N : Nat) : Env := { te := TE, cs := [] }
noncomputable def Fsl11Word (N : Nat) (x : (Int × Unit)) : Option (ByteArray × Unit) :=
  let y1 := [(ByteArray.mk #[]), (ByteArray.mk #[110, 101, 119]), (ByteArray.mk #[108, 111, 97, 100]), (ByteArray.mk #[115, 116, 111, 114, 101]), (ByteArray.mk #[112, 117, 116]), (ByteArray.mk #[103, 101, 116]), (ByteArray.mk #[115, 97, 109, 101]), (ByteArray.mk #[99, 97, 115]), (ByteArray.mk #[100, 114, 111, 112]), (ByteArray.mk #[100, 117, 112]), (ByteArray.mk #[112, 105, 110]), (ByteArray.mk #[117, 110, 112, 105, 110])]
  bif decide (0 ≤ x.1) then
  bif decide (x.1.toNat < y1.length) then
  some (y1.getD x.1.toNat ByteArray.empty, ())
  else none
  else none
noncomputable def consl11Word (N : Nat) : Con := { f := 57, din := dinsl11Word, outs := outsl11Word, F := Fsl11Word N }
noncomputable def Xsl11Word (N : Nat) : Ctx := { E := Esl11Word N, H := Hsl11Word, lp := [], jn := [] }
theorem Fsl11Word_eq (N : Nat) (x : (Int × Unit)) : evFn (Xsl11Word N) Tryd.f57 dinsl11Word outsl11Word x = Fsl11Word N x := by kernel_rfl
theorem cxsl11Word (N : Nat) : CtxOk Tryd.prog (Xsl11Word N) := ⟨⟨TE_ok, fun k hk => absurd hk List.not_mem_nil⟩, mixed⟩
theorem specsl11Word (N : Nat) : Spec Tryd.prog (consl11Word N) :=
  Spec.of_eq (fn_spec (cxsl11Word N) (f := 57) (fn := Tryd.f57) (c := codeOf Tryd.f57) (by kernel_rfl) (by kernel_rfl) (by kernel_rfl) (loops_at (ids := []) (by kernel_rfl) (trivial)) (by kernel_rfl)) (fun x r h => (Fsl11Word_eq N x).trans h)

/-! ### 58: spec.l11Nums -/

noncomputable def dinsl11Nums : Desc := { n := 1, regs := [.one (.val (.pair (.int .i64) (.pair (.int .i64) (.pair (.int .i64) (.pair (.int .i64) (.pair (.int .i64) (.pair (.int .i64) (.pair (.pair (.int .i64) (.pair (.int .i64) .unit)) .unit))))))))], bx := [], pins := [] }
noncomputable def outsl11Nums : Outs := [(.ret, { n := 1, regs := [.one (.lit (.row 1038784))], bx := [(1038784, .row (.int .i64))], pins := [] })]
noncomputable def Hsl11Nums : Hints := [(0, [(0, { fz := true })]),
  (19, [(0, { nl := [(0, (.int .i64))] })])]
noncomputable def Esl11Nums (_N : Nat) : Env := { te := TE, cs := [] }
noncomputable def Fsl11Nums (N : Nat) (x : ((Int × (Int × (Int × (Int × (Int × (Int × ((Int × (Int × Unit)) × Unit))))))) × Unit)) : Option ((List Int) × Unit) :=
  bif x.1.1 == (1 : Int) then
   let y1 := [x.1.2.2.2.2.2.2.1.1, x.1.2.2.2.2.2.2.1.2.1]
   some (y1, ())
  else
  bif x.1.1 == (2 : Int) then
   some ([x.1.2.1, x.1.2.2.2.2.1], ())
  else
  bif x.1.1 == (5 : Int) then
   some ([x.1.2.1, x.1.2.2.2.2.1], ())
  else
  bif x.1.1 == (3 : Int) then
   some ([x.1.2.1, x.1.2.2.2.2.1, x.1.2.2.1], ())
  else
  bif x.1.1 == (4 : Int) then
   let y2 := [x.1.2.1, x.1.2.2.2.2.1, x.1.2.2.2.2.2.1]
   some (y2, ())
  else
  bif x.1.1 == (6 : Int) then
   some ([x.1.2.1, x.1.2.2.1], ())
  else
  bif x.1.1 == (7 : Int) then
   let y3 := [x.1.2.1, x.1.2.2.2.2.1, x.1.2.2.1, x.1.2.2.2.1]
   some (y3, ())
  else
  bif x.1.1 == (9 : Int) then
   some ([x.1.2.1], ())
  else
  bif x.1.1 == (10 : Int) then
   some ([x.1.2.1], ())
  else
  bif x.1.1 == (11 : Int) then
   some ([x.1.2.1], ())
  else
  some (([] : (List Int)), ())
noncomputable def consl11Nums (N : Nat) : Con := { f := 58, din := dinsl11Nums, outs := outsl11Nums, F := Fsl11Nums N }
noncomputable def Xsl11Nums (N : Nat) : Ctx := { E := Esl11Nums N, H := Hsl11Nums, lp := [], jn := [] }
theorem Fsl11Nums_eq (N : Nat) (x : ((Int × (Int × (Int × (Int × (Int × (Int × ((Int × (Int × Unit)) × Unit))))))) × Unit)) : evFn (Xsl11Nums N) Tryd.f58 dinsl11Nums outsl11Nums x = Fsl11Nums N x := by kernel_rfl
theorem cxsl11Nums (N : Nat) : CtxOk Tryd.prog (Xsl11Nums N) := ⟨⟨TE_ok, fun k hk => absurd hk List.not_mem_nil⟩, mixed⟩
theorem specsl11Nums (N : Nat) : Spec Tryd.prog (consl11Nums N) :=
  Spec.of_eq (fn_spec (cxsl11Nums N) (f := 58) (fn := Tryd.f58) (c := codeOf Tryd.f58) (by kernel_rfl) (by kernel_rfl) (by kernel_rfl) (loops_at (ids := []) (by kernel_rfl) (trivial)) (by kernel_rfl)) (fun x r h => (Fsl11Nums_eq N x).trans h)

/-! ### 59: spec.l9Dec -/

noncomputable def dinsl9Dec : Desc := { n := 1, regs := [.one (.val (.int .i64))], bx := [], pins := [] }
noncomputable def outsl9Dec : Outs := [(.ret, { n := 1, regs := [.one (.val .str)], bx := [], pins := [] })]
noncomputable def Hsl9Dec : Hints := []
noncomputable def Esl9Dec (_N : Nat) : Env := { te := TE, cs := [] }
noncomputable def dsl9Dec_0 : Desc := { n := 31, regs := [.one (.val (.int .i64)), u, u, .one (.val .str), .one (.val .bool)], bx := [], pins := [] }
noncomputable def osl9Dec_0 : Outs := [(.exit 0, { n := 31, regs := [u, u, u, .one (.val .str), .one (.val .bool)], bx := [], pins := [] })]
noncomputable def jsl9Dec_9 : Outs := [(.normal, { n := 31, regs := [.one (.val (.int .i64)), u, u, .one (.val .str), .one (.val .bool), .one (.val (.int .i64))], bx := [], pins := [] })]
noncomputable def lsl9Dec_0 (N : Nat) : Nat → (Int × (ByteArray × (Bool × Unit))) → Option (ByteArray × (Bool × Unit))
  | 0, _ => none
  | n + 1, v =>
    bif v.1 != (0 : Int) then
     bif decide ((10 : Int) = 0) then
      none
     else
     Option.bind (
      let y1 := decide ((Int.tmod v.1 (10 : Int)) < (0 : Int))
      bif y1 then
       some (v.1, v.2.1, v.2.2.1, w64 (0 - (Int.tmod v.1 (10 : Int))), ())
      else
      some (v.1, v.2.1, v.2.2.1, Int.tmod v.1 (10 : Int), ())) fun o2 =>
     let y3 := IntKind.wrap .u8 (w64 ((48 : Int) + o2.2.2.2.1))
     bif decide ((bstr [y3]).size + o2.2.1.size ≤ lim) then
     bif decide ((10 : Int) = 0) then
      none
     else
     lsl9Dec_0 N n (w64 (Int.tdiv o2.1 (10 : Int)), (bstr [y3]) ++ o2.2.1, o2.2.2.1, ())
     else none
    else
    some (v.2.1, v.2.2.1, ())
noncomputable def Fsl9Dec (N : Nat) (x : (Int × Unit)) : Option (ByteArray × Unit) :=
  bif x.1 == (0 : Int) then
   some ((ByteArray.mk #[48]), ())
  else
  (lsl9Dec_0 N N (x.1, (ByteArray.mk #[]), decide (x.1 < (0 : Int)), ())).bind fun o4 =>
  bif o4.2.1 then
   bif decide ((ByteArray.mk #[45]).size + o4.1.size ≤ lim) then
   some ((ByteArray.mk #[45]) ++ o4.1, ())
   else none
  else
  some (o4.1, ())
noncomputable def consl9Dec (N : Nat) : Con := { f := 59, din := dinsl9Dec, outs := outsl9Dec, F := Fsl9Dec N }
noncomputable def Xsl9Dec (N : Nat) : Ctx := { E := Esl9Dec N, H := Hsl9Dec, lp := [(0, { hd := dsl9Dec_0, outs := osl9Dec_0, run := fun v => lsl9Dec_0 N N v })], jn := [(9, jsl9Dec_9)] }
noncomputable def bsl9Dec_0 : Code := loopBody (codeOf Tryd.f59) 0
theorem Fsl9Dec_eq (N : Nat) (x : (Int × Unit)) : evFn (Xsl9Dec N) Tryd.f59 dinsl9Dec outsl9Dec x = Fsl9Dec N x := by kernel_rfl
theorem lsl9Dec_0_eq (N n : Nat) (v : (Int × (ByteArray × (Bool × Unit)))) : lsl9Dec_0 N (n + 1) v = ev (Xsl9Dec N) bsl9Dec_0 (roundK dsl9Dec_0 osl9Dec_0 (lsl9Dec_0 N n)) (dsl9Dec_0.mk' v) := by kernel_rfl
theorem cxsl9Dec (N : Nat) : CtxOk Tryd.prog (Xsl9Dec N) := ⟨⟨TE_ok, fun k hk => absurd hk List.not_mem_nil⟩, mixed⟩
theorem lpsl9Dec_0 (N : Nat) : LoopOk Tryd.prog { hd := dsl9Dec_0, outs := osl9Dec_0, run := fun v => lsl9Dec_0 N N v } bsl9Dec_0 :=
  loop_fuel (d := dsl9Dec_0) (os := osl9Dec_0) (cxsl9Dec N) (loops_at (ids := []) (by kernel_rfl) (trivial)) (lsl9Dec_0 N) (fun _ => rfl) (fun n v => lsl9Dec_0_eq N n v) (fun _ => N)
theorem specsl9Dec (N : Nat) : Spec Tryd.prog (consl9Dec N) :=
  Spec.of_eq (fn_spec (cxsl9Dec N) (f := 59) (fn := Tryd.f59) (c := codeOf Tryd.f59) (by kernel_rfl) (by kernel_rfl) (by kernel_rfl) (loops_at (ids := [0]) (by kernel_rfl) ⟨lp_of (lpsl9Dec_0 N), trivial⟩) (by kernel_rfl)) (fun x r h => (Fsl9Dec_eq N x).trans h)

/-! ### 30: spec.OpText -/

noncomputable def dinsOpText : Desc := { n := 1, regs := [.one (.val (.pair (.int .i64) (.pair (.int .i64) (.pair (.int .i64) (.pair (.int .i64) (.pair (.int .i64) (.pair (.int .i64) (.pair (.pair (.int .i64) (.pair (.int .i64) .unit)) .unit))))))))], bx := [], pins := [] }
noncomputable def outsOpText : Outs := [(.ret, { n := 1, regs := [.one (.val .str)], bx := [], pins := [] })]
noncomputable def HsOpText : Hints := [(0, [(0, { fz := true })]),
  (3, [(2, { con := 1 })]),
  (4, [(1, { con := 2 })]),
  (10, [(6, { con := 3 })])]
noncomputable def EsOpText (N : Nat) : Env := { te := TE, cs := [consOpOk N, consl11Word N, consl11Nums N, consl9Dec N] }
noncomputable def dsOpText_0 : Desc := { n := 41, regs := [u, u, u, .one (.val .str), .one (.lit (.row 1051265)), .one (.val (.int .i64))], bx := [(1051265, .row (.int .i64))], pins := [] }
noncomputable def osOpText_0 : Outs := [(.exit 0, { n := 41, regs := [u, u, u, .one (.val .str)], bx := [], pins := [] }), (.ret, { n := 41, regs := [u, u, .one (.val .str)], bx := [], pins := [] })]
noncomputable def jsOpText_10 : Outs := [(.normal, { n := 41, regs := [u, u, u, .one (.val .str), .one (.lit (.row 1051265)), .one (.val (.int .i64))], bx := [(1051265, .row (.int .i64))], pins := [] }), (.ret, { n := 41, regs := [u, u, .one (.val .str)], bx := [], pins := [] })]
noncomputable def lsOpText_0 (N : Nat) : Nat → (ByteArray × (Int × ((List Int) × Unit))) → Option ((ByteArray × Unit) ⊕ (ByteArray × Unit))
  | 0, _ => none
  | n + 1, v =>
    let y4 := decide (v.2.1 < (v.2.2.1.length : Int))
    bif y4 then
     Option.bind (
      bif decide (0 ≤ v.2.1) then
      bif decide (v.2.1.toNat < v.2.2.1.length) then
      let y5 := decide ((v.2.2.1.getD v.2.1.toNat (0 : Int)) < (-999999999 : Int))
      bif y5 then
       some (.inr (((ByteArray.mk #[]), ())))
      else
      bif decide (0 ≤ v.2.1) then
      bif decide (v.2.1.toNat < v.2.2.1.length) then
      let y6 := decide ((v.2.2.1.getD v.2.1.toNat (0 : Int)) > (999999999 : Int))
      bif y6 then
       some (.inr (((ByteArray.mk #[]), ())))
      else
      some (.inl (v.1, v.2.1, v.2.2.1, ()))
      else none
      else none
      else none
      else none) fun o7 =>
     Sum.elim (fun o8 =>
      bif decide (o8.1.size + (ByteArray.mk #[32]).size ≤ lim) then
      bif decide (0 ≤ o8.2.1) then
      bif decide (o8.2.1.toNat < o8.2.2.1.length) then
      (Fsl9Dec N (o8.2.2.1.getD o8.2.1.toNat (0 : Int), ())).bind fun r9 =>
      bif decide ((o8.1 ++ (ByteArray.mk #[32])).size + r9.1.size ≤ lim) then
      let y10 := (o8.1 ++ (ByteArray.mk #[32])) ++ r9.1
      lsOpText_0 N n (y10, w64 (o8.2.1 + (1 : Int)), o8.2.2.1, ())
      else none
      else none
      else none
      else none) (fun o11 =>
      some (.inr ((o11.1, ())))) o7
    else
    some (.inl (v.1, ()))
noncomputable def FsOpText (N : Nat) (x : ((Int × (Int × (Int × (Int × (Int × (Int × ((Int × (Int × Unit)) × Unit))))))) × Unit)) : Option (ByteArray × Unit) :=
  (FsOpOk N (x.1, ())).bind fun r1 =>
  bif !r1.1 then
   some ((ByteArray.mk #[]), ())
  else
  (Fsl11Word N (x.1.1, ())).bind fun r2 =>
  (Fsl11Nums N (x.1, ())).bind fun r3 =>
  (lsOpText_0 N N (r2.1, (0 : Int), r3.1, ())).bind fun o12 =>
  Sum.elim (fun o13 =>
   some (o13.1, ())) (fun o14 =>
   some (o14.1, ())) o12
noncomputable def consOpText (N : Nat) : Con := { f := 30, din := dinsOpText, outs := outsOpText, F := FsOpText N }
noncomputable def XsOpText (N : Nat) : Ctx := { E := EsOpText N, H := HsOpText, lp := [(0, { hd := dsOpText_0, outs := osOpText_0, run := fun v => lsOpText_0 N N v })], jn := [(10, jsOpText_10)] }
noncomputable def bsOpText_0 : Code := loopBody (codeOf Tryd.f30) 0
theorem FsOpText_eq (N : Nat) (x : ((Int × (Int × (Int × (Int × (Int × (Int × ((Int × (Int × Unit)) × Unit))))))) × Unit)) : evFn (XsOpText N) Tryd.f30 dinsOpText outsOpText x = FsOpText N x := by kernel_rfl
theorem lsOpText_0_eq (N n : Nat) (v : (ByteArray × (Int × ((List Int) × Unit)))) : lsOpText_0 N (n + 1) v = ev (XsOpText N) bsOpText_0 (roundK dsOpText_0 osOpText_0 (lsOpText_0 N n)) (dsOpText_0.mk' v) := by kernel_rfl
theorem cxsOpText (N : Nat) : CtxOk Tryd.prog (XsOpText N) := ⟨⟨TE_ok, List.forall_mem_cons.2 ⟨(specsOpOk N), List.forall_mem_cons.2 ⟨(specsl11Word N), List.forall_mem_cons.2 ⟨(specsl11Nums N), List.forall_mem_cons.2 ⟨(specsl9Dec N), fun k hk => absurd hk List.not_mem_nil⟩⟩⟩⟩⟩, mixed⟩
theorem lpsOpText_0 (N : Nat) : LoopOk Tryd.prog { hd := dsOpText_0, outs := osOpText_0, run := fun v => lsOpText_0 N N v } bsOpText_0 :=
  loop_fuel (d := dsOpText_0) (os := osOpText_0) (cxsOpText N) (loops_at (ids := []) (by kernel_rfl) (trivial)) (lsOpText_0 N) (fun _ => rfl) (fun n v => lsOpText_0_eq N n v) (fun _ => N)
theorem specsOpText (N : Nat) : Spec Tryd.prog (consOpText N) :=
  Spec.of_eq (fn_spec (cxsOpText N) (f := 30) (fn := Tryd.f30) (c := codeOf Tryd.f30) (by kernel_rfl) (by kernel_rfl) (by kernel_rfl) (loops_at (ids := [0]) (by kernel_rfl) ⟨lp_of (lpsOpText_0 N), trivial⟩) (by kernel_rfl)) (fun x r h => (FsOpText_eq N x).trans h)

/-! ### 10: spec.ProgText -/

noncomputable def dinsProgText : Desc := { n := 1, regs := [.one (.val (.sl (.pair (.int .i64) (.pair (.int .i64) (.pair (.int .i64) (.pair (.int .i64) (.pair (.int .i64) (.pair (.int .i64) (.pair (.pair (.int .i64) (.pair (.int .i64) .unit)) .unit)))))))))], bx := [], pins := [] }
noncomputable def outsProgText : Outs := [(.ret, { n := 1, regs := [.one (.val .str)], bx := [], pins := [] })]
noncomputable def HsProgText : Hints := []
noncomputable def EsProgText (N : Nat) : Env := { te := TE, cs := [consOpText N] }
noncomputable def dsProgText_0 : Desc := { n := 27, regs := [.one (.val (.sl (.pair (.int .i64) (.pair (.int .i64) (.pair (.int .i64) (.pair (.int .i64) (.pair (.int .i64) (.pair (.int .i64) (.pair (.pair (.int .i64) (.pair (.int .i64) .unit)) .unit))))))))), u, u, .one (.val .str), .one (.val (.int .i64))], bx := [], pins := [] }
noncomputable def osProgText_0 : Outs := [(.exit 0, { n := 27, regs := [u, u, u, .one (.val .str)], bx := [], pins := [] }), (.ret, { n := 27, regs := [u, u, .one (.val .str)], bx := [], pins := [] })]
noncomputable def lsProgText_0 (N : Nat) : Nat → ((List (Int × (Int × (Int × (Int × (Int × (Int × ((Int × (Int × Unit)) × Unit)))))))) × (ByteArray × (Int × Unit))) → Option ((ByteArray × Unit) ⊕ (ByteArray × Unit))
  | 0, _ => none
  | n + 1, v =>
    let y2 := decide (v.2.2.1 < (v.1.length : Int))
    bif y2 then
     bif decide (0 ≤ v.2.2.1) then
     bif decide (v.2.2.1.toNat < v.1.length) then
     let y3 := v.1.getD v.2.2.1.toNat ((0 : Int), (0 : Int), (0 : Int), (0 : Int), (0 : Int), (0 : Int), ((0 : Int), (0 : Int), ()), ())
     (FsOpText N (y3, ())).bind fun r4 =>
     let y5 := r4.1.toList == (ByteArray.mk #[]).toList
     bif y5 then
      some (.inr (((ByteArray.mk #[]), ())))
     else
     bif decide (v.2.1.size + r4.1.size ≤ lim) then
     bif decide ((v.2.1 ++ r4.1).size + (ByteArray.mk #[10]).size ≤ lim) then
     let y6 := (v.2.1 ++ r4.1) ++ (ByteArray.mk #[10])
     lsProgText_0 N n (v.1, y6, w64 (v.2.2.1 + (1 : Int)), ())
     else none
     else none
     else none
     else none
    else
    some (.inl (v.2.1, ()))
noncomputable def FsProgText (N : Nat) (x : ((List (Int × (Int × (Int × (Int × (Int × (Int × ((Int × (Int × Unit)) × Unit)))))))) × Unit)) : Option (ByteArray × Unit) :=
  let y1 := decide ((x.1.length : Int) > (40 : Int))
  bif y1 then
   some ((ByteArray.mk #[]), ())
  else
  (lsProgText_0 N N (x.1, (ByteArray.mk #[]), (0 : Int), ())).bind fun o7 =>
  Sum.elim (fun o8 =>
   some (o8.1, ())) (fun o9 =>
   some (o9.1, ())) o7
noncomputable def consProgText (N : Nat) : Con := { f := 10, din := dinsProgText, outs := outsProgText, F := FsProgText N }
noncomputable def XsProgText (N : Nat) : Ctx := { E := EsProgText N, H := HsProgText, lp := [(0, { hd := dsProgText_0, outs := osProgText_0, run := fun v => lsProgText_0 N N v })], jn := [] }
noncomputable def bsProgText_0 : Code := loopBody (codeOf Tryd.f10) 0
theorem FsProgText_eq (N : Nat) (x : ((List (Int × (Int × (Int × (Int × (Int × (Int × ((Int × (Int × Unit)) × Unit)))))))) × Unit)) : evFn (XsProgText N) Tryd.f10 dinsProgText outsProgText x = FsProgText N x := by kernel_rfl
theorem lsProgText_0_eq (N n : Nat) (v : ((List (Int × (Int × (Int × (Int × (Int × (Int × ((Int × (Int × Unit)) × Unit)))))))) × (ByteArray × (Int × Unit)))) : lsProgText_0 N (n + 1) v = ev (XsProgText N) bsProgText_0 (roundK dsProgText_0 osProgText_0 (lsProgText_0 N n)) (dsProgText_0.mk' v) := by kernel_rfl
theorem cxsProgText (N : Nat) : CtxOk Tryd.prog (XsProgText N) := ⟨⟨TE_ok, List.forall_mem_cons.2 ⟨(specsOpText N), fun k hk => absurd hk List.not_mem_nil⟩⟩, mixed⟩
theorem lpsProgText_0 (N : Nat) : LoopOk Tryd.prog { hd := dsProgText_0, outs := osProgText_0, run := fun v => lsProgText_0 N N v } bsProgText_0 :=
  loop_fuel (d := dsProgText_0) (os := osProgText_0) (cxsProgText N) (loops_at (ids := []) (by kernel_rfl) (trivial)) (lsProgText_0 N) (fun _ => rfl) (fun n v => lsProgText_0_eq N n v) (fun _ => N)
theorem specsProgText (N : Nat) : Spec Tryd.prog (consProgText N) :=
  Spec.of_eq (fn_spec (cxsProgText N) (f := 10) (fn := Tryd.f10) (c := codeOf Tryd.f10) (by kernel_rfl) (by kernel_rfl) (by kernel_rfl) (loops_at (ids := [0]) (by kernel_rfl) ⟨lp_of (lpsProgText_0 N), trivial⟩) (by kernel_rfl)) (fun x r h => (FsProgText_eq N x).trans h)

/-! ### 45: laws.eqShape -/

noncomputable def dinveqShape : Desc := { n := 2, regs := [.one (.val (.pair (.int .i64) (.pair (.int .i64) .unit))), .one (.val (.pair (.int .i64) (.pair (.int .i64) .unit)))], bx := [], pins := [] }
noncomputable def outveqShape : Outs := [(.ret, { n := 1, regs := [.one (.val .bool)], bx := [], pins := [] })]
noncomputable def HveqShape : Hints := [(0, [(0, { fz := true }), (1, { fz := true })])]
noncomputable def EveqShape (_N : Nat) : Env := { te := TE, cs := [] }
noncomputable def FveqShape (N : Nat) (x : ((Int × (Int × Unit)) × ((Int × (Int × Unit)) × Unit))) : Option (Bool × Unit) :=
  bif x.1.1 != x.2.1.1 then
   some (false, ())
  else
  bif x.1.2.1 != x.2.1.2.1 then
   some (false, ())
  else
  some (true, ())
noncomputable def conveqShape (N : Nat) : Con := { f := 45, din := dinveqShape, outs := outveqShape, F := FveqShape N }
noncomputable def XveqShape (N : Nat) : Ctx := { E := EveqShape N, H := HveqShape, lp := [], jn := [] }
theorem FveqShape_eq (N : Nat) (x : ((Int × (Int × Unit)) × ((Int × (Int × Unit)) × Unit))) : evFn (XveqShape N) Tryd.f45 dinveqShape outveqShape x = FveqShape N x := by kernel_rfl
theorem cxveqShape (N : Nat) : CtxOk Tryd.prog (XveqShape N) := ⟨⟨TE_ok, fun k hk => absurd hk List.not_mem_nil⟩, mixed⟩
theorem specveqShape (N : Nat) : Spec Tryd.prog (conveqShape N) :=
  Spec.of_eq (fn_spec (cxveqShape N) (f := 45) (fn := Tryd.f45) (c := codeOf Tryd.f45) (by kernel_rfl) (by kernel_rfl) (by kernel_rfl) (loops_at (ids := []) (by kernel_rfl) (trivial)) (by kernel_rfl)) (fun x r h => (FveqShape_eq N x).trans h)

/-! ### 17: laws.eqOp -/

noncomputable def dinveqOp : Desc := { n := 2, regs := [.one (.val (.pair (.int .i64) (.pair (.int .i64) (.pair (.int .i64) (.pair (.int .i64) (.pair (.int .i64) (.pair (.int .i64) (.pair (.pair (.int .i64) (.pair (.int .i64) .unit)) .unit)))))))), .one (.val (.pair (.int .i64) (.pair (.int .i64) (.pair (.int .i64) (.pair (.int .i64) (.pair (.int .i64) (.pair (.int .i64) (.pair (.pair (.int .i64) (.pair (.int .i64) .unit)) .unit))))))))], bx := [], pins := [] }
noncomputable def outveqOp : Outs := [(.ret, { n := 1, regs := [.one (.val .bool)], bx := [], pins := [] })]
noncomputable def HveqOp : Hints := [(0, [(0, { fz := true }), (1, { fz := true })])]
noncomputable def EveqOp (N : Nat) : Env := { te := TE, cs := [conveqShape N] }
noncomputable def FveqOp (N : Nat) (x : ((Int × (Int × (Int × (Int × (Int × (Int × ((Int × (Int × Unit)) × Unit))))))) × ((Int × (Int × (Int × (Int × (Int × (Int × ((Int × (Int × Unit)) × Unit))))))) × Unit))) : Option (Bool × Unit) :=
  bif x.1.1 != x.2.1.1 then
   some (false, ())
  else
  bif x.1.2.1 != x.2.1.2.1 then
   some (false, ())
  else
  bif x.1.2.2.1 != x.2.1.2.2.1 then
   some (false, ())
  else
  bif x.1.2.2.2.1 != x.2.1.2.2.2.1 then
   some (false, ())
  else
  bif x.1.2.2.2.2.1 != x.2.1.2.2.2.2.1 then
   some (false, ())
  else
  bif x.1.2.2.2.2.2.1 != x.2.1.2.2.2.2.2.1 then
   some (false, ())
  else
  (FveqShape N (x.1.2.2.2.2.2.2.1, x.2.1.2.2.2.2.2.2.1, ())).bind fun r1 =>
  bif !r1.1 then
   some (false, ())
  else
  some (true, ())
noncomputable def conveqOp (N : Nat) : Con := { f := 17, din := dinveqOp, outs := outveqOp, F := FveqOp N }
noncomputable def XveqOp (N : Nat) : Ctx := { E := EveqOp N, H := HveqOp, lp := [], jn := [] }
theorem FveqOp_eq (N : Nat) (x : ((Int × (Int × (Int × (Int × (Int × (Int × ((Int × (Int × Unit)) × Unit))))))) × ((Int × (Int × (Int × (Int × (Int × (Int × ((Int × (Int × Unit)) × Unit))))))) × Unit))) : evFn (XveqOp N) Tryd.f17 dinveqOp outveqOp x = FveqOp N x := by kernel_rfl
theorem cxveqOp (N : Nat) : CtxOk Tryd.prog (XveqOp N) := ⟨⟨TE_ok, List.forall_mem_cons.2 ⟨(specveqShape N), fun k hk => absurd hk List.not_mem_nil⟩⟩, mixed⟩
theorem specveqOp (N : Nat) : Spec Tryd.prog (conveqOp N) :=
  Spec.of_eq (fn_spec (cxveqOp N) (f := 17) (fn := Tryd.f17) (c := codeOf Tryd.f17) (by kernel_rfl) (by kernel_rfl) (by kernel_rfl) (loops_at (ids := []) (by kernel_rfl) (trivial)) (by kernel_rfl)) (fun x r h => (FveqOp_eq N x).trans h)

/-! ### 13: laws.eqOpS -/

noncomputable def dinveqOpS : Desc := { n := 2, regs := [.one (.val (.sl (.pair (.int .i64) (.pair (.int .i64) (.pair (.int .i64) (.pair (.int .i64) (.pair (.int .i64) (.pair (.int .i64) (.pair (.pair (.int .i64) (.pair (.int .i64) .unit)) .unit))))))))), .one (.val (.sl (.pair (.int .i64) (.pair (.int .i64) (.pair (.int .i64) (.pair (.int .i64) (.pair (.int .i64) (.pair (.int .i64) (.pair (.pair (.int .i64) (.pair (.int .i64) .unit)) .unit)))))))))], bx := [], pins := [] }
noncomputable def outveqOpS : Outs := [(.ret, { n := 1, regs := [.one (.val .bool)], bx := [], pins := [] })]
noncomputable def HveqOpS : Hints := []
noncomputable def EveqOpS (N : Nat) : Env := { te := TE, cs := [conveqOp N] }
noncomputable def dveqOpS_0 : Desc := { n := 27, regs := [.one (.val (.sl (.pair (.int .i64) (.pair (.int .i64) (.pair (.int .i64) (.pair (.int .i64) (.pair (.int .i64) (.pair (.int .i64) (.pair (.pair (.int .i64) (.pair (.int .i64) .unit)) .unit))))))))), .one (.val (.sl (.pair (.int .i64) (.pair (.int .i64) (.pair (.int .i64) (.pair (.int .i64) (.pair (.int .i64) (.pair (.int .i64) (.pair (.pair (.int .i64) (.pair (.int .i64) .unit)) .unit))))))))), u, u, u, .one (.val (.int .i64))], bx := [], pins := [] }
noncomputable def oveqOpS_0 : Outs := [(.exit 0, { n := 27, regs := [], bx := [], pins := [] }), (.ret, { n := 27, regs := [u, u, u, u, .one (.val .bool)], bx := [], pins := [] })]
noncomputable def lveqOpS_0 (N : Nat) : Nat → ((List (Int × (Int × (Int × (Int × (Int × (Int × ((Int × (Int × Unit)) × Unit)))))))) × ((List (Int × (Int × (Int × (Int × (Int × (Int × ((Int × (Int × Unit)) × Unit)))))))) × (Int × Unit))) → Option (Unit ⊕ (Bool × Unit))
  | 0, _ => none
  | n + 1, v =>
    let y2 := decide (v.2.2.1 < (v.1.length : Int))
    bif y2 then
     bif decide (0 ≤ v.2.2.1) then
     bif decide (v.2.2.1.toNat < v.1.length) then
     let y3 := v.1.getD v.2.2.1.toNat ((0 : Int), (0 : Int), (0 : Int), (0 : Int), (0 : Int), (0 : Int), ((0 : Int), (0 : Int), ()), ())
     bif decide (0 ≤ v.2.2.1) then
     bif decide (v.2.2.1.toNat < v.2.1.length) then
     let y4 := v.2.1.getD v.2.2.1.toNat ((0 : Int), (0 : Int), (0 : Int), (0 : Int), (0 : Int), (0 : Int), ((0 : Int), (0 : Int), ()), ())
     (FveqOp N (y3, y4, ())).bind fun r5 =>
     bif !r5.1 then
      some (.inr ((false, ())))
     else
     lveqOpS_0 N n (v.1, v.2.1, w64 (v.2.2.1 + (1 : Int)), ())
     else none
     else none
     else none
     else none
    else
    some (.inl ())
noncomputable def FveqOpS (N : Nat) (x : ((List (Int × (Int × (Int × (Int × (Int × (Int × ((Int × (Int × Unit)) × Unit)))))))) × ((List (Int × (Int × (Int × (Int × (Int × (Int × ((Int × (Int × Unit)) × Unit)))))))) × Unit))) : Option (Bool × Unit) :=
  let y1 := (x.1.length : Int) != (x.2.1.length : Int)
  bif y1 then
   some (false, ())
  else
  (lveqOpS_0 N N (x.1, x.2.1, (0 : Int), ())).bind fun o6 =>
  Sum.elim (fun o7 =>
   some (true, ())) (fun o8 =>
   some (o8.1, ())) o6
noncomputable def conveqOpS (N : Nat) : Con := { f := 13, din := dinveqOpS, outs := outveqOpS, F := FveqOpS N }
noncomputable def XveqOpS (N : Nat) : Ctx := { E := EveqOpS N, H := HveqOpS, lp := [(0, { hd := dveqOpS_0, outs := oveqOpS_0, run := fun v => lveqOpS_0 N N v })], jn := [] }
noncomputable def bveqOpS_0 : Code := loopBody (codeOf Tryd.f13) 0
theorem FveqOpS_eq (N : Nat) (x : ((List (Int × (Int × (Int × (Int × (Int × (Int × ((Int × (Int × Unit)) × Unit)))))))) × ((List (Int × (Int × (Int × (Int × (Int × (Int × ((Int × (Int × Unit)) × Unit)))))))) × Unit))) : evFn (XveqOpS N) Tryd.f13 dinveqOpS outveqOpS x = FveqOpS N x := by kernel_rfl
theorem lveqOpS_0_eq (N n : Nat) (v : ((List (Int × (Int × (Int × (Int × (Int × (Int × ((Int × (Int × Unit)) × Unit)))))))) × ((List (Int × (Int × (Int × (Int × (Int × (Int × ((Int × (Int × Unit)) × Unit)))))))) × (Int × Unit)))) : lveqOpS_0 N (n + 1) v = ev (XveqOpS N) bveqOpS_0 (roundK dveqOpS_0 oveqOpS_0 (lveqOpS_0 N n)) (dveqOpS_0.mk' v) := by kernel_rfl
theorem cxveqOpS (N : Nat) : CtxOk Tryd.prog (XveqOpS N) := ⟨⟨TE_ok, List.forall_mem_cons.2 ⟨(specveqOp N), fun k hk => absurd hk List.not_mem_nil⟩⟩, mixed⟩
theorem lpveqOpS_0 (N : Nat) : LoopOk Tryd.prog { hd := dveqOpS_0, outs := oveqOpS_0, run := fun v => lveqOpS_0 N N v } bveqOpS_0 :=
  loop_fuel (d := dveqOpS_0) (os := oveqOpS_0) (cxveqOpS N) (loops_at (ids := []) (by kernel_rfl) (trivial)) (lveqOpS_0 N) (fun _ => rfl) (fun n v => lveqOpS_0_eq N n v) (fun _ => N)
theorem specveqOpS (N : Nat) : Spec Tryd.prog (conveqOpS N) :=
  Spec.of_eq (fn_spec (cxveqOpS N) (f := 13) (fn := Tryd.f13) (c := codeOf Tryd.f13) (by kernel_rfl) (by kernel_rfl) (by kernel_rfl) (loops_at (ids := [0]) (by kernel_rfl) ⟨lp_of (lpveqOpS_0 N), trivial⟩) (by kernel_rfl)) (fun x r h => (FveqOpS_eq N x).trans h)

/-! ### 3: laws.FnExactProgText -/

noncomputable def dinvFnExactProgText : Desc := { n := 1, regs := [.one (.val (.sl (.pair (.int .i64) (.pair (.int .i64) (.pair (.int .i64) (.pair (.int .i64) (.pair (.int .i64) (.pair (.int .i64) (.pair (.pair (.int .i64) (.pair (.int .i64) .unit)) .unit)))))))))], bx := [], pins := [] }
noncomputable def outvFnExactProgText : Outs := [(.ret, { n := 1, regs := [.one (.val .bool)], bx := [], pins := [] })]
noncomputable def HvFnExactProgText : Hints := [(5, [(1, { con := 1 }), (2, { con := 2 })]),
  (6, [(1, { con := 1 })]),
  (7, [(1, { con := 3 })]),
  (10, [(2, { con := 1 }), (3, { con := 4 })])]
noncomputable def EvFnExactProgText (N : Nat) : Env := { te := TE, cs := [convszOpS N, convtoOpS N, consProgText N, conhProgText N, conveqOpS N] }
noncomputable def FvFnExactProgText (N : Nat) (x : ((List (Int × (Int × (Int × (Int × (Int × (Int × ((Int × (Int × Unit)) × Unit)))))))) × Unit)) : Option (Bool × Unit) :=
  (FvszOpS N (x.1, (1048576 : Int), ())).bind fun r1 =>
  bif decide (r1.1 < (0 : Int)) then
   some (true, ())
  else
  (FvtoOpS N (x.1, ())).bind fun r2 =>
  (FsProgText N (r2.1, ())).bind fun r3 =>
  (FvtoOpS N (x.1, ())).bind fun r4 =>
  (FhProgText N (r4.1, ())).bind fun r5 =>
  bif !(r5.1.toList == r3.1.toList) then
   some (false, ())
  else
  (FvtoOpS N (x.1, ())).bind fun r6 =>
  (FveqOpS N (r4.1, r6.1, ())).bind fun r7 =>
  bif !r7.1 then
   some (false, ())
  else
  some (true, ())
noncomputable def convFnExactProgText (N : Nat) : Con := { f := 3, din := dinvFnExactProgText, outs := outvFnExactProgText, F := FvFnExactProgText N }
noncomputable def XvFnExactProgText (N : Nat) : Ctx := { E := EvFnExactProgText N, H := HvFnExactProgText, lp := [], jn := [] }
theorem FvFnExactProgText_eq (N : Nat) (x : ((List (Int × (Int × (Int × (Int × (Int × (Int × ((Int × (Int × Unit)) × Unit)))))))) × Unit)) : evFn (XvFnExactProgText N) Tryd.f3 dinvFnExactProgText outvFnExactProgText x = FvFnExactProgText N x := by kernel_rfl
theorem cxvFnExactProgText (N : Nat) : CtxOk Tryd.prog (XvFnExactProgText N) := ⟨⟨TE_ok, List.forall_mem_cons.2 ⟨(specvszOpS N), List.forall_mem_cons.2 ⟨(specvtoOpS N), List.forall_mem_cons.2 ⟨(specsProgText N), List.forall_mem_cons.2 ⟨(spechProgText N), List.forall_mem_cons.2 ⟨(specveqOpS N), fun k hk => absurd hk List.not_mem_nil⟩⟩⟩⟩⟩⟩, mixed⟩
theorem specvFnExactProgText (N : Nat) : Spec Tryd.prog (convFnExactProgText N) :=
  Spec.of_eq (fn_spec (cxvFnExactProgText N) (f := 3) (fn := Tryd.f3) (c := codeOf Tryd.f3) (by kernel_rfl) (by kernel_rfl) (by kernel_rfl) (loops_at (ids := []) (by kernel_rfl) (trivial)) (by kernel_rfl)) (fun x r h => (FvFnExactProgText_eq N x).trans h)

end Go.Fl
set_option linter.all false
set_option maxRecDepth 10000
namespace Go.Fl
open Go

/-- A law's inputs are at most so large. -/
abbrev sm (n : Nat) : Prop := n ≤ 1048576

abbrev Nd := List Int × List Int × Unit

abbrev Gr := List Nd × List (List Int) × List Int × Unit

def smN (x : Nd) : Prop := sm x.1.length ∧ sm x.2.1.length

def smG (g : Gr) : Prop := sm g.1.length ∧ (∀ x ∈ g.1, smN x) ∧ sm g.2.1.length ∧ (∀ x ∈ g.2.1, sm x.length) ∧ sm g.2.2.1.length

abbrev ml (n : Nat) : Prop := n ≤ 9223372036854775807

def mlN (x : Nd) : Prop := ml x.1.length ∧ ml x.2.1.length

def mlG (g : Gr) : Prop := ml g.1.length ∧ (∀ x ∈ g.1, mlN x) ∧ ml g.2.1.length ∧ (∀ x ∈ g.2.1, ml x.length) ∧ ml g.2.2.1.length

/-- A loop that tells what is left, or stops. -/
theorem size_loop {α : Type} {xs : List α} (P : α → Prop) {L : Nat → Nat → Int → Option ((Int × Unit) ⊕ (Int × Unit))} (hl : xs.length ≤ lim)
    (h1 : ∀ n i (h : i < xs.length) (left : Int), 0 ≤ left → left ≤ 1048576 → w64 ((i : Int) + 1) = ((i + 1 : Nat) : Int) →
      L (n + 1) i left = some (.inr (-1, ())) ∨ ∃ r, 0 ≤ r ∧ r ≤ left ∧ P xs[i] ∧ L (n + 1) i left = L n (i + 1) r)
    (h3 : ∀ n left, L (n + 1) xs.length left = some (.inl (left, ()))) {n : Nat} (hn : xs.length < n) {left : Int} (h0 : 0 ≤ left) (h1' : left ≤ 1048576) :
    L n 0 left = some (.inr (-1, ())) ∨ ∃ r, 0 ≤ r ∧ r ≤ left ∧ (∀ x ∈ xs, P x) ∧ L n 0 left = some (.inl (r, ())) := by
  have key : ∀ n i left, 0 ≤ left → left ≤ 1048576 → i ≤ xs.length → xs.length - i < n → L n i left = some (.inr (-1, ())) ∨ ∃ r, 0 ≤ r ∧ r ≤ left ∧ (∀ x ∈ xs.drop i, P x) ∧ L n i left = some (.inl (r, ())) := by
    intro n
    induction n with
    | zero => intro i left _ _ _ h; exact absurd h (Nat.not_lt_zero _)
    | succ n ih =>
      intro i left h0 h2 hi hn
      by_cases h : i < xs.length
      · rcases h1 n i h left h0 h2 (w64_succ (by have : lim = 2147483648 := rfl; omega)) with h4 | ⟨r, h4, h5, h6, h7⟩
        · exact .inl h4
        · rw [h7]
          rcases ih (i + 1) r h4 (by omega) (by omega) (by omega) with h8 | ⟨q, h8, h9, h10, h11⟩
          · exact .inl h8
          · refine .inr ⟨q, h8, by omega, ?_, h11⟩
            rw [drop_at h]
            exact List.forall_mem_cons.2 ⟨h6, h10⟩
      · have : i = xs.length := by omega
        subst this
        exact .inr ⟨left, h0, Int.le_refl _, by simp, h3 _ _⟩
  simpa using key n 0 left h0 h1' (by omega) (by omega)

theorem sm_lim {n : Nat} (h : sm n) : n ≤ lim := by simp only [sm] at h; rw [lim_eq]; omega


def okSh (r n : Int) : Bool := decide (0 ≤ r) && decide (r ≤ 4) && decide (0 ≤ n) && decide (n ≤ 4)
def okOp (o : OpD) : Bool := decide (1 ≤ o.1) && decide (o.1 ≤ 11) && (decide (o.1 ≠ 1) || okSh o.2.2.2.2.2.2.1.1 o.2.2.2.2.2.2.1.2.1)
section
variable {N : Nat}
theorem ShapeOk_gen {F : Int × Int × Unit → Option (Bool × Unit)} (hF : F = fun x => bif decide (x.1 ≥ 0) then bif decide (x.1 ≤ 4) then bif decide (x.2.1 ≥ 0) then some (decide (x.2.1 ≤ 4), ()) else some (false, ()) else some (false, ()) else some (false, ())) (r n : Int) : F (r, n, ()) = some (okSh r n, ()) := by
  subst hF
  unfold okSh
  by_cases h1 : 0 ≤ r
  · have : r ≥ 0 := h1
    by_cases h2 : r ≤ 4
    · by_cases h3 : 0 ≤ n
      · have h3' : n ≥ 0 := h3
        simp only [this, h1, h2, h3, h3', decide_true, cond_true, Bool.true_and]
      · have h3' : ¬ n ≥ 0 := h3
        simp only [this, h1, h2, h3, h3', decide_true, decide_false, cond_true, cond_false, Bool.true_and, Bool.false_and]
    · simp only [this, h1, h2, decide_true, decide_false, cond_true, cond_false, Bool.true_and, Bool.false_and]
  · have : ¬ r ≥ 0 := h1
    simp only [this, h1, decide_false, cond_false, Bool.false_and]
theorem sShape_ok2 (r n : Int) : FsShapeOk N ((r, n, ()), ()) = some (okSh r n, ()) := ShapeOk_gen (F := fun x => FsShapeOk N (x, ())) rfl r n
theorem OpOk_gen {F : OpD → Option (Bool × Unit)} {G : Int × Int × Unit → Option (Bool × Unit)} (hG : ∀ r n, G (r, n, ()) = some (okSh r n, ())) (hF : F = fun x => bif decide (x.1 ≥ 1) then bif decide (x.1 ≤ 11) then bif x.1 != 1 then some (true, ()) else (G x.2.2.2.2.2.2.1).bind fun r1 => some (r1.1, ()) else some (false, ()) else some (false, ())) (o : OpD) : F o = some (okOp o, ()) := by
  subst hF
  obtain ⟨a0, a1, a2, a3, a4, a5, ⟨a6, a7, ⟨⟩⟩, ⟨⟩⟩ := o
  unfold okOp
  have hg := hG a6 a7
  by_cases h1 : 1 ≤ a0
  · have : a0 ≥ 1 := h1
    by_cases h2 : a0 ≤ 11
    · by_cases h3 : a0 = 1
      · have hb : (a0 != 1) = false := by simp [h3]
        simp only [this, h1, h2, hb, h3, hg, decide_true, cond_true, cond_false, Bool.true_and, Option.bind_some, ne_eq, not_true_eq_false, decide_false, Bool.false_or, Int.reduceLE]
        rfl
      · have hb : (a0 != 1) = true := by simp [h3]
        simp only [this, h1, h2, hb, h3, decide_true, cond_true, Bool.true_and, ne_eq, not_false_eq_true, Bool.true_or]
    · simp only [this, h1, h2, decide_true, decide_false, cond_true, cond_false, Bool.true_and, Bool.false_and]
  · have : ¬ a0 ≥ 1 := h1
    simp only [this, h1, decide_false, cond_false, Bool.false_and]
theorem sOpOk_ok2 (o : OpD) : FsOpOk N (o, ()) = some (okOp o, ()) := OpOk_gen (F := fun x => FsOpOk N (x, ())) (G := fun x => FsShapeOk N (x, ())) sShape_ok2 rfl o
theorem qShape_ok2 (r n : Int) : FqShapeOk N ((r, n, ()), ()) = some (okSh r n, ()) := ShapeOk_gen (F := fun x => FqShapeOk N (x, ())) rfl r n
theorem qOpOk_ok2 (o : OpD) : FqOpOk N (o, ()) = some (okOp o, ()) := OpOk_gen (F := fun x => FqOpOk N (x, ())) (G := fun x => FqShapeOk N (x, ())) qShape_ok2 rfl o
end

/-- A string's bytes, and back. -/
def bl (s : ByteArray) : List UInt8 := s.data.toList
def lb (l : List UInt8) : ByteArray := ⟨l.toArray⟩
theorem bl_lb (l : List UInt8) : bl (lb l) = l := rfl
theorem lb_bl (s : ByteArray) : lb (bl s) = s := by cases s; simp [lb, bl]
theorem bl_inj {a b : ByteArray} (h : bl a = bl b) : a = b := by rw [← lb_bl a, ← lb_bl b, h]
theorem bl_len (s : ByteArray) : (bl s).length = s.size := Array.length_toList
theorem lb_size (l : List UInt8) : (lb l).size = l.length := List.size_toArray
theorem bl_toList (s : ByteArray) : s.toList = bl s := ByteArray.toList_eq s
theorem bl_append (a b : ByteArray) : bl (a ++ b) = bl a ++ bl b := by simp [bl]
theorem lb_append (a b : List UInt8) : lb a ++ lb b = lb (a ++ b) := bl_inj (by rw [bl_append]; rfl)
theorem bl_getD (s : ByteArray) (i : Nat) : s.data.getD i 0 = (bl s).getD i 0 := by simp [bl, Array.getD_eq_getD_getElem?, List.getD_eq_getElem?_getD]
theorem bl_extract (s : ByteArray) (i j : Nat) : bl (s.extract i j) = ((bl s).drop i).take (j - i) := by
  simp [bl, ByteArray.data_extract, Array.toList_extract, List.extract_eq_take_drop]
theorem ba_beq {a b : ByteArray} : (a.toList == b.toList) = decide (bl a = bl b) := by
  rw [bl_toList, bl_toList]
  by_cases h : bl a = bl b
  · simp [h]
  · rw [beq_eq_false_iff_ne.2 h]; simp [h]
theorem lb_nil : lb [] = ByteArray.empty := rfl

/-- Cut at a byte. -/
def spl (c : UInt8) : List UInt8 → List (List UInt8)
  | [] => [[]]
  | b :: l => if b = c then [] :: spl c l else (b :: (spl c l).headD []) :: (spl c l).tail
theorem spl_ne (c : UInt8) (l : List UInt8) : spl c l ≠ [] := by
  cases l with
  | nil => simp [spl]
  | cons b l => unfold spl; split <;> simp
theorem spl_cons (c : UInt8) (l : List UInt8) : spl c l = (spl c l).headD [] :: (spl c l).tail := by
  cases h : spl c l with
  | nil => exact absurd h (spl_ne c l)
  | cons x r => rfl
theorem spl_word {c : UInt8} : ∀ {x : List UInt8}, c ∉ x → spl c x = [x]
  | [], _ => rfl
  | b :: x, h => by
    have h1 : b ≠ c := fun e => h (by simp [e])
    have h2 : c ∉ x := fun e => h (by simp [e])
    unfold spl
    rw [if_neg h1, spl_word h2]
    rfl
theorem spl_sep {c : UInt8} : ∀ {x : List UInt8} (l : List UInt8), c ∉ x → spl c (x ++ c :: l) = x :: spl c l
  | [], l, _ => by simp [spl]
  | b :: x, l, h => by
    have h1 : b ≠ c := fun e => h (by simp [e])
    have h2 : c ∉ x := fun e => h (by simp [e])
    rw [List.cons_append, spl, if_neg h1, spl_sep l h2]
    rfl
theorem spl_free {c : UInt8} : ∀ (l : List UInt8), ∀ x ∈ spl c l, c ∉ x
  | [], x, h => by simp [spl] at h; simp [h]
  | b :: l, x, h => by
    have ih := spl_free (c := c) l
    unfold spl at h
    split at h
    · rcases List.mem_cons.1 h with rfl | h
      · simp
      · exact ih x h
    · rename_i hb
      rw [spl_cons] at ih
      rcases List.mem_cons.1 h with rfl | h
      · intro hc
        rcases List.mem_cons.1 hc with e | e
        · exact hb e.symm
        · exact ih _ List.mem_cons_self e
      · exact ih x (List.mem_cons_of_mem _ h)
theorem mem_split (c : UInt8) : ∀ l : List UInt8, c ∈ l → ∃ a b, l = a ++ c :: b ∧ c ∉ a
  | [], h => by simp at h
  | x :: l, h => by
    by_cases hx : x = c
    · exact ⟨[], l, by simp [hx], by simp⟩
    · obtain ⟨a, b, e, ha⟩ := mem_split c l ((List.mem_cons.1 h).resolve_left (Ne.symm hx))
      exact ⟨x :: a, b, by rw [e]; rfl, by simp [ha, Ne.symm hx]⟩
theorem spl_split (c : UInt8) (l : List UInt8) : (c ∉ l ∧ spl c l = [l]) ∨ ∃ a b, l = a ++ c :: b ∧ c ∉ a ∧ spl c l = a :: spl c b := by
  by_cases h : c ∈ l
  · obtain ⟨a, b, e, ha⟩ := mem_split c l h
    exact .inr ⟨a, b, e, ha, by rw [e, spl_sep b ha]⟩
  · exact .inl ⟨h, spl_word h⟩

theorem spl_len (c : UInt8) : ∀ l : List UInt8, (spl c l).length ≤ l.length + 1
  | [] => by simp [spl]
  | b :: l => by
    have := spl_len c l
    unfold spl
    split
    · simp; omega
    · simp
      have h := spl_cons c l
      rw [h] at this
      simp at this; omega
theorem spl_each (c : UInt8) : ∀ l : List UInt8, ∀ x ∈ spl c l, x.length ≤ l.length
  | [], x, h => by simp [spl] at h; simp [h]
  | b :: l, x, h => by
    have ih := spl_each c l
    unfold spl at h
    split at h
    · rcases List.mem_cons.1 h with rfl | h
      · simp
      · have := ih x h; simp; omega
    · rw [spl_cons] at ih
      rcases List.mem_cons.1 h with rfl | h
      · have := ih _ List.mem_cons_self; simp; simpa using this
      · have := ih x (List.mem_cons_of_mem _ h); simp; omega
theorem join_cons2 (c : UInt8) (x y : List UInt8) (r : List (List UInt8)) : Lib.join (x :: y :: r) [c] = x ++ c :: Lib.join (y :: r) [c] := by
  rw [Lib.join_cons, Lib.join_cons]
  simp [Lib.joinTail]
theorem spl_join {c : UInt8} : ∀ {xs : List (List UInt8)}, xs ≠ [] → (∀ x ∈ xs, c ∉ x) → spl c (Lib.join xs [c]) = xs
  | [], h, _ => absurd rfl h
  | [x], _, h => by rw [Lib.join_one, spl_word (h x (by simp))]
  | x :: y :: r, _, h => by rw [join_cons2, spl_sep _ (h x (by simp)), spl_join (by simp) fun z hz => h z (List.mem_cons_of_mem _ hz)]
theorem join_spl (c : UInt8) : ∀ l : List UInt8, Lib.join (spl c l) [c] = l
  | [] => by simp [spl, Lib.join_one]
  | b :: l => by
    have ih := join_spl c l
    unfold spl
    rw [spl_cons] at ih ⊢
    split
    · rename_i h; rw [join_cons2, ih, h]; rfl
    · simp only [List.headD_cons, List.tail_cons]
      cases ht : (spl c l).tail with
      | nil => rw [ht, Lib.join_one] at ih; rw [Lib.join_one, ih]
      | cons y r => rw [ht, join_cons2] at ih; rw [join_cons2]; exact congrArg (List.cons b) ih

theorem splitK_spl (c : UInt8) : ∀ s : List UInt8, Lib.splitK [c] 0 (s.count c) s = spl c s
  | [] => rfl
  | b :: l => by
    have ih := splitK_spl c l
    by_cases hb : b = c
    · subst hb
      have hix : Lib.index (b :: l) [b] = 0 := by rw [Lib.index]; simp [List.isPrefixOf]
      rw [List.count_cons_self, Lib.splitK, hix, spl, if_pos rfl, if_neg (by decide)]
      simpa using ih
    · have hp : ([c] : List UInt8).isPrefixOf (b :: l) = false := by simp [List.isPrefixOf, Ne.symm hb]
      have hix : Lib.index (b :: l) [c] = if Lib.index l [c] == -1 then -1 else Lib.index l [c] + 1 := by rw [Lib.index, hp]; simp
      rw [List.count_cons_of_ne (by simpa using hb), spl, if_neg hb]
      rw [spl_cons] at ih
      cases hk : l.count c with
      | zero =>
        rw [hk, Lib.splitK] at ih
        obtain ⟨e1, e2⟩ := List.cons.inj ih
        rw [Lib.splitK, ← e1, ← e2]
      | succ k =>
        rw [hk, Lib.splitK] at ih
        rw [Lib.splitK, hix]
        by_cases hm : Lib.index l [c] = -1
        · rw [hm] at ih ⊢
          simp only [beq_self_eq_true, if_true] at ih ⊢
          obtain ⟨e1, e2⟩ := List.cons.inj ih
          rw [← e1, ← e2]
        · have hge := Lib.index_ge l [c]
          obtain ⟨j, hj⟩ : ∃ j : Nat, Lib.index l [c] = j := ⟨(Lib.index l [c]).toNat, by omega⟩
          have n1 : ¬ ((Lib.index l [c] == -1) = true) := fun e => hm (beq_iff_eq.1 e)
          have n2 : ¬ ((Lib.index l [c] + 1 == -1) = true) := fun e => by have := beq_iff_eq.1 e; omega
          rw [if_neg n1] at ih
          rw [if_neg n1, if_neg n2]
          obtain ⟨e1, e2⟩ := List.cons.inj ih
          rw [← e1, ← e2, hj]
          have t : ((j : Int) + 1).toNat = j + 1 := by omega
          rw [t]
          simp

theorem splitB_spl (c : UInt8) (s : ByteArray) : Lib.splitB ⟨#[c]⟩ 0 (Lib.countB s ⟨#[c]⟩) s = (spl c (bl s)).map lb := by
  have h := Lib.splitB_data ⟨#[c]⟩ 0 (Lib.countB s ⟨#[c]⟩) s
  have hc : Lib.countB s ⟨#[c]⟩ = (bl s).count c := by
    unfold Lib.countB
    exact Lib.count_one c _
  have e : ((⟨#[c]⟩ : ByteArray)).data.toList = [c] := rfl
  rw [e] at h
  have h2 := h.trans (show _ = spl c (bl s) by rw [hc]; exact splitK_spl c (bl s))
  rw [← h2, List.map_map]
  have : (lb ∘ fun x : ByteArray => x.data.toList) = id := by funext x; exact lb_bl x
  rw [this, List.map_id]

/-! digits -/
def isDig (c : UInt8) : Bool := decide (48 ≤ c.toNat) && decide (c.toNat ≤ 57)
def valF (a : Nat) (c : UInt8) : Nat := 10 * a + (c.toNat - 48)
def valD (d : List UInt8) : Nat := d.foldl valF 0
theorem isDig_of {k : Nat} (h : k < 10) : (UInt8.ofNat (48 + k)).toNat = 48 + k := by
  simp only [UInt8.toNat_ofNat']; omega
theorem dec_dig (u : Nat) : ∀ c ∈ Lib.decDigits u, isDig c = true := by
  induction u using Nat.strongRecOn with
  | _ u ih =>
    intro c hc
    rw [Lib.decDigits] at hc
    split at hc
    · rename_i h
      have : c = UInt8.ofNat (48 + u) := by simpa using hc
      subst this
      simp only [isDig, isDig_of h, Bool.and_eq_true, decide_eq_true_eq]; omega
    · rename_i h
      rcases List.mem_append.1 hc with hc | hc
      · exact ih (u / 10) (by omega) c hc
      · have : c = UInt8.ofNat (48 + u % 10) := by simpa using hc
        subst this
        simp only [isDig, isDig_of (Nat.mod_lt u (by omega) : u % 10 < 10), Bool.and_eq_true, decide_eq_true_eq]; omega
theorem dec_ne (u : Nat) : Lib.decDigits u ≠ [] := by
  rw [Lib.decDigits]; split <;> simp
theorem dec_val (u : Nat) : valD (Lib.decDigits u) = u := by
  induction u using Nat.strongRecOn with
  | _ u ih =>
    rw [Lib.decDigits]
    split
    · rename_i h
      simp only [valD, List.foldl_cons, List.foldl_nil, valF, isDig_of h]; omega
    · rename_i h
      have := ih (u / 10) (by omega)
      unfold valD at this
      simp only [valD, List.foldl_append, List.foldl_cons, List.foldl_nil, this, valF, isDig_of (Nat.mod_lt u (by omega) : u % 10 < 10)]
      omega
theorem dec_head (u : Nat) (h : (Lib.decDigits u).head? = some 48) : u = 0 := by
  induction u using Nat.strongRecOn with
  | _ u ih =>
    rw [Lib.decDigits] at h
    split at h
    · rename_i hu
      simp only [List.head?_cons, Option.some.injEq] at h
      have := congrArg UInt8.toNat h
      rw [isDig_of hu] at this
      have e : (48 : UInt8).toNat = 48 := rfl
      omega
    · rename_i hu
      have hne := dec_ne (u / 10)
      have ih' := ih (u / 10) (by omega)
      cases hd : Lib.decDigits (u / 10) with
      | nil => exact absurd hd hne
      | cons x r =>
        rw [hd] at h ih'
        have := ih' (by simpa using h)
        omega
theorem valF_pos (d : List UInt8) : ∀ a, 1 ≤ a → 1 ≤ d.foldl valF a := by
  induction d with
  | nil => intro a h; exact h
  | cons c d ih => intro a h; exact ih _ (by unfold valF; omega)
theorem val_pos {c : UInt8} {d : List UInt8} (h : isDig c = true) (h0 : c ≠ 48) : 1 ≤ valD (c :: d) := by
  unfold valD
  rw [List.foldl_cons]
  apply valF_pos
  simp only [isDig, Bool.and_eq_true, decide_eq_true_eq] at h
  have : c.toNat ≠ 48 := fun e => h0 (UInt8.toNat_inj.1 e)
  unfold valF; omega
theorem ofNat_dig {c : UInt8} (h : isDig c = true) : UInt8.ofNat (48 + (c.toNat - 48)) = c := by
  simp only [isDig, Bool.and_eq_true, decide_eq_true_eq] at h
  apply UInt8.toNat_inj.1
  rw [isDig_of (by omega)]; omega
theorem val_dec : ∀ (n : Nat) (d : List UInt8), d.length = n → (∀ c ∈ d, isDig c = true) → d ≠ [] → (d.head? = some 48 → d = [48]) → Lib.decDigits (valD d) = d
  | 0, d, hn, _, hd, _ => absurd (List.length_eq_zero_iff.1 hn) hd
  | n + 1, d, hn, hc, hd, h0 => by
    have ed := (List.dropLast_concat_getLast hd).symm
    generalize hp : d.dropLast = p at ed
    generalize hl : d.getLast hd = c at ed
    have hcc : isDig c = true := hc c (by rw [ed]; simp)
    have hv : valD d = 10 * valD p + (c.toNat - 48) := by rw [ed]; simp [valD, valF]
    have hc9 : c.toNat - 48 < 10 := by simp only [isDig, Bool.and_eq_true, decide_eq_true_eq] at hcc; omega
    cases p with
    | nil =>
      have h1 : valD d = c.toNat - 48 := by rw [hv]; simp [valD]
      rw [Lib.decDigits, dif_pos (by omega), h1, ofNat_dig hcc, ed]; rfl
    | cons x p =>
      have hx : isDig x = true := hc x (by rw [ed]; simp)
      have hx0 : x ≠ 48 := fun e => by
        have := h0 (by rw [ed, e]; rfl)
        rw [ed] at this
        have := congrArg List.length this
        simp at this
      have hpos := val_pos (d := p) hx hx0
      have ih := val_dec n (x :: p) (by rw [ed] at hn; simpa using hn) (fun z hz => hc z (by rw [ed]; exact List.mem_append_left _ hz)) (by simp) (fun e => by simp at e; exact absurd e hx0)
      rw [Lib.decDigits, dif_neg (by omega), hv]
      have q1 : (10 * valD (x :: p) + (c.toNat - 48)) / 10 = valD (x :: p) := by omega
      have q2 : (10 * valD (x :: p) + (c.toNat - 48)) % 10 = c.toNat - 48 := by omega
      rw [q1, q2, ih, ofNat_dig hcc, ed]
theorem valF_lt (d : List UInt8) : ∀ a, (∀ c ∈ d, isDig c = true) → d.foldl valF a < (a + 1) * 10 ^ d.length := by
  induction d with
  | nil => intro a _; simp
  | cons c d ih =>
    intro a h
    have hc := h c (by simp)
    simp only [isDig, Bool.and_eq_true, decide_eq_true_eq] at hc
    have := ih (valF a c) (fun x hx => h x (List.mem_cons_of_mem _ hx))
    rw [List.foldl_cons, List.length_cons, Nat.pow_succ]
    refine Nat.lt_of_lt_of_le this ?_
    have e : (a + 1) * (10 ^ d.length * 10) = ((a + 1) * 10) * 10 ^ d.length := by rw [Nat.mul_comm (10 ^ d.length) 10, Nat.mul_assoc]
    rw [e]
    exact Nat.mul_le_mul_right _ (by unfold valF; omega)
theorem val_lt {d : List UInt8} (h : ∀ c ∈ d, isDig c = true) (hl : d.length ≤ 9) : valD d < 1000000000 := by
  have := valF_lt d 0 h
  have e : 10 ^ d.length ≤ 10 ^ 9 := Nat.pow_le_pow_right (by omega) hl
  unfold valD
  have : (10 : Nat) ^ 9 = 1000000000 := by decide
  omega
theorem parse_val (d : List UInt8) : ∀ a, (∀ c ∈ d, isDig c = true) → (a + 1) * 10 ^ d.length ≤ 1000000000000000 → Lib.parseUint10 a d = .ok (d.foldl valF a) := by
  induction d with
  | nil => intro a _ _; rfl
  | cons c d ih =>
    intro a h hb
    have hc := h c (by simp)
    simp only [isDig, Bool.and_eq_true, decide_eq_true_eq] at hc
    rw [List.length_cons, Nat.pow_succ] at hb
    have e : (a + 1) * (10 ^ d.length * 10) = ((a + 1) * 10) * 10 ^ d.length := by rw [Nat.mul_comm (10 ^ d.length) 10, Nat.mul_assoc]
    rw [e] at hb
    have hp : 1 ≤ 10 ^ d.length := Nat.one_le_pow _ _ (by omega)
    have ha : (a + 1) * 10 ≤ 1000000000000000 := Nat.le_trans (Nat.le_mul_of_pos_right _ hp) hb
    rw [Lib.parseUint10, if_pos hc, if_neg (by omega), if_neg (by omega), List.foldl_cons]
    have e2 : a * 10 + (c.toNat - 48) = valF a c := by unfold valF; omega
    rw [e2]
    refine ih _ (fun x hx => h x (List.mem_cons_of_mem _ hx)) (Nat.le_trans ?_ hb)
    exact Nat.mul_le_mul_right _ (by unfold valF; omega)

/-- A number of at most nine digits, as it is written. -/
def numOk (s d : List UInt8) : Bool := !d.isEmpty && decide (d.length ≤ 9) && !(d.head? == some 48 && s != [48]) && d.all isDig
def numL (s : List UInt8) : Option Int :=
  if s.head? = some 45 then (if numOk s s.tail then some (-(valD s.tail : Int)) else none) else (if numOk s s then some (valD s : Int) else none)
theorem numOk_iff {s d : List UInt8} : numOk s d = true ↔ d ≠ [] ∧ d.length ≤ 9 ∧ (d.head? = some 48 → s = [48]) ∧ ∀ c ∈ d, isDig c = true := by
  unfold numOk
  simp only [Bool.and_eq_true, Bool.not_eq_true', List.isEmpty_eq_false_iff, decide_eq_true_eq, Bool.and_eq_false_iff, beq_eq_false_iff_ne, bne_eq_false_iff_eq, List.all_eq_true, ne_eq, and_assoc]
  constructor
  · rintro ⟨h1, h2, h3, h4⟩
    exact ⟨h1, h2, fun e => h3.elim (fun h => absurd e h) id, h4⟩
  · rintro ⟨h1, h2, h3, h4⟩
    exact ⟨h1, h2, (Decidable.em (d.head? = some 48)).elim (fun h => .inr (h3 h)) .inl, h4⟩
theorem dig_45 : isDig 45 = false := by decide
theorem dig_43 : isDig 43 = false := by decide
theorem trim_neg (d : List UInt8) : Lib.trimPrefix (45 :: d) [45] = d := by simp [Lib.trimPrefix, Lib.hasPrefix]
theorem trim_pos {s : List UInt8} (h : s.head? ≠ some 45) : Lib.trimPrefix s [45] = s := by
  cases s with
  | nil => simp [Lib.trimPrefix, Lib.hasPrefix]
  | cons c r =>
    have : c ≠ 45 := fun e => h (by simp [e])
    simp [Lib.trimPrefix, Lib.hasPrefix, List.isPrefixOf, Ne.symm this]
theorem itoa_neg {n : Nat} (h : 1 ≤ n) : Lib.itoa (-(n : Int)) = 45 :: Lib.decDigits n := by
  unfold Lib.itoa
  rw [if_pos (by omega)]
  congr 2; omega
theorem itoa_pos (n : Nat) : Lib.itoa (n : Int) = Lib.decDigits n := by
  unfold Lib.itoa
  rw [if_neg (by omega)]
  congr 1
theorem parseMag_val {d : List UInt8} (h : ∀ c ∈ d, isDig c = true) (hn : d ≠ []) (hl : d.length ≤ 9) : Lib.parseMag d = .ok (valD d) := by
  unfold Lib.parseMag
  rw [if_neg hn]
  refine parse_val d 0 h ?_
  have e : 10 ^ d.length ≤ 10 ^ 9 := Nat.pow_le_pow_right (by omega) hl
  have : (10 : Nat) ^ 9 = 1000000000 := by decide
  omega

/-- What is read as such a number: atoi, and written again the same. -/
theorem num_atoi (s : List UInt8) : (match Lib.atoiAll s with
  | .ok v => if Lib.itoa v = s ∧ (Lib.trimPrefix s [45]).length ≤ 9 then (v, true) else (0, false)
  | _ => ((0 : Int), false)) = ((numL s).getD 0, (numL s).isSome) := by
  unfold numL
  by_cases hneg : s.head? = some 45
  · rw [if_pos hneg]
    obtain ⟨d, rfl⟩ : ∃ d, s = 45 :: d := by
      cases s with
      | nil => simp at hneg
      | cons c d => simp at hneg; exact ⟨d, by rw [hneg]⟩
    rw [List.tail_cons]
    by_cases hok : numOk (45 :: d) d = true
    · rw [if_pos hok]
      obtain ⟨h1, h2, h3, h4⟩ := numOk_iff.1 hok
      have hd0 : d.head? ≠ some 48 := fun e => by have := h3 e; simp at this
      have hpos : 1 ≤ valD d := by
        cases d with
        | nil => exact absurd rfl h1
        | cons c r => exact val_pos (h4 c (by simp)) (fun e => hd0 (by simp [e]))
      have ha : Lib.atoiAll (45 :: d) = .ok (-(valD d : Int)) := by
        have h9 := val_lt h4 h2
        unfold Lib.atoiAll
        have e45 : (45 : UInt8).toNat = 45 := rfl
        simp only [e45, or_true, if_true, parseMag_val h4 h1 h2, not_true_eq_false, false_and, if_false, true_and]
        rw [if_neg (by omega)]
      rw [ha]
      have hd := val_dec _ d rfl h4 h1 (fun e => absurd e hd0)
      simp only [itoa_neg hpos, hd, trim_neg, h2, and_self, if_true, Option.getD_some, Option.isSome_some]
    · rw [if_neg hok]
      rcases ha : Lib.atoiAll (45 :: d) with v | _ | _
      · simp only [trim_neg]
        by_cases hc : Lib.itoa v = 45 :: d ∧ d.length ≤ 9
        · exfalso
          obtain ⟨hc1, hc2⟩ := hc
          apply hok
          unfold Lib.itoa at hc1
          split at hc1
          · rename_i hv
            have e := (List.cons.inj hc1).2
            refine numOk_iff.2 ⟨by rw [← e]; exact dec_ne _, hc2, fun h => ?_, by rw [← e]; exact dec_dig _⟩
            rw [← e] at h
            have := dec_head _ h
            omega
          · have := dec_dig v.toNat 45 (by rw [hc1]; simp)
            rw [dig_45] at this; cases this
        · rw [if_neg hc]; rfl
      · rfl
      · rfl
  · rw [if_neg hneg]
    by_cases hok : numOk s s = true
    · rw [if_pos hok]
      obtain ⟨h1, h2, h3, h4⟩ := numOk_iff.1 hok
      have ha : Lib.atoiAll s = .ok (valD s : Int) := by
        have h9 := val_lt h4 h2
        have hp := parseMag_val h4 h1 h2
        cases s with
        | nil => exact absurd rfl h1
        | cons c r =>
          have hc := h4 c (by simp)
          simp only [isDig, Bool.and_eq_true, decide_eq_true_eq] at hc
          unfold Lib.atoiAll
          have n1 : ¬ (c.toNat = 43 ∨ c.toNat = 45) := by omega
          have n2 : ¬ (c.toNat = 45) := by omega
          have n3 : ¬ (c.toNat = 43) := by omega
          simp only [n2, n3, or_self, if_false, not_false_eq_true, true_and, false_and]
          rw [hp]
          simp only []
          rw [if_neg (by omega)]
      rw [ha]
      have hd := val_dec _ s rfl h4 h1 h3
      simp only [itoa_pos, hd, trim_pos hneg, h2, and_self, if_true, Option.getD_some, Option.isSome_some]
    · rw [if_neg hok]
      rcases ha : Lib.atoiAll s with v | _ | _
      · simp only [trim_pos hneg]
        by_cases hc : Lib.itoa v = s ∧ s.length ≤ 9
        · exfalso
          obtain ⟨hc1, hc2⟩ := hc
          apply hok
          unfold Lib.itoa at hc1
          split at hc1
          · rw [← hc1] at hneg; simp at hneg
          · refine numOk_iff.2 ⟨by rw [← hc1]; exact dec_ne _, hc2, fun h => ?_, by rw [← hc1]; exact dec_dig _⟩
            have h0 : v.toNat = 0 := dec_head _ (by rw [hc1]; exact h)
            rw [← hc1, h0]
            rw [Lib.decDigits, dif_pos (by omega)]; rfl
        · rw [if_neg hc]; rfl
      · rfl
      · rfl
theorem numL_bound {s : List UInt8} {v : Int} (h : numL s = some v) : -999999999 ≤ v ∧ v ≤ 999999999 := by
  unfold numL at h
  split at h
  · split at h
    · rename_i hk
      obtain ⟨_, h2, _, h4⟩ := numOk_iff.1 hk
      have := val_lt h4 h2
      cases h; omega
    · cases h
  · split at h
    · rename_i hk
      obtain ⟨_, h2, _, h4⟩ := numOk_iff.1 hk
      have := val_lt h4 h2
      cases h; omega
    · cases h
/-- A number that is written is read. -/
theorem numL_itoa {v : Int} (h1 : -999999999 ≤ v) (h2 : v ≤ 999999999) : numL (Lib.itoa v) = some v := by
  have hlen : ∀ u : Nat, u ≤ 999999999 → (Lib.decDigits u).length ≤ 9 := by
    intro u hu
    by_cases h : (Lib.decDigits u).length ≤ 9
    · exact h
    · exfalso
      rw [Lib.decDigits_length] at h
      have hn : ∀ (k u : Nat), u < 10 ^ (k + 1) → Lib.nDigits u ≤ k + 1 := by
        intro k
        induction k with
        | zero => intro u hu; rw [Lib.nDigits_small (by simpa using hu)]; omega
        | succ k ih =>
          intro u hu
          by_cases h : u < 10
          · rw [Lib.nDigits_small h]; omega
          · rw [Lib.nDigits_big h]
            rw [Nat.pow_succ] at hu
            have := ih (u / 10) (by omega)
            omega
      have := hn 8 u (by have : (10 : Nat) ^ (8 + 1) = 1000000000 := by decide
                         omega)
      omega
  unfold Lib.itoa
  split
  · rename_i hv
    unfold numL
    rw [if_pos (show (45 :: Lib.decDigits v.natAbs).head? = some 45 from rfl), List.tail_cons, if_pos (numOk_iff.2 ⟨dec_ne _, hlen _ (by omega), fun h => by have := dec_head _ h; omega, dec_dig _⟩), dec_val]
    congr 1; omega
  · rename_i hv
    have hh : (Lib.decDigits v.toNat).head? ≠ some 45 := fun e => by
      have := dec_dig v.toNat 45 (List.mem_of_mem_head? (by rw [e]; rfl))
      rw [dig_45] at this; cases this
    unfold numL
    rw [if_neg hh, if_pos (numOk_iff.2 ⟨dec_ne _, hlen _ (by omega), fun h => by
      have := dec_head _ h
      rw [this, Lib.decDigits, dif_pos (by omega)]; rfl, dec_dig _⟩), dec_val]
    congr 1; omega
theorem itoa_ne (v : Int) : Lib.itoa v ≠ [] := by
  unfold Lib.itoa
  split
  · simp
  · exact dec_ne _
theorem itoa_mem {v : Int} {c : UInt8} (h : c ∈ Lib.itoa v) : c = 45 ∨ isDig c = true := by
  unfold Lib.itoa at h
  split at h
  · rcases List.mem_cons.1 h with h | h
    · exact .inl h
    · exact .inr (dec_dig _ c h)
  · exact .inr (dec_dig _ c h)

/-- It comes to an end, and what it comes to is so. -/
def Ret {α : Type} (o : Option α) (P : α → Prop) : Prop := ∃ r, o = some r ∧ P r

theorem Ret.pure {α : Type} {a : α} {P : α → Prop} (h : P a) : Ret (some a) P := ⟨a, rfl, h⟩
theorem Ret.bind {α β : Type} {o : Option α} {k : α → Option β} {P : β → Prop} (Q : α → Prop) (h : Ret o Q) (hk : ∀ r, Q r → Ret (k r) P) : Ret (o.bind k) P := by
  obtain ⟨r, e, hr⟩ := h
  rw [e]
  exact hk r hr
theorem Ret.bindE {α β : Type} {o : Option α} {k : α → Option β} {P : β → Prop} {r : α} (e : o = some r) (hk : Ret (k r) P) : Ret (o.bind k) P := by
  rw [e]; exact hk
theorem Ret.mono {α : Type} {o : Option α} {P Q : α → Prop} (h : Ret o P) (hm : ∀ r, P r → Q r) : Ret o Q := by
  obtain ⟨r, e, hr⟩ := h; exact ⟨r, e, hm r hr⟩
theorem Ret.bif {α : Type} {c : Bool} {a b : Option α} {P : α → Prop} (h1 : c = true → Ret a P) (h2 : c = false → Ret b P) : Ret (bif c then a else b) P := by
  cases c with
  | true => exact h1 rfl
  | false => exact h2 rfl
theorem Ret.dec {α : Type} {p : Prop} [Decidable p] {a b : Option α} {P : α → Prop} (h1 : p → Ret a P) (h2 : ¬ p → Ret b P) : Ret (_root_.cond (decide p) a b) P := by
  by_cases h : p
  · simpa [h] using h1 h
  · simpa [h] using h2 h
theorem Ret.guard {α : Type} {p : Prop} [Decidable p] {a : Option α} {P : α → Prop} (hp : p) (h : Ret a P) : Ret (_root_.cond (decide p) a none) P := by
  simpa [hp] using h
theorem Ret.guardN {α : Type} {p : Prop} [Decidable p] {a : Option α} {P : α → Prop} (hp : ¬ p) (h : Ret a P) : Ret (_root_.cond (decide p) none a) P := by
  simpa [hp] using h
theorem Ret.beq {α β : Type} [DecidableEq β] {x y : β} {a b : Option α} {P : α → Prop} (h1 : x = y → Ret a P) (h2 : ¬ x = y → Ret b P) : Ret (_root_.cond (x == y) a b) P := by
  rw [bif_beq]
  by_cases h : x = y
  · simpa [h] using h1 h
  · simpa [h] using h2 h
theorem obind_eq {α β : Type} {o : Option α} {r : α} {k : α → Option β} {z : Option β} (e : o = some r) (h : k r = z) : o.bind k = z := by
  rw [e]; exact h

theorem wrap8 {x : Int} (h1 : 0 ≤ x) (h2 : x < 256) : IntKind.wrap .u8 x = x := by
  have e1 : (2 : Int) ^ 8 = 256 := rfl
  simp only [IntKind.wrap, IntKind.signed, IntKind.bits, Bool.false_and, e1]
  simp only [Bool.false_eq_true, if_false]
  omega
theorem bstr_one (n : Nat) : bstr [((n : Nat) : Int)] = lb [UInt8.ofNat n] := by
  simp [bstr, lb]; rfl
/-- The digits of a number, none for 0. -/
def digs (n : Nat) : List UInt8 := if n = 0 then [] else Lib.decDigits n
theorem digs_div {n : Nat} (h : n ≠ 0) : digs n = digs (n / 10) ++ [UInt8.ofNat (48 + n % 10)] := by
  unfold digs
  rw [if_neg h, Lib.decDigits]
  by_cases h2 : n < 10
  · rw [dif_pos h2, if_pos (by omega), show n % 10 = n by omega]; rfl
  · rw [dif_neg h2, if_neg (by omega)]
theorem digs_len : ∀ (k n : Nat), n < 10 ^ k → (digs n).length ≤ k
  | 0, n, h => by have : n = 0 := by simpa using h
                  subst this; simp [digs]
  | k + 1, n, h => by
    by_cases h0 : n = 0
    · subst h0; simp [digs]
    · rw [digs_div h0, List.length_append]
      have := digs_len k (n / 10) (by rw [Nat.pow_succ] at h; omega)
      simp; omega
section
variable {N : Nat} (hN : lim < N)
include hN
omit hN in
theorem lsl9Dec_ok : ∀ (k f : Nat) (n : Int) (out : List UInt8) (neg : Bool), n.natAbs < 10 ^ k → k ≤ 20 → k < f → -9223372036854775808 ≤ n → n < 9223372036854775808 → out.length + k ≤ 30 →
    lsl9Dec_0 N f (n, lb out, neg, ()) = some (lb (digs n.natAbs ++ out), neg, ()) := by
  have hlim : lim = 2147483648 := rfl
  intro k
  induction k with
  | zero =>
    intro f n out neg h _ hf _ _ _
    obtain ⟨f, rfl⟩ : ∃ g, f = g + 1 := ⟨f - 1, by omega⟩
    have : n = 0 := by simpa using h
    subst this
    rfl
  | succ k ih =>
    intro f n out neg h hk hf b1 b2 hl
    obtain ⟨f, rfl⟩ : ∃ g, f = g + 1 := ⟨f - 1, by omega⟩
    by_cases h0 : n = 0
    · subst h0; rfl
    · have hne : (n != 0) = true := by simpa using h0
      have h10 : ¬ ((10 : Int) = 0) := by omega
      have hq : (Int.tdiv n 10).natAbs = n.natAbs / 10 := by rw [Int.natAbs_tdiv]; rfl
      have hdiv : w64 (Int.tdiv n 10) = Int.tdiv n 10 := w64_id (by omega) (by omega)
      have hm : (Int.tmod n 10).natAbs = n.natAbs % 10 := by rw [Int.natAbs_tmod]; rfl
      have hd : (if Int.tmod n 10 < 0 then w64 (0 - Int.tmod n 10) else Int.tmod n 10) = ((n.natAbs % 10 : Nat) : Int) := by
        split
        · rw [w64_id (by omega) (by omega)]; omega
        · omega
      have h48 : IntKind.wrap .u8 (w64 (48 + ((n.natAbs % 10 : Nat) : Int))) = ((48 + n.natAbs % 10 : Nat) : Int) := by
        rw [w64_id (by omega) (by omega), wrap8 (by omega) (by omega)]; omega
      have := ih f (Int.tdiv n 10) (UInt8.ofNat (48 + n.natAbs % 10) :: out) neg (by rw [hq]; rw [Nat.pow_succ] at h; omega) (by omega) (by omega) (by omega) (by omega) (by simp; omega)
      rw [hq] at this
      rw [digs_div (by omega), List.append_assoc]
      have e2 : (if Int.tmod n 10 < 0 then some (n, lb out, neg, w64 (0 - Int.tmod n 10), ()) else some (n, lb out, neg, Int.tmod n 10, ())) = some (n, lb out, neg, ((n.natAbs % 10 : Nat) : Int), ()) := by
        rw [← hd]; split <;> rfl
      have g : (bstr [((48 + n.natAbs % 10 : Nat) : Int)]).size + (lb out).size ≤ lim := by
        rw [bstr_one, lb_size, lb_size]; simp; omega
      simp only [lsl9Dec_0, hne, cond_true, h10, decide_false, cond_false, bif_dec, e2, Option.bind_some, h48, hdiv]
      rw [if_pos g, bstr_one, lb_append]
      exact this
theorem sl9Dec_ok {n : Int} (h1 : -9223372036854775808 ≤ n) (h2 : n < 9223372036854775808) : Fsl9Dec N (n, ()) = some (lb (Lib.itoa n), ()) := by
  have hlim : lim = 2147483648 := rfl
  by_cases h0 : n = 0
  · subst h0
    simp only [Fsl9Dec, beq_self_eq_true, cond_true]
    have : Lib.itoa 0 = [48] := by unfold Lib.itoa; rw [if_neg (by omega), Lib.decDigits, dif_pos (by decide)]; rfl
    rw [this]; rfl
  · have hb : (n == 0) = false := beq_eq_false_iff_ne.2 h0
    have h19 : n.natAbs < 10 ^ 19 := by have : (10 : Nat) ^ 19 = 10000000000000000000 := by decide
                                        omega
    have e := lsl9Dec_ok (N := N) 19 N n [] (decide (n < 0)) h19 (by omega) (by omega) h1 h2 (by simp)
    have e0 : lb [] = ByteArray.mk #[] := rfl
    rw [e0, List.append_nil] at e
    have hd : digs n.natAbs = Lib.decDigits n.natAbs := by unfold digs; rw [if_neg (by omega)]
    have hl := digs_len 19 n.natAbs h19
    simp only [Fsl9Dec, hb, cond_false, e, Option.bind_some]
    by_cases hn : n < 0
    · have g : (ByteArray.mk #[45]).size + (lb (digs n.natAbs)).size ≤ lim := by
        rw [lb_size, show (ByteArray.mk #[45]).size = 1 from rfl]; omega
      simp only [hn, decide_true, cond_true, g]
      have e45 : ByteArray.mk #[45] = lb [45] := rfl
      rw [e45, lb_append, hd]
      unfold Lib.itoa
      rw [if_pos hn]; rfl
    · simp only [hn, decide_false, cond_false]
      unfold Lib.itoa
      rw [if_neg hn, hd]
      congr 4; omega
end

/-- The text of an operation. -/
def opT (o : OpD) : List UInt8 := if okOp o = true ∧ (opNums o).all szd = true then kWord o.1.toNat ++ numsT (opNums o) else []
theorem okOp_kind {o : OpD} (h : okOp o = true) : 1 ≤ o.1 ∧ o.1 ≤ 11 := by
  simp only [okOp, Bool.and_eq_true, decide_eq_true_eq] at h
  exact h.1
theorem opT_len (o : OpD) : (opT o).length ≤ 100 := by
  unfold opT
  split
  · rename_i h
    have h1 := kWord_len o.1.toNat
    have h2 := kOffs_len o.1.toNat
    have h3 := numsT_len (opNums o) (fun n hn => szd_rng (List.all_eq_true.1 h.2 n hn))
    have h4 : (opNums o).length = (kOffs o.1.toNat).length := by simp [opNums]
    rw [List.length_append]; omega
  · simp
theorem hOpText_ok (o : OpD) : FhOpText 0 (o, ()) = some (lb (opT o), ()) := by
  unfold FhOpText opT
  rw [qOpOk_ok2]
  by_cases h : okOp o = true
  · obtain ⟨h1, h2⟩ := okOp_kind h
    simp only [h, h1, h2, decide_true, Bool.and_self, cond_true, true_and]
    split <;> rfl
  · simp only [Bool.not_eq_true] at h
    simp only [h, Bool.false_eq_true, false_and, if_false]
    rfl
def progP : List OpD → List UInt8 → List UInt8
  | [], acc => acc
  | o :: r, acc => if opT o = [] then [] else progP r (acc ++ (opT o ++ [10]))
theorem progT_ok : ∀ (os : List OpD) (acc : List UInt8), progT os acc = some (lb (progP os acc))
  | [], acc => rfl
  | o :: r, acc => by
    rw [progT, hOpText_ok, progP]
    simp only []
    have e1 : ((lb (opT o)).toList == []) = decide (opT o = []) := by
      rw [bl_toList, bl_lb]
      cases opT o <;> rfl
    rw [e1]
    by_cases h : opT o = []
    · simp only [h, decide_true, if_true]; rfl
    · simp only [h, decide_false, if_false, Bool.false_eq_true]
      exact progT_ok r _
/-- The text of a program. -/
def progX (os : List OpD) : List UInt8 := if 40 < os.length then [] else progP os []
theorem progP_ok : ∀ (os : List OpD) (acc : List UInt8), (∀ o ∈ os, opT o ≠ []) → progP os acc = acc ++ (os.map fun o => opT o ++ [10]).flatten
  | [], acc, _ => by simp [progP]
  | o :: r, acc, h => by
    rw [progP, if_neg (h o (by simp)), progP_ok r _ (fun x hx => h x (List.mem_cons_of_mem _ hx))]
    simp
theorem progP_no : ∀ (os : List OpD) (acc : List UInt8), (∃ o ∈ os, opT o = []) → progP os acc = []
  | [], acc, h => by obtain ⟨o, h, _⟩ := h; simp at h
  | o :: r, acc, h => by
    rw [progP]
    by_cases ho : opT o = []
    · rw [if_pos ho]
    · rw [if_neg ho]
      obtain ⟨x, hx, hx2⟩ := h
      rcases List.mem_cons.1 hx with rfl | hx
      · exact absurd hx2 ho
      · exact progP_no r _ ⟨x, hx, hx2⟩
theorem progP_len : ∀ (os : List OpD) (acc : List UInt8), (progP os acc).length ≤ acc.length + os.length * 101
  | [], acc => by simp [progP]
  | o :: r, acc => by
    rw [progP]
    split
    · simp
    · have := progP_len r (acc ++ (opT o ++ [10]))
      have h2 := opT_len o
      simp only [List.length_append, List.length_cons, List.length_nil] at this ⊢
      omega
theorem progX_len (os : List OpD) : (progX os).length ≤ 4100 := by
  unfold progX
  split
  · simp
  · have := progP_len os []
    simp only [List.length_nil] at this; omega
section
variable {N : Nat}
theorem hProgText_ok (os : List OpD) : FhProgText N (os, ()) = some (lb (progX os), ()) := by
  unfold FhProgText progX
  by_cases h : 40 < os.length
  · have : os.length > 40 := h
    simp only [this, decide_true, cond_true, if_true]; rfl
  · have : ¬ os.length > 40 := h
    simp only [this, decide_false, cond_false, if_false, progT_ok, Option.map_some]
theorem sl11Word_ok {k : Int} (h1 : 1 ≤ k) (h2 : k ≤ 11) : Fsl11Word N (k, ()) = some (lb (kWord k.toNat), ()) := by
  have : k = 1 ∨ k = 2 ∨ k = 3 ∨ k = 4 ∨ k = 5 ∨ k = 6 ∨ k = 7 ∨ k = 8 ∨ k = 9 ∨ k = 10 ∨ k = 11 := by omega
  rcases this with rfl | rfl | rfl | rfl | rfl | rfl | rfl | rfl | rfl | rfl | rfl <;> rfl
theorem sl11Nums_ok {o : OpD} (h1 : 1 ≤ o.1) (h2 : o.1 ≤ 11) : Fsl11Nums N (o, ()) = some (opNums o, ()) := by
  obtain ⟨k, a1, a2, a3, a4, a5, ⟨a6, a7, ⟨⟩⟩, ⟨⟩⟩ := o
  simp only at h1 h2
  have : k = 1 ∨ k = 2 ∨ k = 3 ∨ k = 4 ∨ k = 5 ∨ k = 6 ∨ k = 7 ∨ k = 8 ∨ k = 9 ∨ k = 10 ∨ k = 11 := by omega
  rcases this with rfl | rfl | rfl | rfl | rfl | rfl | rfl | rfl | rfl | rfl | rfl <;> rfl
variable (hN : lim < N)
include hN
theorem sOpText_loop {ns : List Int} {w : List UInt8} (hw : w.length ≤ 5) (hn4 : ns.length ≤ 4) : ∀ n i, i ≤ ns.length → ns.length - i < n → (ns.take i).all szd = true →
    lsOpText_0 N n (lb (w ++ numsT (ns.take i)), (i : Int), ns, ()) = if ns.all szd = true then some (.inl (lb (w ++ numsT ns), ())) else some (.inr (lb [], ())) := by
  have hlim : lim = 2147483648 := rfl
  have e0 : ByteArray.mk #[] = lb [] := rfl
  have e32 : ByteArray.mk #[32] = lb [32] := rfl
  intro n
  induction n with
  | zero => intro i _ h; exact absurd h (Nat.not_lt_zero _)
  | succ n ih =>
    intro i hi hn hall
    by_cases h : i < ns.length
    · have g1 : (i : Int) < (ns.length : Int) := by omega
      have hq3 := numsT_len (ns.take i) (fun n hn => szd_rng (List.all_eq_true.1 hall n hn))
      have hq4 : (ns.take i).length ≤ 4 := by simp; omega
      cases hz : szd ns[i] with
      | true =>
        have hz' := hz
        simp only [szd, Bool.and_eq_true, decide_eq_true_eq] at hz'
        have g2 : ¬ (ns[i] < -999999999) := by omega
        have g3 : ¬ (ns[i] > 999999999) := by omega
        have hd := sl9Dec_ok hN (n := ns[i]) (by omega) (by omega)
        have hl := itoaLen (v := ns[i]) (by omega) (by omega)
        have c1 : (lb (w ++ numsT (ns.take i))).size + (lb [32]).size ≤ lim := by rw [lb_size, lb_size]; simp; omega
        have c2 : (lb ((w ++ numsT (ns.take i)) ++ [32])).size + (lb (Lib.itoa ns[i])).size ≤ lim := by rw [lb_size, lb_size]; simp; omega
        have w1 : w64 ((i : Int) + 1) = ((i + 1 : Nat) : Int) := w64_succ (by omega)
        have := ih (i + 1) (by omega) (by omega) (by
          rw [List.take_add_one, List.getElem?_eq_getElem h, List.all_append, hall]; simp [hz])
        rw [numsT_take h] at this
        simp only [lsOpText_0, g1, decide_true, cond_true, Int.natCast_nonneg, Int.toNat_natCast, h, getD_lt h, g2, g3, decide_false, cond_false, Option.bind_some, Sum.elim_inl, e0, e32, c1, lb_append, hd, c2, w1]
        rw [← this]
        simp
      | false =>
        have hna : ¬ ns.all szd = true := by
          rw [Bool.not_eq_true, List.all_eq_false]; exact ⟨ns[i], List.getElem_mem _, by rw [hz]; simp⟩
        rw [if_neg hna]
        have hz' : ¬ (-999999999 ≤ ns[i] ∧ ns[i] ≤ 999999999) := by
          intro hc
          simp only [szd, hc.1, hc.2, decide_true, Bool.and_self] at hz
          cases hz
        by_cases g2 : ns[i] < -999999999
        · simp only [lsOpText_0, g1, decide_true, cond_true, Int.natCast_nonneg, Int.toNat_natCast, h, getD_lt h, g2, Option.bind_some, Sum.elim_inr, e0]
        · have g3 : ns[i] > 999999999 := by omega
          simp only [lsOpText_0, g1, decide_true, cond_true, Int.natCast_nonneg, Int.toNat_natCast, h, getD_lt h, g2, g3, decide_false, cond_false, Option.bind_some, Sum.elim_inr, e0]
    · have : i = ns.length := by omega
      subst this
      have g1 : ¬ ((ns.length : Int) < (ns.length : Int)) := by omega
      rw [List.take_length] at hall ⊢
      rw [if_pos hall]
      simp only [lsOpText_0, g1, decide_false, cond_false]
theorem sOpText_ok (o : OpD) : FsOpText N (o, ()) = some (lb (opT o), ()) := by
  have e0 : ByteArray.mk #[] = lb [] := rfl
  have h := sOpOk_ok2 (N := N) o
  unfold opT
  by_cases hk : okOp o = true
  · obtain ⟨h1, h2⟩ := okOp_kind hk
    rw [hk] at h
    have hw := sl11Word_ok (N := N) h1 h2
    have hn := sl11Nums_ok (N := N) h1 h2
    have h4 : (opNums o).length = (kOffs o.1.toNat).length := by simp [opNums]
    have hl := sOpText_loop hN (ns := opNums o) (kWord_len o.1.toNat) (by have := kOffs_len o.1.toNat; omega) N 0 (by omega) (by
      have := kOffs_len o.1.toNat
      have hlim : lim = 2147483648 := rfl
      omega) (by simp)
    simp only [Int.natCast_zero, List.take_zero, numsT, List.map_nil, List.flatten_nil, List.append_nil] at hl
    simp only [FsOpText, h, Option.bind_some, Bool.not_true, cond_false, hw, hn, hl, hk, true_and]
    split <;> rfl
  · simp only [Bool.not_eq_true] at hk
    rw [hk] at h
    simp only [FsOpText, h, Option.bind_some, Bool.not_false, cond_true, hk, Bool.false_eq_true, false_and, if_false, e0]
theorem sProg_loopT {os : List OpD} (hl : os.length ≤ 40) : ∀ n i (acc : List UInt8), i ≤ os.length → os.length - i < n → acc.length ≤ i * 101 →
    lsProgText_0 N n (os, lb acc, (i : Int), ()) = some (.inl (lb (progP (os.drop i) acc), ())) ∨ (lsProgText_0 N n (os, lb acc, (i : Int), ()) = some (.inr (lb [], ())) ∧ progP (os.drop i) acc = []) := by
  have hlim : lim = 2147483648 := rfl
  have e0 : ByteArray.mk #[] = lb [] := rfl
  have e10 : ByteArray.mk #[10] = lb [10] := rfl
  intro n
  induction n with
  | zero => intro i acc _ h; exact absurd h (Nat.not_lt_zero _)
  | succ n ih =>
    intro i acc hi hn ha
    by_cases h : i < os.length
    · have g1 : (i : Int) < (os.length : Int) := by omega
      have ht := sOpText_ok hN os[i]
      have hlt := opT_len os[i]
      have w1 : w64 ((i : Int) + 1) = ((i + 1 : Nat) : Int) := w64_succ (by omega)
      rw [drop_at h, progP]
      have hb : ((lb (opT os[i])).toList == (lb []).toList) = decide (opT os[i] = []) := by rw [ba_beq, bl_lb, bl_lb]
      by_cases he : opT os[i] = []
      · refine .inr ⟨?_, by rw [if_pos he]⟩
        simp only [lsProgText_0, g1, decide_true, cond_true, Int.natCast_nonneg, Int.toNat_natCast, h, getD_lt h, ht, Option.bind_some, e0, hb, he, beq_self_eq_true]
      · rw [if_neg he]
        have c1 : (lb acc).size + (lb (opT os[i])).size ≤ lim := by rw [lb_size, lb_size]; omega
        have c2 : (lb (acc ++ opT os[i])).size + (lb [10]).size ≤ lim := by rw [lb_size, lb_size]; simp; omega
        have := ih (i + 1) (acc ++ (opT os[i] ++ [10])) (by omega) (by omega) (by simp; omega)
        have e : lsProgText_0 N (n + 1) (os, lb acc, (i : Int), ()) = lsProgText_0 N n (os, lb (acc ++ (opT os[i] ++ [10])), ((i + 1 : Nat) : Int), ()) := by
          simp only [lsProgText_0, g1, decide_true, cond_true, Int.natCast_nonneg, Int.toNat_natCast, h, getD_lt h, ht, Option.bind_some, e0, hb, he, decide_false, cond_false, c1, lb_append, e10, c2, w1, List.append_assoc]
        rw [e]
        exact this
    · have : i = os.length := by omega
      subst this
      have g1 : ¬ ((os.length : Int) < (os.length : Int)) := by omega
      left
      simp only [lsProgText_0, g1, decide_false, cond_false, List.drop_length, progP]
theorem sProgText_ok (os : List OpD) : FsProgText N (os, ()) = some (lb (progX os), ()) := by
  have hlim : lim = 2147483648 := rfl
  have e0 : ByteArray.mk #[] = lb [] := rfl
  unfold progX
  by_cases h : 40 < os.length
  · have g : (os.length : Int) > 40 := by omega
    simp only [FsProgText, g, decide_true, cond_true, h, if_true, e0]
  · have g : ¬ (os.length : Int) > 40 := by omega
    have := sProg_loopT hN (os := os) (by omega) N 0 [] (by omega) (by omega) (by simp)
    simp only [Int.natCast_zero, List.drop_zero] at this
    rcases this with e | ⟨e, e2⟩
    · simp only [FsProgText, g, decide_false, cond_false, e0, e, Option.bind_some, Sum.elim_inl, h, if_false]
    · simp only [FsProgText, g, decide_false, cond_false, e0, e, Option.bind_some, Sum.elim_inr, h, if_false, e2]
end

theorem wf_u8 {n : Int} (h : (Lit.int .u8 n).wf = true) : 0 ≤ n ∧ n < 256 := by
  simp only [Lit.wf, IntKind.min, IntKind.max, IntKind.signed, IntKind.bits] at h
  simp at h
  omega
theorem wf_i64 {n : Int} (h : (Lit.int .i64 n).wf = true) : -9223372036854775808 ≤ n ∧ n < 9223372036854775808 := by
  simp only [Lit.wf, IntKind.min, IntKind.max, IntKind.signed, IntKind.bits] at h
  simp at h
  omega

/-- Rows of at most so many elements. -/
def lnT : (t : Ty) → t.den → Prop
  | .pair a b, x => lnT a x.1 ∧ lnT b x.2
  | .sl t, xs => xs.length ≤ 1048576 ∧ ∀ x ∈ xs, lnT t x
  | .fz t, x => lnT t x
  | _, _ => True

/-- Marks, one element behind the other. -/
def mkS {α : Type} (f : Int → α → Int × α) : Int → List α → Int × List α
  | k, [] => (k, [])
  | k, x :: r => ((mkS f (f k x).1 r).1, (f k x).2 :: (mkS f (f k x).1 r).2)

/-- Marks in an element. -/
def markE : (t : Ty) → Int → t.den → Int × t.den
  | .int _, k, _ => (k + 1, k)
  | .bool, k, _ => (k + 1, Int.tmod k 3 == 0)
  | .pair a b, k, x => ((markE b (markE a k x.1).1 x.2).1, ((markE a k x.1).2, (markE b (markE a k x.1).1 x.2).2))
  | .sl t, k, xs => mkS (markE t) k xs
  | .fz t, k, x => markE t k x
  | .str, k, x => (k, x)
  | .unit, k, x => (k, x)
  | .mp _, k, x => (k, x)
  | .hnd _, k, x => (k, x)

/-- So many marks at most. -/
def bndT : Ty → Int
  | .int _ | .bool => 1
  | .pair a b => bndT a + bndT b
  | .sl t => 1048576 * bndT t
  | .fz t => bndT t
  | _ => 0

theorem bndT_nn : ∀ t : Ty, 0 ≤ bndT t
  | .int _ | .bool => by simp [bndT]
  | .pair a b => by have := bndT_nn a; have := bndT_nn b; simp only [bndT]; omega
  | .sl t => by have := bndT_nn t; simp only [bndT]; omega
  | .fz t => by have := bndT_nn t; simp only [bndT]; omega
  | .str | .unit | .mp _ | .hnd _ => by simp [bndT]

theorem mkS_rng {α : Type} {f : Int → α → Int × α} {P : α → Prop} {B : Int} (hB : ∀ k x, P x → k ≤ (f k x).1 ∧ (f k x).1 ≤ k + B) : ∀ {xs : List α} (k : Int), (∀ x ∈ xs, P x) → k ≤ (mkS f k xs).1 ∧ (mkS f k xs).1 ≤ k + B * xs.length
  | [], k, _ => by simp [mkS]
  | x :: r, k, h => by
    have h1 := hB k x (h x (by simp))
    have h2 := mkS_rng hB (xs := r) (f k x).1 fun y hy => h y (by simp [hy])
    simp only [mkS, List.length_cons, Int.natCast_add, Int.natCast_one, Int.mul_add, Int.mul_one]
    omega

theorem mkS_len {α : Type} {f : Int → α → Int × α} : ∀ {xs : List α} (k : Int), (mkS f k xs).2.length = xs.length
  | [], _ => rfl
  | x :: r, k => by simp [mkS, mkS_len]

theorem markE_rng : ∀ {t : Ty} {x : t.den} (k : Int), lnT t x → k ≤ (markE t k x).1 ∧ (markE t k x).1 ≤ k + bndT t
  | .int _, _, _, _ | .bool, _, _, _ => by simp only [markE, bndT]; omega
  | .pair a b, x, k, h => by
    have h1 := markE_rng (t := a) (x := x.1) k h.1
    have h2 := markE_rng (t := b) (x := x.2) (markE a k x.1).1 h.2
    simp only [markE, bndT]; omega
  | .sl t, xs, k, h => by
    have h1 := mkS_rng (f := markE t) (P := lnT t) (B := bndT t) (fun k x hx => markE_rng k hx) (xs := xs) k h.2
    have h2 : bndT t * (xs.length : Int) ≤ bndT t * 1048576 := Int.mul_le_mul_of_nonneg_left (by have := h.1; omega) (bndT_nn t)
    simp only [markE, bndT]; omega
  | .fz t, x, k, h => markE_rng (t := t) (x := x) k h
  | .str, _, _, _ | .unit, _, _, _ | .mp _, _, _, _ | .hnd _, _, _, _ => by simp only [markE, bndT]; omega

/-- Marking goes element by element. -/
theorem mark_loop {α ρ : Type} {f : Int → α → Int × α} {P : α → Prop} {B : Int} {xs : List α} {L : Nat → Int → Nat → List α → Option ρ} {fin : Int → List α → ρ} (hl : xs.length ≤ lim) (hx : ∀ x ∈ xs, P x) (b0 : 0 ≤ B)
    (hB : ∀ k x, P x → k ≤ (f k x).1 ∧ (f k x).1 ≤ k + B)
    (h1 : ∀ n k i (s : List α) (h : i < s.length), P s[i] → 0 ≤ k → k + B ≤ 4611686018427387904 → w64 ((i : Int) + 1) = ((i + 1 : Nat) : Int) → L (n + 1) k i s = L n (f k s[i]).1 (i + 1) (s.set i (f k s[i]).2))
    (h3 : ∀ n k s, L (n + 1) k s.length s = some (fin k s)) {n : Nat} (hn : xs.length < n) {k : Int} (h0 : 0 ≤ k) (hk : k + B * xs.length ≤ 4611686018427387904) : L n k 0 xs = some (fin (mkS f k xs).1 (mkS f k xs).2) := by
  have key : ∀ (ys pre : List α) (n : Nat) (k : Int), (∀ x ∈ ys, P x) → pre.length + ys.length ≤ lim → ys.length < n → 0 ≤ k → k + B * ys.length ≤ 4611686018427387904 →
      L n k pre.length (pre ++ ys) = some (fin (mkS f k ys).1 (pre ++ (mkS f k ys).2)) := by
    intro ys
    induction ys with
    | nil =>
      intro pre n k _ _ hn _ _
      obtain ⟨n, rfl⟩ : ∃ n', n = n' + 1 := ⟨n - 1, by simp at hn; omega⟩
      have := h3 n k pre
      simpa [mkS] using this
    | cons y ys ih =>
      intro pre n k hy hl hn h0 hk
      obtain ⟨n, rfl⟩ : ∃ n', n = n' + 1 := ⟨n - 1, by simp at hn; omega⟩
      have hlim : lim = 2147483648 := rfl
      simp only [List.length_cons, Int.natCast_add, Int.natCast_one, Int.mul_add, Int.mul_one] at hl hn hk
      have b1 : 0 ≤ B * (ys.length : Int) := Int.mul_nonneg b0 (by omega)
      have hlt : pre.length < (pre ++ y :: ys).length := by simp
      have hg : (pre ++ y :: ys)[pre.length] = y := by simp
      have hPy := hy y (by simp)
      have h4 := hB k y hPy
      have := h1 n k pre.length (pre ++ y :: ys) hlt (by rw [hg]; exact hPy) h0 (by omega) (w64_succ (by omega))
      rw [this, hg]
      have e : (pre ++ y :: ys).set pre.length (f k y).2 = (pre ++ [(f k y).2]) ++ ys := by simp
      have := ih (pre ++ [(f k y).2]) n (f k y).1 (fun x hx => hy x (by simp [hx])) (by simp; omega) (by omega) (by omega) (by omega)
      simp only [List.length_append, List.length_singleton] at this
      rw [e, this]
      simp [mkS]
  have := key xs [] n k hx (by simpa using hl) hn h0 hk
  simpa using this

/-- What was marked is held. -/
theorem held_loop {α ρ : Type} {f : Int → α → Int × α} {P : α → Prop} {B : Int} {xs : List α} {L : Nat → List α → Int → Nat → Option ρ} {fin : Int → ρ} (hl : xs.length ≤ lim) (hx : ∀ x ∈ xs, P x) (b0 : 0 ≤ B)
    (hB : ∀ k x, P x → k ≤ (f k x).1 ∧ (f k x).1 ≤ k + B)
    (h1 : ∀ n k i (s : List α) (h : i < s.length) x, s[i] = (f k x).2 → P x → 0 ≤ k → k + B ≤ 4611686018427387904 → w64 ((i : Int) + 1) = ((i + 1 : Nat) : Int) → L (n + 1) s k i = L n s (f k x).1 (i + 1))
    (h3 : ∀ n k s, L (n + 1) s k s.length = some (fin k)) {n : Nat} (hn : xs.length < n) {k : Int} (h0 : 0 ≤ k) (hk : k + B * xs.length ≤ 4611686018427387904) : L n (mkS f k xs).2 k 0 = some (fin (mkS f k xs).1) := by
  have key : ∀ (ys pre : List α) (n : Nat) (k : Int), (∀ x ∈ ys, P x) → pre.length + ys.length ≤ lim → ys.length < n → 0 ≤ k → k + B * ys.length ≤ 4611686018427387904 →
      L n (pre ++ (mkS f k ys).2) k pre.length = some (fin (mkS f k ys).1) := by
    intro ys
    induction ys with
    | nil =>
      intro pre n k _ _ hn _ _
      obtain ⟨n, rfl⟩ : ∃ n', n = n' + 1 := ⟨n - 1, by simp at hn; omega⟩
      have := h3 n k pre
      simpa [mkS] using this
    | cons y ys ih =>
      intro pre n k hy hl hn h0 hk
      obtain ⟨n, rfl⟩ : ∃ n', n = n' + 1 := ⟨n - 1, by simp at hn; omega⟩
      have hlim : lim = 2147483648 := rfl
      simp only [List.length_cons, Int.natCast_add, Int.natCast_one, Int.mul_add, Int.mul_one] at hl hn hk
      have b1 : 0 ≤ B * (ys.length : Int) := Int.mul_nonneg b0 (by omega)
      have hPy := hy y (by simp)
      have h4 := hB k y hPy
      simp only [mkS]
      generalize hq : (mkS f (f k y).1 ys).2 = q
      have hlt : pre.length < (pre ++ (f k y).2 :: q).length := by simp
      have hg : (pre ++ (f k y).2 :: q)[pre.length] = (f k y).2 := by simp
      rw [h1 n k pre.length _ hlt y hg hPy h0 (by omega) (w64_succ (by omega))]
      have := ih (pre ++ [(f k y).2]) n (f k y).1 (fun x hx => hy x (by simp [hx])) (by simp; omega) (by omega) (by omega) (by omega)
      rw [hq] at this
      simp only [List.length_append, List.length_singleton, List.append_assoc, List.cons_append, List.nil_append] at this
      exact this
  have := key xs [] n k hx (by simpa using hl) hn h0 hk
  simpa using this

theorem getD_set_i {α : Type} {l : List α} {i : Nat} {x d : α} (h : i < l.length) : (l.set i x).getD i d = x := by
  rw [getD_lt (by simpa using h)]; exact List.getElem_set_self _

theorem ne_step {α : Type} [DecidableEq α] {a b : α} {c : Bool} : (_root_.cond (a != b) (some (false, ())) (some (c, ())) : Option (Bool × Unit)) = some (decide (a = b) && c, ()) := by
  by_cases h : a = b <;> simp [h]
theorem not_step {d c : Bool} : (_root_.cond (!d) (some (false, ())) (some (c, ())) : Option (Bool × Unit)) = some (d && c, ()) := by
  cases d <;> rfl
theorem bool_beq {a b : Bool} : (a == b) = decide (a = b) := by cases a <;> cases b <;> rfl

/-- A row's size. -/
theorem sz_loop {α : Type} {xs : List α} (P : α → Prop) {L : Nat → Nat → Int → Option ((Int × Unit) ⊕ (Int × Unit))} {N : Nat} (hN : lim < N) {left : Int} (hx : (xs.length : Int) ≤ 9223372036854775807) (h0 : 0 ≤ left) (h1' : left ≤ 1048576)
    (h1 : ∀ n i (h : i < xs.length) (left : Int), 0 ≤ left → left ≤ 1048576 → w64 ((i : Int) + 1) = ((i + 1 : Nat) : Int) →
      L (n + 1) i left = some (.inr (-1, ())) ∨ ∃ r, 0 ≤ r ∧ r ≤ left ∧ P xs[i] ∧ L (n + 1) i left = L n (i + 1) r)
    (h3 : ∀ n left, L (n + 1) xs.length left = some (.inl (left, ()))) :
    ∃ r : Int, (_root_.cond (decide (w64 (left - (xs.length : Int)) < 0)) (some ((-1 : Int), ())) ((L N 0 (w64 (left - (xs.length : Int)))).bind fun o => Sum.elim (fun o => some (o.1, ())) (fun o => some (o.1, ())) o) : Option (Int × Unit)) = some (r, ()) ∧
      (r < 0 ∨ (0 ≤ r ∧ r ≤ left ∧ xs.length ≤ 1048576 ∧ ∀ x ∈ xs, P x)) := by
  rw [w64_id (by omega) (by omega)]
  by_cases h : left - (xs.length : Int) < 0
  · exact ⟨-1, by simp [h], by simp⟩
  · simp only [h, decide_false, cond_false]
    have hlim : lim = 2147483648 := rfl
    rcases size_loop (xs := xs) (n := N) P (by omega) h1 h3 (by omega) (left := left - xs.length) (by omega) (by omega) with hL | ⟨r, h2, h3, h4, hL⟩
    · exact ⟨-1, by rw [hL]; rfl, by simp⟩
    · exact ⟨r, by rw [hL]; rfl, .inr ⟨h2, by omega, by omega, h4⟩⟩

abbrev tIntS : Ty := (.sl (.int .i64))
abbrev tBoolS : Ty := (.sl .bool)
abbrev tShape : Ty := (.pair (.int .i64) (.pair (.int .i64) .unit))
abbrev tOp : Ty := (.pair (.int .i64) (.pair (.int .i64) (.pair (.int .i64) (.pair (.int .i64) (.pair (.int .i64) (.pair (.int .i64) (.pair (.pair (.int .i64) (.pair (.int .i64) .unit)) .unit)))))))
abbrev tOpS : Ty := (.sl (.pair (.int .i64) (.pair (.int .i64) (.pair (.int .i64) (.pair (.int .i64) (.pair (.int .i64) (.pair (.int .i64) (.pair (.pair (.int .i64) (.pair (.int .i64) .unit)) .unit))))))))
abbrev tOpSS : Ty := (.sl (.sl (.pair (.int .i64) (.pair (.int .i64) (.pair (.int .i64) (.pair (.int .i64) (.pair (.int .i64) (.pair (.int .i64) (.pair (.pair (.int .i64) (.pair (.int .i64) .unit)) .unit)))))))))
abbrev tEvent : Ty := (.pair (.int .i64) (.pair (.int .i64) (.pair (.int .i64) (.pair (.int .i64) .unit))))
abbrev tEventS : Ty := (.sl (.pair (.int .i64) (.pair (.int .i64) (.pair (.int .i64) (.pair (.int .i64) .unit)))))
abbrev tRegion : Ty := (.pair (.int .i64) (.pair (.int .i64) (.pair (.int .i64) (.pair (.int .i64) (.pair (.int .i64) .unit)))))
abbrev tRegionS : Ty := (.sl (.pair (.int .i64) (.pair (.int .i64) (.pair (.int .i64) (.pair (.int .i64) (.pair (.int .i64) .unit))))))
abbrev tThread : Ty := (.pair (.sl (.int .i64)) (.pair (.int .i64) (.pair .bool (.pair (.int .i64) .unit))))
abbrev tThreadS : Ty := (.sl (.pair (.sl (.int .i64)) (.pair (.int .i64) (.pair .bool (.pair (.int .i64) .unit)))))
abbrev tState : Ty := (.pair (.sl (.int .i64)) (.pair (.sl (.pair (.int .i64) (.pair (.int .i64) (.pair (.int .i64) (.pair (.int .i64) (.pair (.int .i64) .unit)))))) (.pair (.sl .bool) (.pair (.int .i64) (.pair .bool (.pair .bool (.pair .bool (.pair (.int .i64) (.pair (.sl (.pair (.sl (.int .i64)) (.pair (.int .i64) (.pair .bool (.pair (.int .i64) .unit))))) (.pair (.sl (.int .i64)) (.pair (.sl (.int .i64)) (.pair (.int .i64) (.pair (.int .i64) .unit)))))))))))))
abbrev tConfig : Ty := (.pair (.int .i64) (.pair (.int .i64) (.pair (.int .i64) .unit)))
abbrev tCall : Ty := (.pair (.int .i64) (.pair (.int .i64) (.pair (.int .i64) (.pair (.int .i64) (.pair (.int .i64) (.pair (.int .i64) .unit))))))
abbrev tCallS : Ty := (.sl (.pair (.int .i64) (.pair (.int .i64) (.pair (.int .i64) (.pair (.int .i64) (.pair (.int .i64) (.pair (.int .i64) .unit)))))))
abbrev tNode : Ty := (.pair (.sl (.int .i64)) (.pair (.sl (.int .i64)) .unit))
abbrev tNodeS : Ty := (.sl (.pair (.sl (.int .i64)) (.pair (.sl (.int .i64)) .unit)))
abbrev tIntSS : Ty := (.sl (.sl (.int .i64)))
abbrev tGraph : Ty := (.pair (.sl (.pair (.sl (.int .i64)) (.pair (.sl (.int .i64)) .unit))) (.pair (.sl (.sl (.int .i64))) (.pair (.sl (.int .i64)) .unit)))
instance decOp_6 : DecidableEq ((Int × Int × Unit) × Unit) := @instDecidableEqProd _ _ inferInstance inferInstance
instance decOp_5 : DecidableEq (Int × ((Int × Int × Unit) × Unit)) := @instDecidableEqProd _ _ inferInstance decOp_6
instance decOp_4 : DecidableEq (Int × (Int × (Int × Int × Unit) × Unit)) := @instDecidableEqProd _ _ inferInstance decOp_5
instance decOp_3 : DecidableEq (Int × (Int × Int × (Int × Int × Unit) × Unit)) := @instDecidableEqProd _ _ inferInstance decOp_4
instance decOp_2 : DecidableEq (Int × (Int × Int × Int × (Int × Int × Unit) × Unit)) := @instDecidableEqProd _ _ inferInstance decOp_3
instance decOp_1 : DecidableEq (Int × (Int × Int × Int × Int × (Int × Int × Unit) × Unit)) := @instDecidableEqProd _ _ inferInstance decOp_2
instance decOp_0 : DecidableEq (Int × (Int × Int × Int × Int × Int × (Int × Int × Unit) × Unit)) := @instDecidableEqProd _ _ inferInstance decOp_1
instance decRegion_4 : DecidableEq (Int × Unit) := @instDecidableEqProd _ _ inferInstance inferInstance
instance decRegion_3 : DecidableEq (Int × (Int × Unit)) := @instDecidableEqProd _ _ inferInstance decRegion_4
instance decRegion_2 : DecidableEq (Int × (Int × Int × Unit)) := @instDecidableEqProd _ _ inferInstance decRegion_3
instance decRegion_1 : DecidableEq (Int × (Int × Int × Int × Unit)) := @instDecidableEqProd _ _ inferInstance decRegion_2
instance decRegion_0 : DecidableEq (Int × (Int × Int × Int × Int × Unit)) := @instDecidableEqProd _ _ inferInstance decRegion_1
instance decState_12 : DecidableEq (Int × Unit) := @instDecidableEqProd _ _ inferInstance inferInstance
instance decState_11 : DecidableEq (Int × (Int × Unit)) := @instDecidableEqProd _ _ inferInstance decState_12
instance decState_10 : DecidableEq ((List Int) × (Int × Int × Unit)) := @instDecidableEqProd _ _ inferInstance decState_11
instance decState_9 : DecidableEq ((List Int) × ((List Int) × Int × Int × Unit)) := @instDecidableEqProd _ _ inferInstance decState_10
instance decState_8 : DecidableEq ((List ((List Int) × Int × Bool × Int × Unit)) × ((List Int) × (List Int) × Int × Int × Unit)) := @instDecidableEqProd _ _ inferInstance decState_9
instance decState_7 : DecidableEq (Int × ((List ((List Int) × Int × Bool × Int × Unit)) × (List Int) × (List Int) × Int × Int × Unit)) := @instDecidableEqProd _ _ inferInstance decState_8
instance decState_6 : DecidableEq (Bool × (Int × (List ((List Int) × Int × Bool × Int × Unit)) × (List Int) × (List Int) × Int × Int × Unit)) := @instDecidableEqProd _ _ inferInstance decState_7
instance decState_5 : DecidableEq (Bool × (Bool × Int × (List ((List Int) × Int × Bool × Int × Unit)) × (List Int) × (List Int) × Int × Int × Unit)) := @instDecidableEqProd _ _ inferInstance decState_6
instance decState_4 : DecidableEq (Bool × (Bool × Bool × Int × (List ((List Int) × Int × Bool × Int × Unit)) × (List Int) × (List Int) × Int × Int × Unit)) := @instDecidableEqProd _ _ inferInstance decState_5
instance decState_3 : DecidableEq (Int × (Bool × Bool × Bool × Int × (List ((List Int) × Int × Bool × Int × Unit)) × (List Int) × (List Int) × Int × Int × Unit)) := @instDecidableEqProd _ _ inferInstance decState_4
instance decState_2 : DecidableEq ((List Bool) × (Int × Bool × Bool × Bool × Int × (List ((List Int) × Int × Bool × Int × Unit)) × (List Int) × (List Int) × Int × Int × Unit)) := @instDecidableEqProd _ _ inferInstance decState_3
instance decState_1 : DecidableEq ((List (Int × Int × Int × Int × Int × Unit)) × ((List Bool) × Int × Bool × Bool × Bool × Int × (List ((List Int) × Int × Bool × Int × Unit)) × (List Int) × (List Int) × Int × Int × Unit)) := @instDecidableEqProd _ _ inferInstance decState_2
instance decState_0 : DecidableEq ((List Int) × ((List (Int × Int × Int × Int × Int × Unit)) × (List Bool) × Int × Bool × Bool × Bool × Int × (List ((List Int) × Int × Bool × Int × Unit)) × (List Int) × (List Int) × Int × Int × Unit)) := @instDecidableEqProd _ _ inferInstance decState_1
instance decCall_5 : DecidableEq (Int × Unit) := @instDecidableEqProd _ _ inferInstance inferInstance
instance decCall_4 : DecidableEq (Int × (Int × Unit)) := @instDecidableEqProd _ _ inferInstance decCall_5
instance decCall_3 : DecidableEq (Int × (Int × Int × Unit)) := @instDecidableEqProd _ _ inferInstance decCall_4
instance decCall_2 : DecidableEq (Int × (Int × Int × Int × Unit)) := @instDecidableEqProd _ _ inferInstance decCall_3
instance decCall_1 : DecidableEq (Int × (Int × Int × Int × Int × Unit)) := @instDecidableEqProd _ _ inferInstance decCall_2
instance decCall_0 : DecidableEq (Int × (Int × Int × Int × Int × Int × Unit)) := @instDecidableEqProd _ _ inferInstance decCall_1

section
variable {N : Nat} (hN : lim < N)
include hN

theorem wszOpS_ok {xs : (List (Int × Int × Int × Int × Int × Int × (Int × Int × Unit) × Unit))} {left : Int} (hx : Wf tOpS xs) (h0 : 0 ≤ left) (h1 : left ≤ 1048576) : ∃ r, FvszOpS N (xs, left, ()) = some (r, ()) ∧ (r < 0 ∨ (0 ≤ r ∧ r ≤ left ∧ lnT tOpS xs)) := by
  have hx1 := hx.1
  simp only [maxLen] at hx1
  simp only [FvszOpS]
  rw [w64_id (by omega) (by omega)]
  by_cases h : left - (xs.length : Int) < 0
  · simp [h]
  · refine ⟨left - (xs.length : Int), by simp [h], .inr ⟨by omega, by omega, by omega, fun x _ => ?_⟩⟩
    simp [lnT]
end

section
variable {N : Nat} (hN : lim < N)
include hN

theorem wtoShape_ok {x : (Int × Int × Unit)} (hx : lnT tShape x) : FvtoShape N (x, ()) = some (x.1, x.2.1, ()) := by
  simp [FvtoShape]
end

section
variable {N : Nat} (hN : lim < N)
include hN

theorem wtoOp_ok {x : (Int × Int × Int × Int × Int × Int × (Int × Int × Unit) × Unit)} (hx : lnT tOp x) : FvtoOp N (x, ()) = some (x.1, x.2.1, x.2.2.1, x.2.2.2.1, x.2.2.2.2.1, x.2.2.2.2.2.1, x.2.2.2.2.2.2.1.1, x.2.2.2.2.2.2.1.2.1, ()) := by
  simp [FvtoOp, wtoShape_ok hN hx.2.2.2.2.2.2.1]
end

section
variable {N : Nat} (hN : lim < N)
include hN

theorem wtoOpS_ok {xs : (List (Int × Int × Int × Int × Int × Int × (Int × Int × Unit) × Unit))} (hx : lnT tOpS xs) : FvtoOpS N (xs, ()) = some (xs, ()) := by
  have hlim : lim = 2147483648 := rfl
  have hl : xs.length ≤ lim := by have := hx.1; omega
  have hL := fill_loop (xs := xs) (n := N) id (L := fun n i s => lvtoOpS_0 N n (xs, (i : Int), s, ())) (fin := fun s => (s, ())) hl
    (fun n i s h hw hs => by
      have hs' : i < s.length := by omega
      simp [lvtoOpS_0, h, hs', hw, wtoOp_ok hN (hx.2 xs[i] (List.getElem_mem h))])
    (fun n s hs => by simp [lvtoOpS_0]) (by omega) (s := List.replicate xs.length ((0 : Int), (0 : Int), (0 : Int), (0 : Int), (0 : Int), (0 : Int), ((0 : Int), (0 : Int), ()), ())) (by simp)
  simp only [Int.natCast_zero] at hL
  simp [FvtoOpS, hL, hl]
end

section
variable {N : Nat} (hN : lim < N)
include hN

theorem weqShape_ok {x y : (Int × Int × Unit)} (hx : lnT tShape x) : FveqShape N (x, y, ()) = some (decide (x = y), ()) := by
  obtain ⟨xa, xb, ⟨⟩⟩ := x
  obtain ⟨ya, yb, ⟨⟩⟩ := y
  simp only [FveqShape, Option.bind_some, ne_step, not_step, bool_beq]
  simp only [Prod.mk.injEq, Bool.decide_and, and_true, Bool.and_true, decide_true]
end

section
variable {N : Nat} (hN : lim < N)
include hN

theorem weqOp_ok {x y : (Int × Int × Int × Int × Int × Int × (Int × Int × Unit) × Unit)} (hx : lnT tOp x) : FveqOp N (x, y, ()) = some (decide (x = y), ()) := by
  obtain ⟨xa, xb, xc, xd, xe, xf, ⟨xga, xgb, ⟨⟩⟩, ⟨⟩⟩ := x
  obtain ⟨ya, yb, yc, yd, ye, yf, ⟨yga, ygb, ⟨⟩⟩, ⟨⟩⟩ := y
  simp only [FveqOp, Option.bind_some, weqShape_ok hN hx.2.2.2.2.2.2.1, ne_step, not_step, bool_beq]
  simp only [Prod.mk.injEq, Bool.decide_and, and_true, Bool.and_true, decide_true]
end

section
variable {N : Nat} (hN : lim < N)
include hN

theorem weqOpS_ok {xs ys : (List (Int × Int × Int × Int × Int × Int × (Int × Int × Unit) × Unit))} (hx : lnT tOpS xs) : FveqOpS N (xs, ys, ()) = some (decide (xs = ys), ()) := by
  have hlim : lim = 2147483648 := rfl
  have hl : xs.length ≤ lim := by have := hx.1; omega
  by_cases hlen : xs.length = ys.length
  · have hL := eq_loop (xs := xs) (ys := ys) (n := N) (L := fun n i => lveqOpS_0 N n (xs, ys, (i : Int), ())) (yes := .inl ()) (no := .inr (false, ())) hl hlen
      (fun n i h1 h2 hw hq => by
        have e := weqOp_ok hN (y := ys[i]) (hx.2 _ (List.getElem_mem h1))
        rw [decide_eq_true hq] at e
        simp [lveqOpS_0, h1, h2, hw, e])
      (fun n i h1 h2 hq => by simp [lveqOpS_0, h1, h2, hq, weqOp_ok hN (y := ys[i]) (hx.2 _ (List.getElem_mem h1))])
      (fun n => by simp [lveqOpS_0, hlen]) (by omega)
    simp only [Int.natCast_zero] at hL
    rcases Decidable.em (xs = ys) with rfl | h
    · simp [FveqOpS, hL]
    · simp [FveqOpS, hL, h, hlen]
  · have h : xs ≠ ys := fun h => hlen (by rw [h])
    have h2 : (xs.length : Int) ≠ ys.length := by omega
    simp [FveqOpS, h, h2]
end

section
variable {N : Nat} (hN : lim < N)
include hN
theorem FnExactProgText_ok {os : List OpD} (hw : Wf tOpS os) : FvFnExactProgText N (os, ()) = some (true, ()) := by
  obtain ⟨r1, e1, h⟩ := wszOpS_ok hN hw (left := 1048576) (by omega) (by omega)
  rcases h with h | ⟨h0, _, hl⟩
  · simp only [FvFnExactProgText, e1, Option.bind_some, h, decide_true, cond_true]
  · have g : ¬ r1 < 0 := by omega
    have h2 := wtoOpS_ok hN hl
    have h3 := weqOpS_ok hN (xs := os) (ys := os) hl
    simp only [FvFnExactProgText, e1, Option.bind_some, g, decide_false, cond_false, h2, sProgText_ok hN, hProgText_ok, beq_self_eq_true, Bool.not_true, h3, decide_true]
end
end Go.Fl

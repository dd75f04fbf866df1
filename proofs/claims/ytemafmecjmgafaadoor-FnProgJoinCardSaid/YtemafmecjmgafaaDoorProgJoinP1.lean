/- Proved: for every input the law FnProgJoin returns true and leaves its arguments as they were. Part 1: the functions that the law reaches, as plain functions, and plain laws about them; no conditions. -/
import Derived.Test.YtemafmecjmgafaaDoorK3
import Derived.Test.YtemafmecjmgafaaDoorK4
import Derived.Test.YtemafmecjmgafaaDoorProg
import Derived.Lib.AtoiAll
import Derived.Lib.ItoaNum
import Derived.Lib.SplitLaws
import Derived.Lib.Join
set_option linter.all false
-- FUNCS sl1Open_o_ sl1Rd_pick sl20Shape sl20Op sl20Prog sDrawProgText hProgText sShapeOk sOpOk sl11Word sl11Nums sl9Dec sOpText sProgText vFnProgJoin
set_option maxRecDepth 100000
set_option linter.all false
namespace Go.Fl
open Go Go.Proofs
noncomputable def TE : List (Nat × Ty) := [(3, (.int .i64)),
  (5, (.int .u8)),
  (9, .str),
  (25, (.sl (.pair (.int .i64) (.pair (.int .i64) (.pair (.int .i64) (.pair (.int .i64) (.pair (.int .i64) (.pair (.int .i64) (.pair (.pair (.int .i64) (.pair (.int .i64) .unit)) .unit))))))))),
  (29, (.sl (.int .u8))),
  (33, (.pair (.int .i64) (.pair (.int .i64) .unit))),
  (35, (.pair (.int .i64) (.pair (.int .i64) (.pair (.int .i64) (.pair (.int .i64) (.pair (.int .i64) (.pair (.int .i64) (.pair (.pair (.int .i64) (.pair (.int .i64) .unit)) .unit)))))))),
  (43, (.sl (.int .i64))),
  (64, (.hnd false)),
  (68, (.sl .str)),
  (100, (.pair (.sl (.int .u8)) (.pair (.int .i64) .unit)))]
theorem TE_ok : TyOk Tryd.prog TE := tysB_spec (by kernel_rfl)
theorem mixed : Tryd.prog.follows .mixedOrders = true := by kernel_rfl

/-! ### 35: spec.l1Open -/

noncomputable def dinsl1Open_o_ : Desc := { n := 1, regs := [.one (.val (.sl (.int .u8)))], bx := [], pins := [] }
noncomputable def outsl1Open_o_ : Outs := [(.ret, { n := 1, regs := [.one (.lit (.ptr 1038528 0))], bx := [(1038528, .var [.val (.sl (.int .u8)), .val (.int .i64)])], pins := [] })]
noncomputable def Hsl1Open_o_ : Hints := []
noncomputable def Esl1Open_o_ (_N : Nat) : Env := { te := TE, cs := [] }
noncomputable def Fsl1Open_o_ (N : Nat) (x : ((List Int) × Unit)) : Option ((List Int) × (Int × Unit)) :=
  let y1 := decide ((x.1.length : Int) > (2000 : Int))
  bif y1 then
   bif decide (0 ≤ (2000 : Int)) then
   bif decide ((2000 : Int) ≤ (x.1.length : Int)) then
   bif decide (0 ≤ (0 : Int)) then
   bif decide ((0 : Int) ≤ (2000 : Int)) then
   let y2 := (x.1.drop (0 : Int).toNat).take ((2000 : Int).toNat - (0 : Int).toNat)
   some (y2, (0 : Int), ())
   else none
   else none
   else none
   else none
  else
  some (x.1, (0 : Int), ())
noncomputable def consl1Open_o_ (N : Nat) : Con := { f := 35, din := dinsl1Open_o_, outs := outsl1Open_o_, F := Fsl1Open_o_ N }
noncomputable def Xsl1Open_o_ (N : Nat) : Ctx := { E := Esl1Open_o_ N, H := Hsl1Open_o_, lp := [], jn := [] }
theorem Fsl1Open_o__eq (N : Nat) (x : ((List Int) × Unit)) : evFn (Xsl1Open_o_ N) Tryd.f35 dinsl1Open_o_ outsl1Open_o_ x = Fsl1Open_o_ N x := by kernel_rfl
theorem cxsl1Open_o_ (N : Nat) : CtxOk Tryd.prog (Xsl1Open_o_ N) := ⟨⟨TE_ok, fun k hk => absurd hk List.not_mem_nil⟩, mixed⟩
theorem specsl1Open_o_ (N : Nat) : Spec Tryd.prog (consl1Open_o_ N) :=
  Spec.of_eq (fn_spec (cxsl1Open_o_ N) (f := 35) (fn := Tryd.f35) (c := codeOf Tryd.f35) (by kernel_rfl) (by kernel_rfl) (by kernel_rfl) (loops_at (ids := []) (by kernel_rfl) (trivial)) (by kernel_rfl)) (fun x r h => (Fsl1Open_o__eq N x).trans h)

/-! ### 36: spec.l1Rd).pick -/

noncomputable def dinsl1Rd_pick : Desc := { n := 2, regs := [.one (.lit (.ptr 0 0)), .one (.val (.int .i64))], bx := [(0, .var [.val (.sl (.int .u8)), .val (.int .i64)])], pins := [] }
noncomputable def outsl1Rd_pick : Outs := [(.ret, { n := 1, regs := [.one (.val (.int .i64))], bx := [(0, .var [.val (.sl (.int .u8)), .val (.int .i64)])], pins := [.one (.lit (.ptr 0 0))] })]
noncomputable def Hsl1Rd_pick : Hints := []
noncomputable def Esl1Rd_pick (_N : Nat) : Env := { te := TE, cs := [] }
noncomputable def jsl1Rd_pick_4 : Outs := [(.normal, { n := 99, regs := [.one (.lit (.ptr 0 0)), .one (.val (.int .i64))], bx := [(0, .var [.val (.sl (.int .u8)), .val (.int .i64)])], pins := [.one (.lit (.ptr 0 0))] }), (.ret, { n := 99, regs := [u, u, u, u, .one (.val (.int .i64))], bx := [(0, .var [.val (.sl (.int .u8)), .val (.int .i64)])], pins := [.one (.lit (.ptr 0 0))] })]
noncomputable def Fsl1Rd_pick (N : Nat) (x : (Int × ((List Int) × (Int × Unit)))) : Option (Int × ((List Int) × (Int × Unit))) :=
  Option.bind (
   bif decide (x.1 < (1 : Int)) then
    some (.inr (((0 : Int), x.2.1, w64 (x.2.2.1 + (1 : Int)), ())))
   else
   bif (x.2.1.length : Int) == (0 : Int) then
    some (.inr (((0 : Int), x.2.1, w64 (x.2.2.1 + (1 : Int)), ())))
   else
   some (.inl (x.1, x.2.1, w64 (x.2.2.1 + (1 : Int)), ()))) fun o1 =>
  Sum.elim (fun o2 =>
   let y3 := decide ((w64 (o2.2.2.1 - (1 : Int))) < (o2.2.1.length : Int))
   bif y3 then
    bif decide (0 ≤ (w64 (o2.2.2.1 - (1 : Int)))) then
    bif decide ((w64 (o2.2.2.1 - (1 : Int))).toNat < o2.2.1.length) then
    let y4 := o2.2.1.getD ((w64 (o2.2.2.1 - (1 : Int))).toNat) (0 : Int)
    bif decide (o2.1 = 0) then
     none
    else
    some (Int.tmod (w64 (y4)) o2.1, o2.2.1, o2.2.2.1, ())
    else none
    else none
   else
   bif decide ((o2.2.1.length : Int) = 0) then
    none
   else
   let y5 := Int.tmod (w64 (o2.2.2.1 - (1 : Int))) (o2.2.1.length : Int)
   bif decide (0 ≤ y5) then
   bif decide (y5.toNat < o2.2.1.length) then
   let y6 := w64 ((w64 (o2.2.1.getD y5.toNat (0 : Int))) * (131 : Int))
   let y7 := w64 ((w64 (o2.2.2.1 - (1 : Int))) * (7 : Int))
   bif decide ((o2.2.1.length : Int) = 0) then
    none
   else
   let y8 := Int.tmod (w64 (y7 + (3 : Int))) (o2.2.1.length : Int)
   bif decide (0 ≤ y8) then
   bif decide (y8.toNat < o2.2.1.length) then
   let y9 := w64 ((w64 (o2.2.1.getD y8.toNat (0 : Int))) * (1117 : Int))
   let y10 := w64 ((w64 (o2.2.2.1 - (1 : Int))) * (29 : Int))
   bif decide ((o2.2.1.length : Int) = 0) then
    none
   else
   let y11 := w64 (Int.tdiv (w64 (o2.2.2.1 - (1 : Int))) (o2.2.1.length : Int))
   let y12 := w64 ((w64 ((w64 (y6 + y9)) + y10)) + (w64 (y11 * (53 : Int))))
   bif decide ((64 : Int) = 0) then
    none
   else
   let y13 := w64 (((bitsOf .i64 y12 ^^^ bitsOf .i64 (w64 (Int.tdiv y12 (64 : Int)))).toNat : Int))
   bif decide (o2.1 = 0) then
    none
   else
   some (Int.tmod y13 o2.1, o2.2.1, o2.2.2.1, ())
   else none
   else none
   else none
   else none) (fun o14 =>
   some (o14.1, o14.2.1, o14.2.2.1, ())) o1
noncomputable def consl1Rd_pick (N : Nat) : Con := { f := 36, din := dinsl1Rd_pick, outs := outsl1Rd_pick, F := Fsl1Rd_pick N }
noncomputable def Xsl1Rd_pick (N : Nat) : Ctx := { E := Esl1Rd_pick N, H := Hsl1Rd_pick, lp := [], jn := [(4, jsl1Rd_pick_4)] }
theorem Fsl1Rd_pick_eq (N : Nat) (x : (Int × ((List Int) × (Int × Unit)))) : evFn (Xsl1Rd_pick N) Tryd.f36 dinsl1Rd_pick outsl1Rd_pick x = Fsl1Rd_pick N x := by kernel_rfl
theorem cxsl1Rd_pick (N : Nat) : CtxOk Tryd.prog (Xsl1Rd_pick N) := ⟨⟨TE_ok, fun k hk => absurd hk List.not_mem_nil⟩, mixed⟩
theorem specsl1Rd_pick (N : Nat) : Spec Tryd.prog (consl1Rd_pick N) :=
  Spec.of_eq (fn_spec (cxsl1Rd_pick N) (f := 36) (fn := Tryd.f36) (c := codeOf Tryd.f36) (by kernel_rfl) (by kernel_rfl) (by kernel_rfl) (loops_at (ids := []) (by kernel_rfl) (trivial)) (by kernel_rfl)) (fun x r h => (Fsl1Rd_pick_eq N x).trans h)

/-! ### 64: spec.l20Shape -/

noncomputable def dinsl20Shape : Desc := { n := 1, regs := [.one (.lit (.ptr 0 0))], bx := [(0, .var [.val (.sl (.int .u8)), .val (.int .i64)])], pins := [] }
noncomputable def outsl20Shape : Outs := [(.ret, { n := 1, regs := [.agg [.val (.int .i64), .val (.int .i64)]], bx := [(0, .var [.val (.sl (.int .u8)), .val (.int .i64)])], pins := [.one (.lit (.ptr 0 0))] })]
noncomputable def Hsl20Shape : Hints := []
noncomputable def Esl20Shape (N : Nat) : Env := { te := TE, cs := [consl1Rd_pick N] }
noncomputable def Fsl20Shape (N : Nat) (x : ((List Int) × (Int × Unit))) : Option (Int × (Int × ((List Int) × (Int × Unit)))) :=
  (Fsl1Rd_pick N ((20 : Int), x.1, x.2.1, ())).bind fun r1 =>
  bif r1.1 == (0 : Int) then
   let y2 := [(4 : Int), (5 : Int), (-1 : Int), (0 : Int)]
   (Fsl1Rd_pick N ((4 : Int), r1.2.1, r1.2.2.1, ())).bind fun r3 =>
   bif decide (0 ≤ r3.1) then
   bif decide (r3.1.toNat < y2.length) then
   let y4 := [(4 : Int), (5 : Int), (-1 : Int), (0 : Int)]
   (Fsl1Rd_pick N ((4 : Int), r3.2.1, r3.2.2.1, ())).bind fun r5 =>
   bif decide (0 ≤ r5.1) then
   bif decide (r5.1.toNat < y4.length) then
   some (y2.getD r3.1.toNat (0 : Int), y4.getD r5.1.toNat (0 : Int), r5.2.1, r5.2.2.1, ())
   else none
   else none
   else none
   else none
  else
  (Fsl1Rd_pick N ((4 : Int), r1.2.1, r1.2.2.1, ())).bind fun r6 =>
  (Fsl1Rd_pick N ((3 : Int), r6.2.1, r6.2.2.1, ())).bind fun r7 =>
  some (r6.1, r7.1, r7.2.1, r7.2.2.1, ())
noncomputable def consl20Shape (N : Nat) : Con := { f := 64, din := dinsl20Shape, outs := outsl20Shape, F := Fsl20Shape N }
noncomputable def Xsl20Shape (N : Nat) : Ctx := { E := Esl20Shape N, H := Hsl20Shape, lp := [], jn := [] }
theorem Fsl20Shape_eq (N : Nat) (x : ((List Int) × (Int × Unit))) : evFn (Xsl20Shape N) Tryd.f64 dinsl20Shape outsl20Shape x = Fsl20Shape N x := by kernel_rfl
theorem cxsl20Shape (N : Nat) : CtxOk Tryd.prog (Xsl20Shape N) := ⟨⟨TE_ok, List.forall_mem_cons.2 ⟨(specsl1Rd_pick N), fun k hk => absurd hk List.not_mem_nil⟩⟩, mixed⟩
theorem specsl20Shape (N : Nat) : Spec Tryd.prog (consl20Shape N) :=
  Spec.of_eq (fn_spec (cxsl20Shape N) (f := 64) (fn := Tryd.f64) (c := codeOf Tryd.f64) (by kernel_rfl) (by kernel_rfl) (by kernel_rfl) (loops_at (ids := []) (by kernel_rfl) (trivial)) (by kernel_rfl)) (fun x r h => (Fsl20Shape_eq N x).trans h)

/-! ### 63: spec.l20Op -/

noncomputable def dinsl20Op : Desc := { n := 2, regs := [.one (.lit (.ptr 0 0)), .one (.val (.int .i64))], bx := [(0, .var [.val (.sl (.int .u8)), .val (.int .i64)])], pins := [] }
noncomputable def outsl20Op : Outs := [(.ret, { n := 1, regs := [.agg [.val (.int .i64), .val (.int .i64), .val (.int .i64), .val (.int .i64), .val (.int .i64), .val (.int .i64), .val (.int .i64), .val (.int .i64)]], bx := [(0, .var [.val (.sl (.int .u8)), .val (.int .i64)])], pins := [.one (.lit (.ptr 0 0))] })]
noncomputable def Hsl20Op : Hints := [(10, [(1, { con := 1 })])]
noncomputable def Esl20Op (N : Nat) : Env := { te := TE, cs := [consl1Rd_pick N, consl20Shape N] }
noncomputable def jsl20Op_6 : Outs := [(.normal, { n := 124, regs := [.one (.lit (.ptr 0 0)), u, u, u, .one (.lit (.ptr 1000000 0)), .one (.lit (.ptr 1013952 0))], bx := [(0, .var [.val (.sl (.int .u8)), .val (.int .i64)]), (1000000, .var [.val (.int .i64), .val (.int .i64), .val (.int .i64), .val (.int .i64), .val (.int .i64), .val (.int .i64), .val (.int .i64), .val (.int .i64)]), (1013952, .var [.val (.int .i64), .val (.int .i64), .val (.int .i64), .val (.int .i64), .val (.int .i64), .val (.int .i64), .val (.int .i64), .val (.int .i64)])], pins := [.one (.lit (.ptr 0 0))] })]
noncomputable def jsl20Op_27 : Outs := [(.normal, { n := 124, regs := [.one (.lit (.ptr 0 0)), u, u, u, .one (.lit (.ptr 1000000 0)), .one (.lit (.ptr 1013952 0))], bx := [(0, .var [.val (.sl (.int .u8)), .val (.int .i64)]), (1000000, .var [.val (.int .i64), .val (.int .i64), .val (.int .i64), .val (.int .i64), .val (.int .i64), .val (.int .i64), .val (.int .i64), .val (.int .i64)]), (1013952, .var [.val (.int .i64), .val (.int .i64), .val (.int .i64), .val (.int .i64), .val (.int .i64), .val (.int .i64), .val (.int .i64), .val (.int .i64)])], pins := [.one (.lit (.ptr 0 0))] })]
noncomputable def jsl20Op_29 : Outs := [(.normal, { n := 124, regs := [.one (.lit (.ptr 0 0)), u, u, u, .one (.lit (.ptr 1000000 0)), .one (.lit (.ptr 1013952 0))], bx := [(0, .var [.val (.sl (.int .u8)), .val (.int .i64)]), (1000000, .var [.val (.int .i64), .val (.int .i64), .val (.int .i64), .val (.int .i64), .val (.int .i64), .val (.int .i64), .val (.int .i64), .val (.int .i64)]), (1013952, .var [.val (.int .i64), .val (.int .i64), .val (.int .i64), .val (.int .i64), .val (.int .i64), .val (.int .i64), .val (.int .i64), .val (.int .i64)])], pins := [.one (.lit (.ptr 0 0))] })]
noncomputable def Fsl20Op (N : Nat) (x : (Int × ((List Int) × (Int × Unit)))) : Option (Int × (Int × (Int × (Int × (Int × (Int × (Int × (Int × ((List Int) × (Int × Unit)))))))))) :=
  (Fsl1Rd_pick N (w64 (x.1 + (1 : Int)), x.2.1, x.2.2.1, ())).bind fun r1 =>
  (Fsl1Rd_pick N (w64 (x.1 + (1 : Int)), r1.2.1, r1.2.2.1, ())).bind fun r2 =>
  (Fsl1Rd_pick N (w64 (x.1 + (1 : Int)), r2.2.1, r2.2.2.1, ())).bind fun r3 =>
  (Fsl1Rd_pick N ((4 : Int), r3.2.1, r3.2.2.1, ())).bind fun r4 =>
  (Fsl1Rd_pick N ((19 : Int), r4.2.1, r4.2.2.1, ())).bind fun r5 =>
  Option.bind (
   (Fsl1Rd_pick N ((12 : Int), r5.2.1, r5.2.2.1, ())).bind fun r6 =>
   bif decide (r6.1 > (0 : Int)) then
    bif decide (x.1 > (0 : Int)) then
     (Fsl1Rd_pick N (x.1, r6.2.1, r6.2.2.1, ())).bind fun r7 =>
     (Fsl1Rd_pick N (x.1, r7.2.1, r7.2.2.1, ())).bind fun r8 =>
     (Fsl1Rd_pick N (x.1, r8.2.1, r8.2.2.1, ())).bind fun r9 =>
     some (r9.2.1, r9.2.2.1, (0 : Int), (0 : Int), (0 : Int), (0 : Int), (0 : Int), (0 : Int), (0 : Int), (0 : Int), (0 : Int), r7.1, r8.1, r9.1, r4.1, w64 (r5.1 - (6 : Int)), (0 : Int), (0 : Int), ())
    else
    some (r6.2.1, r6.2.2.1, (0 : Int), (0 : Int), (0 : Int), (0 : Int), (0 : Int), (0 : Int), (0 : Int), (0 : Int), (0 : Int), r1.1, r2.1, r3.1, r4.1, w64 (r5.1 - (6 : Int)), (0 : Int), (0 : Int), ())
   else
   some (r6.2.1, r6.2.2.1, (0 : Int), (0 : Int), (0 : Int), (0 : Int), (0 : Int), (0 : Int), (0 : Int), (0 : Int), (0 : Int), r1.1, r2.1, r3.1, r4.1, w64 (r5.1 - (6 : Int)), (0 : Int), (0 : Int), ())) fun o10 =>
  (Fsl1Rd_pick N ((24 : Int), o10.1, o10.2.1, ())).bind fun r11 =>
  Option.bind (
   bif decide (r11.1 < (6 : Int)) then
    let y12 := o10.2.2.2.2.2.2.2.2.2.2.2.2.2.2.2.2.1
    let y13 := o10.2.2.2.2.2.2.2.2.2.2.2.2.2.2.2.2.2.1
    (Fsl20Shape N (r11.2.1, r11.2.2.1, ())).bind fun r14 =>
    some (r14.2.2.1, r14.2.2.2.1, o10.2.2.1, o10.2.2.2.1, o10.2.2.2.2.1, o10.2.2.2.2.2.1, o10.2.2.2.2.2.2.1, o10.2.2.2.2.2.2.2.1, o10.2.2.2.2.2.2.2.2.1, o10.2.2.2.2.2.2.2.2.2.1, (1 : Int), o10.2.2.2.2.2.2.2.2.2.2.2.1, o10.2.2.2.2.2.2.2.2.2.2.2.2.1, o10.2.2.2.2.2.2.2.2.2.2.2.2.2.1, o10.2.2.2.2.2.2.2.2.2.2.2.2.2.2.1, o10.2.2.2.2.2.2.2.2.2.2.2.2.2.2.2.1, r14.1, r14.2.1, ())
   else
   bif decide (r11.1 < (9 : Int)) then
    let y15 := o10.2.2.2.2.2.2.2.2.2.2.2.2.2.2.2.2.1
    let y16 := o10.2.2.2.2.2.2.2.2.2.2.2.2.2.2.2.2.2.1
    some (r11.2.1, r11.2.2.1, o10.2.2.1, o10.2.2.2.1, o10.2.2.2.2.1, o10.2.2.2.2.2.1, o10.2.2.2.2.2.2.1, o10.2.2.2.2.2.2.2.1, o10.2.2.2.2.2.2.2.2.1, o10.2.2.2.2.2.2.2.2.2.1, (2 : Int), o10.2.2.2.2.2.2.2.2.2.2.2.1, o10.2.2.2.2.2.2.2.2.2.2.2.2.1, o10.2.2.2.2.2.2.2.2.2.2.2.2.2.1, o10.2.2.2.2.2.2.2.2.2.2.2.2.2.2.1, o10.2.2.2.2.2.2.2.2.2.2.2.2.2.2.2.1, y15, y16, ())
   else
   bif decide (r11.1 < (14 : Int)) then
    let y17 := o10.2.2.2.2.2.2.2.2.2.2.2.2.2.2.2.2.1
    let y18 := o10.2.2.2.2.2.2.2.2.2.2.2.2.2.2.2.2.2.1
    some (r11.2.1, r11.2.2.1, o10.2.2.1, o10.2.2.2.1, o10.2.2.2.2.1, o10.2.2.2.2.2.1, o10.2.2.2.2.2.2.1, o10.2.2.2.2.2.2.2.1, o10.2.2.2.2.2.2.2.2.1, o10.2.2.2.2.2.2.2.2.2.1, (3 : Int), o10.2.2.2.2.2.2.2.2.2.2.2.1, o10.2.2.2.2.2.2.2.2.2.2.2.2.1, o10.2.2.2.2.2.2.2.2.2.2.2.2.2.1, o10.2.2.2.2.2.2.2.2.2.2.2.2.2.2.1, o10.2.2.2.2.2.2.2.2.2.2.2.2.2.2.2.1, y17, y18, ())
   else
   bif r11.1 == (14 : Int) then
    let y19 := o10.2.2.2.2.2.2.2.2.2.2.2.2.2.2.2.2.1
    let y20 := o10.2.2.2.2.2.2.2.2.2.2.2.2.2.2.2.2.2.1
    (Fsl1Rd_pick N ((3 : Int), r11.2.1, r11.2.2.1, ())).bind fun r21 =>
    some (r21.2.1, r21.2.2.1, o10.2.2.1, o10.2.2.2.1, o10.2.2.2.2.1, o10.2.2.2.2.2.1, o10.2.2.2.2.2.2.1, o10.2.2.2.2.2.2.2.1, o10.2.2.2.2.2.2.2.2.1, o10.2.2.2.2.2.2.2.2.2.1, (4 : Int), o10.2.2.2.2.2.2.2.2.2.2.2.1, o10.2.2.2.2.2.2.2.2.2.2.2.2.1, o10.2.2.2.2.2.2.2.2.2.2.2.2.2.1, r21.1, o10.2.2.2.2.2.2.2.2.2.2.2.2.2.2.2.1, y19, y20, ())
   else
   bif r11.1 == (15 : Int) then
    let y22 := o10.2.2.2.2.2.2.2.2.2.2.2.2.2.2.2.2.1
    let y23 := o10.2.2.2.2.2.2.2.2.2.2.2.2.2.2.2.2.2.1
    (Fsl1Rd_pick N ((3 : Int), r11.2.1, r11.2.2.1, ())).bind fun r24 =>
    some (r24.2.1, r24.2.2.1, o10.2.2.1, o10.2.2.2.1, o10.2.2.2.2.1, o10.2.2.2.2.2.1, o10.2.2.2.2.2.2.1, o10.2.2.2.2.2.2.2.1, o10.2.2.2.2.2.2.2.2.1, o10.2.2.2.2.2.2.2.2.2.1, (5 : Int), o10.2.2.2.2.2.2.2.2.2.2.2.1, o10.2.2.2.2.2.2.2.2.2.2.2.2.1, o10.2.2.2.2.2.2.2.2.2.2.2.2.2.1, r24.1, o10.2.2.2.2.2.2.2.2.2.2.2.2.2.2.2.1, y22, y23, ())
   else
   bif r11.1 == (16 : Int) then
    let y25 := o10.2.2.2.2.2.2.2.2.2.2.2.2.2.2.2.2.1
    let y26 := o10.2.2.2.2.2.2.2.2.2.2.2.2.2.2.2.2.2.1
    some (r11.2.1, r11.2.2.1, o10.2.2.1, o10.2.2.2.1, o10.2.2.2.2.1, o10.2.2.2.2.2.1, o10.2.2.2.2.2.2.1, o10.2.2.2.2.2.2.2.1, o10.2.2.2.2.2.2.2.2.1, o10.2.2.2.2.2.2.2.2.2.1, (6 : Int), o10.2.2.2.2.2.2.2.2.2.2.2.1, o10.2.2.2.2.2.2.2.2.2.2.2.2.1, o10.2.2.2.2.2.2.2.2.2.2.2.2.2.1, o10.2.2.2.2.2.2.2.2.2.2.2.2.2.2.1, o10.2.2.2.2.2.2.2.2.2.2.2.2.2.2.2.1, y25, y26, ())
   else
   bif r11.1 == (17 : Int) then
    let y27 := o10.2.2.2.2.2.2.2.2.2.2.2.2.2.2.2.2.1
    let y28 := o10.2.2.2.2.2.2.2.2.2.2.2.2.2.2.2.2.2.1
    some (r11.2.1, r11.2.2.1, o10.2.2.1, o10.2.2.2.1, o10.2.2.2.2.1, o10.2.2.2.2.2.1, o10.2.2.2.2.2.2.1, o10.2.2.2.2.2.2.2.1, o10.2.2.2.2.2.2.2.2.1, o10.2.2.2.2.2.2.2.2.2.1, (7 : Int), o10.2.2.2.2.2.2.2.2.2.2.2.1, o10.2.2.2.2.2.2.2.2.2.2.2.2.1, o10.2.2.2.2.2.2.2.2.2.2.2.2.2.1, o10.2.2.2.2.2.2.2.2.2.2.2.2.2.2.1, o10.2.2.2.2.2.2.2.2.2.2.2.2.2.2.2.1, y27, y28, ())
   else
   bif decide (r11.1 < (22 : Int)) then
    let y29 := o10.2.2.2.2.2.2.2.2.2.2.2.2.2.2.2.2.1
    let y30 := o10.2.2.2.2.2.2.2.2.2.2.2.2.2.2.2.2.2.1
    some (r11.2.1, r11.2.2.1, o10.2.2.1, o10.2.2.2.1, o10.2.2.2.2.1, o10.2.2.2.2.2.1, o10.2.2.2.2.2.2.1, o10.2.2.2.2.2.2.2.1, o10.2.2.2.2.2.2.2.2.1, o10.2.2.2.2.2.2.2.2.2.1, (8 : Int), o10.2.2.2.2.2.2.2.2.2.2.2.1, o10.2.2.2.2.2.2.2.2.2.2.2.2.1, o10.2.2.2.2.2.2.2.2.2.2.2.2.2.1, o10.2.2.2.2.2.2.2.2.2.2.2.2.2.2.1, o10.2.2.2.2.2.2.2.2.2.2.2.2.2.2.2.1, y29, y30, ())
   else
   (Fsl1Rd_pick N ((3 : Int), r11.2.1, r11.2.2.1, ())).bind fun r31 =>
   bif decide (0 ≤ r31.1) then
   bif decide (r31.1.toNat < [(9 : Int), (10 : Int), (11 : Int)].length) then
   let y32 := [(9 : Int), (10 : Int), (11 : Int)].getD r31.1.toNat (0 : Int)
   let y33 := o10.2.2.2.2.2.2.2.2.2.2.2.2.2.2.2.2.1
   let y34 := o10.2.2.2.2.2.2.2.2.2.2.2.2.2.2.2.2.2.1
   some (r31.2.1, r31.2.2.1, o10.2.2.1, o10.2.2.2.1, o10.2.2.2.2.1, o10.2.2.2.2.2.1, o10.2.2.2.2.2.2.1, o10.2.2.2.2.2.2.2.1, o10.2.2.2.2.2.2.2.2.1, o10.2.2.2.2.2.2.2.2.2.1, y32, o10.2.2.2.2.2.2.2.2.2.2.2.1, o10.2.2.2.2.2.2.2.2.2.2.2.2.1, o10.2.2.2.2.2.2.2.2.2.2.2.2.2.1, o10.2.2.2.2.2.2.2.2.2.2.2.2.2.2.1, o10.2.2.2.2.2.2.2.2.2.2.2.2.2.2.2.1, y33, y34, ())
   else none
   else none) fun o35 =>
  Option.bind (
   (Fsl1Rd_pick N ((3 : Int), o35.1, o35.2.1, ())).bind fun r36 =>
   bif r36.1 == (0 : Int) then
    let y37 := o35.2.2.2.2.2.2.2.2.2.2.2.2.2.2.2.2.1
    let y38 := o35.2.2.2.2.2.2.2.2.2.2.2.2.2.2.2.2.2.1
    some (r36.2.1, r36.2.2.1, o35.2.2.1, o35.2.2.2.1, o35.2.2.2.2.1, o35.2.2.2.2.2.1, o35.2.2.2.2.2.2.1, o35.2.2.2.2.2.2.2.1, o35.2.2.2.2.2.2.2.2.1, o35.2.2.2.2.2.2.2.2.2.1, o35.2.2.2.2.2.2.2.2.2.2.1, (0 : Int), o35.2.2.2.2.2.2.2.2.2.2.2.2.1, o35.2.2.2.2.2.2.2.2.2.2.2.2.2.1, o35.2.2.2.2.2.2.2.2.2.2.2.2.2.2.1, o35.2.2.2.2.2.2.2.2.2.2.2.2.2.2.2.1, y37, y38, ())
   else
   some (r36.2.1, r36.2.2.1, o35.2.2.1, o35.2.2.2.1, o35.2.2.2.2.1, o35.2.2.2.2.2.1, o35.2.2.2.2.2.2.1, o35.2.2.2.2.2.2.2.1, o35.2.2.2.2.2.2.2.2.1, o35.2.2.2.2.2.2.2.2.2.1, o35.2.2.2.2.2.2.2.2.2.2.1, o35.2.2.2.2.2.2.2.2.2.2.2.1, o35.2.2.2.2.2.2.2.2.2.2.2.2.1, o35.2.2.2.2.2.2.2.2.2.2.2.2.2.1, o35.2.2.2.2.2.2.2.2.2.2.2.2.2.2.1, o35.2.2.2.2.2.2.2.2.2.2.2.2.2.2.2.1, o35.2.2.2.2.2.2.2.2.2.2.2.2.2.2.2.2.1, o35.2.2.2.2.2.2.2.2.2.2.2.2.2.2.2.2.2.1, ())) fun o39 =>
  (Fsl1Rd_pick N ((60 : Int), o39.1, o39.2.1, ())).bind fun r40 =>
  bif r40.1 == (0 : Int) then
   (Fsl1Rd_pick N ((3 : Int), r40.2.1, r40.2.2.1, ())).bind fun r41 =>
   bif decide (0 ≤ r41.1) then
   bif decide (r41.1.toNat < [(0 : Int), (12 : Int), (-1 : Int)].length) then
   let y42 := [(0 : Int), (12 : Int), (-1 : Int)].getD r41.1.toNat (0 : Int)
   let y43 := o39.2.2.2.2.2.2.2.2.2.2.2.2.2.2.2.2.1
   let y44 := o39.2.2.2.2.2.2.2.2.2.2.2.2.2.2.2.2.2.1
   some (y42, o39.2.2.2.2.2.2.2.2.2.2.2.1, o39.2.2.2.2.2.2.2.2.2.2.2.2.1, o39.2.2.2.2.2.2.2.2.2.2.2.2.2.1, o39.2.2.2.2.2.2.2.2.2.2.2.2.2.2.1, o39.2.2.2.2.2.2.2.2.2.2.2.2.2.2.2.1, y43, y44, r41.2.1, r41.2.2.1, ())
   else none
   else none
  else
  bif r40.1 == (1 : Int) then
   let y45 := [(-1 : Int), (8 : Int), (1099511627776 : Int)]
   (Fsl1Rd_pick N ((3 : Int), r40.2.1, r40.2.2.1, ())).bind fun r46 =>
   bif decide (0 ≤ r46.1) then
   bif decide (r46.1.toNat < y45.length) then
   let y47 := o39.2.2.2.2.2.2.2.2.2.2.2.2.2.2.2.2.1
   let y48 := o39.2.2.2.2.2.2.2.2.2.2.2.2.2.2.2.2.2.1
   some (o39.2.2.2.2.2.2.2.2.2.2.1, y45.getD r46.1.toNat (0 : Int), o39.2.2.2.2.2.2.2.2.2.2.2.2.1, o39.2.2.2.2.2.2.2.2.2.2.2.2.2.1, o39.2.2.2.2.2.2.2.2.2.2.2.2.2.2.1, o39.2.2.2.2.2.2.2.2.2.2.2.2.2.2.2.1, y47, y48, r46.2.1, r46.2.2.1, ())
   else none
   else none
  else
  bif r40.1 == (2 : Int) then
   let y49 := [(-1 : Int), (4 : Int), (1099511627776 : Int)]
   (Fsl1Rd_pick N ((3 : Int), r40.2.1, r40.2.2.1, ())).bind fun r50 =>
   bif decide (0 ≤ r50.1) then
   bif decide (r50.1.toNat < y49.length) then
   let y51 := o39.2.2.2.2.2.2.2.2.2.2.2.2.2.2.2.2.1
   let y52 := o39.2.2.2.2.2.2.2.2.2.2.2.2.2.2.2.2.2.1
   some (o39.2.2.2.2.2.2.2.2.2.2.1, o39.2.2.2.2.2.2.2.2.2.2.2.1, o39.2.2.2.2.2.2.2.2.2.2.2.2.1, o39.2.2.2.2.2.2.2.2.2.2.2.2.2.1, y49.getD r50.1.toNat (0 : Int), o39.2.2.2.2.2.2.2.2.2.2.2.2.2.2.2.1, y51, y52, r50.2.1, r50.2.2.1, ())
   else none
   else none
  else
  let y53 := o39.2.2.2.2.2.2.2.2.2.2.2.2.2.2.2.2.1
  let y54 := o39.2.2.2.2.2.2.2.2.2.2.2.2.2.2.2.2.2.1
  some (o39.2.2.2.2.2.2.2.2.2.2.1, o39.2.2.2.2.2.2.2.2.2.2.2.1, o39.2.2.2.2.2.2.2.2.2.2.2.2.1, o39.2.2.2.2.2.2.2.2.2.2.2.2.2.1, o39.2.2.2.2.2.2.2.2.2.2.2.2.2.2.1, o39.2.2.2.2.2.2.2.2.2.2.2.2.2.2.2.1, y53, y54, r40.2.1, r40.2.2.1, ())
noncomputable def consl20Op (N : Nat) : Con := { f := 63, din := dinsl20Op, outs := outsl20Op, F := Fsl20Op N }
noncomputable def Xsl20Op (N : Nat) : Ctx := { E := Esl20Op N, H := Hsl20Op, lp := [], jn := [(6, jsl20Op_6), (27, jsl20Op_27), (29, jsl20Op_29)] }
theorem Fsl20Op_eq (N : Nat) (x : (Int × ((List Int) × (Int × Unit)))) : evFn (Xsl20Op N) Tryd.f63 dinsl20Op outsl20Op x = Fsl20Op N x := by kernel_rfl
theorem cxsl20Op (N : Nat) : CtxOk Tryd.prog (Xsl20Op N) := ⟨⟨TE_ok, List.forall_mem_cons.2 ⟨(specsl1Rd_pick N), List.forall_mem_cons.2 ⟨(specsl20Shape N), fun k hk => absurd hk List.not_mem_nil⟩⟩⟩, mixed⟩
theorem specsl20Op (N : Nat) : Spec Tryd.prog (consl20Op N) :=
  Spec.of_eq (fn_spec (cxsl20Op N) (f := 63) (fn := Tryd.f63) (c := codeOf Tryd.f63) (by kernel_rfl) (by kernel_rfl) (by kernel_rfl) (loops_at (ids := []) (by kernel_rfl) (trivial)) (by kernel_rfl)) (fun x r h => (Fsl20Op_eq N x).trans h)

/-! ### 37: spec.l20Prog -/

noncomputable def dinsl20Prog : Desc := { n := 2, regs := [.one (.lit (.ptr 0 0)), .one (.val (.int .i64))], bx := [(0, .var [.val (.sl (.int .u8)), .val (.int .i64)])], pins := [] }
noncomputable def outsl20Prog : Outs := [(.ret, { n := 1, regs := [.one (.lit (.row 1012800))], bx := [(1012800, .row (.pair (.int .i64) (.pair (.int .i64) (.pair (.int .i64) (.pair (.int .i64) (.pair (.int .i64) (.pair (.int .i64) (.pair (.pair (.int .i64) (.pair (.int .i64) .unit)) .unit)))))))), (0, .var [.val (.sl (.int .u8)), .val (.int .i64)])], pins := [.one (.lit (.ptr 0 0))] })]
noncomputable def Hsl20Prog : Hints := [(1, [(0, { nl := [(0, (.pair (.int .i64) (.pair (.int .i64) (.pair (.int .i64) (.pair (.int .i64) (.pair (.int .i64) (.pair (.int .i64) (.pair (.pair (.int .i64) (.pair (.int .i64) .unit)) .unit))))))))] })]),
  (7, [(9, { con := 1 })]),
  (8, [(1, { con := 2 })])]
noncomputable def Esl20Prog (N : Nat) : Env := { te := TE, cs := [consl20Op N, consl1Rd_pick N, consl20Shape N] }
noncomputable def dsl20Prog_0 : Desc := { n := 69, regs := [.one (.lit (.ptr 0 0)), .one (.val (.int .i64)), u, u, u, .one (.lit (.row 1012800)), .one (.val (.int .i64)), .one (.val (.int .i64))], bx := [(0, .var [.val (.sl (.int .u8)), .val (.int .i64)]), (1012800, .row (.pair (.int .i64) (.pair (.int .i64) (.pair (.int .i64) (.pair (.int .i64) (.pair (.int .i64) (.pair (.int .i64) (.pair (.pair (.int .i64) (.pair (.int .i64) .unit)) .unit))))))))], pins := [.one (.lit (.ptr 0 0))] }
noncomputable def osl20Prog_0 : Outs := [(.exit 0, { n := 69, regs := [u, u, u, u, u, .one (.lit (.row 1012800))], bx := [(1012800, .row (.pair (.int .i64) (.pair (.int .i64) (.pair (.int .i64) (.pair (.int .i64) (.pair (.int .i64) (.pair (.int .i64) (.pair (.pair (.int .i64) (.pair (.int .i64) .unit)) .unit)))))))), (0, .var [.val (.sl (.int .u8)), .val (.int .i64)])], pins := [.one (.lit (.ptr 0 0))] })]
noncomputable def jsl20Prog_9 : Outs := [(.normal, { n := 69, regs := [.one (.lit (.ptr 0 0)), .one (.val (.int .i64)), u, u, u, .one (.lit (.row 1012800)), .one (.val (.int .i64)), .one (.val (.int .i64)), .one (.lit (.ptr 1076992 0))], bx := [(0, .var [.val (.sl (.int .u8)), .val (.int .i64)]), (1012800, .row (.pair (.int .i64) (.pair (.int .i64) (.pair (.int .i64) (.pair (.int .i64) (.pair (.int .i64) (.pair (.int .i64) (.pair (.pair (.int .i64) (.pair (.int .i64) .unit)) .unit)))))))), (1076992, .var [.val (.int .i64), .val (.int .i64), .val (.int .i64), .val (.int .i64), .val (.int .i64), .val (.int .i64), .val (.int .i64), .val (.int .i64)])], pins := [.one (.lit (.ptr 0 0))] })]
noncomputable def jsl20Prog_11 : Outs := [(.normal, { n := 69, regs := [.one (.lit (.ptr 0 0)), .one (.val (.int .i64)), u, u, u, .one (.lit (.row 1012800)), .one (.val (.int .i64)), .one (.val (.int .i64)), .one (.lit (.ptr 1076992 0))], bx := [(0, .var [.val (.sl (.int .u8)), .val (.int .i64)]), (1012800, .row (.pair (.int .i64) (.pair (.int .i64) (.pair (.int .i64) (.pair (.int .i64) (.pair (.int .i64) (.pair (.int .i64) (.pair (.pair (.int .i64) (.pair (.int .i64) .unit)) .unit)))))))), (1076992, .var [.val (.int .i64), .val (.int .i64), .val (.int .i64), .val (.int .i64), .val (.int .i64), .val (.int .i64), .val (.int .i64), .val (.int .i64)])], pins := [.one (.lit (.ptr 0 0))] })]
noncomputable def jsl20Prog_19 : Outs := [(.normal, { n := 69, regs := [.one (.lit (.ptr 0 0)), .one (.val (.int .i64)), u, u, u, .one (.lit (.row 1012800)), .one (.val (.int .i64)), .one (.val (.int .i64)), .one (.lit (.ptr 1076992 0))], bx := [(0, .var [.val (.sl (.int .u8)), .val (.int .i64)]), (1012800, .row (.pair (.int .i64) (.pair (.int .i64) (.pair (.int .i64) (.pair (.int .i64) (.pair (.int .i64) (.pair (.int .i64) (.pair (.pair (.int .i64) (.pair (.int .i64) .unit)) .unit)))))))), (1076992, .var [.val (.int .i64), .val (.int .i64), .val (.int .i64), .val (.int .i64), .val (.int .i64), .val (.int .i64), .val (.int .i64), .val (.int .i64)])], pins := [.one (.lit (.ptr 0 0))] })]
noncomputable def lsl20Prog_0 (N : Nat) : Nat → (Int × (Int × (Int × ((List Int) × (Int × ((List (Int × (Int × (Int × (Int × (Int × (Int × ((Int × (Int × Unit)) × Unit)))))))) × Unit)))))) → Option ((List (Int × (Int × (Int × (Int × (Int × (Int × ((Int × (Int × Unit)) × Unit)))))))) × ((List Int) × (Int × Unit)))
  | 0, _ => none
  | n + 1, v =>
    bif decide (v.2.2.1 < v.1) then
     (Fsl20Op N (v.2.1, v.2.2.2.1, v.2.2.2.2.1, ())).bind fun r2 =>
     Option.bind (
      bif decide (v.2.1 ≤ (1 : Int)) then
       bif r2.1 == (8 : Int) then
        (Fsl1Rd_pick N ((4 : Int), r2.2.2.2.2.2.2.2.2.1, r2.2.2.2.2.2.2.2.2.2.1, ())).bind fun r3 =>
        bif decide (r3.1 > (0 : Int)) then
         (Fsl20Shape N (r3.2.1, r3.2.2.1, ())).bind fun r4 =>
         some (v.1, v.2.1, v.2.2.1, r4.2.2.1, r4.2.2.2.1, v.2.2.2.2.2.1, (1 : Int), (0 : Int), (0 : Int), (0 : Int), (0 : Int), (0 : Int), r4.1, r4.2.1, ())
        else
        some (v.1, v.2.1, v.2.2.1, r3.2.1, r3.2.2.1, v.2.2.2.2.2.1, r2.1, r2.2.1, r2.2.2.1, r2.2.2.2.1, r2.2.2.2.2.1, r2.2.2.2.2.2.1, r2.2.2.2.2.2.2.1, r2.2.2.2.2.2.2.2.1, ())
       else
       some (v.1, v.2.1, v.2.2.1, r2.2.2.2.2.2.2.2.2.1, r2.2.2.2.2.2.2.2.2.2.1, v.2.2.2.2.2.1, r2.1, r2.2.1, r2.2.2.1, r2.2.2.2.1, r2.2.2.2.2.1, r2.2.2.2.2.2.1, r2.2.2.2.2.2.2.1, r2.2.2.2.2.2.2.2.1, ())
      else
      some (v.1, v.2.1, v.2.2.1, r2.2.2.2.2.2.2.2.2.1, r2.2.2.2.2.2.2.2.2.2.1, v.2.2.2.2.2.1, r2.1, r2.2.1, r2.2.2.1, r2.2.2.2.1, r2.2.2.2.2.1, r2.2.2.2.2.2.1, r2.2.2.2.2.2.2.1, r2.2.2.2.2.2.2.2.1, ())) fun o5 =>
     Option.bind (
      bif decide (o5.2.1 ≥ (7 : Int)) then
       bif o5.2.2.2.2.2.2.1 == (1 : Int) then
        some (o5.1, o5.2.1, o5.2.2.1, o5.2.2.2.1, o5.2.2.2.2.1, o5.2.2.2.2.2.1, (8 : Int), (0 : Int), (0 : Int), (0 : Int), (0 : Int), (0 : Int), (0 : Int), (0 : Int), ())
       else
       bif o5.2.2.2.2.2.2.1 == (2 : Int) then
        some (o5.1, o5.2.1, o5.2.2.1, o5.2.2.2.1, o5.2.2.2.2.1, o5.2.2.2.2.2.1, (8 : Int), (0 : Int), (0 : Int), (0 : Int), (0 : Int), (0 : Int), (0 : Int), (0 : Int), ())
       else
       bif o5.2.2.2.2.2.2.1 == (9 : Int) then
        some (o5.1, o5.2.1, o5.2.2.1, o5.2.2.2.1, o5.2.2.2.2.1, o5.2.2.2.2.2.1, (8 : Int), (0 : Int), (0 : Int), (0 : Int), (0 : Int), (0 : Int), (0 : Int), (0 : Int), ())
       else
       some (o5.1, o5.2.1, o5.2.2.1, o5.2.2.2.1, o5.2.2.2.2.1, o5.2.2.2.2.2.1, o5.2.2.2.2.2.2.1, o5.2.2.2.2.2.2.2.1, o5.2.2.2.2.2.2.2.2.1, o5.2.2.2.2.2.2.2.2.2.1, o5.2.2.2.2.2.2.2.2.2.2.1, o5.2.2.2.2.2.2.2.2.2.2.2.1, o5.2.2.2.2.2.2.2.2.2.2.2.2.1, o5.2.2.2.2.2.2.2.2.2.2.2.2.2.1, ())
      else
      some (o5.1, o5.2.1, o5.2.2.1, o5.2.2.2.1, o5.2.2.2.2.1, o5.2.2.2.2.2.1, o5.2.2.2.2.2.2.1, o5.2.2.2.2.2.2.2.1, o5.2.2.2.2.2.2.2.2.1, o5.2.2.2.2.2.2.2.2.2.1, o5.2.2.2.2.2.2.2.2.2.2.1, o5.2.2.2.2.2.2.2.2.2.2.2.1, o5.2.2.2.2.2.2.2.2.2.2.2.2.1, o5.2.2.2.2.2.2.2.2.2.2.2.2.2.1, ())) fun o6 =>
     Option.bind (
      bif o6.2.2.2.2.2.2.1 == (1 : Int) then
       some (o6.1, w64 (o6.2.1 + (1 : Int)), o6.2.2.1, o6.2.2.2.1, o6.2.2.2.2.1, o6.2.2.2.2.2.1, o6.2.2.2.2.2.2.1, o6.2.2.2.2.2.2.2.1, o6.2.2.2.2.2.2.2.2.1, o6.2.2.2.2.2.2.2.2.2.1, o6.2.2.2.2.2.2.2.2.2.2.1, o6.2.2.2.2.2.2.2.2.2.2.2.1, o6.2.2.2.2.2.2.2.2.2.2.2.2.1, o6.2.2.2.2.2.2.2.2.2.2.2.2.2.1, ())
      else
      bif o6.2.2.2.2.2.2.1 == (2 : Int) then
       some (o6.1, w64 (o6.2.1 + (1 : Int)), o6.2.2.1, o6.2.2.2.1, o6.2.2.2.2.1, o6.2.2.2.2.2.1, o6.2.2.2.2.2.2.1, o6.2.2.2.2.2.2.2.1, o6.2.2.2.2.2.2.2.2.1, o6.2.2.2.2.2.2.2.2.2.1, o6.2.2.2.2.2.2.2.2.2.2.1, o6.2.2.2.2.2.2.2.2.2.2.2.1, o6.2.2.2.2.2.2.2.2.2.2.2.2.1, o6.2.2.2.2.2.2.2.2.2.2.2.2.2.1, ())
      else
      bif o6.2.2.2.2.2.2.1 == (9 : Int) then
       some (o6.1, w64 (o6.2.1 + (1 : Int)), o6.2.2.1, o6.2.2.2.1, o6.2.2.2.2.1, o6.2.2.2.2.2.1, o6.2.2.2.2.2.2.1, o6.2.2.2.2.2.2.2.1, o6.2.2.2.2.2.2.2.2.1, o6.2.2.2.2.2.2.2.2.2.1, o6.2.2.2.2.2.2.2.2.2.2.1, o6.2.2.2.2.2.2.2.2.2.2.2.1, o6.2.2.2.2.2.2.2.2.2.2.2.2.1, o6.2.2.2.2.2.2.2.2.2.2.2.2.2.1, ())
      else
      bif o6.2.2.2.2.2.2.1 == (8 : Int) then
       bif decide (o6.2.1 > (0 : Int)) then
        some (o6.1, w64 (o6.2.1 - (1 : Int)), o6.2.2.1, o6.2.2.2.1, o6.2.2.2.2.1, o6.2.2.2.2.2.1, o6.2.2.2.2.2.2.1, o6.2.2.2.2.2.2.2.1, o6.2.2.2.2.2.2.2.2.1, o6.2.2.2.2.2.2.2.2.2.1, o6.2.2.2.2.2.2.2.2.2.2.1, o6.2.2.2.2.2.2.2.2.2.2.2.1, o6.2.2.2.2.2.2.2.2.2.2.2.2.1, o6.2.2.2.2.2.2.2.2.2.2.2.2.2.1, ())
       else
       some (o6.1, o6.2.1, o6.2.2.1, o6.2.2.2.1, o6.2.2.2.2.1, o6.2.2.2.2.2.1, o6.2.2.2.2.2.2.1, o6.2.2.2.2.2.2.2.1, o6.2.2.2.2.2.2.2.2.1, o6.2.2.2.2.2.2.2.2.2.1, o6.2.2.2.2.2.2.2.2.2.2.1, o6.2.2.2.2.2.2.2.2.2.2.2.1, o6.2.2.2.2.2.2.2.2.2.2.2.2.1, o6.2.2.2.2.2.2.2.2.2.2.2.2.2.1, ())
      else
      some (o6.1, o6.2.1, o6.2.2.1, o6.2.2.2.1, o6.2.2.2.2.1, o6.2.2.2.2.2.1, o6.2.2.2.2.2.2.1, o6.2.2.2.2.2.2.2.1, o6.2.2.2.2.2.2.2.2.1, o6.2.2.2.2.2.2.2.2.2.1, o6.2.2.2.2.2.2.2.2.2.2.1, o6.2.2.2.2.2.2.2.2.2.2.2.1, o6.2.2.2.2.2.2.2.2.2.2.2.2.1, o6.2.2.2.2.2.2.2.2.2.2.2.2.2.1, ())) fun o7 =>
     let y8 := [(o7.2.2.2.2.2.2.1, o7.2.2.2.2.2.2.2.1, o7.2.2.2.2.2.2.2.2.1, o7.2.2.2.2.2.2.2.2.2.1, o7.2.2.2.2.2.2.2.2.2.2.1, o7.2.2.2.2.2.2.2.2.2.2.2.1, (o7.2.2.2.2.2.2.2.2.2.2.2.2.1, o7.2.2.2.2.2.2.2.2.2.2.2.2.2.1, ()), ())]
     bif decide (o7.2.2.2.2.2.1.length + y8.length ≤ lim) then
     lsl20Prog_0 N n (o7.1, o7.2.1, w64 (o7.2.2.1 + (1 : Int)), o7.2.2.2.1, o7.2.2.2.2.1, o7.2.2.2.2.2.1 ++ y8, ())
     else none
    else
    some (v.2.2.2.2.2.1, v.2.2.2.1, v.2.2.2.2.1, ())
noncomputable def Fsl20Prog (N : Nat) (x : (Int × ((List Int) × (Int × Unit)))) : Option ((List (Int × (Int × (Int × (Int × (Int × (Int × ((Int × (Int × Unit)) × Unit)))))))) × ((List Int) × (Int × Unit))) :=
  let y1 := ([] : (List (Int × (Int × (Int × (Int × (Int × (Int × ((Int × (Int × Unit)) × Unit)))))))))
  (lsl20Prog_0 N N (x.1, (1 : Int), (0 : Int), x.2.1, x.2.2.1, y1, ())).bind fun o9 =>
  some (o9.1, o9.2.1, o9.2.2.1, ())
noncomputable def consl20Prog (N : Nat) : Con := { f := 37, din := dinsl20Prog, outs := outsl20Prog, F := Fsl20Prog N }
noncomputable def Xsl20Prog (N : Nat) : Ctx := { E := Esl20Prog N, H := Hsl20Prog, lp := [(0, { hd := dsl20Prog_0, outs := osl20Prog_0, run := fun v => lsl20Prog_0 N N v })], jn := [(9, jsl20Prog_9), (11, jsl20Prog_11), (19, jsl20Prog_19)] }
noncomputable def bsl20Prog_0 : Code := loopBody (codeOf Tryd.f37) 0
theorem Fsl20Prog_eq (N : Nat) (x : (Int × ((List Int) × (Int × Unit)))) : evFn (Xsl20Prog N) Tryd.f37 dinsl20Prog outsl20Prog x = Fsl20Prog N x := by kernel_rfl
theorem lsl20Prog_0_eq (N n : Nat) (v : (Int × (Int × (Int × ((List Int) × (Int × ((List (Int × (Int × (Int × (Int × (Int × (Int × ((Int × (Int × Unit)) × Unit)))))))) × Unit))))))) : lsl20Prog_0 N (n + 1) v = ev (Xsl20Prog N) bsl20Prog_0 (roundK dsl20Prog_0 osl20Prog_0 (lsl20Prog_0 N n)) (dsl20Prog_0.mk' v) := by kernel_rfl
theorem cxsl20Prog (N : Nat) : CtxOk Tryd.prog (Xsl20Prog N) := ⟨⟨TE_ok, List.forall_mem_cons.2 ⟨(specsl20Op N), List.forall_mem_cons.2 ⟨(specsl1Rd_pick N), List.forall_mem_cons.2 ⟨(specsl20Shape N), fun k hk => absurd hk List.not_mem_nil⟩⟩⟩⟩, mixed⟩
theorem lpsl20Prog_0 (N : Nat) : LoopOk Tryd.prog { hd := dsl20Prog_0, outs := osl20Prog_0, run := fun v => lsl20Prog_0 N N v } bsl20Prog_0 :=
  loop_fuel (d := dsl20Prog_0) (os := osl20Prog_0) (cxsl20Prog N) (loops_at (ids := []) (by kernel_rfl) (trivial)) (lsl20Prog_0 N) (fun _ => rfl) (fun n v => lsl20Prog_0_eq N n v) (fun _ => N)
theorem specsl20Prog (N : Nat) : Spec Tryd.prog (consl20Prog N) :=
  Spec.of_eq (fn_spec (cxsl20Prog N) (f := 37) (fn := Tryd.f37) (c := codeOf Tryd.f37) (by kernel_rfl) (by kernel_rfl) (by kernel_rfl) (loops_at (ids := [0]) (by kernel_rfl) ⟨lp_of (lpsl20Prog_0 N), trivial⟩) (by kernel_rfl)) (fun x r h => (Fsl20Prog_eq N x).trans h)

/-! ### 14: spec.DrawProgText -/

noncomputable def dinsDrawProgText : Desc := { n := 1, regs := [.one (.val (.sl (.int .u8)))], bx := [], pins := [] }
noncomputable def outsDrawProgText : Outs := [(.ret, { n := 1, regs := [.one (.lit (.row 1064129))], bx := [(1064129, .row (.pair (.int .i64) (.pair (.int .i64) (.pair (.int .i64) (.pair (.int .i64) (.pair (.int .i64) (.pair (.int .i64) (.pair (.pair (.int .i64) (.pair (.int .i64) .unit)) .unit))))))))], pins := [] })]
noncomputable def HsDrawProgText : Hints := [(2, [(1, { con := 1, sg := [(0, 1012865)] })]),
  (3, [(1, { con := 1, sg := [(0, 1012865)] })]),
  (4, [(1, { con := 1, sg := [(0, 1012865)] })]),
  (5, [(2, { con := 2, sg := [(0, 1012865)] })])]
noncomputable def EsDrawProgText (N : Nat) : Env := { te := TE, cs := [consl1Open_o_ N, consl1Rd_pick N, consl20Prog N] }
noncomputable def FsDrawProgText (N : Nat) (x : ((List Int) × Unit)) : Option ((List (Int × (Int × (Int × (Int × (Int × (Int × ((Int × (Int × Unit)) × Unit)))))))) × Unit) :=
  (Fsl1Open_o_ N (x.1, ())).bind fun r1 =>
  (Fsl1Rd_pick N ((12 : Int), r1.1, r1.2.1, ())).bind fun r2 =>
  (Fsl1Rd_pick N ((20 : Int), r2.2.1, r2.2.2.1, ())).bind fun r3 =>
  bif r3.1 == (0 : Int) then
   (Fsl1Rd_pick N ((2 : Int), r3.2.1, r3.2.2.1, ())).bind fun r4 =>
   (Fsl20Prog N (w64 ((40 : Int) + r4.1), r4.2.1, r4.2.2.1, ())).bind fun r5 =>
   some (r5.1, ())
  else
  (Fsl20Prog N (r2.1, r3.2.1, r3.2.2.1, ())).bind fun r6 =>
  some (r6.1, ())
noncomputable def consDrawProgText (N : Nat) : Con := { f := 14, din := dinsDrawProgText, outs := outsDrawProgText, F := FsDrawProgText N }
noncomputable def XsDrawProgText (N : Nat) : Ctx := { E := EsDrawProgText N, H := HsDrawProgText, lp := [], jn := [] }
theorem FsDrawProgText_eq (N : Nat) (x : ((List Int) × Unit)) : evFn (XsDrawProgText N) Tryd.f14 dinsDrawProgText outsDrawProgText x = FsDrawProgText N x := by kernel_rfl
theorem cxsDrawProgText (N : Nat) : CtxOk Tryd.prog (XsDrawProgText N) := ⟨⟨TE_ok, List.forall_mem_cons.2 ⟨(specsl1Open_o_ N), List.forall_mem_cons.2 ⟨(specsl1Rd_pick N), List.forall_mem_cons.2 ⟨(specsl20Prog N), fun k hk => absurd hk List.not_mem_nil⟩⟩⟩⟩, mixed⟩
theorem specsDrawProgText (N : Nat) : Spec Tryd.prog (consDrawProgText N) :=
  Spec.of_eq (fn_spec (cxsDrawProgText N) (f := 14) (fn := Tryd.f14) (c := codeOf Tryd.f14) (by kernel_rfl) (by kernel_rfl) (by kernel_rfl) (loops_at (ids := []) (by kernel_rfl) (trivial)) (by kernel_rfl)) (fun x r h => (FsDrawProgText_eq N x).trans h)

/-! ### 66: spec.ShapeOk -/

noncomputable def dinsShapeOk : Desc := { n := 1, regs := [.one (.val (.pair (.int .i64) (.pair (.int .i64) .unit)))], bx := [], pins := [] }
noncomputable def outsShapeOk : Outs := [(.ret, { n := 1, regs := [.one (.val .bool)], bx := [], pins := [] })]
noncomputable def HsShapeOk : Hints := [(0, [(0, { fz := true })])]
noncomputable def EsShapeOk (_N : Nat) : Env := { te := TE, cs := [] }
noncomputable def FsShapeOk (N : Nat) (x : ((Int × (Int × Unit)) × Unit)) : Option (Bool × Unit) :=
  bif decide (x.1.1 ≥ (0 : Int)) then
   bif decide (x.1.1 ≤ (4 : Int)) then
    bif decide (x.1.2.1 ≥ (0 : Int)) then
     some (decide (x.1.2.1 ≤ (4 : Int)), ())
    else
    some (false, ())
   else
   some (false, ())
  else
  some (false, ())
noncomputable def consShapeOk (N : Nat) : Con := { f := 66, din := dinsShapeOk, outs := outsShapeOk, F := FsShapeOk N }
noncomputable def XsShapeOk (N : Nat) : Ctx := { E := EsShapeOk N, H := HsShapeOk, lp := [], jn := [] }
theorem FsShapeOk_eq (N : Nat) (x : ((Int × (Int × Unit)) × Unit)) : evFn (XsShapeOk N) Tryd.f66 dinsShapeOk outsShapeOk x = FsShapeOk N x := by kernel_rfl
theorem cxsShapeOk (N : Nat) : CtxOk Tryd.prog (XsShapeOk N) := ⟨⟨TE_ok, fun k hk => absurd hk List.not_mem_nil⟩, mixed⟩
theorem specsShapeOk (N : Nat) : Spec Tryd.prog (consShapeOk N) :=
  Spec.of_eq (fn_spec (cxsShapeOk N) (f := 66) (fn := Tryd.f66) (c := codeOf Tryd.f66) (by kernel_rfl) (by kernel_rfl) (by kernel_rfl) (loops_at (ids := []) (by kernel_rfl) (trivial)) (by kernel_rfl)) (fun x r h => (FsShapeOk_eq N x).trans h)

/-! ### 41: spec.OpOk -/

noncomputable def dinsOpOk : Desc := { n := 1, regs := [.one (.val (.pair (.int .i64) (.pair (.int .i64) (.pair (.int .i64) (.pair (.int .i64) (.pair (.int .i64) (.pair (.int .i64) (.pair (.pair (.int .i64) (.pair (.int .i64) .unit)) .unit))))))))], bx := [], pins := [] }
noncomputable def outsOpOk : Outs := [(.ret, { n := 1, regs := [.one (.val .bool)], bx := [], pins := [] })]
noncomputable def HsOpOk : Hints := [(0, [(0, { fz := true })])]
noncomputable def EsOpOk (N : Nat) : Env := { te := TE, cs := [consShapeOk N] }
noncomputable def FsOpOk (N : Nat) (x : ((Int × (Int × (Int × (Int × (Int × (Int × ((Int × (Int × Unit)) × Unit))))))) × Unit)) : Option (Bool × Unit) :=
  bif decide (x.1.1 ≥ (1 : Int)) then
   bif decide (x.1.1 ≤ (11 : Int)) then
    bif x.1.1 != (1 : Int) then
     some (true, ())
    else
    (FsShapeOk N (x.1.2.2.2.2.2.2.1, ())).bind fun r1 =>
    some (r1.1, ())
   else
   some (false, ())
  else
  some (false, ())
noncomputable def consOpOk (N : Nat) : Con := { f := 41, din := dinsOpOk, outs := outsOpOk, F := FsOpOk N }
noncomputable def XsOpOk (N : Nat) : Ctx := { E := EsOpOk N, H := HsOpOk, lp := [], jn := [] }
theorem FsOpOk_eq (N : Nat) (x : ((Int × (Int × (Int × (Int × (Int × (Int × ((Int × (Int × Unit)) × Unit))))))) × Unit)) : evFn (XsOpOk N) Tryd.f41 dinsOpOk outsOpOk x = FsOpOk N x := by kernel_rfl
theorem cxsOpOk (N : Nat) : CtxOk Tryd.prog (XsOpOk N) := ⟨⟨TE_ok, List.forall_mem_cons.2 ⟨(specsShapeOk N), fun k hk => absurd hk List.not_mem_nil⟩⟩, mixed⟩
theorem specsOpOk (N : Nat) : Spec Tryd.prog (consOpOk N) :=
  Spec.of_eq (fn_spec (cxsOpOk N) (f := 41) (fn := Tryd.f41) (c := codeOf Tryd.f41) (by kernel_rfl) (by kernel_rfl) (by kernel_rfl) (loops_at (ids := []) (by kernel_rfl) (trivial)) (by kernel_rfl)) (fun x r h => (FsOpOk_eq N x).trans h)

/-! ### 57: spec.l11Word -/

noncomputable def dinsl11Word : Desc := { n := 1, regs := [.one (.val (.int .i64))], bx := [], pins := [] }
noncomputable def outsl11Word : Outs := [(.ret, { n := 1, regs := [.one (.val .str)], bx := [], pins := [] })]
noncomputable def Hsl11Word : Hints := []
noncomputable def Esl11Word (_N : Nat) : Env := { te := TE, cs := [] }
noncomputable def Fsl11Word (N : Nat) (x : (Int × Unit)) : Option (ByteArray × Unit) :=
  let y1 := [(ByteArray.mk #[]), (ByteArray.mk #[110, 101, 119]), (ByteArray.mk #[108, 111, 97, 100]), (ByteArray.mk #[115, 116, 111, 114, 101]), (ByteArray.mk #[112, 117, 116]), (ByteArray.mk #[103, 101, 116]), (ByteArray.mk #[115, 97, 109, 101]), (ByteArray.mk #[99, 97, 115]), (ByteArray.mk #[100, 114, 111, 112]), (ByteArray.mk #[100, 117, 112]), (ByteArray.mk #[112, 105, 110]), (ByteArray.mk #[117, 110, 112, 105, 110])]
  bif decide (0 ≤ x.1) then
  bif decide (x.1.toNat < y1.length) then
  some (y1.getD x.1.toNat ByteArray.empty, ())
  else none
  else none
noncomputable def consl11Word (N : Nat) : Con := { f := 57, din := dinsl11Word, outs := outsl11Word, F := Fsl11Word N }
noncomputable def Xsl11Word (N : Nat) : Ctx := { E := Esl11Word N, H := Hsl11Word, lp := [], jn := [] }
theorem Fsl11Word_eq (N : Nat) (x : (Int × Unit)) : evFn (Xsl11Word N) Tryd.f57 dinsl11Word outsl11Word x = Fsl11Word N x := by kernel_rfl
theorem cxsl11Word (N : Nat) : CtxOk Tryd.prog (Xsl11Word N) := ⟨⟨TE_ok, fun k hk => absurd hk List.not_mem_nil⟩, mixed⟩
theorem specsl11Word (N : Nat) : Spec Tryd.prog (consl11Word N) :=
  Spec.of_eq (fn_spec (cxsl11Word N) (f := 57) (fn := Tryd.f57) (c := codeOf Tryd.f57) (by kernel_rfl) (by kernel_rfl) (by kernel_rfl) (loops_at (ids := []) (by kernel_rfl) (trivial)) (by kernel_rfl)) (fun x r h => (Fsl11Word_eq N x).trans h)

/-! ### 58: spec.l11Nums -/

noncomputable def dinsl11Nums : Desc := { n := 1, regs := [.one (.val (.pair (.int .i64) (.pair (.int .i64) (.pair (.int .i64) (.pair (.int .i64) (.pair (.int .i64) (.pair (.int .i64) (.pair (.pair (.int .i64) (.pair (.int .i64) .unit)) .unit))))))))], bx := [], pins := [] }
noncomputable def outsl11Nums : Outs := [(.ret, { n := 1, regs := [.one (.lit (.row 1038784))], bx := [(1038784, .row (.int .i64))], pins := [] })]
noncomputable def Hsl11Nums : Hints := [(0, [(0, { fz := true })]),
  (19, [(0, { nl := [(0, (.int .i64))] })])]
noncomputable def Esl11Nums (_N : Nat) : Env := { te := TE, cs := [] }
noncomputable def Fsl11Nums (N : Nat) (x : ((Int × (Int × (Int × (Int × (Int × (Int × ((Int × (Int × Unit)) × Unit))))))) × Unit)) : Option ((List Int) × Unit) :=
  bif x.1.1 == (1 : Int) then
   let y1 := [x.1.2.2.2.2.2.2.1.1, x.1.2.2.2.2.2.2.1.2.1]
   some (y1, ())
  else
  bif x.1.1 == (2 : Int) then
   some ([x.1.2.1, x.1.2.2.2.2.1], ())
  else
  bif x.1.1 == (5 : Int) then
   some ([x.1.2.1, x.1.2.2.2.2.1], ())
  else
  bif x.1.1 == (3 : Int) then
   some ([x.1.2.1, x.1.2.2.2.2.1, x.1.2.2.1], ())
  else
  bif x.1.1 == (4 : Int) then
   let y2 := [x.1.2.1, x.1.2.2.2.2.1, x.1.2.2.2.2.2.1]
   some (y2, ())
  else
  bif x.1.1 == (6 : Int) then
   some ([x.1.2.1, x.1.2.2.1], ())
  else
  bif x.1.1 == (7 : Int) then
   let y3 := [x.1.2.1, x.1.2.2.2.2.1, x.1.2.2.1, x.1.2.2.2.1]
   some (y3, ())
  else
  bif x.1.1 == (9 : Int) then
   some ([x.1.2.1], ())
  else
  bif x.1.1 == (10 : Int) then
   some ([x.1.2.1], ())
  else
  bif x.1.1 == (11 : Int) then
   some ([x.1.2.1], ())
  else
  some (([] : (List Int)), ())
noncomputable def consl11Nums (N : Nat) : Con := { f := 58, din := dinsl11Nums, outs := outsl11Nums, F := Fsl11Nums N }
noncomputable def Xsl11Nums (N : Nat) : Ctx := { E := Esl11Nums N, H := Hsl11Nums, lp := [], jn := [] }
theorem Fsl11Nums_eq (N : Nat) (x : ((Int × (Int × (Int × (Int × (Int × (Int × ((Int × (Int × Unit)) × Unit))))))) × Unit)) : evFn (Xsl11Nums N) Tryd.f58 dinsl11Nums outsl11Nums x = Fsl11Nums N x := by kernel_rfl
theorem cxsl11Nums (N : Nat) : CtxOk Tryd.prog (Xsl11Nums N) := ⟨⟨TE_ok, fun k hk => absurd hk List.not_mem_nil⟩, mixed⟩
theorem specsl11Nums (N : Nat) : Spec Tryd.prog (consl11Nums N) :=
  Spec.of_eq (fn_spec (cxsl11Nums N) (f := 58) (fn := Tryd.f58) (c := codeOf Tryd.f58) (by kernel_rfl) (by kernel_rfl) (by kernel_rfl) (loops_at (ids := []) (by kernel_rfl) (trivial)) (by kernel_rfl)) (fun x r h => (Fsl11Nums_eq N x).trans h)

/-! ### 59: spec.l9Dec -/

noncomputable def dinsl9Dec : Desc := { n := 1, regs := [.one (.val (.int .i64))], bx := [], pins := [] }
noncomputable def outsl9Dec : Outs := [(.ret, { n := 1, regs := [.one (.val .str)], bx := [], pins := [] })]
noncomputable def Hsl9Dec : Hints := []
noncomputable def Esl9Dec (_N : Nat) : Env := { te := TE, cs := [] }
noncomputable def dsl9Dec_0 : Desc := { n := 31, regs := [.one (.val (.int .i64)), u, u, .one (.val .str), .one (.val .bool)], bx := [], pins := [] }
noncomputable def osl9Dec_0 : Outs := [(.exit 0, { n := 31, regs := [u, u, u, .one (.val .str), .one (.val .bool)], bx := [], pins := [] })]
noncomputable def jsl9Dec_9 : Outs := [(.normal, { n := 31, regs := [.one (.val (.int .i64)), u, u, .one (.val .str), .one (.val .bool), .one (.val (.int .i64))], bx := [], pins := [] })]
noncomputable def lsl9Dec_0 (N : Nat) : Nat → (Int × (ByteArray × (Bool × Unit))) → Option (ByteArray × (Bool × Unit))
  | 0, _ => none
  | n + 1, v =>
    bif v.1 != (0 : Int) then
     bif decide ((10 : Int) = 0) then
      none
     else
     Option.bind (
      let y1 := decide ((Int.tmod v.1 (10 : Int)) < (0 : Int))
      bif y1 then
       some (v.1, v.2.1, v.2.2.1, w64 (0 - (Int.tmod v.1 (10 : Int))), ())
      else
      some (v.1, v.2.1, v.2.2.1, Int.tmod v.1 (10 : Int), ())) fun o2 =>
     let y3 := IntKind.wrap .u8 (w64 ((48 : Int) + o2.2.2.2.1))
     bif decide ((bstr [y3]).size + o2.2.1.size ≤ lim) then
     bif decide ((10 : Int) = 0) then
      none
     else
     lsl9Dec_0 N n (w64 (Int.tdiv o2.1 (10 : Int)), (bstr [y3]) ++ o2.2.1, o2.2.2.1, ())
     else none
    else
    some (v.2.1, v.2.2.1, ())
noncomputable def Fsl9Dec (N : Nat) (x : (Int × Unit)) : Option (ByteArray × Unit) :=
  bif x.1 == (0 : Int) then
   some ((ByteArray.mk #[48]), ())
  else
  (lsl9Dec_0 N N (x.1, (ByteArray.mk #[]), decide (x.1 < (0 : Int)), ())).bind fun o4 =>
  bif o4.2.1 then
   bif decide ((ByteArray.mk #[45]).size + o4.1.size ≤ lim) then
   some ((ByteArray.mk #[45]) ++ o4.1, ())
   else none
  else
  some (o4.1, ())
noncomputable def consl9Dec (N : Nat) : Con := { f := 59, din := dinsl9Dec, outs := outsl9Dec, F := Fsl9Dec N }
noncomputable def Xsl9Dec (N : Nat) : Ctx := { E := Esl9Dec N, H := Hsl9Dec, lp := [(0, { hd := dsl9Dec_0, outs := osl9Dec_0, run := fun v => lsl9Dec_0 N N v })], jn := [(9, jsl9Dec_9)] }
noncomputable def bsl9Dec_0 : Code := loopBody (codeOf Tryd.f59) 0
theorem Fsl9Dec_eq (N : Nat) (x : (Int × Unit)) : evFn (Xsl9Dec N) Tryd.f59 dinsl9Dec outsl9Dec x = Fsl9Dec N x := by kernel_rfl
theorem lsl9Dec_0_eq (N n : Nat) (v : (Int × (ByteArray × (Bool × Unit)))) : lsl9Dec_0 N (n + 1) v = ev (Xsl9Dec N) bsl9Dec_0 (roundK dsl9Dec_0 osl9Dec_0 (lsl9Dec_0 N n)) (dsl9Dec_0.mk' v) := by kernel_rfl
theorem cxsl9Dec (N : Nat) : CtxOk Tryd.prog (Xsl9Dec N) := ⟨⟨TE_ok, fun k hk => absurd hk List.not_mem_nil⟩, mixed⟩
theorem lpsl9Dec_0 (N : Nat) : LoopOk Tryd.prog { hd := dsl9Dec_0, outs := osl9Dec_0, run := fun v => lsl9Dec_0 N N v } bsl9Dec_0 :=
  loop_fuel (d := dsl9Dec_0) (os := osl9Dec_0) (cxsl9Dec N) (loops_at (ids := []) (by kernel_rfl) (trivial)) (lsl9Dec_0 N) (fun _ => rfl) (fun n v => lsl9Dec_0_eq N n v) (fun _ => N)
theorem specsl9Dec (N : Nat) : Spec Tryd.prog (consl9Dec N) :=
  Spec.of_eq (fn_spec (cxsl9Dec N) (f := 59) (fn := Tryd.f59) (c := codeOf Tryd.f59) (by kernel_rfl) (by kernel_rfl) (by kernel_rfl) (loops_at (ids := [0]) (by kernel_rfl) ⟨lp_of (lpsl9Dec_0 N), trivial⟩) (by kernel_rfl)) (fun x r h => (Fsl9Dec_eq N x).trans h)

/-! ### 30: spec.OpText -/

noncomputable def dinsOpText : Desc := { n := 1, regs := [.one (.val (.pair (.int .i64) (.pair (.int .i64) (.pair (.int .i64) (.pair (.int .i64) (.pair (.int .i64) (.pair (.int .i64) (.pair (.pair (.int .i64) (.pair (.int .i64) .unit)) .unit))))))))], bx := [], pins := [] }
noncomputable def outsOpText : Outs := [(.ret, { n := 1, regs := [.one (.val .str)], bx := [], pins := [] })]
noncomputable def HsOpText : Hints := [(0, [(0, { fz := true })]),
  (3, [(2, { con := 1 })]),
  (4, [(1, { con := 2 })]),
  (10, [(6, { con := 3 })])]
noncomputable def EsOpText (N : Nat) : Env := { te := TE, cs := [consOpOk N, consl11Word N, consl11Nums N, consl9Dec N] }
noncomputable def dsOpText_0 : Desc := { n := 41, regs := [u, u, u, .one (.val .str), .one (.lit (.row 1051265)), .one (.val (.int .i64))], bx := [(1051265, .row (.int .i64))], pins := [] }
noncomputable def osOpText_0 : Outs := [(.exit 0, { n := 41, regs := [u, u, u, .one (.val .str)], bx := [], pins := [] }), (.ret, { n := 41, regs := [u, u, .one (.val .str)], bx := [], pins := [] })]
noncomputable def jsOpText_10 : Outs := [(.normal, { n := 41, regs := [u, u, u, .one (.val .str), .one (.lit (.row 1051265)), .one (.val (.int .i64))], bx := [(1051265, .row (.int .i64))], pins := [] }), (.ret, { n := 41, regs := [u, u, .one (.val .str)], bx := [], pins := [] })]
noncomputable def lsOpText_0 (N : Nat) : Nat → (ByteArray × (Int × ((List Int) × Unit))) → Option ((ByteArray × Unit) ⊕ (ByteArray × Unit))
  | 0, _ => none
  | n + 1, v =>
    let y4 := decide (v.2.1 < (v.2.2.1.length : Int))
    bif y4 then
     Option.bind (
      bif decide (0 ≤ v.2.1) then
      bif decide (v.2.1.toNat < v.2.2.1.length) then
      let y5 := decide ((v.2.2.1.getD v.2.1.toNat (0 : Int)) < (-999999999 : Int))
      bif y5 then
       some (.inr (((ByteArray.mk #[]), ())))
      else
      bif decide (0 ≤ v.2.1) then
      bif decide (v.2.1.toNat < v.2.2.1.length) then
      let y6 := decide ((v.2.2.1.getD v.2.1.toNat (0 : Int)) > (999999999 : Int))
      bif y6 then
       some (.inr (((ByteArray.mk #[]), ())))
      else
      some (.inl (v.1, v.2.1, v.2.2.1, ()))
      else none
      else none
      else none
      else none) fun o7 =>
     Sum.elim (fun o8 =>
      bif decide (o8.1.size + (ByteArray.mk #[32]).size ≤ lim) then
      bif decide (0 ≤ o8.2.1) then
      bif decide (o8.2.1.toNat < o8.2.2.1.length) then
      (Fsl9Dec N (o8.2.2.1.getD o8.2.1.toNat (0 : Int), ())).bind fun r9 =>
      bif decide ((o8.1 ++ (ByteArray.mk #[32])).size + r9.1.size ≤ lim) then
      let y10 := (o8.1 ++ (ByteArray.mk #[32])) ++ r9.1
      lsOpText_0 N n (y10, w64 (o8.2.1 + (1 : Int)), o8.2.2.1, ())
      else none
      else none
      else none
      else none) (fun o11 =>
      some (.inr ((o11.1, ())))) o7
    else
    some (.inl (v.1, ()))
noncomputable def FsOpText (N : Nat) (x : ((Int × (Int × (Int × (Int × (Int × (Int × ((Int × (Int × Unit)) × Unit))))))) × Unit)) : Option (ByteArray × Unit) :=
  (FsOpOk N (x.1, ())).bind fun r1 =>
  bif !r1.1 then
   some ((ByteArray.mk #[]), ())
  else
  (Fsl11Word N (x.1.1, ())).bind fun r2 =>
  (Fsl11Nums N (x.1, ())).bind fun r3 =>
  (lsOpText_0 N N (r2.1, (0 : Int), r3.1, ())).bind fun o12 =>
  Sum.elim (fun o13 =>
   some (o13.1, ())) (fun o14 =>
   some (o14.1, ())) o12
noncomputable def consOpText (N : Nat) : Con := { f := 30, din := dinsOpText, outs := outsOpText, F := FsOpText N }
noncomputable def XsOpText (N : Nat) : Ctx := { E := EsOpText N, H := HsOpText, lp := [(0, { hd := dsOpText_0, outs := osOpText_0, run := fun v => lsOpText_0 N N v })], jn := [(10, jsOpText_10)] }
noncomputable def bsOpText_0 : Code := loopBody (codeOf Tryd.f30) 0
theorem FsOpText_eq (N : Nat) (x : ((Int × (Int × (Int × (Int × (Int × (Int × ((Int × (Int × Unit)) × Unit))))))) × Unit)) : evFn (XsOpText N) Tryd.f30 dinsOpText outsOpText x = FsOpText N x := by kernel_rfl
theorem lsOpText_0_eq (N n : Nat) (v : (ByteArray × (Int × ((List Int) × Unit)))) : lsOpText_0 N (n + 1) v = ev (XsOpText N) bsOpText_0 (roundK dsOpText_0 osOpText_0 (lsOpText_0 N n)) (dsOpText_0.mk' v) := by kernel_rfl
theorem cxsOpText (N : Nat) : CtxOk Tryd.prog (XsOpText N) := ⟨⟨TE_ok, List.forall_mem_cons.2 ⟨(specsOpOk N), List.forall_mem_cons.2 ⟨(specsl11Word N), List.forall_mem_cons.2 ⟨(specsl11Nums N), List.forall_mem_cons.2 ⟨(specsl9Dec N), fun k hk => absurd hk List.not_mem_nil⟩⟩⟩⟩⟩, mixed⟩
theorem lpsOpText_0 (N : Nat) : LoopOk Tryd.prog { hd := dsOpText_0, outs := osOpText_0, run := fun v => lsOpText_0 N N v } bsOpText_0 :=
  loop_fuel (d := dsOpText_0) (os := osOpText_0) (cxsOpText N) (loops_at (ids := []) (by kernel_rfl) (trivial)) (lsOpText_0 N) (fun _ => rfl) (fun n v => lsOpText_0_eq N n v) (fun _ => N)
theorem specsOpText (N : Nat) : Spec Tryd.prog (consOpText N) :=
  Spec.of_eq (fn_spec (cxsOpText N) (f := 30) (fn := Tryd.f30) (c := codeOf Tryd.f30) (by kernel_rfl) (by kernel_rfl) (by kernel_rfl) (loops_at (ids := [0]) (by kernel_rfl) ⟨lp_of (lpsOpText_0 N), trivial⟩) (by kernel_rfl)) (fun x r h => (FsOpText_eq N x).trans h)

/-! ### 10: spec.ProgText -/

noncomputable def dinsProgText : Desc := { n := 1, regs := [.one (.val (.sl (.pair (.int .i64) (.pair (.int .i64) (.pair (.int .i64) (.pair (.int .i64) (.pair (.int .i64) (.pair (.int .i64) (.pair (.pair (.int .i64) (.pair (.int .i64) .unit)) .unit)))))))))], bx := [], pins := [] }
noncomputable def outsProgText : Outs := [(.ret, { n := 1, regs := [.one (.val .str)], bx := [], pins := [] })]
noncomputable def HsProgText : Hints := []
noncomputable def EsProgText (N : Nat) : Env := { te := TE, cs := [consOpText N] }
noncomputable def dsProgText_0 : Desc := { n := 27, regs := [.one (.val (.sl (.pair (.int .i64) (.pair (.int .i64) (.pair (.int .i64) (.pair (.int .i64) (.pair (.int .i64) (.pair (.int .i64) (.pair (.pair (.int .i64) (.pair (.int .i64) .unit)) .unit))))))))), u, u, .one (.val .str), .one (.val (.int .i64))], bx := [], pins := [] }
noncomputable def osProgText_0 : Outs := [(.exit 0, { n := 27, regs := [u, u, u, .one (.val .str)], bx := [], pins := [] }), (.ret, { n := 27, regs := [u, u, .one (.val .str)], bx := [], pins := [] })]
noncomputable def lsProgText_0 (N : Nat) : Nat → ((List (Int × (Int × (Int × (Int × (Int × (Int × ((Int × (Int × Unit)) × Unit)))))))) × (ByteArray × (Int × Unit))) → Option ((ByteArray × Unit) ⊕ (ByteArray × Unit))
  | 0, _ => none
  | n + 1, v =>
    let y2 := decide (v.2.2.1 < (v.1.length : Int))
    bif y2 then
     bif decide (0 ≤ v.2.2.1) then
     bif decide (v.2.2.1.toNat < v.1.length) then
     let y3 := v.1.getD v.2.2.1.toNat ((0 : Int), (0 : Int), (0 : Int), (0 : Int), (0 : Int), (0 : Int), ((0 : Int), (0 : Int), ()), ())
     (FsOpText N (y3, ())).bind fun r4 =>
     let y5 := r4.1.toList == (ByteArray.mk #[]).toList
     bif y5 then
      some (.inr (((ByteArray.mk #[]), ())))
     else
     bif decide (v.2.1.size + r4.1.size ≤ lim) then
     bif decide ((v.2.1 ++ r4.1).size + (ByteArray.mk #[10]).size ≤ lim) then
     let y6 := (v.2.1 ++ r4.1) ++ (ByteArray.mk #[10])
     lsProgText_0 N n (v.1, y6, w64 (v.2.2.1 + (1 : Int)), ())
     else none
     else none
     else none
     else none
    else
    some (.inl (v.2.1, ()))
noncomputable def FsProgText (N : Nat) (x : ((List (Int × (Int × (Int × (Int × (Int × (Int × ((Int × (Int × Unit)) × Unit)))))))) × Unit)) : Option (ByteArray × Unit) :=
  let y1 := decide ((x.1.length : Int) > (40 : Int))
  bif y1 then
   some ((ByteArray.mk #[]), ())
  else
  (lsProgText_0 N N (x.1, (ByteArray.mk #[]), (0 : Int), ())).bind fun o7 =>
  Sum.elim (fun o8 =>
   some (o8.1, ())) (fun o9 =>
   some (o9.1, ())) o7
noncomputable def consProgText (N : Nat) : Con := { f := 10, din := dinsProgText, outs := outsProgText, F := FsProgText N }
noncomputable def XsProgText (N : Nat) : Ctx := { E := EsProgText N, H := HsProgText, lp := [(0, { hd := dsProgText_0, outs := osProgText_0, run := fun v => lsProgText_0 N N v })], jn := [] }
noncomputable def bsProgText_0 : Code := loopBody (codeOf Tryd.f10) 0
theorem FsProgText_eq (N : Nat) (x : ((List (Int × (Int × (Int × (Int × (Int × (Int × ((Int × (Int × Unit)) × Unit)))))))) × Unit)) : evFn (XsProgText N) Tryd.f10 dinsProgText outsProgText x = FsProgText N x := by kernel_rfl
theorem lsProgText_0_eq (N n : Nat) (v : ((List (Int × (Int × (Int × (Int × (Int × (Int × ((Int × (Int × Unit)) × Unit)))))))) × (ByteArray × (Int × Unit)))) : lsProgText_0 N (n + 1) v = ev (XsProgText N) bsProgText_0 (roundK dsProgText_0 osProgText_0 (lsProgText_0 N n)) (dsProgText_0.mk' v) := by kernel_rfl
theorem cxsProgText (N : Nat) : CtxOk Tryd.prog (XsProgText N) := ⟨⟨TE_ok, List.forall_mem_cons.2 ⟨(specsOpText N), fun k hk => absurd hk List.not_mem_nil⟩⟩, mixed⟩
theorem lpsProgText_0 (N : Nat) : LoopOk Tryd.prog { hd := dsProgText_0, outs := osProgText_0, run := fun v => lsProgText_0 N N v } bsProgText_0 :=
  loop_fuel (d := dsProgText_0) (os := osProgText_0) (cxsProgText N) (loops_at (ids := []) (by kernel_rfl) (trivial)) (lsProgText_0 N) (fun _ => rfl) (fun n v => lsProgText_0_eq N n v) (fun _ => N)
theorem specsProgText (N : Nat) : Spec Tryd.prog (consProgText N) :=
  Spec.of_eq (fn_spec (cxsProgText N) (f := 10) (fn := Tryd.f10) (c := codeOf Tryd.f10) (by kernel_rfl) (by kernel_rfl) (by kernel_rfl) (loops_at (ids := [0]) (by kernel_rfl) ⟨lp_of (lpsProgText_0 N), trivial⟩) (by kernel_rfl)) (fun x r h => (FsProgText_eq N x).trans h)

/-! ### 4: laws.FnProgJoin -/

noncomputable def dinvFnProgJoin : Desc := { n := 2, regs := [.one (.val (.sl (.int .u8))), .one (.val (.sl (.int .u8)))], bx := [], pins := [] }
noncomputable def outvFnProgJoin : Outs := [(.ret, { n := 1, regs := [.one (.val .bool)], bx := [], pins := [] })]
noncomputable def HvFnProgJoin : Hints := [(5, [(1, { con := 1 })]),
  (6, [(1, { con := 1 })]),
  (7, [(2, { con := 2 }), (7, { con := 2 })]),
  (11, [(5, { con := 1 })]),
  (12, [(1, { con := 1 })])]
noncomputable def EvFnProgJoin (N : Nat) : Env := { te := TE, cs := [consDrawProgText N, conhProgText N, consProgText N] }
noncomputable def jvFnProgJoin_3 : Outs := [(.normal, { n := 76, regs := [.one (.val (.sl (.int .u8))), .one (.val (.sl (.int .u8)))], bx := [], pins := [] }), (.ret, { n := 76, regs := [u, u, u, u, .one (.val .bool)], bx := [], pins := [] })]
noncomputable def jvFnProgJoin_9 : Outs := [(.normal, { n := 76, regs := [u, u, u, u, u, .one (.lit (.row 1038465)), .one (.lit (.row 1051265)), .one (.val .str), .one (.val .str)], bx := [(1038465, .row (.pair (.int .i64) (.pair (.int .i64) (.pair (.int .i64) (.pair (.int .i64) (.pair (.int .i64) (.pair (.int .i64) (.pair (.pair (.int .i64) (.pair (.int .i64) .unit)) .unit)))))))), (1051265, .row (.pair (.int .i64) (.pair (.int .i64) (.pair (.int .i64) (.pair (.int .i64) (.pair (.int .i64) (.pair (.int .i64) (.pair (.pair (.int .i64) (.pair (.int .i64) .unit)) .unit))))))))], pins := [] }), (.ret, { n := 76, regs := [u, u, u, u, .one (.val .bool)], bx := [], pins := [] })]
noncomputable def jvFnProgJoin_12 : Outs := [(.normal, { n := 76, regs := [u, u, u, u, u, u, u, .one (.val .str), .one (.val .str), .one (.lit (.row 1115200))], bx := [(1115200, .row (.pair (.int .i64) (.pair (.int .i64) (.pair (.int .i64) (.pair (.int .i64) (.pair (.int .i64) (.pair (.int .i64) (.pair (.pair (.int .i64) (.pair (.int .i64) .unit)) .unit))))))))], pins := [] }), (.ret, { n := 76, regs := [u, u, u, u, .one (.val .bool)], bx := [], pins := [] })]
noncomputable def FvFnProgJoin (N : Nat) (x : ((List Int) × ((List Int) × Unit))) : Option (Bool × Unit) :=
  Option.bind (
   let y1 := decide ((x.1.length : Int) > (1048576 : Int))
   bif y1 then
    some (.inr ((true, ())))
   else
   let y2 := decide ((x.2.1.length : Int) > (1048576 : Int))
   bif y2 then
    some (.inr ((true, ())))
   else
   some (.inl (x.1, x.2.1, ()))) fun o3 =>
  Sum.elim (fun o4 =>
   (FsDrawProgText N (o4.1, ())).bind fun r5 =>
   (FsDrawProgText N (o4.2.1, ())).bind fun r6 =>
   (FhProgText N (r5.1, ())).bind fun r7 =>
   (FhProgText N (r6.1, ())).bind fun r8 =>
   Option.bind (
    (FsProgText N (r5.1, ())).bind fun r9 =>
    bif !(r7.1.toList == r9.1.toList) then
     some (.inr ((false, ())))
    else
    (FsProgText N (r6.1, ())).bind fun r10 =>
    bif !(r8.1.toList == r10.1.toList) then
     some (.inr ((false, ())))
    else
    some (.inl (r7.1, r8.1, r5.1, r6.1, ()))) fun o11 =>
   Sum.elim (fun o12 =>
    let y13 := ([] : (List (Int × (Int × (Int × (Int × (Int × (Int × ((Int × (Int × Unit)) × Unit)))))))))
    bif decide (y13.length + o12.2.2.1.length ≤ lim) then
    bif decide ((y13 ++ o12.2.2.1).length + o12.2.2.2.1.length ≤ lim) then
    Option.bind (
     let y14 := (((y13 ++ o12.2.2.1) ++ o12.2.2.2.1).length : Int)
     bif decide (y14 > (40 : Int)) then
      let y15 := (((y13 ++ o12.2.2.1) ++ o12.2.2.2.1).length : Int)
      bif decide (y15 ≤ (40 : Int)) then
       some (.inr ((true, ())))
      else
      (FhProgText N ((y13 ++ o12.2.2.1) ++ o12.2.2.2.1, ())).bind fun r16 =>
      let y17 := r16.1.toList == (ByteArray.mk #[]).toList
      some (.inr ((y17, ())))
     else
     let y18 := o12.1.toList == (ByteArray.mk #[]).toList
     bif y18 then
      let y19 := decide ((o12.2.2.1.length : Int) > (0 : Int))
      bif y19 then
       let y20 := (((y13 ++ o12.2.2.1) ++ o12.2.2.2.1).length : Int)
       bif decide (y20 ≤ (40 : Int)) then
        some (.inr ((true, ())))
       else
       (FhProgText N ((y13 ++ o12.2.2.1) ++ o12.2.2.2.1, ())).bind fun r21 =>
       let y22 := r21.1.toList == (ByteArray.mk #[]).toList
       some (.inr ((y22, ())))
      else
      let y23 := o12.2.1.toList == (ByteArray.mk #[]).toList
      bif y23 then
       let y24 := decide ((o12.2.2.2.1.length : Int) > (0 : Int))
       bif y24 then
        let y25 := (((y13 ++ o12.2.2.1) ++ o12.2.2.2.1).length : Int)
        bif decide (y25 ≤ (40 : Int)) then
         some (.inr ((true, ())))
        else
        (FhProgText N ((y13 ++ o12.2.2.1) ++ o12.2.2.2.1, ())).bind fun r26 =>
        let y27 := r26.1.toList == (ByteArray.mk #[]).toList
        some (.inr ((y27, ())))
       else
       some (.inl (o12.1, o12.2.1, (y13 ++ o12.2.2.1) ++ o12.2.2.2.1, ()))
      else
      some (.inl (o12.1, o12.2.1, (y13 ++ o12.2.2.1) ++ o12.2.2.2.1, ()))
     else
     let y28 := o12.2.1.toList == (ByteArray.mk #[]).toList
     bif y28 then
      let y29 := decide ((o12.2.2.2.1.length : Int) > (0 : Int))
      bif y29 then
       let y30 := (((y13 ++ o12.2.2.1) ++ o12.2.2.2.1).length : Int)
       bif decide (y30 ≤ (40 : Int)) then
        some (.inr ((true, ())))
       else
       (FhProgText N ((y13 ++ o12.2.2.1) ++ o12.2.2.2.1, ())).bind fun r31 =>
       let y32 := r31.1.toList == (ByteArray.mk #[]).toList
       some (.inr ((y32, ())))
      else
      some (.inl (o12.1, o12.2.1, (y13 ++ o12.2.2.1) ++ o12.2.2.2.1, ()))
     else
     some (.inl (o12.1, o12.2.1, (y13 ++ o12.2.2.1) ++ o12.2.2.2.1, ()))) fun o33 =>
    Sum.elim (fun o34 =>
     (FhProgText N (o34.2.2.1, ())).bind fun r35 =>
     bif decide (o34.1.size + o34.2.1.size ≤ lim) then
     let y36 := r35.1.toList == (o34.1 ++ o34.2.1).toList
     some (y36, ())
     else none) (fun o37 =>
     some (o37.1, ())) o33
    else none
    else none) (fun o38 =>
    some (o38.1, ())) o11) (fun o39 =>
   some (o39.1, ())) o3
noncomputable def convFnProgJoin (N : Nat) : Con := { f := 4, din := dinvFnProgJoin, outs := outvFnProgJoin, F := FvFnProgJoin N }
noncomputable def XvFnProgJoin (N : Nat) : Ctx := { E := EvFnProgJoin N, H := HvFnProgJoin, lp := [], jn := [(3, jvFnProgJoin_3), (9, jvFnProgJoin_9), (12, jvFnProgJoin_12)] }
theorem FvFnProgJoin_eq (N : Nat) (x : ((List Int) × ((List Int) × Unit))) : evFn (XvFnProgJoin N) Tryd.f4 dinvFnProgJoin outvFnProgJoin x = FvFnProgJoin N x := by kernel_rfl
theorem cxvFnProgJoin (N : Nat) : CtxOk Tryd.prog (XvFnProgJoin N) := ⟨⟨TE_ok, List.forall_mem_cons.2 ⟨(specsDrawProgText N), List.forall_mem_cons.2 ⟨(spechProgText N), List.forall_mem_cons.2 ⟨(specsProgText N), fun k hk => absurd hk List.not_mem_nil⟩⟩⟩⟩, mixed⟩
theorem specvFnProgJoin (N : Nat) : Spec Tryd.prog (convFnProgJoin N) :=
  Spec.of_eq (fn_spec (cxvFnProgJoin N) (f := 4) (fn := Tryd.f4) (c := codeOf Tryd.f4) (by kernel_rfl) (by kernel_rfl) (by kernel_rfl) (loops_at (ids := []) (by kernel_rfl) (trivial)) (by kernel_rfl)) (fun x r h => (FvFnProgJoin_eq N x).trans h)

end Go.Fl
set_option linter.all false
set_option maxRecDepth 10000
namespace Go.Fl
open Go

/-- A law's inputs are at most so large. -/
abbrev sm (n : Nat) : Prop := n ≤ 1048576

abbrev Nd := List Int × List Int × Unit

abbrev Gr := List Nd × List (List Int) × List Int × Unit

def smN (x : Nd) : Prop := sm x.1.length ∧ sm x.2.1.length

def smG (g : Gr) : Prop := sm g.1.length ∧ (∀ x ∈ g.1, smN x) ∧ sm g.2.1.length ∧ (∀ x ∈ g.2.1, sm x.length) ∧ sm g.2.2.1.length

abbrev ml (n : Nat) : Prop := n ≤ 9223372036854775807

def mlN (x : Nd) : Prop := ml x.1.length ∧ ml x.2.1.length

def mlG (g : Gr) : Prop := ml g.1.length ∧ (∀ x ∈ g.1, mlN x) ∧ ml g.2.1.length ∧ (∀ x ∈ g.2.1, ml x.length) ∧ ml g.2.2.1.length

/-- A loop that tells what is left, or stops. -/
theorem size_loop {α : Type} {xs : List α} (P : α → Prop) {L : Nat → Nat → Int → Option ((Int × Unit) ⊕ (Int × Unit))} (hl : xs.length ≤ lim)
    (h1 : ∀ n i (h : i < xs.length) (left : Int), 0 ≤ left → left ≤ 1048576 → w64 ((i : Int) + 1) = ((i + 1 : Nat) : Int) →
      L (n + 1) i left = some (.inr (-1, ())) ∨ ∃ r, 0 ≤ r ∧ r ≤ left ∧ P xs[i] ∧ L (n + 1) i left = L n (i + 1) r)
    (h3 : ∀ n left, L (n + 1) xs.length left = some (.inl (left, ()))) {n : Nat} (hn : xs.length < n) {left : Int} (h0 : 0 ≤ left) (h1' : left ≤ 1048576) :
    L n 0 left = some (.inr (-1, ())) ∨ ∃ r, 0 ≤ r ∧ r ≤ left ∧ (∀ x ∈ xs, P x) ∧ L n 0 left = some (.inl (r, ())) := by
  have key : ∀ n i left, 0 ≤ left → left ≤ 1048576 → i ≤ xs.length → xs.length - i < n → L n i left = some (.inr (-1, ())) ∨ ∃ r, 0 ≤ r ∧ r ≤ left ∧ (∀ x ∈ xs.drop i, P x) ∧ L n i left = some (.inl (r, ())) := by
    intro n
    induction n with
    | zero => intro i left _ _ _ h; exact absurd h (Nat.not_lt_zero _)
    | succ n ih =>
      intro i left h0 h2 hi hn
      by_cases h : i < xs.length
      · rcases h1 n i h left h0 h2 (w64_succ (by have : lim = 2147483648 := rfl; omega)) with h4 | ⟨r, h4, h5, h6, h7⟩
        · exact .inl h4
        · rw [h7]
          rcases ih (i + 1) r h4 (by omega) (by omega) (by omega) with h8 | ⟨q, h8, h9, h10, h11⟩
          · exact .inl h8
          · refine .inr ⟨q, h8, by omega, ?_, h11⟩
            rw [drop_at h]
            exact List.forall_mem_cons.2 ⟨h6, h10⟩
      · have : i = xs.length := by omega
        subst this
        exact .inr ⟨left, h0, Int.le_refl _, by simp, h3 _ _⟩
  simpa using key n 0 left h0 h1' (by omega) (by omega)

theorem sm_lim {n : Nat} (h : sm n) : n ≤ lim := by simp only [sm] at h; rw [lim_eq]; omega


def okSh (r n : Int) : Bool := decide (0 ≤ r) && decide (r ≤ 4) && decide (0 ≤ n) && decide (n ≤ 4)
def okOp (o : OpD) : Bool := decide (1 ≤ o.1) && decide (o.1 ≤ 11) && (decide (o.1 ≠ 1) || okSh o.2.2.2.2.2.2.1.1 o.2.2.2.2.2.2.1.2.1)
section
variable {N : Nat}
theorem ShapeOk_gen {F : Int × Int × Unit → Option (Bool × Unit)} (hF : F = fun x => bif decide (x.1 ≥ 0) then bif decide (x.1 ≤ 4) then bif decide (x.2.1 ≥ 0) then some (decide (x.2.1 ≤ 4), ()) else some (false, ()) else some (false, ()) else some (false, ())) (r n : Int) : F (r, n, ()) = some (okSh r n, ()) := by
  subst hF
  unfold okSh
  by_cases h1 : 0 ≤ r
  · have : r ≥ 0 := h1
    by_cases h2 : r ≤ 4
    · by_cases h3 : 0 ≤ n
      · have h3' : n ≥ 0 := h3
        simp only [this, h1, h2, h3, h3', decide_true, cond_true, Bool.true_and]
      · have h3' : ¬ n ≥ 0 := h3
        simp only [this, h1, h2, h3, h3', decide_true, decide_false, cond_true, cond_false, Bool.true_and, Bool.false_and]
    · simp only [this, h1, h2, decide_true, decide_false, cond_true, cond_false, Bool.true_and, Bool.false_and]
  · have : ¬ r ≥ 0 := h1
    simp only [this, h1, decide_false, cond_false, Bool.false_and]
theorem sShape_ok2 (r n : Int) : FsShapeOk N ((r, n, ()), ()) = some (okSh r n, ()) := ShapeOk_gen (F := fun x => FsShapeOk N (x, ())) rfl r n
theorem OpOk_gen {F : OpD → Option (Bool × Unit)} {G : Int × Int × Unit → Option (Bool × Unit)} (hG : ∀ r n, G (r, n, ()) = some (okSh r n, ())) (hF : F = fun x => bif decide (x.1 ≥ 1) then bif decide (x.1 ≤ 11) then bif x.1 != 1 then some (true, ()) else (G x.2.2.2.2.2.2.1).bind fun r1 => some (r1.1, ()) else some (false, ()) else some (false, ())) (o : OpD) : F o = some (okOp o, ()) := by
  subst hF
  obtain ⟨a0, a1, a2, a3, a4, a5, ⟨a6, a7, ⟨⟩⟩, ⟨⟩⟩ := o
  unfold okOp
  have hg := hG a6 a7
  by_cases h1 : 1 ≤ a0
  · have : a0 ≥ 1 := h1
    by_cases h2 : a0 ≤ 11
    · by_cases h3 : a0 = 1
      · have hb : (a0 != 1) = false := by simp [h3]
        simp only [this, h1, h2, hb, h3, hg, decide_true, cond_true, cond_false, Bool.true_and, Option.bind_some, ne_eq, not_true_eq_false, decide_false, Bool.false_or, Int.reduceLE]
        rfl
      · have hb : (a0 != 1) = true := by simp [h3]
        simp only [this, h1, h2, hb, h3, decide_true, cond_true, Bool.true_and, ne_eq, not_false_eq_true, Bool.true_or]
    · simp only [this, h1, h2, decide_true, decide_false, cond_true, cond_false, Bool.true_and, Bool.false_and]
  · have : ¬ a0 ≥ 1 := h1
    simp only [this, h1, decide_false, cond_false, Bool.false_and]
theorem sOpOk_ok2 (o : OpD) : FsOpOk N (o, ()) = some (okOp o, ()) := OpOk_gen (F := fun x => FsOpOk N (x, ())) (G := fun x => FsShapeOk N (x, ())) sShape_ok2 rfl o
theorem qShape_ok2 (r n : Int) : FqShapeOk N ((r, n, ()), ()) = some (okSh r n, ()) := ShapeOk_gen (F := fun x => FqShapeOk N (x, ())) rfl r n
theorem qOpOk_ok2 (o : OpD) : FqOpOk N (o, ()) = some (okOp o, ()) := OpOk_gen (F := fun x => FqOpOk N (x, ())) (G := fun x => FqShapeOk N (x, ())) qShape_ok2 rfl o
end

/-- A string's bytes, and back. -/
def bl (s : ByteArray) : List UInt8 := s.data.toList
def lb (l : List UInt8) : ByteArray := ⟨l.toArray⟩
theorem bl_lb (l : List UInt8) : bl (lb l) = l := rfl
theorem lb_bl (s : ByteArray) : lb (bl s) = s := by cases s; simp [lb, bl]
theorem bl_inj {a b : ByteArray} (h : bl a = bl b) : a = b := by rw [← lb_bl a, ← lb_bl b, h]
theorem bl_len (s : ByteArray) : (bl s).length = s.size := Array.length_toList
theorem lb_size (l : List UInt8) : (lb l).size = l.length := List.size_toArray
theorem bl_toList (s : ByteArray) : s.toList = bl s := ByteArray.toList_eq s
theorem bl_append (a b : ByteArray) : bl (a ++ b) = bl a ++ bl b := by simp [bl]
theorem lb_append (a b : List UInt8) : lb a ++ lb b = lb (a ++ b) := bl_inj (by rw [bl_append]; rfl)
theorem bl_getD (s : ByteArray) (i : Nat) : s.data.getD i 0 = (bl s).getD i 0 := by simp [bl, Array.getD_eq_getD_getElem?, List.getD_eq_getElem?_getD]
theorem bl_extract (s : ByteArray) (i j : Nat) : bl (s.extract i j) = ((bl s).drop i).take (j - i) := by
  simp [bl, ByteArray.data_extract, Array.toList_extract, List.extract_eq_take_drop]
theorem ba_beq {a b : ByteArray} : (a.toList == b.toList) = decide (bl a = bl b) := by
  rw [bl_toList, bl_toList]
  by_cases h : bl a = bl b
  · simp [h]
  · rw [beq_eq_false_iff_ne.2 h]; simp [h]
theorem lb_nil : lb [] = ByteArray.empty := rfl

/-- Cut at a byte. -/
def spl (c : UInt8) : List UInt8 → List (List UInt8)
  | [] => [[]]
  | b :: l => if b = c then [] :: spl c l else (b :: (spl c l).headD []) :: (spl c l).tail
theorem spl_ne (c : UInt8) (l : List UInt8) : spl c l ≠ [] := by
  cases l with
  | nil => simp [spl]
  | cons b l => unfold spl; split <;> simp
theorem spl_cons (c : UInt8) (l : List UInt8) : spl c l = (spl c l).headD [] :: (spl c l).tail := by
  cases h : spl c l with
  | nil => exact absurd h (spl_ne c l)
  | cons x r => rfl
theorem spl_word {c : UInt8} : ∀ {x : List UInt8}, c ∉ x → spl c x = [x]
  | [], _ => rfl
  | b :: x, h => by
    have h1 : b ≠ c := fun e => h (by simp [e])
    have h2 : c ∉ x := fun e => h (by simp [e])
    unfold spl
    rw [if_neg h1, spl_word h2]
    rfl
theorem spl_sep {c : UInt8} : ∀ {x : List UInt8} (l : List UInt8), c ∉ x → spl c (x ++ c :: l) = x :: spl c l
  | [], l, _ => by simp [spl]
  | b :: x, l, h => by
    have h1 : b ≠ c := fun e => h (by simp [e])
    have h2 : c ∉ x := fun e => h (by simp [e])
    rw [List.cons_append, spl, if_neg h1, spl_sep l h2]
    rfl
theorem spl_free {c : UInt8} : ∀ (l : List UInt8), ∀ x ∈ spl c l, c ∉ x
  | [], x, h => by simp [spl] at h; simp [h]
  | b :: l, x, h => by
    have ih := spl_free (c := c) l
    unfold spl at h
    split at h
    · rcases List.mem_cons.1 h with rfl | h
      · simp
      · exact ih x h
    · rename_i hb
      rw [spl_cons] at ih
      rcases List.mem_cons.1 h with rfl | h
      · intro hc
        rcases List.mem_cons.1 hc with e | e
        · exact hb e.symm
        · exact ih _ List.mem_cons_self e
      · exact ih x (List.mem_cons_of_mem _ h)
theorem mem_split (c : UInt8) : ∀ l : List UInt8, c ∈ l → ∃ a b, l = a ++ c :: b ∧ c ∉ a
  | [], h => by simp at h
  | x :: l, h => by
    by_cases hx : x = c
    · exact ⟨[], l, by simp [hx], by simp⟩
    · obtain ⟨a, b, e, ha⟩ := mem_split c l ((List.mem_cons.1 h).resolve_left (Ne.symm hx))
      exact ⟨x :: a, b, by rw [e]; rfl, by simp [ha, Ne.symm hx]⟩
theorem spl_split (c : UInt8) (l : List UInt8) : (c ∉ l ∧ spl c l = [l]) ∨ ∃ a b, l = a ++ c :: b ∧ c ∉ a ∧ spl c l = a :: spl c b := by
  by_cases h : c ∈ l
  · obtain ⟨a, b, e, ha⟩ := mem_split c l h
    exact .inr ⟨a, b, e, ha, by rw [e, spl_sep b ha]⟩
  · exact .inl ⟨h, spl_word h⟩

theorem spl_len (c : UInt8) : ∀ l : List UInt8, (spl c l).length ≤ l.length + 1
  | [] => by simp [spl]
  | b :: l => by
    have := spl_len c l
    unfold spl
    split
    · simp; omega
    · simp
      have h := spl_cons c l
      rw [h] at this
      simp at this; omega
theorem spl_each (c : UInt8) : ∀ l : List UInt8, ∀ x ∈ spl c l, x.length ≤ l.length
  | [], x, h => by simp [spl] at h; simp [h]
  | b :: l, x, h => by
    have ih := spl_each c l
    unfold spl at h
    split at h
    · rcases List.mem_cons.1 h with rfl | h
      · simp
      · have := ih x h; simp; omega
    · rw [spl_cons] at ih
      rcases List.mem_cons.1 h with rfl | h
      · have := ih _ List.mem_cons_self; simp; simpa using this
      · have := ih x (List.mem_cons_of_mem _ h); simp; omega
theorem join_cons2 (c : UInt8) (x y : List UInt8) (r : List (List UInt8)) : Lib.join (x :: y :: r) [c] = x ++ c :: Lib.join (y :: r) [c] := by
  rw [Lib.join_cons, Lib.join_cons]
  simp [Lib.joinTail]
theorem spl_join {c : UInt8} : ∀ {xs : List (List UInt8)}, xs ≠ [] → (∀ x ∈ xs, c ∉ x) → spl c (Lib.join xs [c]) = xs
  | [], h, _ => absurd rfl h
  | [x], _, h => by rw [Lib.join_one, spl_word (h x (by simp))]
  | x :: y :: r, _, h => by rw [join_cons2, spl_sep _ (h x (by simp)), spl_join (by simp) fun z hz => h z (List.mem_cons_of_mem _ hz)]
theorem join_spl (c : UInt8) : ∀ l : List UInt8, Lib.join (spl c l) [c] = l
  | [] => by simp [spl, Lib.join_one]
  | b :: l => by
    have ih := join_spl c l
    unfold spl
    rw [spl_cons] at ih ⊢
    split
    · rename_i h; rw [join_cons2, ih, h]; rfl
    · simp only [List.headD_cons, List.tail_cons]
      cases ht : (spl c l).tail with
      | nil => rw [ht, Lib.join_one] at ih; rw [Lib.join_one, ih]
      | cons y r => rw [ht, join_cons2] at ih; rw [join_cons2]; exact congrArg (List.cons b) ih

theorem splitK_spl (c : UInt8) : ∀ s : List UInt8, Lib.splitK [c] 0 (s.count c) s = spl c s
  | [] => rfl
  | b :: l => by
    have ih := splitK_spl c l
    by_cases hb : b = c
    · subst hb
      have hix : Lib.index (b :: l) [b] = 0 := by rw [Lib.index]; simp [List.isPrefixOf]
      rw [List.count_cons_self, Lib.splitK, hix, spl, if_pos rfl, if_neg (by decide)]
      simpa using ih
    · have hp : ([c] : List UInt8).isPrefixOf (b :: l) = false := by simp [List.isPrefixOf, Ne.symm hb]
      have hix : Lib.index (b :: l) [c] = if Lib.index l [c] == -1 then -1 else Lib.index l [c] + 1 := by rw [Lib.index, hp]; simp
      rw [List.count_cons_of_ne (by simpa using hb), spl, if_neg hb]
      rw [spl_cons] at ih
      cases hk : l.count c with
      | zero =>
        rw [hk, Lib.splitK] at ih
        obtain ⟨e1, e2⟩ := List.cons.inj ih
        rw [Lib.splitK, ← e1, ← e2]
      | succ k =>
        rw [hk, Lib.splitK] at ih
        rw [Lib.splitK, hix]
        by_cases hm : Lib.index l [c] = -1
        · rw [hm] at ih ⊢
          simp only [beq_self_eq_true, if_true] at ih ⊢
          obtain ⟨e1, e2⟩ := List.cons.inj ih
          rw [← e1, ← e2]
        · have hge := Lib.index_ge l [c]
          obtain ⟨j, hj⟩ : ∃ j : Nat, Lib.index l [c] = j := ⟨(Lib.index l [c]).toNat, by omega⟩
          have n1 : ¬ ((Lib.index l [c] == -1) = true) := fun e => hm (beq_iff_eq.1 e)
          have n2 : ¬ ((Lib.index l [c] + 1 == -1) = true) := fun e => by have := beq_iff_eq.1 e; omega
          rw [if_neg n1] at ih
          rw [if_neg n1, if_neg n2]
          obtain ⟨e1, e2⟩ := List.cons.inj ih
          rw [← e1, ← e2, hj]
          have t : ((j : Int) + 1).toNat = j + 1 := by omega
          rw [t]
          simp

theorem splitB_spl (c : UInt8) (s : ByteArray) : Lib.splitB ⟨#[c]⟩ 0 (Lib.countB s ⟨#[c]⟩) s = (spl c (bl s)).map lb := by
  have h := Lib.splitB_data ⟨#[c]⟩ 0 (Lib.countB s ⟨#[c]⟩) s
  have hc : Lib.countB s ⟨#[c]⟩ = (bl s).count c := by
    unfold Lib.countB
    exact Lib.count_one c _
  have e : ((⟨#[c]⟩ : ByteArray)).data.toList = [c] := rfl
  rw [e] at h
  have h2 := h.trans (show _ = spl c (bl s) by rw [hc]; exact splitK_spl c (bl s))
  rw [← h2, List.map_map]
  have : (lb ∘ fun x : ByteArray => x.data.toList) = id := by funext x; exact lb_bl x
  rw [this, List.map_id]

/-! digits -/
def isDig (c : UInt8) : Bool := decide (48 ≤ c.toNat) && decide (c.toNat ≤ 57)
def valF (a : Nat) (c : UInt8) : Nat := 10 * a + (c.toNat - 48)
def valD (d : List UInt8) : Nat := d.foldl valF 0
theorem isDig_of {k : Nat} (h : k < 10) : (UInt8.ofNat (48 + k)).toNat = 48 + k := by
  simp only [UInt8.toNat_ofNat']; omega
theorem dec_dig (u : Nat) : ∀ c ∈ Lib.decDigits u, isDig c = true := by
  induction u using Nat.strongRecOn with
  | _ u ih =>
    intro c hc
    rw [Lib.decDigits] at hc
    split at hc
    · rename_i h
      have : c = UInt8.ofNat (48 + u) := by simpa using hc
      subst this
      simp only [isDig, isDig_of h, Bool.and_eq_true, decide_eq_true_eq]; omega
    · rename_i h
      rcases List.mem_append.1 hc with hc | hc
      · exact ih (u / 10) (by omega) c hc
      · have : c = UInt8.ofNat (48 + u % 10) := by simpa using hc
        subst this
        simp only [isDig, isDig_of (Nat.mod_lt u (by omega) : u % 10 < 10), Bool.and_eq_true, decide_eq_true_eq]; omega
theorem dec_ne (u : Nat) : Lib.decDigits u ≠ [] := by
  rw [Lib.decDigits]; split <;> simp
theorem dec_val (u : Nat) : valD (Lib.decDigits u) = u := by
  induction u using Nat.strongRecOn with
  | _ u ih =>
    rw [Lib.decDigits]
    split
    · rename_i h
      simp only [valD, List.foldl_cons, List.foldl_nil, valF, isDig_of h]; omega
    · rename_i h
      have := ih (u / 10) (by omega)
      unfold valD at this
      simp only [valD, List.foldl_append, List.foldl_cons, List.foldl_nil, this, valF, isDig_of (Nat.mod_lt u (by omega) : u % 10 < 10)]
      omega
theorem dec_head (u : Nat) (h : (Lib.decDigits u).head? = some 48) : u = 0 := by
  induction u using Nat.strongRecOn with
  | _ u ih =>
    rw [Lib.decDigits] at h
    split at h
    · rename_i hu
      simp only [List.head?_cons, Option.some.injEq] at h
      have := congrArg UInt8.toNat h
      rw [isDig_of hu] at this
      have e : (48 : UInt8).toNat = 48 := rfl
      omega
    · rename_i hu
      have hne := dec_ne (u / 10)
      have ih' := ih (u / 10) (by omega)
      cases hd : Lib.decDigits (u / 10) with
      | nil => exact absurd hd hne
      | cons x r =>
        rw [hd] at h ih'
        have := ih' (by simpa using h)
        omega
theorem valF_pos (d : List UInt8) : ∀ a, 1 ≤ a → 1 ≤ d.foldl valF a := by
  induction d with
  | nil => intro a h; exact h
  | cons c d ih => intro a h; exact ih _ (by unfold valF; omega)
theorem val_pos {c : UInt8} {d : List UInt8} (h : isDig c = true) (h0 : c ≠ 48) : 1 ≤ valD (c :: d) := by
  unfold valD
  rw [List.foldl_cons]
  apply valF_pos
  simp only [isDig, Bool.and_eq_true, decide_eq_true_eq] at h
  have : c.toNat ≠ 48 := fun e => h0 (UInt8.toNat_inj.1 e)
  unfold valF; omega
theorem ofNat_dig {c : UInt8} (h : isDig c = true) : UInt8.ofNat (48 + (c.toNat - 48)) = c := by
  simp only [isDig, Bool.and_eq_true, decide_eq_true_eq] at h
  apply UInt8.toNat_inj.1
  rw [isDig_of (by omega)]; omega
theorem val_dec : ∀ (n : Nat) (d : List UInt8), d.length = n → (∀ c ∈ d, isDig c = true) → d ≠ [] → (d.head? = some 48 → d = [48]) → Lib.decDigits (valD d) = d
  | 0, d, hn, _, hd, _ => absurd (List.length_eq_zero_iff.1 hn) hd
  | n + 1, d, hn, hc, hd, h0 => by
    have ed := (List.dropLast_concat_getLast hd).symm
    generalize hp : d.dropLast = p at ed
    generalize hl : d.getLast hd = c at ed
    have hcc : isDig c = true := hc c (by rw [ed]; simp)
    have hv : valD d = 10 * valD p + (c.toNat - 48) := by rw [ed]; simp [valD, valF]
    have hc9 : c.toNat - 48 < 10 := by simp only [isDig, Bool.and_eq_true, decide_eq_true_eq] at hcc; omega
    cases p with
    | nil =>
      have h1 : valD d = c.toNat - 48 := by rw [hv]; simp [valD]
      rw [Lib.decDigits, dif_pos (by omega), h1, ofNat_dig hcc, ed]; rfl
    | cons x p =>
      have hx : isDig x = true := hc x (by rw [ed]; simp)
      have hx0 : x ≠ 48 := fun e => by
        have := h0 (by rw [ed, e]; rfl)
        rw [ed] at this
        have := congrArg List.length this
        simp at this
      have hpos := val_pos (d := p) hx hx0
      have ih := val_dec n (x :: p) (by rw [ed] at hn; simpa using hn) (fun z hz => hc z (by rw [ed]; exact List.mem_append_left _ hz)) (by simp) (fun e => by simp at e; exact absurd e hx0)
      rw [Lib.decDigits, dif_neg (by omega), hv]
      have q1 : (10 * valD (x :: p) + (c.toNat - 48)) / 10 = valD (x :: p) := by omega
      have q2 : (10 * valD (x :: p) + (c.toNat - 48)) % 10 = c.toNat - 48 := by omega
      rw [q1, q2, ih, ofNat_dig hcc, ed]
theorem valF_lt (d : List UInt8) : ∀ a, (∀ c ∈ d, isDig c = true) → d.foldl valF a < (a + 1) * 10 ^ d.length := by
  induction d with
  | nil => intro a _; simp
  | cons c d ih =>
    intro a h
    have hc := h c (by simp)
    simp only [isDig, Bool.and_eq_true, decide_eq_true_eq] at hc
    have := ih (valF a c) (fun x hx => h x (List.mem_cons_of_mem _ hx))
    rw [List.foldl_cons, List.length_cons, Nat.pow_succ]
    refine Nat.lt_of_lt_of_le this ?_
    have e : (a + 1) * (10 ^ d.length * 10) = ((a + 1) * 10) * 10 ^ d.length := by rw [Nat.mul_comm (10 ^ d.length) 10, Nat.mul_assoc]
    rw [e]
    exact Nat.mul_le_mul_right _ (by unfold valF; omega)
theorem val_lt {d : List UInt8} (h : ∀ c ∈ d, isDig c = true) (hl : d.length ≤ 9) : valD d < 1000000000 := by
  have := valF_lt d 0 h
  have e : 10 ^ d.length ≤ 10 ^ 9 := Nat.pow_le_pow_right (by omega) hl
  unfold valD
  have : (10 : Nat) ^ 9 = 1000000000 := by decide
  omega
theorem parse_val (d : List UInt8) : ∀ a, (∀ c ∈ d, isDig c = true) → (a + 1) * 10 ^ d.length ≤ 1000000000000000 → Lib.parseUint10 a d = .ok (d.foldl valF a) := by
  induction d with
  | nil => intro a _ _; rfl
  | cons c d ih =>
    intro a h hb
    have hc := h c (by simp)
    simp only [isDig, Bool.and_eq_true, decide_eq_true_eq] at hc
    rw [List.length_cons, Nat.pow_succ] at hb
    have e : (a + 1) * (10 ^ d.length * 10) = ((a + 1) * 10) * 10 ^ d.length := by rw [Nat.mul_comm (10 ^ d.length) 10, Nat.mul_assoc]
    rw [e] at hb
    have hp : 1 ≤ 10 ^ d.length := Nat.one_le_pow _ _ (by omega)
    have ha : (a + 1) * 10 ≤ 1000000000000000 := Nat.le_trans (Nat.le_mul_of_pos_right _ hp) hb
    rw [Lib.parseUint10, if_pos hc, if_neg (by omega), if_neg (by omega), List.foldl_cons]
    have e2 : a * 10 + (c.toNat - 48) = valF a c := by unfold valF; omega
    rw [e2]
    refine ih _ (fun x hx => h x (List.mem_cons_of_mem _ hx)) (Nat.le_trans ?_ hb)
    exact Nat.mul_le_mul_right _ (by unfold valF; omega)

/-- A number of at most nine digits, as it is written. -/
def numOk (s d : List UInt8) : Bool := !d.isEmpty && decide (d.length ≤ 9) && !(d.head? == some 48 && s != [48]) && d.all isDig
def numL (s : List UInt8) : Option Int :=
  if s.head? = some 45 then (if numOk s s.tail then some (-(valD s.tail : Int)) else none) else (if numOk s s then some (valD s : Int) else none)
theorem numOk_iff {s d : List UInt8} : numOk s d = true ↔ d ≠ [] ∧ d.length ≤ 9 ∧ (d.head? = some 48 → s = [48]) ∧ ∀ c ∈ d, isDig c = true := by
  unfold numOk
  simp only [Bool.and_eq_true, Bool.not_eq_true', List.isEmpty_eq_false_iff, decide_eq_true_eq, Bool.and_eq_false_iff, beq_eq_false_iff_ne, bne_eq_false_iff_eq, List.all_eq_true, ne_eq, and_assoc]
  constructor
  · rintro ⟨h1, h2, h3, h4⟩
    exact ⟨h1, h2, fun e => h3.elim (fun h => absurd e h) id, h4⟩
  · rintro ⟨h1, h2, h3, h4⟩
    exact ⟨h1, h2, (Decidable.em (d.head? = some 48)).elim (fun h => .inr (h3 h)) .inl, h4⟩
theorem dig_45 : isDig 45 = false := by decide
theorem dig_43 : isDig 43 = false := by decide
theorem trim_neg (d : List UInt8) : Lib.trimPrefix (45 :: d) [45] = d := by simp [Lib.trimPrefix, Lib.hasPrefix]
theorem trim_pos {s : List UInt8} (h : s.head? ≠ some 45) : Lib.trimPrefix s [45] = s := by
  cases s with
  | nil => simp [Lib.trimPrefix, Lib.hasPrefix]
  | cons c r =>
    have : c ≠ 45 := fun e => h (by simp [e])
    simp [Lib.trimPrefix, Lib.hasPrefix, List.isPrefixOf, Ne.symm this]
theorem itoa_neg {n : Nat} (h : 1 ≤ n) : Lib.itoa (-(n : Int)) = 45 :: Lib.decDigits n := by
  unfold Lib.itoa
  rw [if_pos (by omega)]
  congr 2; omega
theorem itoa_pos (n : Nat) : Lib.itoa (n : Int) = Lib.decDigits n := by
  unfold Lib.itoa
  rw [if_neg (by omega)]
  congr 1
theorem parseMag_val {d : List UInt8} (h : ∀ c ∈ d, isDig c = true) (hn : d ≠ []) (hl : d.length ≤ 9) : Lib.parseMag d = .ok (valD d) := by
  unfold Lib.parseMag
  rw [if_neg hn]
  refine parse_val d 0 h ?_
  have e : 10 ^ d.length ≤ 10 ^ 9 := Nat.pow_le_pow_right (by omega) hl
  have : (10 : Nat) ^ 9 = 1000000000 := by decide
  omega

/-- What is read as such a number: atoi, and written again the same. -/
theorem num_atoi (s : List UInt8) : (match Lib.atoiAll s with
  | .ok v => if Lib.itoa v = s ∧ (Lib.trimPrefix s [45]).length ≤ 9 then (v, true) else (0, false)
  | _ => ((0 : Int), false)) = ((numL s).getD 0, (numL s).isSome) := by
  unfold numL
  by_cases hneg : s.head? = some 45
  · rw [if_pos hneg]
    obtain ⟨d, rfl⟩ : ∃ d, s = 45 :: d := by
      cases s with
      | nil => simp at hneg
      | cons c d => simp at hneg; exact ⟨d, by rw [hneg]⟩
    rw [List.tail_cons]
    by_cases hok : numOk (45 :: d) d = true
    · rw [if_pos hok]
      obtain ⟨h1, h2, h3, h4⟩ := numOk_iff.1 hok
      have hd0 : d.head? ≠ some 48 := fun e => by have := h3 e; simp at this
      have hpos : 1 ≤ valD d := by
        cases d with
        | nil => exact absurd rfl h1
        | cons c r => exact val_pos (h4 c (by simp)) (fun e => hd0 (by simp [e]))
      have ha : Lib.atoiAll (45 :: d) = .ok (-(valD d : Int)) := by
        have h9 := val_lt h4 h2
        unfold Lib.atoiAll
        have e45 : (45 : UInt8).toNat = 45 := rfl
        simp only [e45, or_true, if_true, parseMag_val h4 h1 h2, not_true_eq_false, false_and, if_false, true_and]
        rw [if_neg (by omega)]
      rw [ha]
      have hd := val_dec _ d rfl h4 h1 (fun e => absurd e hd0)
      simp only [itoa_neg hpos, hd, trim_neg, h2, and_self, if_true, Option.getD_some, Option.isSome_some]
    · rw [if_neg hok]
      rcases ha : Lib.atoiAll (45 :: d) with v | _ | _
      · simp only [trim_neg]
        by_cases hc : Lib.itoa v = 45 :: d ∧ d.length ≤ 9
        · exfalso
          obtain ⟨hc1, hc2⟩ := hc
          apply hok
          unfold Lib.itoa at hc1
          split at hc1
          · rename_i hv
            have e := (List.cons.inj hc1).2
            refine numOk_iff.2 ⟨by rw [← e]; exact dec_ne _, hc2, fun h => ?_, by rw [← e]; exact dec_dig _⟩
            rw [← e] at h
            have := dec_head _ h
            omega
          · have := dec_dig v.toNat 45 (by rw [hc1]; simp)
            rw [dig_45] at this; cases this
        · rw [if_neg hc]; rfl
      · rfl
      · rfl
  · rw [if_neg hneg]
    by_cases hok : numOk s s = true
    · rw [if_pos hok]
      obtain ⟨h1, h2, h3, h4⟩ := numOk_iff.1 hok
      have ha : Lib.atoiAll s = .ok (valD s : Int) := by
        have h9 := val_lt h4 h2
        have hp := parseMag_val h4 h1 h2
        cases s with
        | nil => exact absurd rfl h1
        | cons c r =>
          have hc := h4 c (by simp)
          simp only [isDig, Bool.and_eq_true, decide_eq_true_eq] at hc
          unfold Lib.atoiAll
          have n1 : ¬ (c.toNat = 43 ∨ c.toNat = 45) := by omega
          have n2 : ¬ (c.toNat = 45) := by omega
          have n3 : ¬ (c.toNat = 43) := by omega
          simp only [n2, n3, or_self, if_false, not_false_eq_true, true_and, false_and]
          rw [hp]
          simp only []
          rw [if_neg (by omega)]
      rw [ha]
      have hd := val_dec _ s rfl h4 h1 h3
      simp only [itoa_pos, hd, trim_pos hneg, h2, and_self, if_true, Option.getD_some, Option.isSome_some]
    · rw [if_neg hok]
      rcases ha : Lib.atoiAll s with v | _ | _
      · simp only [trim_pos hneg]
        by_cases hc : Lib.itoa v = s ∧ s.length ≤ 9
        · exfalso
          obtain ⟨hc1, hc2⟩ := hc
          apply hok
          unfold Lib.itoa at hc1
          split at hc1
          · rw [← hc1] at hneg; simp at hneg
          · refine numOk_iff.2 ⟨by rw [← hc1]; exact dec_ne _, hc2, fun h => ?_, by rw [← hc1]; exact dec_dig _⟩
            have h0 : v.toNat = 0 := dec_head _ (by rw [hc1]; exact h)
            rw [← hc1, h0]
            rw [Lib.decDigits, dif_pos (by omega)]; rfl
        · rw [if_neg hc]; rfl
      · rfl
      · rfl
theorem numL_bound {s : List UInt8} {v : Int} (h : numL s = some v) : -999999999 ≤ v ∧ v ≤ 999999999 := by
  unfold numL at h
  split at h
  · split at h
    · rename_i hk
      obtain ⟨_, h2, _, h4⟩ := numOk_iff.1 hk
      have := val_lt h4 h2
      cases h; omega
    · cases h
  · split at h
    · rename_i hk
      obtain ⟨_, h2, _, h4⟩ := numOk_iff.1 hk
      have := val_lt h4 h2
      cases h; omega
    · cases h
/-- A number that is written is read. -/
theorem numL_itoa {v : Int} (h1 : -999999999 ≤ v) (h2 : v ≤ 999999999) : numL (Lib.itoa v) = some v := by
  have hlen : ∀ u : Nat, u ≤ 999999999 → (Lib.decDigits u).length ≤ 9 := by
    intro u hu
    by_cases h : (Lib.decDigits u).length ≤ 9
    · exact h
    · exfalso
      rw [Lib.decDigits_length] at h
      have hn : ∀ (k u : Nat), u < 10 ^ (k + 1) → Lib.nDigits u ≤ k + 1 := by
        intro k
        induction k with
        | zero => intro u hu; rw [Lib.nDigits_small (by simpa using hu)]; omega
        | succ k ih =>
          intro u hu
          by_cases h : u < 10
          · rw [Lib.nDigits_small h]; omega
          · rw [Lib.nDigits_big h]
            rw [Nat.pow_succ] at hu
            have := ih (u / 10) (by omega)
            omega
      have := hn 8 u (by have : (10 : Nat) ^ (8 + 1) = 1000000000 := by decide
                         omega)
      omega
  unfold Lib.itoa
  split
  · rename_i hv
    unfold numL
    rw [if_pos (show (45 :: Lib.decDigits v.natAbs).head? = some 45 from rfl), List.tail_cons, if_pos (numOk_iff.2 ⟨dec_ne _, hlen _ (by omega), fun h => by have := dec_head _ h; omega, dec_dig _⟩), dec_val]
    congr 1; omega
  · rename_i hv
    have hh : (Lib.decDigits v.toNat).head? ≠ some 45 := fun e => by
      have := dec_dig v.toNat 45 (List.mem_of_mem_head? (by rw [e]; rfl))
      rw [dig_45] at this; cases this
    unfold numL
    rw [if_neg hh, if_pos (numOk_iff.2 ⟨dec_ne _, hlen _ (by omega), fun h => by
      have := dec_head _ h
      rw [this, Lib.decDigits, dif_pos (by omega)]; rfl, dec_dig _⟩), dec_val]
    congr 1; omega
theorem itoa_ne (v : Int) : Lib.itoa v ≠ [] := by
  unfold Lib.itoa
  split
  · simp
  · exact dec_ne _
theorem itoa_mem {v : Int} {c : UInt8} (h : c ∈ Lib.itoa v) : c = 45 ∨ isDig c = true := by
  unfold Lib.itoa at h
  split at h
  · rcases List.mem_cons.1 h with h | h
    · exact .inl h
    · exact .inr (dec_dig _ c h)
  · exact .inr (dec_dig _ c h)

/-- It comes to an end, and what it comes to is so. -/
def Ret {α : Type} (o : Option α) (P : α → Prop) : Prop := ∃ r, o = some r ∧ P r

theorem Ret.pure {α : Type} {a : α} {P : α → Prop} (h : P a) : Ret (some a) P := ⟨a, rfl, h⟩
theorem Ret.bind {α β : Type} {o : Option α} {k : α → Option β} {P : β → Prop} (Q : α → Prop) (h : Ret o Q) (hk : ∀ r, Q r → Ret (k r) P) : Ret (o.bind k) P := by
  obtain ⟨r, e, hr⟩ := h
  rw [e]
  exact hk r hr
theorem Ret.bindE {α β : Type} {o : Option α} {k : α → Option β} {P : β → Prop} {r : α} (e : o = some r) (hk : Ret (k r) P) : Ret (o.bind k) P := by
  rw [e]; exact hk
theorem Ret.mono {α : Type} {o : Option α} {P Q : α → Prop} (h : Ret o P) (hm : ∀ r, P r → Q r) : Ret o Q := by
  obtain ⟨r, e, hr⟩ := h; exact ⟨r, e, hm r hr⟩
theorem Ret.bif {α : Type} {c : Bool} {a b : Option α} {P : α → Prop} (h1 : c = true → Ret a P) (h2 : c = false → Ret b P) : Ret (bif c then a else b) P := by
  cases c with
  | true => exact h1 rfl
  | false => exact h2 rfl
theorem Ret.dec {α : Type} {p : Prop} [Decidable p] {a b : Option α} {P : α → Prop} (h1 : p → Ret a P) (h2 : ¬ p → Ret b P) : Ret (_root_.cond (decide p) a b) P := by
  by_cases h : p
  · simpa [h] using h1 h
  · simpa [h] using h2 h
theorem Ret.guard {α : Type} {p : Prop} [Decidable p] {a : Option α} {P : α → Prop} (hp : p) (h : Ret a P) : Ret (_root_.cond (decide p) a none) P := by
  simpa [hp] using h
theorem Ret.guardN {α : Type} {p : Prop} [Decidable p] {a : Option α} {P : α → Prop} (hp : ¬ p) (h : Ret a P) : Ret (_root_.cond (decide p) none a) P := by
  simpa [hp] using h
theorem Ret.beq {α β : Type} [DecidableEq β] {x y : β} {a b : Option α} {P : α → Prop} (h1 : x = y → Ret a P) (h2 : ¬ x = y → Ret b P) : Ret (_root_.cond (x == y) a b) P := by
  rw [bif_beq]
  by_cases h : x = y
  · simpa [h] using h1 h
  · simpa [h] using h2 h
theorem obind_eq {α β : Type} {o : Option α} {r : α} {k : α → Option β} {z : Option β} (e : o = some r) (h : k r = z) : o.bind k = z := by
  rw [e]; exact h

theorem wrap8 {x : Int} (h1 : 0 ≤ x) (h2 : x < 256) : IntKind.wrap .u8 x = x := by
  have e1 : (2 : Int) ^ 8 = 256 := rfl
  simp only [IntKind.wrap, IntKind.signed, IntKind.bits, Bool.false_and, e1]
  simp only [Bool.false_eq_true, if_false]
  omega
theorem bstr_one (n : Nat) : bstr [((n : Nat) : Int)] = lb [UInt8.ofNat n] := by
  simp [bstr, lb]; rfl
/-- The digits of a number, none for 0. -/
def digs (n : Nat) : List UInt8 := if n = 0 then [] else Lib.decDigits n
theorem digs_div {n : Nat} (h : n ≠ 0) : digs n = digs (n / 10) ++ [UInt8.ofNat (48 + n % 10)] := by
  unfold digs
  rw [if_neg h, Lib.decDigits]
  by_cases h2 : n < 10
  · rw [dif_pos h2, if_pos (by omega), show n % 10 = n by omega]; rfl
  · rw [dif_neg h2, if_neg (by omega)]
theorem digs_len : ∀ (k n : Nat), n < 10 ^ k → (digs n).length ≤ k
  | 0, n, h => by have : n = 0 := by simpa using h
                  subst this; simp [digs]
  | k + 1, n, h => by
    by_cases h0 : n = 0
    · subst h0; simp [digs]
    · rw [digs_div h0, List.length_append]
      have := digs_len k (n / 10) (by rw [Nat.pow_succ] at h; omega)
      simp; omega
section
variable {N : Nat} (hN : lim < N)
include hN
omit hN in
theorem lsl9Dec_ok : ∀ (k f : Nat) (n : Int) (out : List UInt8) (neg : Bool), n.natAbs < 10 ^ k → k ≤ 20 → k < f → -9223372036854775808 ≤ n → n < 9223372036854775808 → out.length + k ≤ 30 →
    lsl9Dec_0 N f (n, lb out, neg, ()) = some (lb (digs n.natAbs ++ out), neg, ()) := by
  have hlim : lim = 2147483648 := rfl
  intro k
  induction k with
  | zero =>
    intro f n out neg h _ hf _ _ _
    obtain ⟨f, rfl⟩ : ∃ g, f = g + 1 := ⟨f - 1, by omega⟩
    have : n = 0 := by simpa using h
    subst this
    rfl
  | succ k ih =>
    intro f n out neg h hk hf b1 b2 hl
    obtain ⟨f, rfl⟩ : ∃ g, f = g + 1 := ⟨f - 1, by omega⟩
    by_cases h0 : n = 0
    · subst h0; rfl
    · have hne : (n != 0) = true := by simpa using h0
      have h10 : ¬ ((10 : Int) = 0) := by omega
      have hq : (Int.tdiv n 10).natAbs = n.natAbs / 10 := by rw [Int.natAbs_tdiv]; rfl
      have hdiv : w64 (Int.tdiv n 10) = Int.tdiv n 10 := w64_id (by omega) (by omega)
      have hm : (Int.tmod n 10).natAbs = n.natAbs % 10 := by rw [Int.natAbs_tmod]; rfl
      have hd : (if Int.tmod n 10 < 0 then w64 (0 - Int.tmod n 10) else Int.tmod n 10) = ((n.natAbs % 10 : Nat) : Int) := by
        split
        · rw [w64_id (by omega) (by omega)]; omega
        · omega
      have h48 : IntKind.wrap .u8 (w64 (48 + ((n.natAbs % 10 : Nat) : Int))) = ((48 + n.natAbs % 10 : Nat) : Int) := by
        rw [w64_id (by omega) (by omega), wrap8 (by omega) (by omega)]; omega
      have := ih f (Int.tdiv n 10) (UInt8.ofNat (48 + n.natAbs % 10) :: out) neg (by rw [hq]; rw [Nat.pow_succ] at h; omega) (by omega) (by omega) (by omega) (by omega) (by simp; omega)
      rw [hq] at this
      rw [digs_div (by omega), List.append_assoc]
      have e2 : (if Int.tmod n 10 < 0 then some (n, lb out, neg, w64 (0 - Int.tmod n 10), ()) else some (n, lb out, neg, Int.tmod n 10, ())) = some (n, lb out, neg, ((n.natAbs % 10 : Nat) : Int), ()) := by
        rw [← hd]; split <;> rfl
      have g : (bstr [((48 + n.natAbs % 10 : Nat) : Int)]).size + (lb out).size ≤ lim := by
        rw [bstr_one, lb_size, lb_size]; simp; omega
      simp only [lsl9Dec_0, hne, cond_true, h10, decide_false, cond_false, bif_dec, e2, Option.bind_some, h48, hdiv]
      rw [if_pos g, bstr_one, lb_append]
      exact this
theorem sl9Dec_ok {n : Int} (h1 : -9223372036854775808 ≤ n) (h2 : n < 9223372036854775808) : Fsl9Dec N (n, ()) = some (lb (Lib.itoa n), ()) := by
  have hlim : lim = 2147483648 := rfl
  by_cases h0 : n = 0
  · subst h0
    simp only [Fsl9Dec, beq_self_eq_true, cond_true]
    have : Lib.itoa 0 = [48] := by unfold Lib.itoa; rw [if_neg (by omega), Lib.decDigits, dif_pos (by decide)]; rfl
    rw [this]; rfl
  · have hb : (n == 0) = false := beq_eq_false_iff_ne.2 h0
    have h19 : n.natAbs < 10 ^ 19 := by have : (10 : Nat) ^ 19 = 10000000000000000000 := by decide
                                        omega
    have e := lsl9Dec_ok (N := N) 19 N n [] (decide (n < 0)) h19 (by omega) (by omega) h1 h2 (by simp)
    have e0 : lb [] = ByteArray.mk #[] := rfl
    rw [e0, List.append_nil] at e
    have hd : digs n.natAbs = Lib.decDigits n.natAbs := by unfold digs; rw [if_neg (by omega)]
    have hl := digs_len 19 n.natAbs h19
    simp only [Fsl9Dec, hb, cond_false, e, Option.bind_some]
    by_cases hn : n < 0
    · have g : (ByteArray.mk #[45]).size + (lb (digs n.natAbs)).size ≤ lim := by
        rw [lb_size, show (ByteArray.mk #[45]).size = 1 from rfl]; omega
      simp only [hn, decide_true, cond_true, g]
      have e45 : ByteArray.mk #[45] = lb [45] := rfl
      rw [e45, lb_append, hd]
      unfold Lib.itoa
      rw [if_pos hn]; rfl
    · simp only [hn, decide_false, cond_false]
      unfold Lib.itoa
      rw [if_neg hn, hd]
      congr 4; omega
end

/-- The text of an operation. -/
def opT (o : OpD) : List UInt8 := if okOp o = true ∧ (opNums o).all szd = true then kWord o.1.toNat ++ numsT (opNums o) else []
theorem okOp_kind {o : OpD} (h : okOp o = true) : 1 ≤ o.1 ∧ o.1 ≤ 11 := by
  simp only [okOp, Bool.and_eq_true, decide_eq_true_eq] at h
  exact h.1
theorem opT_len (o : OpD) : (opT o).length ≤ 100 := by
  unfold opT
  split
  · rename_i h
    have h1 := kWord_len o.1.toNat
    have h2 := kOffs_len o.1.toNat
    have h3 := numsT_len (opNums o) (fun n hn => szd_rng (List.all_eq_true.1 h.2 n hn))
    have h4 : (opNums o).length = (kOffs o.1.toNat).length := by simp [opNums]
    rw [List.length_append]; omega
  · simp
theorem hOpText_ok (o : OpD) : FhOpText 0 (o, ()) = some (lb (opT o), ()) := by
  unfold FhOpText opT
  rw [qOpOk_ok2]
  by_cases h : okOp o = true
  · obtain ⟨h1, h2⟩ := okOp_kind h
    simp only [h, h1, h2, decide_true, Bool.and_self, cond_true, true_and]
    split <;> rfl
  · simp only [Bool.not_eq_true] at h
    simp only [h, Bool.false_eq_true, false_and, if_false]
    rfl
def progP : List OpD → List UInt8 → List UInt8
  | [], acc => acc
  | o :: r, acc => if opT o = [] then [] else progP r (acc ++ (opT o ++ [10]))
theorem progT_ok : ∀ (os : List OpD) (acc : List UInt8), progT os acc = some (lb (progP os acc))
  | [], acc => rfl
  | o :: r, acc => by
    rw [progT, hOpText_ok, progP]
    simp only []
    have e1 : ((lb (opT o)).toList == []) = decide (opT o = []) := by
      rw [bl_toList, bl_lb]
      cases opT o <;> rfl
    rw [e1]
    by_cases h : opT o = []
    · simp only [h, decide_true, if_true]; rfl
    · simp only [h, decide_false, if_false, Bool.false_eq_true]
      exact progT_ok r _
/-- The text of a program. -/
def progX (os : List OpD) : List UInt8 := if 40 < os.length then [] else progP os []
theorem progP_ok : ∀ (os : List OpD) (acc : List UInt8), (∀ o ∈ os, opT o ≠ []) → progP os acc = acc ++ (os.map fun o => opT o ++ [10]).flatten
  | [], acc, _ => by simp [progP]
  | o :: r, acc, h => by
    rw [progP, if_neg (h o (by simp)), progP_ok r _ (fun x hx => h x (List.mem_cons_of_mem _ hx))]
    simp
theorem progP_no : ∀ (os : List OpD) (acc : List UInt8), (∃ o ∈ os, opT o = []) → progP os acc = []
  | [], acc, h => by obtain ⟨o, h, _⟩ := h; simp at h
  | o :: r, acc, h => by
    rw [progP]
    by_cases ho : opT o = []
    · rw [if_pos ho]
    · rw [if_neg ho]
      obtain ⟨x, hx, hx2⟩ := h
      rcases List.mem_cons.1 hx with rfl | hx
      · exact absurd hx2 ho
      · exact progP_no r _ ⟨x, hx, hx2⟩
theorem progP_len : ∀ (os : List OpD) (acc : List UInt8), (progP os acc).length ≤ acc.length + os.length * 101
  | [], acc => by simp [progP]
  | o :: r, acc => by
    rw [progP]
    split
    · simp
    · have := progP_len r (acc ++ (opT o ++ [10]))
      have h2 := opT_len o
      simp only [List.length_append, List.length_cons, List.length_nil] at this ⊢
      omega
theorem progX_len (os : List OpD) : (progX os).length ≤ 4100 := by
  unfold progX
  split
  · simp
  · have := progP_len os []
    simp only [List.length_nil] at this; omega
section
variable {N : Nat}
theorem hProgText_ok (os : List OpD) : FhProgText N (os, ()) = some (lb (progX os), ()) := by
  unfold FhProgText progX
  by_cases h : 40 < os.length
  · have : os.length > 40 := h
    simp only [this, decide_true, cond_true, if_true]; rfl
  · have : ¬ os.length > 40 := h
    simp only [this, decide_false, cond_false, if_false, progT_ok, Option.map_some]
theorem sl11Word_ok {k : Int} (h1 : 1 ≤ k) (h2 : k ≤ 11) : Fsl11Word N (k, ()) = some (lb (kWord k.toNat), ()) := by
  have : k = 1 ∨ k = 2 ∨ k = 3 ∨ k = 4 ∨ k = 5 ∨ k = 6 ∨ k = 7 ∨ k = 8 ∨ k = 9 ∨ k = 10 ∨ k = 11 := by omega
  rcases this with rfl | rfl | rfl | rfl | rfl | rfl | rfl | rfl | rfl | rfl | rfl <;> rfl
theorem sl11Nums_ok {o : OpD} (h1 : 1 ≤ o.1) (h2 : o.1 ≤ 11) : Fsl11Nums N (o, ()) = some (opNums o, ()) := by
  obtain ⟨k, a1, a2, a3, a4, a5, ⟨a6, a7, ⟨⟩⟩, ⟨⟩⟩ := o
  simp only at h1 h2
  have : k = 1 ∨ k = 2 ∨ k = 3 ∨ k = 4 ∨ k = 5 ∨ k = 6 ∨ k = 7 ∨ k = 8 ∨ k = 9 ∨ k = 10 ∨ k = 11 := by omega
  rcases this with rfl | rfl | rfl | rfl | rfl | rfl | rfl | rfl | rfl | rfl | rfl <;> rfl
variable (hN : lim < N)
include hN
theorem sOpText_loop {ns : List Int} {w : List UInt8} (hw : w.length ≤ 5) (hn4 : ns.length ≤ 4) : ∀ n i, i ≤ ns.length → ns.length - i < n → (ns.take i).all szd = true →
    lsOpText_0 N n (lb (w ++ numsT (ns.take i)), (i : Int), ns, ()) = if ns.all szd = true then some (.inl (lb (w ++ numsT ns), ())) else some (.inr (lb [], ())) := by
  have hlim : lim = 2147483648 := rfl
  have e0 : ByteArray.mk #[] = lb [] := rfl
  have e32 : ByteArray.mk #[32] = lb [32] := rfl
  intro n
  induction n with
  | zero => intro i _ h; exact absurd h (Nat.not_lt_zero _)
  | succ n ih =>
    intro i hi hn hall
    by_cases h : i < ns.length
    · have g1 : (i : Int) < (ns.length : Int) := by omega
      have hq3 := numsT_len (ns.take i) (fun n hn => szd_rng (List.all_eq_true.1 hall n hn))
      have hq4 : (ns.take i).length ≤ 4 := by simp; omega
      cases hz : szd ns[i] with
      | true =>
        have hz' := hz
        simp only [szd, Bool.and_eq_true, decide_eq_true_eq] at hz'
        have g2 : ¬ (ns[i] < -999999999) := by omega
        have g3 : ¬ (ns[i] > 999999999) := by omega
        have hd := sl9Dec_ok hN (n := ns[i]) (by omega) (by omega)
        have hl := itoaLen (v := ns[i]) (by omega) (by omega)
        have c1 : (lb (w ++ numsT (ns.take i))).size + (lb [32]).size ≤ lim := by rw [lb_size, lb_size]; simp; omega
        have c2 : (lb ((w ++ numsT (ns.take i)) ++ [32])).size + (lb (Lib.itoa ns[i])).size ≤ lim := by rw [lb_size, lb_size]; simp; omega
        have w1 : w64 ((i : Int) + 1) = ((i + 1 : Nat) : Int) := w64_succ (by omega)
        have := ih (i + 1) (by omega) (by omega) (by
          rw [List.take_add_one, List.getElem?_eq_getElem h, List.all_append, hall]; simp [hz])
        rw [numsT_take h] at this
        simp only [lsOpText_0, g1, decide_true, cond_true, Int.natCast_nonneg, Int.toNat_natCast, h, getD_lt h, g2, g3, decide_false, cond_false, Option.bind_some, Sum.elim_inl, e0, e32, c1, lb_append, hd, c2, w1]
        rw [← this]
        simp
      | false =>
        have hna : ¬ ns.all szd = true := by
          rw [Bool.not_eq_true, List.all_eq_false]; exact ⟨ns[i], List.getElem_mem _, by rw [hz]; simp⟩
        rw [if_neg hna]
        have hz' : ¬ (-999999999 ≤ ns[i] ∧ ns[i] ≤ 999999999) := by
          intro hc
          simp only [szd, hc.1, hc.2, decide_true, Bool.and_self] at hz
          cases hz
        by_cases g2 : ns[i] < -999999999
        · simp only [lsOpText_0, g1, decide_true, cond_true, Int.natCast_nonneg, Int.toNat_natCast, h, getD_lt h, g2, Option.bind_some, Sum.elim_inr, e0]
        · have g3 : ns[i] > 999999999 := by omega
          simp only [lsOpText_0, g1, decide_true, cond_true, Int.natCast_nonneg, Int.toNat_natCast, h, getD_lt h, g2, g3, decide_false, cond_false, Option.bind_some, Sum.elim_inr, e0]
    · have : i = ns.length := by omega
      subst this
      have g1 : ¬ ((ns.length : Int) < (ns.length : Int)) := by omega
      rw [List.take_length] at hall ⊢
      rw [if_pos hall]
      simp only [lsOpText_0, g1, decide_false, cond_false]
theorem sOpText_ok (o : OpD) : FsOpText N (o, ()) = some (lb (opT o), ()) := by
  have e0 : ByteArray.mk #[] = lb [] := rfl
  have h := sOpOk_ok2 (N := N) o
  unfold opT
  by_cases hk : okOp o = true
  · obtain ⟨h1, h2⟩ := okOp_kind hk
    rw [hk] at h
    have hw := sl11Word_ok (N := N) h1 h2
    have hn := sl11Nums_ok (N := N) h1 h2
    have h4 : (opNums o).length = (kOffs o.1.toNat).length := by simp [opNums]
    have hl := sOpText_loop hN (ns := opNums o) (kWord_len o.1.toNat) (by have := kOffs_len o.1.toNat; omega) N 0 (by omega) (by
      have := kOffs_len o.1.toNat
      have hlim : lim = 2147483648 := rfl
      omega) (by simp)
    simp only [Int.natCast_zero, List.take_zero, numsT, List.map_nil, List.flatten_nil, List.append_nil] at hl
    simp only [FsOpText, h, Option.bind_some, Bool.not_true, cond_false, hw, hn, hl, hk, true_and]
    split <;> rfl
  · simp only [Bool.not_eq_true] at hk
    rw [hk] at h
    simp only [FsOpText, h, Option.bind_some, Bool.not_false, cond_true, hk, Bool.false_eq_true, false_and, if_false, e0]
theorem sProg_loopT {os : List OpD} (hl : os.length ≤ 40) : ∀ n i (acc : List UInt8), i ≤ os.length → os.length - i < n → acc.length ≤ i * 101 →
    lsProgText_0 N n (os, lb acc, (i : Int), ()) = some (.inl (lb (progP (os.drop i) acc), ())) ∨ (lsProgText_0 N n (os, lb acc, (i : Int), ()) = some (.inr (lb [], ())) ∧ progP (os.drop i) acc = []) := by
  have hlim : lim = 2147483648 := rfl
  have e0 : ByteArray.mk #[] = lb [] := rfl
  have e10 : ByteArray.mk #[10] = lb [10] := rfl
  intro n
  induction n with
  | zero => intro i acc _ h; exact absurd h (Nat.not_lt_zero _)
  | succ n ih =>
    intro i acc hi hn ha
    by_cases h : i < os.length
    · have g1 : (i : Int) < (os.length : Int) := by omega
      have ht := sOpText_ok hN os[i]
      have hlt := opT_len os[i]
      have w1 : w64 ((i : Int) + 1) = ((i + 1 : Nat) : Int) := w64_succ (by omega)
      rw [drop_at h, progP]
      have hb : ((lb (opT os[i])).toList == (lb []).toList) = decide (opT os[i] = []) := by rw [ba_beq, bl_lb, bl_lb]
      by_cases he : opT os[i] = []
      · refine .inr ⟨?_, by rw [if_pos he]⟩
        simp only [lsProgText_0, g1, decide_true, cond_true, Int.natCast_nonneg, Int.toNat_natCast, h, getD_lt h, ht, Option.bind_some, e0, hb, he, beq_self_eq_true]
      · rw [if_neg he]
        have c1 : (lb acc).size + (lb (opT os[i])).size ≤ lim := by rw [lb_size, lb_size]; omega
        have c2 : (lb (acc ++ opT os[i])).size + (lb [10]).size ≤ lim := by rw [lb_size, lb_size]; simp; omega
        have := ih (i + 1) (acc ++ (opT os[i] ++ [10])) (by omega) (by omega) (by simp; omega)
        have e : lsProgText_0 N (n + 1) (os, lb acc, (i : Int), ()) = lsProgText_0 N n (os, lb (acc ++ (opT os[i] ++ [10])), ((i + 1 : Nat) : Int), ()) := by
          simp only [lsProgText_0, g1, decide_true, cond_true, Int.natCast_nonneg, Int.toNat_natCast, h, getD_lt h, ht, Option.bind_some, e0, hb, he, decide_false, cond_false, c1, lb_append, e10, c2, w1, List.append_assoc]
        rw [e]
        exact this
    · have : i = os.length := by omega
      subst this
      have g1 : ¬ ((os.length : Int) < (os.length : Int)) := by omega
      left
      simp only [lsProgText_0, g1, decide_false, cond_false, List.drop_length, progP]
theorem sProgText_ok (os : List OpD) : FsProgText N (os, ()) = some (lb (progX os), ()) := by
  have hlim : lim = 2147483648 := rfl
  have e0 : ByteArray.mk #[] = lb [] := rfl
  unfold progX
  by_cases h : 40 < os.length
  · have g : (os.length : Int) > 40 := by omega
    simp only [FsProgText, g, decide_true, cond_true, h, if_true, e0]
  · have g : ¬ (os.length : Int) > 40 := by omega
    have := sProg_loopT hN (os := os) (by omega) N 0 [] (by omega) (by omega) (by simp)
    simp only [Int.natCast_zero, List.drop_zero] at this
    rcases this with e | ⟨e, e2⟩
    · simp only [FsProgText, g, decide_false, cond_false, e0, e, Option.bind_some, Sum.elim_inl, h, if_false]
    · simp only [FsProgText, g, decide_false, cond_false, e0, e, Option.bind_some, Sum.elim_inr, h, if_false, e2]
end

/-- What a code is: bytes. -/
def byteL (b : List Int) : Prop := b.length ≤ 2000 ∧ ∀ x ∈ b, 0 ≤ x ∧ x < 256

theorem xor_rng {x y : Int} (hx : 0 ≤ x) (hx' : x < 9223372036854775808) (hy : 0 ≤ y) (hy' : y < 9223372036854775808) :
    0 ≤ w64 (((bitsOf .i64 x ^^^ bitsOf .i64 y).toNat : Int)) := by
  have h1 : (bitsOf .i64 x).toNat < 2 ^ 63 := by
    simp only [bitsOf, IntKind.bits, BitVec.toNat_ofInt]; omega
  have h2 : (bitsOf .i64 y).toNat < 2 ^ 63 := by
    simp only [bitsOf, IntKind.bits, BitVec.toNat_ofInt]; omega
  have h3 : (bitsOf .i64 x ^^^ bitsOf .i64 y).toNat < 2 ^ 63 := by
    rw [BitVec.toNat_xor]
    exact Nat.xor_lt_two_pow h1 h2
  rw [w64_id (by omega) (by omega)]
  omega

theorem tmod_rng {x n : Int} (hx : 0 ≤ x) (hn : 1 ≤ n) : 0 ≤ Int.tmod x n ∧ Int.tmod x n < n := by
  rw [Int.tmod_eq_emod_of_nonneg hx]
  exact ⟨Int.emod_nonneg _ (by omega), Int.emod_lt_of_pos _ (by omega)⟩

section
variable {N : Nat}

theorem pick_ok {b : List Int} {p n : Int} (hb : byteL b) (hp : 0 ≤ p) (hp' : p < 1099511627776) :
    ∃ v, Fsl1Rd_pick N (n, b, p, ()) = some (v, b, p + 1, ()) ∧ 0 ≤ v ∧ (v < n ∨ v = 0) := by
  obtain ⟨hl, hx⟩ := hb
  have e1 : w64 (p + 1) = p + 1 := w64_id (by omega) (by omega)
  have e2 : w64 (p + 1 - 1) = p := by rw [w64_id (by omega) (by omega)]; omega
  simp only [Fsl1Rd_pick, e1]
  by_cases hn : n < 1
  · exact ⟨0, by simp [hn], by omega, .inr rfl⟩
  · have hn' : ¬ n = 0 := by omega
    by_cases h0 : b.length = 0
    · have : (b.length : Int) = 0 := by omega
      exact ⟨0, by simp [hn, this], by omega, .inr rfl⟩
    · have h0' : ¬ (b.length : Int) = 0 := by omega
      simp only [hn, decide_false, cond_false, bif_beq, h0', if_false, Option.bind_some, Sum.elim_inl, e2]
      by_cases hk : p < (b.length : Int)
      · have hk' : p.toNat < b.length := by omega
        have := hx _ (List.getElem_mem hk')
        simp only [hk, decide_true, cond_true, hp, hk', getD_lt hk', hn', decide_false, cond_false]
        rw [w64_id (by omega) (by omega)]
        exact ⟨_, rfl, (tmod_rng this.1 (by omega)).1, .inl (tmod_rng this.1 (by omega)).2⟩
      · obtain ⟨a1, a2⟩ := tmod_rng hp (n := (b.length : Int)) (by omega)
        have a3 : (Int.tmod p b.length).toNat < b.length := by omega
        have a4 := hx _ (List.getElem_mem a3)
        have e3 : w64 (p * 7) = p * 7 := w64_id (by omega) (by omega)
        have e4 : w64 (p * 7 + 3) = p * 7 + 3 := w64_id (by omega) (by omega)
        obtain ⟨c1, c2⟩ := tmod_rng (x := p * 7 + 3) (by omega) (n := (b.length : Int)) (by omega)
        have c3 : (Int.tmod (p * 7 + 3) b.length).toNat < b.length := by omega
        have c4 := hx _ (List.getElem_mem c3)
        have e5 : w64 (p * 29) = p * 29 := w64_id (by omega) (by omega)
        have d0 : 0 ≤ Int.tdiv p b.length ∧ Int.tdiv p b.length ≤ p := by
          rw [Int.tdiv_eq_ediv_of_nonneg hp]
          exact ⟨Int.ediv_nonneg hp (by omega), Int.ediv_le_self _ hp⟩
        have e6 : w64 (Int.tdiv p b.length) = Int.tdiv p b.length := w64_id (by omega) (by omega)
        simp only [hk, decide_false, cond_false, h0', a1, a3, decide_true, cond_true, getD_lt a3, e3, e4, c1, c3, getD_lt c3, e5, e6]
        generalize b[(Int.tmod p b.length).toNat] = u at a4 ⊢
        generalize b[(Int.tmod (p * 7 + 3) b.length).toNat] = v at c4 ⊢
        generalize Int.tdiv p b.length = q at d0 ⊢
        have f1 : w64 u = u := w64_id (by omega) (by omega)
        have f2 : w64 v = v := w64_id (by omega) (by omega)
        have f3 : w64 (u * 131) = u * 131 := w64_id (by omega) (by omega)
        have f4 : w64 (v * 1117) = v * 1117 := w64_id (by omega) (by omega)
        have f5 : w64 (u * 131 + v * 1117) = u * 131 + v * 1117 := w64_id (by omega) (by omega)
        have f6 : w64 (u * 131 + v * 1117 + p * 29) = u * 131 + v * 1117 + p * 29 := w64_id (by omega) (by omega)
        have f7 : w64 (q * 53) = q * 53 := w64_id (by omega) (by omega)
        have f8 : w64 (u * 131 + v * 1117 + p * 29 + q * 53) = u * 131 + v * 1117 + p * 29 + q * 53 := w64_id (by omega) (by omega)
        simp only [f1, f2, f3, f4, f5, f6, f7, f8]
        generalize hz : u * 131 + v * 1117 + p * 29 + q * 53 = z
        have z0 : 0 ≤ z ∧ z < 9223372036854775808 := by omega
        have g0 : 0 ≤ Int.tdiv z 64 ∧ Int.tdiv z 64 ≤ z := by
          rw [Int.tdiv_eq_ediv_of_nonneg z0.1]
          exact ⟨Int.ediv_nonneg z0.1 (by omega), Int.ediv_le_self _ z0.1⟩
        have g1 : w64 (Int.tdiv z 64) = Int.tdiv z 64 := w64_id (by omega) (by omega)
        have hxr := xor_rng z0.1 z0.2 g0.1 (by omega : Int.tdiv z 64 < 9223372036854775808)
        rw [g1]
        have h64 : ¬ (64 : Int) = 0 := by omega
        simp only [h64, decide_false, cond_false, hn']
        exact ⟨_, rfl, (tmod_rng hxr (by omega)).1, .inl (tmod_rng hxr (by omega)).2⟩

theorem pick_bind {β : Type} {b : List Int} {p n : Int} {k : Int × List Int × Int × Unit → Option β} {P : β → Prop} (hb : byteL b) (hp : 0 ≤ p) (hp' : p < 1099511627776)
    (hk : ∀ v, 0 ≤ v → (v < n ∨ v = 0) → Ret (k (v, b, p + 1, ())) P) : Ret ((Fsl1Rd_pick N (n, b, p, ())).bind k) P := by
  obtain ⟨v, e, h1, h2⟩ := pick_ok (N := N) (n := n) hb hp hp'
  exact Ret.bindE e (hk v h1 h2)
end

section
variable {N : Nat}

theorem l20Shape_ok {b : List Int} {p : Int} (hb : byteL b) (hp : 0 ≤ p) (hp' : p < 1099511627700) :
    Ret (Fsl20Shape N (b, p, ())) (fun r => r.2.2.1 = b ∧ p ≤ r.2.2.2.1 ∧ r.2.2.2.1 ≤ p + 3) := by
  unfold Fsl20Shape
  repeat' (first
    | refine pick_bind hb (by omega) (by omega) (fun v a c => ?_)
    | refine Ret.guard (by first | omega | (simp; omega)) ?_
    | refine Ret.beq (fun e => ?_) (fun e => ?_)
    | refine Ret.pure ?_
    | dsimp only)
  all_goals exact ⟨rfl, by omega, by omega⟩

theorem l20Op_ok {n : Int} {b : List Int} {p : Int} (hb : byteL b) (hp : 0 ≤ p) (hp' : p < 1099511627600) :
    Ret (Fsl20Op N (n, b, p, ())) (fun r => r.2.2.2.2.2.2.2.2.1 = b ∧ p ≤ r.2.2.2.2.2.2.2.2.2.1 ∧ r.2.2.2.2.2.2.2.2.2.1 ≤ p + 30) := by
  unfold Fsl20Op
  dsimp only
  refine pick_bind hb (by omega) (by omega) (fun v1 a1 c1 => ?_)
  dsimp only
  refine pick_bind hb (by omega) (by omega) (fun v2 a2 c2 => ?_)
  dsimp only
  refine pick_bind hb (by omega) (by omega) (fun v3 a3 c3 => ?_)
  dsimp only
  refine pick_bind hb (by omega) (by omega) (fun v4 a4 c4 => ?_)
  dsimp only
  refine pick_bind hb (by omega) (by omega) (fun v5 a5 c5 => ?_)
  dsimp only
  refine Ret.bind (fun o => o.1 = b ∧ p ≤ o.2.1 ∧ o.2.1 ≤ p + 9) ?_ (fun o ho => ?_)
  · repeat' (first
      | refine pick_bind hb (by omega) (by omega) (fun v a c => ?_)
      | refine Ret.dec (fun e => ?_) (fun e => ?_)
      | refine Ret.pure ?_
      | dsimp only)
    all_goals exact ⟨rfl, by omega, by omega⟩
  obtain ⟨b', p1, o⟩ := o
  simp only at ho
  obtain ⟨rfl, h1, h2⟩ := ho
  dsimp only
  refine pick_bind hb (by omega) (by omega) (fun v6 a6 c6 => ?_)
  dsimp only
  refine Ret.bind (fun o => o.1 = b' ∧ p ≤ o.2.1 ∧ o.2.1 ≤ p + 15) ?_ (fun o ho => ?_)
  · repeat' (first
      | refine pick_bind hb (by omega) (by omega) (fun v a c => ?_)
      | refine Ret.bind _ (l20Shape_ok hb (by omega) (by omega)) (fun r hr => ?_)
      | refine Ret.guard (by first | omega | (simp; omega)) ?_
      | refine Ret.dec (fun e => ?_) (fun e => ?_)
      | refine Ret.beq (fun e => ?_) (fun e => ?_)
      | refine Ret.pure ?_
      | dsimp only)
    · exact ⟨hr.1, by have := hr.2; omega, by have := hr.2; omega⟩
    all_goals exact ⟨rfl, by omega, by omega⟩
  obtain ⟨b'', p2, o⟩ := o
  simp only at ho
  obtain ⟨rfl, h3, h4⟩ := ho
  dsimp only
  refine Ret.bind (fun o => o.1 = b'' ∧ p ≤ o.2.1 ∧ o.2.1 ≤ p + 16) ?_ (fun o ho => ?_)
  · repeat' (first
      | refine pick_bind hb (by omega) (by omega) (fun v a c => ?_)
      | refine Ret.beq (fun e => ?_) (fun e => ?_)
      | refine Ret.pure ?_
      | dsimp only)
    all_goals exact ⟨rfl, by omega, by omega⟩
  obtain ⟨b3, p3, o⟩ := o
  simp only at ho
  obtain ⟨rfl, h5, h6⟩ := ho
  dsimp only
  repeat' (first
      | refine pick_bind hb (by omega) (by omega) (fun v a c => ?_)
      | refine Ret.guard (by first | omega | (simp; omega)) ?_
      | refine Ret.beq (fun e => ?_) (fun e => ?_)
      | refine Ret.pure ?_
      | dsimp only)
  all_goals exact ⟨rfl, by omega, by omega⟩
end

section
variable {N : Nat}
theorem l1Open_ok2 {code : List Int} (hb : ∀ x ∈ code, 0 ≤ x ∧ x < 256) : ∃ b, Fsl1Open_o_ N (code, ()) = some (b, 0, ()) ∧ byteL b := by
  by_cases h1 : (code.length : Int) > 2000
  · have h2 : (2000 : Int) ≤ (code.length : Int) := by omega
    refine ⟨(code.drop 0).take (2000 - 0), by simp only [Fsl1Open_o_, h1, h2]; rfl, by simp; omega, fun x hx => hb x ?_⟩
    exact List.mem_of_mem_drop (List.mem_of_mem_take hx)
  · exact ⟨code, by simp only [Fsl1Open_o_, h1]; rfl, by omega, hb⟩
end

section
variable {N : Nat} (hN : lim < N)
include hN
omit hN in
theorem l20Prog0_ok {n : Int} {b : List Int} (hb : byteL b) (hn : 0 ≤ n ∧ n ≤ 1000) : ∀ (f i : Nat) (q p : Int) (out : List OpD), (i : Int) ≤ n → n.toNat - i < f → 0 ≤ p → p + 60 * (n - i) < 1099511627000 → out.length = i →
    Ret (lsl20Prog_0 N f (n, q, (i : Int), b, p, out, ())) (fun r => (r.1.length : Int) = n) := by
  have hlim : lim = 2147483648 := rfl
  intro f
  induction f with
  | zero => intro i q p out _ h; exact absurd h (Nat.not_lt_zero _)
  | succ f ih =>
    intro i q p out hi hf hp hp' ho
    have w1 : w64 ((i : Int) + 1) = ((i + 1 : Nat) : Int) := w64_succ (by omega)
    simp only [lsl20Prog_0]
    refine Ret.dec (fun h => ?_) (fun h => ?_)
    · refine Ret.bind _ (l20Op_ok (n := q) hb hp (by omega)) (fun r hr => ?_)
      obtain ⟨r0, r1, r2, r3, r4, r5, r6, r7, r8, r9, ⟨⟩⟩ := r
      simp only at hr
      obtain ⟨rfl, h1, h2⟩ := hr
      refine Ret.bind (fun o => o.1 = n ∧ o.2.2.1 = (i : Int) ∧ o.2.2.2.1 = r8 ∧ p ≤ o.2.2.2.2.1 ∧ o.2.2.2.2.1 ≤ p + 40 ∧ o.2.2.2.2.2.1 = out) ?_ (fun o hq => ?_)
      · refine Ret.dec (fun e => ?_) (fun e => ?_)
        · refine Ret.beq (fun e => ?_) (fun e => ?_)
          · refine pick_bind hb (by first | omega | (dsimp only; omega)) (by first | omega | (dsimp only; omega)) (fun v a c => ?_)
            refine Ret.dec (fun e => ?_) (fun e => ?_)
            · refine Ret.bind _ (l20Shape_ok hb (by first | omega | (dsimp only; omega)) (by first | omega | (dsimp only; omega))) (fun r hr => ?_)
              obtain ⟨s0, s1, s2, s3, ⟨⟩⟩ := r
              simp only at hr
              obtain ⟨rfl, h3, h4⟩ := hr
              exact Ret.pure ⟨rfl, rfl, rfl, by simp only []; omega, by simp only []; omega, rfl⟩
            · exact Ret.pure ⟨rfl, rfl, rfl, by simp only []; omega, by simp only []; omega, rfl⟩
          · exact Ret.pure ⟨rfl, rfl, rfl, by simp only []; omega, by simp only []; omega, rfl⟩
        · exact Ret.pure ⟨rfl, rfl, rfl, by simp only []; omega, by simp only []; omega, rfl⟩
      · obtain ⟨o0, o1, o2, o3, o4, o5, o6, o7, o8, o9, o10, o11, o12, o13, ⟨⟩⟩ := o
        simp only at hq
        obtain ⟨rfl, rfl, rfl, h5, h6, rfl⟩ := hq
        refine Ret.bind (fun u => u.1 = o0 ∧ u.2.2.1 = (i : Int) ∧ u.2.2.2.1 = o3 ∧ u.2.2.2.2.1 = o4 ∧ u.2.2.2.2.2.1 = o5) ?_ (fun u hu => ?_)
        · repeat' (first
            | refine Ret.dec (fun e => ?_) (fun e => ?_)
            | refine Ret.beq (fun e => ?_) (fun e => ?_)
            | exact Ret.pure ⟨rfl, rfl, rfl, rfl, rfl⟩)
        obtain ⟨u0, u1, u2, u3, u4, u5, u6, u7, u8, u9, u10, u11, u12, u13, ⟨⟩⟩ := u
        simp only at hu
        obtain ⟨rfl, rfl, rfl, rfl, rfl⟩ := hu
        refine Ret.bind (fun u => u.1 = u0 ∧ u.2.2.1 = (i : Int) ∧ u.2.2.2.1 = u3 ∧ u.2.2.2.2.1 = u4 ∧ u.2.2.2.2.2.1 = u5) ?_ (fun u hu => ?_)
        · repeat' (first
            | refine Ret.dec (fun e => ?_) (fun e => ?_)
            | refine Ret.beq (fun e => ?_) (fun e => ?_)
            | exact Ret.pure ⟨rfl, rfl, rfl, rfl, rfl⟩)
        obtain ⟨z0, z1, z2, z3, z4, z5, z6, z7, z8, z9, z10, z11, z12, z13, ⟨⟩⟩ := u
        simp only at hu
        obtain ⟨rfl, rfl, rfl, rfl, rfl⟩ := hu
        dsimp only
        refine Ret.guard (by simp; omega) ?_
        rw [w1]
        exact ih (i + 1) _ _ _ (by omega) (by omega) (by omega) (by omega) (by simp; omega)
    · exact Ret.pure (by simp only []; omega)
theorem l20Prog_ok {n : Int} {b : List Int} {p : Int} (hb : byteL b) (hn : 0 ≤ n ∧ n ≤ 1000) (hp : 0 ≤ p) (hp' : p < 1099511500000) : Ret (Fsl20Prog N (n, b, p, ())) (fun r => (r.1.length : Int) = n) := by
  have hlim : lim = 2147483648 := rfl
  unfold Fsl20Prog
  dsimp only
  have := l20Prog0_ok (N := N) hb hn N 0 1 p [] (by omega) (by omega) hp (by omega) rfl
  simp only [Int.natCast_zero] at this
  refine Ret.bind _ this (fun r hr => ?_)
  exact Ret.pure hr
theorem DrawProgText_ok {code : List Int} (hb : ∀ x ∈ code, 0 ≤ x ∧ x < 256) : Ret (FsDrawProgText N (code, ())) (fun r => r.1.length ≤ 42) := by
  obtain ⟨b, e, hb'⟩ := l1Open_ok2 (N := N) hb
  unfold FsDrawProgText
  refine Ret.bindE e ?_
  dsimp only
  refine pick_bind hb' (by omega) (by omega) (fun v a c => ?_)
  dsimp only
  refine pick_bind hb' (by omega) (by omega) (fun v2 a2 c2 => ?_)
  refine Ret.beq (fun e => ?_) (fun e => ?_)
  · refine pick_bind hb' (by first | omega | (dsimp only; omega)) (by first | omega | (dsimp only; omega)) (fun v3 a3 c3 => ?_)
    have w : w64 (40 + v3) = 40 + v3 := w64_id (by omega) (by omega)
    dsimp only
    rw [w]
    refine Ret.bind _ (l20Prog_ok hN hb' (by omega) (by omega) (by omega)) (fun r hr => ?_)
    exact Ret.pure (by simp only []; omega)
  · dsimp only
    refine Ret.bind _ (l20Prog_ok hN hb' (by omega) (by omega) (by omega)) (fun r hr => ?_)
    exact Ret.pure (by simp only []; omega)
end

theorem wf_u8 {n : Int} (h : (Lit.int .u8 n).wf = true) : 0 ≤ n ∧ n < 256 := by
  simp only [Lit.wf, IntKind.min, IntKind.max, IntKind.signed, IntKind.bits] at h
  simp at h
  omega
theorem wf_i64 {n : Int} (h : (Lit.int .i64 n).wf = true) : -9223372036854775808 ≤ n ∧ n < 9223372036854775808 := by
  simp only [Lit.wf, IntKind.min, IntKind.max, IntKind.signed, IntKind.bits] at h
  simp at h
  omega

theorem flat_ne {os : List OpD} (h : os ≠ []) : (os.map fun o => opT o ++ [10]).flatten ≠ [] := by
  cases os with
  | nil => exact absurd rfl h
  | cons o r => simp
theorem progX_cases (os : List OpD) : (progX os = [] ∧ (40 < os.length ∨ os = [] ∨ ∃ o ∈ os, opT o = [])) ∨ (os.length ≤ 40 ∧ (∀ o ∈ os, opT o ≠ []) ∧ progX os = (os.map fun o => opT o ++ [10]).flatten) := by
  by_cases h : 40 < os.length
  · left; exact ⟨by unfold progX; rw [if_pos h], .inl h⟩
  · by_cases hz : ∃ o ∈ os, opT o = []
    · left; exact ⟨by unfold progX; rw [if_neg h, progP_no _ _ hz], .inr (.inr hz)⟩
    · right
      have hz' : ∀ o ∈ os, opT o ≠ [] := fun o ho e => hz ⟨o, ho, e⟩
      exact ⟨by omega, hz', by unfold progX; rw [if_neg h, progP_ok _ _ hz']; simp⟩
section
variable {N : Nat} (hN : lim < N)
include hN
theorem FnProgJoin_ok {code more : List Int} (hb : ∀ x ∈ code, 0 ≤ x ∧ x < 256) (hb2 : ∀ x ∈ more, 0 ≤ x ∧ x < 256) : FvFnProgJoin N (code, more, ()) = some (true, ()) := by
  have hlim : lim = 2147483648 := rfl
  by_cases h1 : (code.length : Int) > 1048576
  · simp only [FvFnProgJoin, h1, decide_true, cond_true, Option.bind_some, Sum.elim_inr]
  · by_cases h2 : (more.length : Int) > 1048576
    · simp only [FvFnProgJoin, h1, h2, decide_false, cond_false, decide_true, cond_true, Option.bind_some, Sum.elim_inr]
    · obtain ⟨⟨p, ⟨⟩⟩, e1, hp⟩ := DrawProgText_ok hN hb
      obtain ⟨⟨q, ⟨⟩⟩, e2, hq⟩ := DrawProgText_ok hN hb2
      simp only at hp hq
      have ce : bl (ByteArray.mk #[]) = [] := rfl
      have lp := progX_len p
      have lq := progX_len q
      have g1 : ([] : List OpD).length + p.length ≤ lim := by simp; omega
      have g2 : ([] ++ p : List OpD).length + q.length ≤ lim := by simp; omega
      have g3 : (lb (progX p)).size + (lb (progX q)).size ≤ lim := by rw [lb_size, lb_size]; omega
      have g3a : (lb []).size + (lb (progX q)).size ≤ lim := by rw [lb_size, lb_size]; simp; omega
      have g3b : (lb (progX p)).size + (lb []).size ≤ lim := by rw [lb_size, lb_size]; simp; omega
      have g3c : (lb []).size + (lb []).size ≤ lim := by rw [lb_size]; simp [hlim]
      have gb : (p ++ q : List OpD).length = p.length + q.length := List.length_append
      have nb : ([] ++ p ++ q : List OpD) = p ++ q := by simp
      have hbig : 40 < p.length + q.length → progX (p ++ q) = [] := fun h => by unfold progX; rw [if_pos (by simp; omega)]
      by_cases k : 40 < p.length + q.length
      · have k1 : (((p.length + q.length : Nat)) : Int) > 40 := by omega
        have k2 : ¬ (((p.length + q.length : Nat)) : Int) ≤ 40 := by omega
        have hx := hbig k
        simp only [FvFnProgJoin, h1, h2, decide_false, cond_false, Option.bind_some, Sum.elim_inl, e1, e2, hProgText_ok, sProgText_ok hN, beq_self_eq_true, Bool.not_true, g1, g2, decide_true, cond_true, gb, nb, k1, k2, ba_beq, bl_lb, ce, hx, Sum.elim_inr]
      · have k1 : ¬ (((p.length + q.length : Nat)) : Int) > 40 := by omega
        have k2 : (((p.length + q.length : Nat)) : Int) ≤ 40 := by omega
        by_cases za : progX p = []
        · by_cases zp : 0 < p.length
          · have zp' : (p.length : Int) > 0 := by omega
            simp only [FvFnProgJoin, h1, h2, decide_false, cond_false, Option.bind_some, Sum.elim_inl, e1, e2, hProgText_ok, sProgText_ok hN, beq_self_eq_true, Bool.not_true, g1, g2, decide_true, cond_true, gb, nb, k1, k2, ba_beq, bl_lb, ce, za, zp', Sum.elim_inr]
          · have zp' : ¬ (p.length : Int) > 0 := by omega
            have hp0 : p = [] := List.length_eq_zero_iff.1 (by omega)
            have hx : progX (p ++ q) = progX p ++ progX q := by rw [hp0]; rfl
            by_cases zb : progX q = []
            · by_cases zq : 0 < q.length
              · have zq' : (q.length : Int) > 0 := by omega
                simp only [FvFnProgJoin, h1, h2, decide_false, cond_false, Option.bind_some, Sum.elim_inl, e1, e2, hProgText_ok, sProgText_ok hN, beq_self_eq_true, Bool.not_true, g1, g2, g3, g3a, g3b, g3c, decide_true, cond_true, gb, nb, k1, k2, ba_beq, bl_lb, ce, za, zp', zb, zq', lb_append, List.append_nil, Sum.elim_inr]
              · have zq' : ¬ (q.length : Int) > 0 := by omega
                simp only [FvFnProgJoin, h1, h2, decide_false, cond_false, Option.bind_some, Sum.elim_inl, e1, e2, hProgText_ok, sProgText_ok hN, beq_self_eq_true, Bool.not_true, g1, g2, g3, g3a, g3b, g3c, decide_true, cond_true, gb, nb, k1, k2, ba_beq, bl_lb, ce, za, zp', zb, zq', hx, lb_append, List.append_nil, Sum.elim_inr]
            · simp only [FvFnProgJoin, h1, h2, decide_false, cond_false, Option.bind_some, Sum.elim_inl, e1, e2, hProgText_ok, sProgText_ok hN, beq_self_eq_true, Bool.not_true, g1, g2, g3, g3a, g3b, g3c, decide_true, cond_true, gb, nb, k1, k2, ba_beq, bl_lb, ce, za, zp', zb, hx, lb_append, List.append_nil, Sum.elim_inr]
        · have hpc := progX_cases p
          rcases hpc with ⟨hz, _⟩ | ⟨p1, p2, p3⟩
          · exact absurd hz za
          · by_cases zb : progX q = []
            · by_cases zq : 0 < q.length
              · have zq' : (q.length : Int) > 0 := by omega
                simp only [FvFnProgJoin, h1, h2, decide_false, cond_false, Option.bind_some, Sum.elim_inl, e1, e2, hProgText_ok, sProgText_ok hN, beq_self_eq_true, Bool.not_true, g1, g2, decide_true, cond_true, gb, nb, k1, k2, ba_beq, bl_lb, ce, za, zb, zq', Sum.elim_inr]
              · have zq' : ¬ (q.length : Int) > 0 := by omega
                have hq0 : q = [] := List.length_eq_zero_iff.1 (by omega)
                have hx : progX (p ++ q) = progX p ++ progX q := by rw [hq0, List.append_nil, show progX [] = [] from rfl, List.append_nil]
                simp only [FvFnProgJoin, h1, h2, decide_false, cond_false, Option.bind_some, Sum.elim_inl, e1, e2, hProgText_ok, sProgText_ok hN, beq_self_eq_true, Bool.not_true, g1, g2, g3, g3a, g3b, g3c, decide_true, cond_true, gb, nb, k1, k2, ba_beq, bl_lb, ce, za, zb, zq', hx, lb_append, List.append_nil, Sum.elim_inr]
            · have hqc := progX_cases q
              rcases hqc with ⟨hz, _⟩ | ⟨q1, q2, q3⟩
              · exact absurd hz zb
              · have hx : progX (p ++ q) = progX p ++ progX q := by
                  have hall : ∀ o ∈ p ++ q, opT o ≠ [] := fun o ho => (List.mem_append.1 ho).elim (p2 o) (q2 o)
                  rw [p3, q3]
                  unfold progX
                  rw [if_neg (by simp; omega), progP_ok _ _ hall]
                  simp
                simp only [FvFnProgJoin, h1, h2, decide_false, cond_false, Option.bind_some, Sum.elim_inl, e1, e2, hProgText_ok, sProgText_ok hN, beq_self_eq_true, Bool.not_true, g1, g2, g3, g3a, g3b, g3c, decide_true, cond_true, gb, nb, k1, k2, ba_beq, bl_lb, ce, za, zb, hx, lb_append]
end
end Go.Fl

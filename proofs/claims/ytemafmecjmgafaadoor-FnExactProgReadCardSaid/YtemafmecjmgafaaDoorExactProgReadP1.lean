/- Proved: for every input the law FnExactProgRead returns true and leaves its arguments as they were. Part 1: the functions that the law reaches, as plain functions, and plain laws about them; no conditions. -/
import Derived.Test.YtemafmecjmgafaaDoorK3
import Derived.Test.YtemafmecjmgafaaDoorK4
import Derived.Test.YtemafmecjmgafaaDoorProg
import Derived.Lib.AtoiAll
import Derived.Lib.ItoaNum
import Derived.Lib.SplitLaws
import Derived.Lib.Join
set_option linter.all false
-- FUNCS sl9Split sl9Num sl9Nums sl9Op sShapeOk sOpOk sOpRead sProgRead internal_stringslite_HasSuffix internal_stringslite_CutSuffix strings_CutSuffix hSplit hopOf iShapeOk iOpOk iOpRead iProgRead veqShape veqOp veqOpS vmarkOpS vheldOpS vFnExactProgRead
set_option maxRecDepth 100000
set_option linter.all false
namespace Go.Fl
open Go Go.Proofs
noncomputable def TE : List (Nat × Ty) := [(3, (.int .i64)),
  (4, .bool),
  (5, (.int .u8)),
  (9, .str),
  (25, (.sl (.pair (.int .i64) (.pair (.int .i64) (.pair (.int .i64) (.pair (.int .i64) (.pair (.int .i64) (.pair (.int .i64) (.pair (.pair (.int .i64) (.pair (.int .i64) .unit)) .unit))))))))),
  (33, (.pair (.int .i64) (.pair (.int .i64) .unit))),
  (35, (.pair (.int .i64) (.pair (.int .i64) (.pair (.int .i64) (.pair (.int .i64) (.pair (.int .i64) (.pair (.int .i64) (.pair (.pair (.int .i64) (.pair (.int .i64) .unit)) .unit)))))))),
  (43, (.sl (.int .i64))),
  (68, (.sl .str))]
theorem TE_ok : TyOk Tryd.prog TE := tysB_spec (by kernel_rfl)
theorem mixed : Tryd.prog.follows .mixedOrders = true := by kernel_rfl

/-! ### 38: spec.l9Split -/

noncomputable def dinsl9Split : Desc := { n := 2, regs := [.one (.val .str), .one (.val (.int .u8))], bx := [], pins := [] }
noncomputable def outsl9Split : Outs := [(.ret, { n := 1, regs := [.one (.lit (.row 1012800))], bx := [(1012800, .row .str)], pins := [] })]
noncomputable def Hsl9Split : Hints := [(1, [(0, { nl := [(0, .str)] })])]
noncomputable def Esl9Split (_N : Nat) : Env := { te := TE, cs := [] }
noncomputable def dsl9Split_0 : Desc := { n := 34, regs := [.one (.val .str), .one (.val (.int .u8)), u, u, u, .one (.lit (.row 1012800)), .one (.val (.int .i64)), .one (.val (.int .i64))], bx := [(1012800, .row .str)], pins := [] }
noncomputable def osl9Split_0 : Outs := [(.exit 0, { n := 34, regs := [.one (.val .str), u, u, u, u, .one (.lit (.row 1012800)), .one (.val (.int .i64))], bx := [(1012800, .row .str)], pins := [] })]
noncomputable def lsl9Split_0 (N : Nat) : Nat → (ByteArray × (Int × (Int × (Int × ((List ByteArray) × Unit))))) → Option (ByteArray × (Int × ((List ByteArray) × Unit)))
  | 0, _ => none
  | n + 1, v =>
    let y1 := decide (v.2.2.2.1 < (v.1.size : Int))
    bif y1 then
     bif decide (0 ≤ v.2.2.2.1) then
     bif decide (v.2.2.2.1.toNat < v.1.size) then
     let y2 := ((v.1.data.getD v.2.2.2.1.toNat 0).toNat : Int)
     bif y2 == v.2.1 then
      bif decide (0 ≤ v.2.2.2.1) then
      bif decide (v.2.2.2.1 ≤ (v.1.size : Int)) then
      bif decide (0 ≤ v.2.2.1) then
      bif decide (v.2.2.1 ≤ v.2.2.2.1) then
      let y3 := v.1.extract v.2.2.1.toNat v.2.2.2.1.toNat
      bif decide (v.2.2.2.2.1.length + [y3].length ≤ lim) then
      lsl9Split_0 N n (v.1, v.2.1, w64 (v.2.2.2.1 + (1 : Int)), w64 (v.2.2.2.1 + (1 : Int)), v.2.2.2.2.1 ++ [y3], ())
      else none
      else none
      else none
      else none
      else none
     else
     lsl9Split_0 N n (v.1, v.2.1, v.2.2.1, w64 (v.2.2.2.1 + (1 : Int)), v.2.2.2.2.1, ())
     else none
     else none
    else
    some (v.1, v.2.2.1, v.2.2.2.2.1, ())
noncomputable def Fsl9Split (N : Nat) (x : (ByteArray × (Int × Unit))) : Option ((List ByteArray) × Unit) :=
  (lsl9Split_0 N N (x.1, x.2.1, (0 : Int), (0 : Int), ([] : (List ByteArray)), ())).bind fun o4 =>
  bif decide (0 ≤ (o4.1.size : Int)) then
  bif decide ((o4.1.size : Int) ≤ (o4.1.size : Int)) then
  bif decide (0 ≤ o4.2.1) then
  bif decide (o4.2.1 ≤ (o4.1.size : Int)) then
  let y5 := o4.1.extract o4.2.1.toNat (o4.1.size : Int).toNat
  bif decide (o4.2.2.1.length + [y5].length ≤ lim) then
  some (o4.2.2.1 ++ [y5], ())
  else none
  else none
  else none
  else none
  else none
noncomputable def consl9Split (N : Nat) : Con := { f := 38, din := dinsl9Split, outs := outsl9Split, F := Fsl9Split N }
noncomputable def Xsl9Split (N : Nat) : Ctx := { E := Esl9Split N, H := Hsl9Split, lp := [(0, { hd := dsl9Split_0, outs := osl9Split_0, run := fun v => lsl9Split_0 N N v })], jn := [] }
noncomputable def bsl9Split_0 : Code := loopBody (codeOf Tryd.f38) 0
theorem Fsl9Split_eq (N : Nat) (x : (ByteArray × (Int × Unit))) : evFn (Xsl9Split N) Tryd.f38 dinsl9Split outsl9Split x = Fsl9Split N x := by kernel_rfl
theorem lsl9Split_0_eq (N n : Nat) (v : (ByteArray × (Int × (Int × (Int × ((List ByteArray) × Unit)))))) : lsl9Split_0 N (n + 1) v = ev (Xsl9Split N) bsl9Split_0 (roundK dsl9Split_0 osl9Split_0 (lsl9Split_0 N n)) (dsl9Split_0.mk' v) := by kernel_rfl
theorem cxsl9Split (N : Nat) : CtxOk Tryd.prog (Xsl9Split N) := ⟨⟨TE_ok, fun k hk => absurd hk List.not_mem_nil⟩, mixed⟩
theorem lpsl9Split_0 (N : Nat) : LoopOk Tryd.prog { hd := dsl9Split_0, outs := osl9Split_0, run := fun v => lsl9Split_0 N N v } bsl9Split_0 :=
  loop_fuel (d := dsl9Split_0) (os := osl9Split_0) (cxsl9Split N) (loops_at (ids := []) (by kernel_rfl) (trivial)) (lsl9Split_0 N) (fun _ => rfl) (fun n v => lsl9Split_0_eq N n v) (fun _ => N)
theorem specsl9Split (N : Nat) : Spec Tryd.prog (consl9Split N) :=
  Spec.of_eq (fn_spec (cxsl9Split N) (f := 38) (fn := Tryd.f38) (c := codeOf Tryd.f38) (by kernel_rfl) (by kernel_rfl) (by kernel_rfl) (loops_at (ids := [0]) (by kernel_rfl) ⟨lp_of (lpsl9Split_0 N), trivial⟩) (by kernel_rfl)) (fun x r h => (Fsl9Split_eq N x).trans h)

/-! ### 65: spec.l9Num -/

noncomputable def dinsl9Num : Desc := { n := 1, regs := [.one (.val .str)], bx := [], pins := [] }
noncomputable def outsl9Num : Outs := [(.ret, { n := 2, regs := [.one (.val (.int .i64)), .one (.val .bool)], bx := [], pins := [] })]
noncomputable def Hsl9Num : Hints := []
noncomputable def Esl9Num (_N : Nat) : Env := { te := TE, cs := [] }
noncomputable def dsl9Num_0 : Desc := { n := 67, regs := [.one (.val .str), u, u, u, .one (.val .str), .one (.val (.int .i64)), .one (.val (.int .i64))], bx := [], pins := [] }
noncomputable def osl9Num_0 : Outs := [(.exit 0, { n := 67, regs := [.one (.val .str), u, u, u, .one (.val .str), .one (.val (.int .i64))], bx := [], pins := [] }), (.ret, { n := 67, regs := [u, u, .one (.val (.int .i64)), .one (.val .bool)], bx := [], pins := [] })]
noncomputable def jsl9Num_4 : Outs := [(.normal, { n := 67, regs := [.one (.val .str), u, u, u, .one (.val .str)], bx := [], pins := [] })]
noncomputable def jsl9Num_6 : Outs := [(.normal, { n := 67, regs := [.one (.val .str), u, u, u, .one (.val .str)], bx := [], pins := [] }), (.ret, { n := 67, regs := [u, u, .one (.val (.int .i64)), .one (.val .bool)], bx := [], pins := [] })]
noncomputable def jsl9Num_12 : Outs := [(.normal, { n := 67, regs := [.one (.val .str), u, u, u, .one (.val .str), .one (.val (.int .i64)), .one (.val (.int .i64))], bx := [], pins := [] }), (.ret, { n := 67, regs := [u, u, .one (.val (.int .i64)), .one (.val .bool)], bx := [], pins := [] })]
noncomputable def lsl9Num_0 (N : Nat) : Nat → (ByteArray × (ByteArray × (Int × (Int × Unit)))) → Option ((ByteArray × (ByteArray × (Int × Unit))) ⊕ (Int × (Bool × Unit)))
  | 0, _ => none
  | n + 1, v =>
    let y11 := decide (v.2.2.2.1 < (v.2.1.size : Int))
    bif y11 then
     Option.bind (
      bif decide (0 ≤ v.2.2.2.1) then
      bif decide (v.2.2.2.1.toNat < v.2.1.size) then
      let y12 := ((v.2.1.data.getD v.2.2.2.1.toNat 0).toNat : Int)
      bif decide (y12 < (48 : Int)) then
       some (.inr (((0 : Int), false, ())))
      else
      bif decide (0 ≤ v.2.2.2.1) then
      bif decide (v.2.2.2.1.toNat < v.2.1.size) then
      let y13 := ((v.2.1.data.getD v.2.2.2.1.toNat 0).toNat : Int)
      bif decide (y13 > (57 : Int)) then
       some (.inr (((0 : Int), false, ())))
      else
      some (.inl (v.1, v.2.1, v.2.2.1, v.2.2.2.1, ()))
      else none
      else none
      else none
      else none) fun o14 =>
     Sum.elim (fun o15 =>
      bif decide (0 ≤ o15.2.2.2.1) then
      bif decide (o15.2.2.2.1.toNat < o15.2.1.size) then
      let y16 := ((o15.2.1.data.getD o15.2.2.2.1.toNat 0).toNat : Int)
      let y17 := w64 (IntKind.wrap .u8 (y16 - (48 : Int)))
      let y18 := w64 ((w64 ((10 : Int) * o15.2.2.1)) + y17)
      lsl9Num_0 N n (o15.1, o15.2.1, y18, w64 (o15.2.2.2.1 + (1 : Int)), ())
      else none
      else none) (fun o19 =>
      some (.inr ((o19.1, o19.2.1, ())))) o14
    else
    some (.inl (v.1, v.2.1, v.2.2.1, ()))
noncomputable def Fsl9Num (N : Nat) (x : (ByteArray × Unit)) : Option (Int × (Bool × Unit)) :=
  Option.bind (
   let y1 := decide ((x.1.size : Int) > (0 : Int))
   bif y1 then
    bif decide (0 ≤ (0 : Int)) then
    bif decide ((0 : Int).toNat < x.1.size) then
    let y2 := ((x.1.data.getD (0 : Int).toNat 0).toNat : Int)
    bif y2 == (45 : Int) then
     bif decide (0 ≤ (x.1.size : Int)) then
     bif decide ((x.1.size : Int) ≤ (x.1.size : Int)) then
     bif decide (0 ≤ (1 : Int)) then
     bif decide ((1 : Int) ≤ (x.1.size : Int)) then
     let y3 := x.1.extract (1 : Int).toNat (x.1.size : Int).toNat
     some (x.1, y3, ())
     else none
     else none
     else none
     else none
    else
    some (x.1, x.1, ())
    else none
    else none
   else
   some (x.1, x.1, ())) fun o4 =>
  Option.bind (
   let y5 := decide ((o4.2.1.size : Int) < (1 : Int))
   bif y5 then
    some (.inr (((0 : Int), false, ())))
   else
   let y6 := decide ((o4.2.1.size : Int) > (9 : Int))
   bif y6 then
    some (.inr (((0 : Int), false, ())))
   else
   bif decide (0 ≤ (0 : Int)) then
   bif decide ((0 : Int).toNat < o4.2.1.size) then
   let y7 := ((o4.2.1.data.getD (0 : Int).toNat 0).toNat : Int)
   bif y7 == (48 : Int) then
    let y8 := !(o4.1.toList == (ByteArray.mk #[48]).toList)
    bif y8 then
     some (.inr (((0 : Int), false, ())))
    else
    some (.inl (o4.1, o4.2.1, ()))
   else
   some (.inl (o4.1, o4.2.1, ()))
   else none
   else none) fun o9 =>
  Sum.elim (fun o10 =>
   (lsl9Num_0 N N (o10.1, o10.2.1, (0 : Int), (0 : Int), ())).bind fun o20 =>
   Sum.elim (fun o21 =>
    let y22 := decide ((o21.2.1.size : Int) < (o21.1.size : Int))
    bif y22 then
     some (w64 (0 - o21.2.2.1), true, ())
    else
    some (o21.2.2.1, true, ())) (fun o23 =>
    some (o23.1, o23.2.1, ())) o20) (fun o24 =>
   some (o24.1, o24.2.1, ())) o9
noncomputable def consl9Num (N : Nat) : Con := { f := 65, din := dinsl9Num, outs := outsl9Num, F := Fsl9Num N }
noncomputable def Xsl9Num (N : Nat) : Ctx := { E := Esl9Num N, H := Hsl9Num, lp := [(0, { hd := dsl9Num_0, outs := osl9Num_0, run := fun v => lsl9Num_0 N N v })], jn := [(4, jsl9Num_4), (6, jsl9Num_6), (12, jsl9Num_12)] }
noncomputable def bsl9Num_0 : Code := loopBody (codeOf Tryd.f65) 0
theorem Fsl9Num_eq (N : Nat) (x : (ByteArray × Unit)) : evFn (Xsl9Num N) Tryd.f65 dinsl9Num outsl9Num x = Fsl9Num N x := by kernel_rfl
theorem lsl9Num_0_eq (N n : Nat) (v : (ByteArray × (ByteArray × (Int × (Int × Unit))))) : lsl9Num_0 N (n + 1) v = ev (Xsl9Num N) bsl9Num_0 (roundK dsl9Num_0 osl9Num_0 (lsl9Num_0 N n)) (dsl9Num_0.mk' v) := by kernel_rfl
theorem cxsl9Num (N : Nat) : CtxOk Tryd.prog (Xsl9Num N) := ⟨⟨TE_ok, fun k hk => absurd hk List.not_mem_nil⟩, mixed⟩
theorem lpsl9Num_0 (N : Nat) : LoopOk Tryd.prog { hd := dsl9Num_0, outs := osl9Num_0, run := fun v => lsl9Num_0 N N v } bsl9Num_0 :=
  loop_fuel (d := dsl9Num_0) (os := osl9Num_0) (cxsl9Num N) (loops_at (ids := []) (by kernel_rfl) (trivial)) (lsl9Num_0 N) (fun _ => rfl) (fun n v => lsl9Num_0_eq N n v) (fun _ => N)
theorem specsl9Num (N : Nat) : Spec Tryd.prog (consl9Num N) :=
  Spec.of_eq (fn_spec (cxsl9Num N) (f := 65) (fn := Tryd.f65) (c := codeOf Tryd.f65) (by kernel_rfl) (by kernel_rfl) (by kernel_rfl) (loops_at (ids := [0]) (by kernel_rfl) ⟨lp_of (lpsl9Num_0 N), trivial⟩) (by kernel_rfl)) (fun x r h => (Fsl9Num_eq N x).trans h)

/-! ### 39: spec.l9Nums -/

noncomputable def dinsl9Nums : Desc := { n := 1, regs := [.one (.val (.sl .str))], bx := [], pins := [] }
noncomputable def outsl9Nums : Outs := [(.ret, { n := 2, regs := [.one (.lit (.row 1012800)), .one (.val .bool)], bx := [(1012800, .row (.int .i64))], pins := [] })]
noncomputable def Hsl9Nums : Hints := [(1, [(0, { nl := [(0, (.int .i64))] })]),
  (7, [(0, { nl := [(0, (.int .i64))] })])]
noncomputable def Esl9Nums (N : Nat) : Env := { te := TE, cs := [consl9Num N] }
noncomputable def dsl9Nums_0 : Desc := { n := 29, regs := [.one (.val (.sl .str)), u, u, u, .one (.lit (.row 1012800)), .one (.val (.int .i64))], bx := [(1012800, .row (.int .i64))], pins := [] }
noncomputable def osl9Nums_0 : Outs := [(.exit 0, { n := 29, regs := [u, u, u, u, .one (.lit (.row 1012800))], bx := [(1012800, .row (.int .i64))], pins := [] }), (.ret, { n := 29, regs := [u, u, .one (.lit (.row 1089600)), .one (.val .bool)], bx := [(1089600, .row (.int .i64))], pins := [] })]
noncomputable def lsl9Nums_0 (N : Nat) : Nat → ((List ByteArray) × (Int × ((List Int) × Unit))) → Option (((List Int) × Unit) ⊕ (Bool × ((List Int) × Unit)))
  | 0, _ => none
  | n + 1, v =>
    bif decide (v.2.1 < (v.1.length : Int)) then
     bif decide (0 ≤ v.2.1) then
     bif decide (v.2.1.toNat < v.1.length) then
     (Fsl9Num N (v.1.getD v.2.1.toNat ByteArray.empty, ())).bind fun r1 =>
     bif !r1.2.1 then
      some (.inr ((false, ([] : (List Int)), ())))
     else
     bif decide (v.2.2.1.length + [r1.1].length ≤ lim) then
     lsl9Nums_0 N n (v.1, w64 (v.2.1 + (1 : Int)), v.2.2.1 ++ [r1.1], ())
     else none
     else none
     else none
    else
    some (.inl (v.2.2.1, ()))
noncomputable def Fsl9Nums (N : Nat) (x : ((List ByteArray) × Unit)) : Option (Bool × ((List Int) × Unit)) :=
  (lsl9Nums_0 N N (x.1, (0 : Int), ([] : (List Int)), ())).bind fun o2 =>
  Sum.elim (fun o3 =>
   some (true, o3.1, ())) (fun o4 =>
   some (o4.1, o4.2.1, ())) o2
noncomputable def consl9Nums (N : Nat) : Con := { f := 39, din := dinsl9Nums, outs := outsl9Nums, F := Fsl9Nums N }
noncomputable def Xsl9Nums (N : Nat) : Ctx := { E := Esl9Nums N, H := Hsl9Nums, lp := [(0, { hd := dsl9Nums_0, outs := osl9Nums_0, run := fun v => lsl9Nums_0 N N v })], jn := [] }
noncomputable def bsl9Nums_0 : Code := loopBody (codeOf Tryd.f39) 0
theorem Fsl9Nums_eq (N : Nat) (x : ((List ByteArray) × Unit)) : evFn (Xsl9Nums N) Tryd.f39 dinsl9Nums outsl9Nums x = Fsl9Nums N x := by kernel_rfl
theorem lsl9Nums_0_eq (N n : Nat) (v : ((List ByteArray) × (Int × ((List Int) × Unit)))) : lsl9Nums_0 N (n + 1) v = ev (Xsl9Nums N) bsl9Nums_0 (roundK dsl9Nums_0 osl9Nums_0 (lsl9Nums_0 N n)) (dsl9Nums_0.mk' v) := by kernel_rfl
theorem cxsl9Nums (N : Nat) : CtxOk Tryd.prog (Xsl9Nums N) := ⟨⟨TE_ok, List.forall_mem_cons.2 ⟨(specsl9Num N), fun k hk => absurd hk List.not_mem_nil⟩⟩, mixed⟩
theorem lpsl9Nums_0 (N : Nat) : LoopOk Tryd.prog { hd := dsl9Nums_0, outs := osl9Nums_0, run := fun v => lsl9Nums_0 N N v } bsl9Nums_0 :=
  loop_fuel (d := dsl9Nums_0) (os := osl9Nums_0) (cxsl9Nums N) (loops_at (ids := []) (by kernel_rfl) (trivial)) (lsl9Nums_0 N) (fun _ => rfl) (fun n v => lsl9Nums_0_eq N n v) (fun _ => N)
theorem specsl9Nums (N : Nat) : Spec Tryd.prog (consl9Nums N) :=
  Spec.of_eq (fn_spec (cxsl9Nums N) (f := 39) (fn := Tryd.f39) (c := codeOf Tryd.f39) (by kernel_rfl) (by kernel_rfl) (by kernel_rfl) (loops_at (ids := [0]) (by kernel_rfl) ⟨lp_of (lpsl9Nums_0 N), trivial⟩) (by kernel_rfl)) (fun x r h => (Fsl9Nums_eq N x).trans h)

/-! ### 40: spec.l9Op -/

noncomputable def dinsl9Op : Desc := { n := 2, regs := [.one (.val .str), .one (.val (.sl (.int .i64)))], bx := [], pins := [] }
noncomputable def outsl9Op : Outs := [(.ret, { n := 2, regs := [.agg [.val (.int .i64), .val (.int .i64), .val (.int .i64), .val (.int .i64), .val (.int .i64), .val (.int .i64), .val (.int .i64), .val (.int .i64)], .one (.val .bool)], bx := [], pins := [] })]
noncomputable def Hsl9Op : Hints := []
noncomputable def Esl9Op (_N : Nat) : Env := { te := TE, cs := [] }
noncomputable def jsl9Op_2 : Outs := [(.normal, { n := 170, regs := [.one (.val .str), .one (.val (.sl (.int .i64))), u, u, .one (.lit (.ptr 1000000 0)), u, .one (.val .bool)], bx := [(1000000, .var [.val (.int .i64), .val (.int .i64), .val (.int .i64), .val (.int .i64), .val (.int .i64), .val (.int .i64), .val (.int .i64), .val (.int .i64)])], pins := [] })]
noncomputable def jsl9Op_4 : Outs := [(.normal, { n := 170, regs := [.one (.val .str), .one (.val (.sl (.int .i64))), u, u, .one (.lit (.ptr 1000000 0)), u, u, u, u, u, u, u, u, u, u, u, u, u, u, u, u, u, .one (.val .bool)], bx := [(1000000, .var [.val (.int .i64), .val (.int .i64), .val (.int .i64), .val (.int .i64), .val (.int .i64), .val (.int .i64), .val (.int .i64), .val (.int .i64)])], pins := [] })]
noncomputable def jsl9Op_6 : Outs := [(.normal, { n := 170, regs := [.one (.val .str), .one (.val (.sl (.int .i64))), u, u, .one (.lit (.ptr 1000000 0)), u, u, u, u, u, u, u, u, u, u, u, u, u, u, u, u, u, u, u, u, u, u, u, u, u, u, u, u, u, u, u, u, .one (.val .bool)], bx := [(1000000, .var [.val (.int .i64), .val (.int .i64), .val (.int .i64), .val (.int .i64), .val (.int .i64), .val (.int .i64), .val (.int .i64), .val (.int .i64)])], pins := [] })]
noncomputable def jsl9Op_8 : Outs := [(.normal, { n := 170, regs := [.one (.val .str), .one (.val (.sl (.int .i64))), u, u, .one (.lit (.ptr 1000000 0)), u, u, u, u, u, u, u, u, u, u, u, u, u, u, u, u, u, u, u, u, u, u, u, u, u, u, u, u, u, u, u, u, u, u, u, u, u, u, u, u, u, u, u, u, u, u, u, u, u, u, .one (.val .bool)], bx := [(1000000, .var [.val (.int .i64), .val (.int .i64), .val (.int .i64), .val (.int .i64), .val (.int .i64), .val (.int .i64), .val (.int .i64), .val (.int .i64)])], pins := [] })]
noncomputable def jsl9Op_10 : Outs := [(.normal, { n := 170, regs := [.one (.val .str), .one (.val (.sl (.int .i64))), u, u, .one (.lit (.ptr 1000000 0)), u, u, u, u, u, u, u, u, u, u, u, u, u, u, u, u, u, u, u, u, u, u, u, u, u, u, u, u, u, u, u, u, u, u, u, u, u, u, u, u, u, u, u, u, u, u, u, u, u, u, u, u, u, u, u, u, u, u, u, u, u, u, u, u, u, u, u, u, .one (.val .bool)], bx := [(1000000, .var [.val (.int .i64), .val (.int .i64), .val (.int .i64), .val (.int .i64), .val (.int .i64), .val (.int .i64), .val (.int .i64), .val (.int .i64)])], pins := [] })]
noncomputable def jsl9Op_12 : Outs := [(.normal, { n := 170, regs := [.one (.val .str), .one (.val (.sl (.int .i64))), u, u, .one (.lit (.ptr 1000000 0)), u, u, u, u, u, u, u, u, u, u, u, u, u, u, u, u, u, u, u, u, u, u, u, u, u, u, u, u, u, u, u, u, u, u, u, u, u, u, u, u, u, u, u, u, u, u, u, u, u, u, u, u, u, u, u, u, u, u, u, u, u, u, u, u, u, u, u, u, u, u, u, u, u, u, u, u, u, u, u, u, u, u, u, .one (.val .bool)], bx := [(1000000, .var [.val (.int .i64), .val (.int .i64), .val (.int .i64), .val (.int .i64), .val (.int .i64), .val (.int .i64), .val (.int .i64), .val (.int .i64)])], pins := [] })]
noncomputable def jsl9Op_14 : Outs := [(.normal, { n := 170, regs := [.one (.val .str), .one (.val (.sl (.int .i64))), u, u, .one (.lit (.ptr 1000000 0)), u, u, u, u, u, u, u, u, u, u, u, u, u, u, u, u, u, u, u, u, u, u, u, u, u, u, u, u, u, u, u, u, u, u, u, u, u, u, u, u, u, u, u, u, u, u, u, u, u, u, u, u, u, u, u, u, u, u, u, u, u, u, u, u, u, u, u, u, u, u, u, u, u, u, u, u, u, u, u, u, u, u, u, u, u, u, u, u, u, u, u, u, u, u, u, u, u, u, .one (.val .bool)], bx := [(1000000, .var [.val (.int .i64), .val (.int .i64), .val (.int .i64), .val (.int .i64), .val (.int .i64), .val (.int .i64), .val (.int .i64), .val (.int .i64)])], pins := [] })]
noncomputable def jsl9Op_16 : Outs := [(.normal, { n := 170, regs := [.one (.val .str), .one (.val (.sl (.int .i64))), u, u, .one (.lit (.ptr 1000000 0)), u, u, u, u, u, u, u, u, u, u, u, u, u, u, u, u, u, u, u, u, u, u, u, u, u, u, u, u, u, u, u, u, u, u, u, u, u, u, u, u, u, u, u, u, u, u, u, u, u, u, u, u, u, u, u, u, u, u, u, u, u, u, u, u, u, u, u, u, u, u, u, u, u, u, u, u, u, u, u, u, u, u, u, u, u, u, u, u, u, u, u, u, u, u, u, u, u, u, u, u, u, u, u, u, u, u, u, u, u, u, u, u, u, u, u, u, u, u, u, .one (.val .bool)], bx := [(1000000, .var [.val (.int .i64), .val (.int .i64), .val (.int .i64), .val (.int .i64), .val (.int .i64), .val (.int .i64), .val (.int .i64), .val (.int .i64)])], pins := [] })]
noncomputable def jsl9Op_18 : Outs := [(.normal, { n := 170, regs := [.one (.val .str), .one (.val (.sl (.int .i64))), u, u, .one (.lit (.ptr 1000000 0)), u, u, u, u, u, u, u, u, u, u, u, u, u, u, u, u, u, u, u, u, u, u, u, u, u, u, u, u, u, u, u, u, u, u, u, u, u, u, u, u, u, u, u, u, u, u, u, u, u, u, u, u, u, u, u, u, u, u, u, u, u, u, u, u, u, u, u, u, u, u, u, u, u, u, u, u, u, u, u, u, u, u, u, u, u, u, u, u, u, u, u, u, u, u, u, u, u, u, u, u, u, u, u, u, u, u, u, u, u, u, u, u, u, u, u, u, u, u, u, u, u, u, u, u, u, u, u, u, .one (.val .bool)], bx := [(1000000, .var [.val (.int .i64), .val (.int .i64), .val (.int .i64), .val (.int .i64), .val (.int .i64), .val (.int .i64), .val (.int .i64), .val (.int .i64)])], pins := [] })]
noncomputable def jsl9Op_20 : Outs := [(.normal, { n := 170, regs := [.one (.val .str), .one (.val (.sl (.int .i64))), u, u, .one (.lit (.ptr 1000000 0)), u, u, u, u, u, u, u, u, u, u, u, u, u, u, u, u, u, u, u, u, u, u, u, u, u, u, u, u, u, u, u, u, u, u, u, u, u, u, u, u, u, u, u, u, u, u, u, u, u, u, u, u, u, u, u, u, u, u, u, u, u, u, u, u, u, u, u, u, u, u, u, u, u, u, u, u, u, u, u, u, u, u, u, u, u, u, u, u, u, u, u, u, u, u, u, u, u, u, u, u, u, u, u, u, u, u, u, u, u, u, u, u, u, u, u, u, u, u, u, u, u, u, u, u, u, u, u, u, u, u, u, u, u, u, u, u, u, u, u, u, .one (.val .bool)], bx := [(1000000, .var [.val (.int .i64), .val (.int .i64), .val (.int .i64), .val (.int .i64), .val (.int .i64), .val (.int .i64), .val (.int .i64), .val (.int .i64)])], pins := [] })]
noncomputable def jsl9Op_22 : Outs := [(.normal, { n := 170, regs := [u, .one (.val (.sl (.int .i64))), u, u, .one (.lit (.ptr 1000000 0)), u, u, u, u, u, u, u, u, u, u, u, u, u, u, u, u, u, u, u, u, u, u, u, u, u, u, u, u, u, u, u, u, u, u, u, u, u, u, u, u, u, u, u, u, u, u, u, u, u, u, u, u, u, u, u, u, u, u, u, u, u, u, u, u, u, u, u, u, u, u, u, u, u, u, u, u, u, u, u, u, u, u, u, u, u, u, u, u, u, u, u, u, u, u, u, u, u, u, u, u, u, u, u, u, u, u, u, u, u, u, u, u, u, u, u, u, u, u, u, u, u, u, u, u, u, u, u, u, u, u, u, u, u, u, u, u, u, u, u, u, u, u, u, u, u, u, u, u, u, u, u, u, .one (.val .bool)], bx := [(1000000, .var [.val (.int .i64), .val (.int .i64), .val (.int .i64), .val (.int .i64), .val (.int .i64), .val (.int .i64), .val (.int .i64), .val (.int .i64)])], pins := [] })]
noncomputable def Fsl9Op (N : Nat) (x : (ByteArray × ((List Int) × Unit))) : Option (Int × (Int × (Int × (Int × (Int × (Int × (Int × (Int × (Bool × Unit))))))))) :=
  Option.bind (
   let y1 := x.1.toList == (ByteArray.mk #[110, 101, 119]).toList
   bif y1 then
    some (x.1, x.2.1, (x.2.1.length : Int) == (2 : Int), (0 : Int), (0 : Int), (0 : Int), (0 : Int), (0 : Int), (0 : Int), (0 : Int), (0 : Int), ())
   else
   some (x.1, x.2.1, false, (0 : Int), (0 : Int), (0 : Int), (0 : Int), (0 : Int), (0 : Int), (0 : Int), (0 : Int), ())) fun o2 =>
  bif o2.2.2.1 then
   bif decide (0 ≤ (0 : Int)) then
   bif decide ((0 : Int).toNat < o2.2.1.length) then
   let y3 := o2.2.1.getD ((0 : Int).toNat) (0 : Int)
   bif decide (0 ≤ (1 : Int)) then
   bif decide ((1 : Int).toNat < o2.2.1.length) then
   let y4 := o2.2.1.getD ((1 : Int).toNat) (0 : Int)
   some ((1 : Int), (0 : Int), (0 : Int), (0 : Int), (0 : Int), (0 : Int), y3, y4, true, ())
   else none
   else none
   else none
   else none
  else
  Option.bind (
   let y5 := o2.1.toList == (ByteArray.mk #[108, 111, 97, 100]).toList
   bif y5 then
    some (o2.1, o2.2.1, (o2.2.1.length : Int) == (2 : Int), o2.2.2.2.1, o2.2.2.2.2.1, o2.2.2.2.2.2.1, o2.2.2.2.2.2.2.1, o2.2.2.2.2.2.2.2.1, o2.2.2.2.2.2.2.2.2.1, o2.2.2.2.2.2.2.2.2.2.1, o2.2.2.2.2.2.2.2.2.2.2.1, ())
   else
   some (o2.1, o2.2.1, false, o2.2.2.2.1, o2.2.2.2.2.1, o2.2.2.2.2.2.1, o2.2.2.2.2.2.2.1, o2.2.2.2.2.2.2.2.1, o2.2.2.2.2.2.2.2.2.1, o2.2.2.2.2.2.2.2.2.2.1, o2.2.2.2.2.2.2.2.2.2.2.1, ())) fun o6 =>
  bif o6.2.2.1 then
   bif decide (0 ≤ (0 : Int)) then
   bif decide ((0 : Int).toNat < o6.2.1.length) then
   let y7 := o6.2.1.getD ((0 : Int).toNat) (0 : Int)
   bif decide (0 ≤ (1 : Int)) then
   bif decide ((1 : Int).toNat < o6.2.1.length) then
   let y8 := o6.2.1.getD ((1 : Int).toNat) (0 : Int)
   some ((2 : Int), y7, (0 : Int), (0 : Int), y8, (0 : Int), (0 : Int), (0 : Int), true, ())
   else none
   else none
   else none
   else none
  else
  Option.bind (
   let y9 := o6.1.toList == (ByteArray.mk #[115, 116, 111, 114, 101]).toList
   bif y9 then
    some (o6.1, o6.2.1, (o6.2.1.length : Int) == (3 : Int), o6.2.2.2.1, o6.2.2.2.2.1, o6.2.2.2.2.2.1, o6.2.2.2.2.2.2.1, o6.2.2.2.2.2.2.2.1, o6.2.2.2.2.2.2.2.2.1, o6.2.2.2.2.2.2.2.2.2.1, o6.2.2.2.2.2.2.2.2.2.2.1, ())
   else
   some (o6.1, o6.2.1, false, o6.2.2.2.1, o6.2.2.2.2.1, o6.2.2.2.2.2.1, o6.2.2.2.2.2.2.1, o6.2.2.2.2.2.2.2.1, o6.2.2.2.2.2.2.2.2.1, o6.2.2.2.2.2.2.2.2.2.1, o6.2.2.2.2.2.2.2.2.2.2.1, ())) fun o10 =>
  bif o10.2.2.1 then
   bif decide (0 ≤ (0 : Int)) then
   bif decide ((0 : Int).toNat < o10.2.1.length) then
   let y11 := o10.2.1.getD ((0 : Int).toNat) (0 : Int)
   bif decide (0 ≤ (1 : Int)) then
   bif decide ((1 : Int).toNat < o10.2.1.length) then
   let y12 := o10.2.1.getD ((1 : Int).toNat) (0 : Int)
   bif decide (0 ≤ (2 : Int)) then
   bif decide ((2 : Int).toNat < o10.2.1.length) then
   let y13 := o10.2.1.getD ((2 : Int).toNat) (0 : Int)
   some ((3 : Int), y11, y13, (0 : Int), y12, (0 : Int), (0 : Int), (0 : Int), true, ())
   else none
   else none
   else none
   else none
   else none
   else none
  else
  Option.bind (
   let y14 := o10.1.toList == (ByteArray.mk #[112, 117, 116]).toList
   bif y14 then
    some (o10.1, o10.2.1, (o10.2.1.length : Int) == (3 : Int), o10.2.2.2.1, o10.2.2.2.2.1, o10.2.2.2.2.2.1, o10.2.2.2.2.2.2.1, o10.2.2.2.2.2.2.2.1, o10.2.2.2.2.2.2.2.2.1, o10.2.2.2.2.2.2.2.2.2.1, o10.2.2.2.2.2.2.2.2.2.2.1, ())
   else
   some (o10.1, o10.2.1, false, o10.2.2.2.1, o10.2.2.2.2.1, o10.2.2.2.2.2.1, o10.2.2.2.2.2.2.1, o10.2.2.2.2.2.2.2.1, o10.2.2.2.2.2.2.2.2.1, o10.2.2.2.2.2.2.2.2.2.1, o10.2.2.2.2.2.2.2.2.2.2.1, ())) fun o15 =>
  bif o15.2.2.1 then
   bif decide (0 ≤ (0 : Int)) then
   bif decide ((0 : Int).toNat < o15.2.1.length) then
   let y16 := o15.2.1.getD ((0 : Int).toNat) (0 : Int)
   bif decide (0 ≤ (1 : Int)) then
   bif decide ((1 : Int).toNat < o15.2.1.length) then
   let y17 := o15.2.1.getD ((1 : Int).toNat) (0 : Int)
   bif decide (0 ≤ (2 : Int)) then
   bif decide ((2 : Int).toNat < o15.2.1.length) then
   let y18 := o15.2.1.getD ((2 : Int).toNat) (0 : Int)
   some ((4 : Int), y16, (0 : Int), (0 : Int), y17, y18, (0 : Int), (0 : Int), true, ())
   else none
   else none
   else none
   else none
   else none
   else none
  else
  Option.bind (
   let y19 := o15.1.toList == (ByteArray.mk #[103, 101, 116]).toList
   bif y19 then
    some (o15.1, o15.2.1, (o15.2.1.length : Int) == (2 : Int), o15.2.2.2.1, o15.2.2.2.2.1, o15.2.2.2.2.2.1, o15.2.2.2.2.2.2.1, o15.2.2.2.2.2.2.2.1, o15.2.2.2.2.2.2.2.2.1, o15.2.2.2.2.2.2.2.2.2.1, o15.2.2.2.2.2.2.2.2.2.2.1, ())
   else
   some (o15.1, o15.2.1, false, o15.2.2.2.1, o15.2.2.2.2.1, o15.2.2.2.2.2.1, o15.2.2.2.2.2.2.1, o15.2.2.2.2.2.2.2.1, o15.2.2.2.2.2.2.2.2.1, o15.2.2.2.2.2.2.2.2.2.1, o15.2.2.2.2.2.2.2.2.2.2.1, ())) fun o20 =>
  bif o20.2.2.1 then
   bif decide (0 ≤ (0 : Int)) then
   bif decide ((0 : Int).toNat < o20.2.1.length) then
   let y21 := o20.2.1.getD ((0 : Int).toNat) (0 : Int)
   bif decide (0 ≤ (1 : Int)) then
   bif decide ((1 : Int).toNat < o20.2.1.length) then
   let y22 := o20.2.1.getD ((1 : Int).toNat) (0 : Int)
   some ((5 : Int), y21, (0 : Int), (0 : Int), y22, (0 : Int), (0 : Int), (0 : Int), true, ())
   else none
   else none
   else none
   else none
  else
  Option.bind (
   let y23 := o20.1.toList == (ByteArray.mk #[115, 97, 109, 101]).toList
   bif y23 then
    some (o20.1, o20.2.1, (o20.2.1.length : Int) == (2 : Int), o20.2.2.2.1, o20.2.2.2.2.1, o20.2.2.2.2.2.1, o20.2.2.2.2.2.2.1, o20.2.2.2.2.2.2.2.1, o20.2.2.2.2.2.2.2.2.1, o20.2.2.2.2.2.2.2.2.2.1, o20.2.2.2.2.2.2.2.2.2.2.1, ())
   else
   some (o20.1, o20.2.1, false, o20.2.2.2.1, o20.2.2.2.2.1, o20.2.2.2.2.2.1, o20.2.2.2.2.2.2.1, o20.2.2.2.2.2.2.2.1, o20.2.2.2.2.2.2.2.2.1, o20.2.2.2.2.2.2.2.2.2.1, o20.2.2.2.2.2.2.2.2.2.2.1, ())) fun o24 =>
  bif o24.2.2.1 then
   bif decide (0 ≤ (0 : Int)) then
   bif decide ((0 : Int).toNat < o24.2.1.length) then
   let y25 := o24.2.1.getD ((0 : Int).toNat) (0 : Int)
   bif decide (0 ≤ (1 : Int)) then
   bif decide ((1 : Int).toNat < o24.2.1.length) then
   let y26 := o24.2.1.getD ((1 : Int).toNat) (0 : Int)
   some ((6 : Int), y25, y26, (0 : Int), (0 : Int), (0 : Int), (0 : Int), (0 : Int), true, ())
   else none
   else none
   else none
   else none
  else
  Option.bind (
   let y27 := o24.1.toList == (ByteArray.mk #[99, 97, 115]).toList
   bif y27 then
    some (o24.1, o24.2.1, (o24.2.1.length : Int) == (4 : Int), o24.2.2.2.1, o24.2.2.2.2.1, o24.2.2.2.2.2.1, o24.2.2.2.2.2.2.1, o24.2.2.2.2.2.2.2.1, o24.2.2.2.2.2.2.2.2.1, o24.2.2.2.2.2.2.2.2.2.1, o24.2.2.2.2.2.2.2.2.2.2.1, ())
   else
   some (o24.1, o24.2.1, false, o24.2.2.2.1, o24.2.2.2.2.1, o24.2.2.2.2.2.1, o24.2.2.2.2.2.2.1, o24.2.2.2.2.2.2.2.1, o24.2.2.2.2.2.2.2.2.1, o24.2.2.2.2.2.2.2.2.2.1, o24.2.2.2.2.2.2.2.2.2.2.1, ())) fun o28 =>
  bif o28.2.2.1 then
   bif decide (0 ≤ (0 : Int)) then
   bif decide ((0 : Int).toNat < o28.2.1.length) then
   let y29 := o28.2.1.getD ((0 : Int).toNat) (0 : Int)
   bif decide (0 ≤ (1 : Int)) then
   bif decide ((1 : Int).toNat < o28.2.1.length) then
   let y30 := o28.2.1.getD ((1 : Int).toNat) (0 : Int)
   bif decide (0 ≤ (2 : Int)) then
   bif decide ((2 : Int).toNat < o28.2.1.length) then
   let y31 := o28.2.1.getD ((2 : Int).toNat) (0 : Int)
   bif decide (0 ≤ (3 : Int)) then
   bif decide ((3 : Int).toNat < o28.2.1.length) then
   let y32 := o28.2.1.getD ((3 : Int).toNat) (0 : Int)
   some ((7 : Int), y29, y31, y32, y30, (0 : Int), (0 : Int), (0 : Int), true, ())
   else none
   else none
   else none
   else none
   else none
   else none
   else none
   else none
  else
  Option.bind (
   let y33 := o28.1.toList == (ByteArray.mk #[100, 114, 111, 112]).toList
   bif y33 then
    some (o28.1, o28.2.1, (o28.2.1.length : Int) == (0 : Int), o28.2.2.2.1, o28.2.2.2.2.1, o28.2.2.2.2.2.1, o28.2.2.2.2.2.2.1, o28.2.2.2.2.2.2.2.1, o28.2.2.2.2.2.2.2.2.1, o28.2.2.2.2.2.2.2.2.2.1, o28.2.2.2.2.2.2.2.2.2.2.1, ())
   else
   some (o28.1, o28.2.1, false, o28.2.2.2.1, o28.2.2.2.2.1, o28.2.2.2.2.2.1, o28.2.2.2.2.2.2.1, o28.2.2.2.2.2.2.2.1, o28.2.2.2.2.2.2.2.2.1, o28.2.2.2.2.2.2.2.2.2.1, o28.2.2.2.2.2.2.2.2.2.2.1, ())) fun o34 =>
  bif o34.2.2.1 then
   some ((8 : Int), (0 : Int), (0 : Int), (0 : Int), (0 : Int), (0 : Int), (0 : Int), (0 : Int), true, ())
  else
  Option.bind (
   let y35 := o34.1.toList == (ByteArray.mk #[100, 117, 112]).toList
   bif y35 then
    some (o34.1, o34.2.1, (o34.2.1.length : Int) == (1 : Int), o34.2.2.2.1, o34.2.2.2.2.1, o34.2.2.2.2.2.1, o34.2.2.2.2.2.2.1, o34.2.2.2.2.2.2.2.1, o34.2.2.2.2.2.2.2.2.1, o34.2.2.2.2.2.2.2.2.2.1, o34.2.2.2.2.2.2.2.2.2.2.1, ())
   else
   some (o34.1, o34.2.1, false, o34.2.2.2.1, o34.2.2.2.2.1, o34.2.2.2.2.2.1, o34.2.2.2.2.2.2.1, o34.2.2.2.2.2.2.2.1, o34.2.2.2.2.2.2.2.2.1, o34.2.2.2.2.2.2.2.2.2.1, o34.2.2.2.2.2.2.2.2.2.2.1, ())) fun o36 =>
  bif o36.2.2.1 then
   bif decide (0 ≤ (0 : Int)) then
   bif decide ((0 : Int).toNat < o36.2.1.length) then
   let y37 := o36.2.1.getD ((0 : Int).toNat) (0 : Int)
   some ((9 : Int), y37, (0 : Int), (0 : Int), (0 : Int), (0 : Int), (0 : Int), (0 : Int), true, ())
   else none
   else none
  else
  Option.bind (
   let y38 := o36.1.toList == (ByteArray.mk #[112, 105, 110]).toList
   bif y38 then
    some (o36.1, o36.2.1, (o36.2.1.length : Int) == (1 : Int), o36.2.2.2.1, o36.2.2.2.2.1, o36.2.2.2.2.2.1, o36.2.2.2.2.2.2.1, o36.2.2.2.2.2.2.2.1, o36.2.2.2.2.2.2.2.2.1, o36.2.2.2.2.2.2.2.2.2.1, o36.2.2.2.2.2.2.2.2.2.2.1, ())
   else
   some (o36.1, o36.2.1, false, o36.2.2.2.1, o36.2.2.2.2.1, o36.2.2.2.2.2.1, o36.2.2.2.2.2.2.1, o36.2.2.2.2.2.2.2.1, o36.2.2.2.2.2.2.2.2.1, o36.2.2.2.2.2.2.2.2.2.1, o36.2.2.2.2.2.2.2.2.2.2.1, ())) fun o39 =>
  bif o39.2.2.1 then
   bif decide (0 ≤ (0 : Int)) then
   bif decide ((0 : Int).toNat < o39.2.1.length) then
   let y40 := o39.2.1.getD ((0 : Int).toNat) (0 : Int)
   some ((10 : Int), y40, (0 : Int), (0 : Int), (0 : Int), (0 : Int), (0 : Int), (0 : Int), true, ())
   else none
   else none
  else
  Option.bind (
   let y41 := o39.1.toList == (ByteArray.mk #[117, 110, 112, 105, 110]).toList
   bif y41 then
    some (o39.2.1, (o39.2.1.length : Int) == (1 : Int), o39.2.2.2.1, o39.2.2.2.2.1, o39.2.2.2.2.2.1, o39.2.2.2.2.2.2.1, o39.2.2.2.2.2.2.2.1, o39.2.2.2.2.2.2.2.2.1, o39.2.2.2.2.2.2.2.2.2.1, o39.2.2.2.2.2.2.2.2.2.2.1, ())
   else
   some (o39.2.1, false, o39.2.2.2.1, o39.2.2.2.2.1, o39.2.2.2.2.2.1, o39.2.2.2.2.2.2.1, o39.2.2.2.2.2.2.2.1, o39.2.2.2.2.2.2.2.2.1, o39.2.2.2.2.2.2.2.2.2.1, o39.2.2.2.2.2.2.2.2.2.2.1, ())) fun o42 =>
  bif o42.2.1 then
   bif decide (0 ≤ (0 : Int)) then
   bif decide ((0 : Int).toNat < o42.1.length) then
   let y43 := o42.1.getD ((0 : Int).toNat) (0 : Int)
   some ((11 : Int), y43, (0 : Int), (0 : Int), (0 : Int), (0 : Int), (0 : Int), (0 : Int), true, ())
   else none
   else none
  else
  some ((0 : Int), (0 : Int), (0 : Int), (0 : Int), (0 : Int), (0 : Int), (0 : Int), (0 : Int), false, ())
noncomputable def consl9Op (N : Nat) : Con := { f := 40, din := dinsl9Op, outs := outsl9Op, F := Fsl9Op N }
noncomputable def Xsl9Op (N : Nat) : Ctx := { E := Esl9Op N, H := Hsl9Op, lp := [], jn := [(2, jsl9Op_2), (4, jsl9Op_4), (6, jsl9Op_6), (8, jsl9Op_8), (10, jsl9Op_10), (12, jsl9Op_12), (14, jsl9Op_14), (16, jsl9Op_16), (18, jsl9Op_18), (20, jsl9Op_20), (22, jsl9Op_22)] }
theorem Fsl9Op_eq (N : Nat) (x : (ByteArray × ((List Int) × Unit))) : evFn (Xsl9Op N) Tryd.f40 dinsl9Op outsl9Op x = Fsl9Op N x := by kernel_rfl
theorem cxsl9Op (N : Nat) : CtxOk Tryd.prog (Xsl9Op N) := ⟨⟨TE_ok, fun k hk => absurd hk List.not_mem_nil⟩, mixed⟩
theorem specsl9Op (N : Nat) : Spec Tryd.prog (consl9Op N) :=
  Spec.of_eq (fn_spec (cxsl9Op N) (f := 40) (fn := Tryd.f40) (c := codeOf Tryd.f40) (by kernel_rfl) (by kernel_rfl) (by kernel_rfl) (loops_at (ids := []) (by kernel_rfl) (trivial)) (by kernel_rfl)) (fun x r h => (Fsl9Op_eq N x).trans h)

/-! ### 66: spec.ShapeOk -/

noncomputable def dinsShapeOk : Desc := { n := 1, regs := [.one (.val (.pair (.int .i64) (.pair (.int .i64) .unit)))], bx := [], pins := [] }
noncomputable def outsShapeOk : Outs := [(.ret, { n := 1, regs := [.one (.val .bool)], bx := [], pins := [] })]
noncomputable def HsShapeOk : Hints := [(0, [(0, { fz := true })])]
noncomputable def EsShapeOk (_N : Nat) : Env := { te := TE, cs := [] }
noncomputable def FsShapeOk (N : Nat) (x : ((Int × (Int × Unit)) × Unit)) : Option (Bool × Unit) :=
  bif decide (x.1.1 ≥ (0 : Int)) then
   bif decide (x.1.1 ≤ (4 : Int)) then
    bif decide (x.1.2.1 ≥ (0 : Int)) then
     some (decide (x.1.2.1 ≤ (4 : Int)), ())
    else
    some (false, ())
   else
   some (false, ())
  else
  some (false, ())
noncomputable def consShapeOk (N : Nat) : Con := { f := 66, din := dinsShapeOk, outs := outsShapeOk, F := FsShapeOk N }
noncomputable def XsShapeOk (N : Nat) : Ctx := { E := EsShapeOk N, H := HsShapeOk, lp := [], jn := [] }
theorem FsShapeOk_eq (N : Nat) (x : ((Int × (Int × Unit)) × Unit)) : evFn (XsShapeOk N) Tryd.f66 dinsShapeOk outsShapeOk x = FsShapeOk N x := by kernel_rfl
theorem cxsShapeOk (N : Nat) : CtxOk Tryd.prog (XsShapeOk N) := ⟨⟨TE_ok, fun k hk => absurd hk List.not_mem_nil⟩, mixed⟩
theorem specsShapeOk (N : Nat) : Spec Tryd.prog (consShapeOk N) :=
  Spec.of_eq (fn_spec (cxsShapeOk N) (f := 66) (fn := Tryd.f66) (c := codeOf Tryd.f66) (by kernel_rfl) (by kernel_rfl) (by kernel_rfl) (loops_at (ids := []) (by kernel_rfl) (trivial)) (by kernel_rfl)) (fun x r h => (FsShapeOk_eq N x).trans h)

/-! ### 41: spec.OpOk -/

noncomputable def dinsOpOk : Desc := { n := 1, regs := [.one (.val (.pair (.int .i64) (.pair (.int .i64) (.pair (.int .i64) (.pair (.int .i64) (.pair (.int .i64) (.pair (.int .i64) (.pair (.pair (.int .i64) (.pair (.int .i64) .unit)) .unit))))))))], bx := [], pins := [] }
noncomputable def outsOpOk : Outs := [(.ret, { n := 1, regs := [.one (.val .bool)], bx := [], pins := [] })]
noncomputable def HsOpOk : Hints := [(0, [(0, { fz := true })])]
noncomputable def EsOpOk (N : Nat) : Env := { te := TE, cs := [consShapeOk N] }
noncomputable def FsOpOk (N : Nat) (x : ((Int × (Int × (Int × (Int × (Int × (Int × ((Int × (Int × Unit)) × Unit))))))) × Unit)) : Option (Bool × Unit) :=
  bif decide (x.1.1 ≥ (1 : Int)) then
   bif decide (x.1.1 ≤ (11 : Int)) then
    bif x.1.1 != (1 : Int) then
     some (true, ())
    else
    (FsShapeOk N (x.1.2.2.2.2.2.2.1, ())).bind fun r1 =>
    some (r1.1, ())
   else
   some (false, ())
  else
  some (false, ())
noncomputable def consOpOk (N : Nat) : Con := { f := 41, din := dinsOpOk, outs := outsOpOk, F := FsOpOk N }
noncomputable def XsOpOk (N : Nat) : Ctx := { E := EsOpOk N, H := HsOpOk, lp := [], jn := [] }
theorem FsOpOk_eq (N : Nat) (x : ((Int × (Int × (Int × (Int × (Int × (Int × ((Int × (Int × Unit)) × Unit))))))) × Unit)) : evFn (XsOpOk N) Tryd.f41 dinsOpOk outsOpOk x = FsOpOk N x := by kernel_rfl
theorem cxsOpOk (N : Nat) : CtxOk Tryd.prog (XsOpOk N) := ⟨⟨TE_ok, List.forall_mem_cons.2 ⟨(specsShapeOk N), fun k hk => absurd hk List.not_mem_nil⟩⟩, mixed⟩
theorem specsOpOk (N : Nat) : Spec Tryd.prog (consOpOk N) :=
  Spec.of_eq (fn_spec (cxsOpOk N) (f := 41) (fn := Tryd.f41) (c := codeOf Tryd.f41) (by kernel_rfl) (by kernel_rfl) (by kernel_rfl) (loops_at (ids := []) (by kernel_rfl) (trivial)) (by kernel_rfl)) (fun x r h => (FsOpOk_eq N x).trans h)

/-! ### 15: spec.OpRead -/

noncomputable def dinsOpRead : Desc := { n := 1, regs := [.one (.val .str)], bx := [], pins := [] }
noncomputable def outsOpRead : Outs := [(.ret, { n := 2, regs := [.agg [.val (.int .i64), .val (.int .i64), .val (.int .i64), .val (.int .i64), .val (.int .i64), .val (.int .i64), .val (.int .i64), .val (.int .i64)], .one (.val .bool)], bx := [], pins := [] })]
noncomputable def HsOpRead : Hints := [(4, [(2, { con := 1 })]),
  (7, [(4, { con := 2 })]),
  (8, [(4, { con := 3 })])]
noncomputable def EsOpRead (N : Nat) : Env := { te := TE, cs := [consl9Split N, consl9Nums N, consl9Op N, consOpOk N] }
noncomputable def FsOpRead (N : Nat) (x : (ByteArray × Unit)) : Option (Int × (Int × (Int × (Int × (Int × (Int × (Int × (Int × (Bool × Unit))))))))) :=
  let y1 := decide ((x.1.size : Int) > (4000 : Int))
  bif y1 then
   some ((0 : Int), (0 : Int), (0 : Int), (0 : Int), (0 : Int), (0 : Int), (0 : Int), (0 : Int), false, ())
  else
  (Fsl9Split N (x.1, (32 : Int), ())).bind fun r2 =>
  bif decide (0 ≤ (r2.1.length : Int)) then
  bif decide ((r2.1.length : Int) ≤ (r2.1.length : Int)) then
  bif decide (0 ≤ (1 : Int)) then
  bif decide ((1 : Int) ≤ (r2.1.length : Int)) then
  (Fsl9Nums N ((r2.1.drop ((1 : Int).toNat)).take ((r2.1.length : Int).toNat - (1 : Int).toNat), ())).bind fun r3 =>
  bif !r3.1 then
   some ((0 : Int), (0 : Int), (0 : Int), (0 : Int), (0 : Int), (0 : Int), (0 : Int), (0 : Int), false, ())
  else
  bif decide (0 ≤ (0 : Int)) then
  bif decide ((0 : Int).toNat < r2.1.length) then
  let y4 := r2.1.getD ((0 : Int).toNat) ByteArray.empty
  (Fsl9Op N (y4, r3.2.1, ())).bind fun r5 =>
  bif !r5.2.2.2.2.2.2.2.2.1 then
   some ((0 : Int), (0 : Int), (0 : Int), (0 : Int), (0 : Int), (0 : Int), (0 : Int), (0 : Int), false, ())
  else
  (FsOpOk N ((r5.1, r5.2.1, r5.2.2.1, r5.2.2.2.1, r5.2.2.2.2.1, r5.2.2.2.2.2.1, (r5.2.2.2.2.2.2.1, r5.2.2.2.2.2.2.2.1, ()), ()), ())).bind fun r6 =>
  bif !r6.1 then
   some ((0 : Int), (0 : Int), (0 : Int), (0 : Int), (0 : Int), (0 : Int), (0 : Int), (0 : Int), false, ())
  else
  some (r5.1, r5.2.1, r5.2.2.1, r5.2.2.2.1, r5.2.2.2.2.1, r5.2.2.2.2.2.1, r5.2.2.2.2.2.2.1, r5.2.2.2.2.2.2.2.1, true, ())
  else none
  else none
  else none
  else none
  else none
  else none
noncomputable def consOpRead (N : Nat) : Con := { f := 15, din := dinsOpRead, outs := outsOpRead, F := FsOpRead N }
noncomputable def XsOpRead (N : Nat) : Ctx := { E := EsOpRead N, H := HsOpRead, lp := [], jn := [] }
theorem FsOpRead_eq (N : Nat) (x : (ByteArray × Unit)) : evFn (XsOpRead N) Tryd.f15 dinsOpRead outsOpRead x = FsOpRead N x := by kernel_rfl
theorem cxsOpRead (N : Nat) : CtxOk Tryd.prog (XsOpRead N) := ⟨⟨TE_ok, List.forall_mem_cons.2 ⟨(specsl9Split N), List.forall_mem_cons.2 ⟨(specsl9Nums N), List.forall_mem_cons.2 ⟨(specsl9Op N), List.forall_mem_cons.2 ⟨(specsOpOk N), fun k hk => absurd hk List.not_mem_nil⟩⟩⟩⟩⟩, mixed⟩
theorem specsOpRead (N : Nat) : Spec Tryd.prog (consOpRead N) :=
  Spec.of_eq (fn_spec (cxsOpRead N) (f := 15) (fn := Tryd.f15) (c := codeOf Tryd.f15) (by kernel_rfl) (by kernel_rfl) (by kernel_rfl) (loops_at (ids := []) (by kernel_rfl) (trivial)) (by kernel_rfl)) (fun x r h => (FsOpRead_eq N x).trans h)

/-! ### 18: spec.ProgRead -/

noncomputable def dinsProgRead : Desc := { n := 1, regs := [.one (.val .str)], bx := [], pins := [] }
noncomputable def outsProgRead : Outs := [(.ret, { n := 2, regs := [.one (.lit (.row 1025600)), .one (.val .bool)], bx := [(1025600, .row (.pair (.int .i64) (.pair (.int .i64) (.pair (.int .i64) (.pair (.int .i64) (.pair (.int .i64) (.pair (.int .i64) (.pair (.pair (.int .i64) (.pair (.int .i64) .unit)) .unit))))))))], pins := [] })]
noncomputable def HsProgRead : Hints := [(2, [(0, { nl := [(0, (.pair (.int .i64) (.pair (.int .i64) (.pair (.int .i64) (.pair (.int .i64) (.pair (.int .i64) (.pair (.int .i64) (.pair (.pair (.int .i64) (.pair (.int .i64) .unit)) .unit))))))))] })]),
  (5, [(0, { nl := [(0, (.pair (.int .i64) (.pair (.int .i64) (.pair (.int .i64) (.pair (.int .i64) (.pair (.int .i64) (.pair (.int .i64) (.pair (.pair (.int .i64) (.pair (.int .i64) .unit)) .unit))))))))] })]),
  (6, [(0, { nl := [(0, (.pair (.int .i64) (.pair (.int .i64) (.pair (.int .i64) (.pair (.int .i64) (.pair (.int .i64) (.pair (.int .i64) (.pair (.pair (.int .i64) (.pair (.int .i64) .unit)) .unit))))))))] })]),
  (10, [(4, { con := 1 })]),
  (12, [(0, { nl := [(0, (.pair (.int .i64) (.pair (.int .i64) (.pair (.int .i64) (.pair (.int .i64) (.pair (.int .i64) (.pair (.int .i64) (.pair (.pair (.int .i64) (.pair (.int .i64) .unit)) .unit))))))))] })])]
noncomputable def EsProgRead (N : Nat) : Env := { te := TE, cs := [consl9Split N, consOpRead N] }
noncomputable def dsProgRead_0 : Desc := { n := 49, regs := [u, u, u, u, .one (.lit (.row 1038465)), .one (.lit (.row 1076800)), .one (.val (.int .i64))], bx := [(1038465, .row .str), (1076800, .row (.pair (.int .i64) (.pair (.int .i64) (.pair (.int .i64) (.pair (.int .i64) (.pair (.int .i64) (.pair (.int .i64) (.pair (.pair (.int .i64) (.pair (.int .i64) .unit)) .unit))))))))], pins := [] }
noncomputable def osProgRead_0 : Outs := [(.exit 0, { n := 49, regs := [u, u, u, u, u, .one (.lit (.row 1076800))], bx := [(1076800, .row (.pair (.int .i64) (.pair (.int .i64) (.pair (.int .i64) (.pair (.int .i64) (.pair (.int .i64) (.pair (.int .i64) (.pair (.pair (.int .i64) (.pair (.int .i64) .unit)) .unit))))))))], pins := [] }), (.ret, { n := 49, regs := [u, u, .one (.lit (.row 1153600)), .one (.val .bool)], bx := [(1153600, .row (.pair (.int .i64) (.pair (.int .i64) (.pair (.int .i64) (.pair (.int .i64) (.pair (.int .i64) (.pair (.int .i64) (.pair (.pair (.int .i64) (.pair (.int .i64) .unit)) .unit))))))))], pins := [] })]
noncomputable def jsProgRead_6 : Outs := [(.normal, { n := 49, regs := [u, u, u, u, .one (.lit (.row 1038465))], bx := [(1038465, .row .str)], pins := [] }), (.ret, { n := 49, regs := [u, u, .one (.lit (.row 1064000)), .one (.val .bool)], bx := [(1064000, .row (.pair (.int .i64) (.pair (.int .i64) (.pair (.int .i64) (.pair (.int .i64) (.pair (.int .i64) (.pair (.int .i64) (.pair (.pair (.int .i64) (.pair (.int .i64) .unit)) .unit))))))))], pins := [] })]
noncomputable def lsProgRead_0 (N : Nat) : Nat → (Int × ((List ByteArray) × ((List (Int × (Int × (Int × (Int × (Int × (Int × ((Int × (Int × Unit)) × Unit)))))))) × Unit))) → Option (((List (Int × (Int × (Int × (Int × (Int × (Int × ((Int × (Int × Unit)) × Unit)))))))) × Unit) ⊕ (Bool × ((List (Int × (Int × (Int × (Int × (Int × (Int × ((Int × (Int × Unit)) × Unit)))))))) × Unit)))
  | 0, _ => none
  | n + 1, v =>
    let y12 := decide ((w64 (v.1 + (1 : Int))) < (v.2.1.length : Int))
    bif y12 then
     bif decide (0 ≤ v.1) then
     bif decide (v.1.toNat < v.2.1.length) then
     (FsOpRead N (v.2.1.getD v.1.toNat ByteArray.empty, ())).bind fun r13 =>
     bif !r13.2.2.2.2.2.2.2.2.1 then
      let y14 := ([] : (List (Int × (Int × (Int × (Int × (Int × (Int × ((Int × (Int × Unit)) × Unit)))))))))
      some (.inr ((false, y14, ())))
     else
     let y15 := [(r13.1, r13.2.1, r13.2.2.1, r13.2.2.2.1, r13.2.2.2.2.1, r13.2.2.2.2.2.1, (r13.2.2.2.2.2.2.1, r13.2.2.2.2.2.2.2.1, ()), ())]
     bif decide (v.2.2.1.length + y15.length ≤ lim) then
     lsProgRead_0 N n (w64 (v.1 + (1 : Int)), v.2.1, v.2.2.1 ++ y15, ())
     else none
     else none
     else none
    else
    some (.inl (v.2.2.1, ()))
noncomputable def FsProgRead (N : Nat) (x : (ByteArray × Unit)) : Option (Bool × ((List (Int × (Int × (Int × (Int × (Int × (Int × ((Int × (Int × Unit)) × Unit)))))))) × Unit)) :=
  let y1 := decide ((x.1.size : Int) > (4000 : Int))
  bif y1 then
   let y2 := ([] : (List (Int × (Int × (Int × (Int × (Int × (Int × ((Int × (Int × Unit)) × Unit)))))))))
   some (false, y2, ())
  else
  (Fsl9Split N (x.1, (10 : Int), ())).bind fun r3 =>
  Option.bind (
   let y4 := w64 ((r3.1.length : Int) - (1 : Int))
   bif decide (0 ≤ y4) then
   bif decide (y4.toNat < r3.1.length) then
   let y5 := !((r3.1.getD y4.toNat ByteArray.empty).toList == (ByteArray.mk #[]).toList)
   bif y5 then
    let y6 := ([] : (List (Int × (Int × (Int × (Int × (Int × (Int × ((Int × (Int × Unit)) × Unit)))))))))
    some (.inr ((false, y6, ())))
   else
   let y7 := w64 ((r3.1.length : Int) - (1 : Int))
   bif decide (y7 > (40 : Int)) then
    let y8 := ([] : (List (Int × (Int × (Int × (Int × (Int × (Int × ((Int × (Int × Unit)) × Unit)))))))))
    some (.inr ((false, y8, ())))
   else
   some (.inl (r3.1, ()))
   else none
   else none) fun o9 =>
  Sum.elim (fun o10 =>
   let y11 := ([] : (List (Int × (Int × (Int × (Int × (Int × (Int × ((Int × (Int × Unit)) × Unit)))))))))
   (lsProgRead_0 N N ((0 : Int), o10.1, y11, ())).bind fun o16 =>
   Sum.elim (fun o17 =>
    some (true, o17.1, ())) (fun o18 =>
    some (o18.1, o18.2.1, ())) o16) (fun o19 =>
   some (o19.1, o19.2.1, ())) o9
noncomputable def consProgRead (N : Nat) : Con := { f := 18, din := dinsProgRead, outs := outsProgRead, F := FsProgRead N }
noncomputable def XsProgRead (N : Nat) : Ctx := { E := EsProgRead N, H := HsProgRead, lp := [(0, { hd := dsProgRead_0, outs := osProgRead_0, run := fun v => lsProgRead_0 N N v })], jn := [(6, jsProgRead_6)] }
noncomputable def bsProgRead_0 : Code := loopBody (codeOf Tryd.f18) 0
theorem FsProgRead_eq (N : Nat) (x : (ByteArray × Unit)) : evFn (XsProgRead N) Tryd.f18 dinsProgRead outsProgRead x = FsProgRead N x := by kernel_rfl
theorem lsProgRead_0_eq (N n : Nat) (v : (Int × ((List ByteArray) × ((List (Int × (Int × (Int × (Int × (Int × (Int × ((Int × (Int × Unit)) × Unit)))))))) × Unit)))) : lsProgRead_0 N (n + 1) v = ev (XsProgRead N) bsProgRead_0 (roundK dsProgRead_0 osProgRead_0 (lsProgRead_0 N n)) (dsProgRead_0.mk' v) := by kernel_rfl
theorem cxsProgRead (N : Nat) : CtxOk Tryd.prog (XsProgRead N) := ⟨⟨TE_ok, List.forall_mem_cons.2 ⟨(specsl9Split N), List.forall_mem_cons.2 ⟨(specsOpRead N), fun k hk => absurd hk List.not_mem_nil⟩⟩⟩, mixed⟩
theorem lpsProgRead_0 (N : Nat) : LoopOk Tryd.prog { hd := dsProgRead_0, outs := osProgRead_0, run := fun v => lsProgRead_0 N N v } bsProgRead_0 :=
  loop_fuel (d := dsProgRead_0) (os := osProgRead_0) (cxsProgRead N) (loops_at (ids := []) (by kernel_rfl) (trivial)) (lsProgRead_0 N) (fun _ => rfl) (fun n v => lsProgRead_0_eq N n v) (fun _ => N)
theorem specsProgRead (N : Nat) : Spec Tryd.prog (consProgRead N) :=
  Spec.of_eq (fn_spec (cxsProgRead N) (f := 18) (fn := Tryd.f18) (c := codeOf Tryd.f18) (by kernel_rfl) (by kernel_rfl) (by kernel_rfl) (loops_at (ids := [0]) (by kernel_rfl) ⟨lp_of (lpsProgRead_0 N), trivial⟩) (by kernel_rfl)) (fun x r h => (FsProgRead_eq N x).trans h)

/-! ### 81: stringslite.HasSuffix -/

noncomputable def dininternal_stringslite_HasSuffix : Desc := { n := 2, regs := [.one (.val .str), .one (.val .str)], bx := [], pins := [] }
noncomputable def outinternal_stringslite_HasSuffix : Outs := [(.ret, { n := 1, regs := [.one (.val .bool)], bx := [], pins := [] })]
noncomputable def Hinternal_stringslite_HasSuffix : Hints := []
noncomputable def Einternal_stringslite_HasSuffix (_N : Nat) : Env := { te := TE, cs := [] }
noncomputable def Finternal_stringslite_HasSuffix (N : Nat) (x : (ByteArray × (ByteArray × Unit))) : Option (Bool × Unit) :=
  let y1 := decide ((x.1.size : Int) ≥ (x.2.1.size : Int))
  bif y1 then
   let y2 := w64 ((x.1.size : Int) - (x.2.1.size : Int))
   bif decide (0 ≤ (x.1.size : Int)) then
   bif decide ((x.1.size : Int) ≤ (x.1.size : Int)) then
   bif decide (0 ≤ y2) then
   bif decide (y2 ≤ (x.1.size : Int)) then
   let y3 := x.1.extract y2.toNat (x.1.size : Int).toNat
   some (y3.toList == x.2.1.toList, ())
   else none
   else none
   else none
   else none
  else
  some (false, ())
noncomputable def coninternal_stringslite_HasSuffix (N : Nat) : Con := { f := 81, din := dininternal_stringslite_HasSuffix, outs := outinternal_stringslite_HasSuffix, F := Finternal_stringslite_HasSuffix N }
noncomputable def Xinternal_stringslite_HasSuffix (N : Nat) : Ctx := { E := Einternal_stringslite_HasSuffix N, H := Hinternal_stringslite_HasSuffix, lp := [], jn := [] }
theorem Finternal_stringslite_HasSuffix_eq (N : Nat) (x : (ByteArray × (ByteArray × Unit))) : evFn (Xinternal_stringslite_HasSuffix N) Tryd.f81 dininternal_stringslite_HasSuffix outinternal_stringslite_HasSuffix x = Finternal_stringslite_HasSuffix N x := by kernel_rfl
theorem cxinternal_stringslite_HasSuffix (N : Nat) : CtxOk Tryd.prog (Xinternal_stringslite_HasSuffix N) := ⟨⟨TE_ok, fun k hk => absurd hk List.not_mem_nil⟩, mixed⟩
theorem specinternal_stringslite_HasSuffix (N : Nat) : Spec Tryd.prog (coninternal_stringslite_HasSuffix N) :=
  Spec.of_eq (fn_spec (cxinternal_stringslite_HasSuffix N) (f := 81) (fn := Tryd.f81) (c := codeOf Tryd.f81) (by kernel_rfl) (by kernel_rfl) (by kernel_rfl) (loops_at (ids := []) (by kernel_rfl) (trivial)) (by kernel_rfl)) (fun x r h => (Finternal_stringslite_HasSuffix_eq N x).trans h)

/-! ### 70: stringslite.CutSuffix -/

noncomputable def dininternal_stringslite_CutSuffix : Desc := { n := 2, regs := [.one (.val .str), .one (.val .str)], bx := [], pins := [] }
noncomputable def outinternal_stringslite_CutSuffix : Outs := [(.ret, { n := 2, regs := [.one (.val .str), .one (.val .bool)], bx := [], pins := [] })]
noncomputable def Hinternal_stringslite_CutSuffix : Hints := []
noncomputable def Einternal_stringslite_CutSuffix (N : Nat) : Env := { te := TE, cs := [coninternal_stringslite_HasSuffix N] }
noncomputable def Finternal_stringslite_CutSuffix (N : Nat) (x : (ByteArray × (ByteArray × Unit))) : Option (ByteArray × (Bool × Unit)) :=
  (Finternal_stringslite_HasSuffix N (x.1, x.2.1, ())).bind fun r1 =>
  bif !r1.1 then
   some (x.1, false, ())
  else
  let y2 := w64 ((x.1.size : Int) - (x.2.1.size : Int))
  bif decide (0 ≤ y2) then
  bif decide (y2 ≤ (x.1.size : Int)) then
  bif decide (0 ≤ (0 : Int)) then
  bif decide ((0 : Int) ≤ y2) then
  some (x.1.extract (0 : Int).toNat y2.toNat, true, ())
  else none
  else none
  else none
  else none
noncomputable def coninternal_stringslite_CutSuffix (N : Nat) : Con := { f := 70, din := dininternal_stringslite_CutSuffix, outs := outinternal_stringslite_CutSuffix, F := Finternal_stringslite_CutSuffix N }
noncomputable def Xinternal_stringslite_CutSuffix (N : Nat) : Ctx := { E := Einternal_stringslite_CutSuffix N, H := Hinternal_stringslite_CutSuffix, lp := [], jn := [] }
theorem Finternal_stringslite_CutSuffix_eq (N : Nat) (x : (ByteArray × (ByteArray × Unit))) : evFn (Xinternal_stringslite_CutSuffix N) Tryd.f70 dininternal_stringslite_CutSuffix outinternal_stringslite_CutSuffix x = Finternal_stringslite_CutSuffix N x := by kernel_rfl
theorem cxinternal_stringslite_CutSuffix (N : Nat) : CtxOk Tryd.prog (Xinternal_stringslite_CutSuffix N) := ⟨⟨TE_ok, List.forall_mem_cons.2 ⟨(specinternal_stringslite_HasSuffix N), fun k hk => absurd hk List.not_mem_nil⟩⟩, mixed⟩
theorem specinternal_stringslite_CutSuffix (N : Nat) : Spec Tryd.prog (coninternal_stringslite_CutSuffix N) :=
  Spec.of_eq (fn_spec (cxinternal_stringslite_CutSuffix N) (f := 70) (fn := Tryd.f70) (c := codeOf Tryd.f70) (by kernel_rfl) (by kernel_rfl) (by kernel_rfl) (loops_at (ids := []) (by kernel_rfl) (trivial)) (by kernel_rfl)) (fun x r h => (Finternal_stringslite_CutSuffix_eq N x).trans h)

/-! ### 46: strings.CutSuffix -/

noncomputable def dinstrings_CutSuffix : Desc := { n := 2, regs := [.one (.val .str), .one (.val .str)], bx := [], pins := [] }
noncomputable def outstrings_CutSuffix : Outs := [(.ret, { n := 2, regs := [.one (.val .str), .one (.val .bool)], bx := [], pins := [] })]
noncomputable def Hstrings_CutSuffix : Hints := []
noncomputable def Estrings_CutSuffix (N : Nat) : Env := { te := TE, cs := [coninternal_stringslite_CutSuffix N] }
noncomputable def Fstrings_CutSuffix (N : Nat) (x : (ByteArray × (ByteArray × Unit))) : Option (ByteArray × (Bool × Unit)) :=
  (Finternal_stringslite_CutSuffix N (x.1, x.2.1, ())).bind fun r1 =>
  some (r1.1, r1.2.1, ())
noncomputable def constrings_CutSuffix (N : Nat) : Con := { f := 46, din := dinstrings_CutSuffix, outs := outstrings_CutSuffix, F := Fstrings_CutSuffix N }
noncomputable def Xstrings_CutSuffix (N : Nat) : Ctx := { E := Estrings_CutSuffix N, H := Hstrings_CutSuffix, lp := [], jn := [] }
theorem Fstrings_CutSuffix_eq (N : Nat) (x : (ByteArray × (ByteArray × Unit))) : evFn (Xstrings_CutSuffix N) Tryd.f46 dinstrings_CutSuffix outstrings_CutSuffix x = Fstrings_CutSuffix N x := by kernel_rfl
theorem cxstrings_CutSuffix (N : Nat) : CtxOk Tryd.prog (Xstrings_CutSuffix N) := ⟨⟨TE_ok, List.forall_mem_cons.2 ⟨(specinternal_stringslite_CutSuffix N), fun k hk => absurd hk List.not_mem_nil⟩⟩, mixed⟩
theorem specstrings_CutSuffix (N : Nat) : Spec Tryd.prog (constrings_CutSuffix N) :=
  Spec.of_eq (fn_spec (cxstrings_CutSuffix N) (f := 46) (fn := Tryd.f46) (c := codeOf Tryd.f46) (by kernel_rfl) (by kernel_rfl) (by kernel_rfl) (loops_at (ids := []) (by kernel_rfl) (trivial)) (by kernel_rfl)) (fun x r h => (Fstrings_CutSuffix_eq N x).trans h)

/-! ### 69: impl.ShapeOk -/

noncomputable def diniShapeOk : Desc := { n := 1, regs := [.one (.val (.pair (.int .i64) (.pair (.int .i64) .unit)))], bx := [], pins := [] }
noncomputable def outiShapeOk : Outs := [(.ret, { n := 1, regs := [.one (.val .bool)], bx := [], pins := [] })]
noncomputable def HiShapeOk : Hints := [(0, [(0, { fz := true })])]
noncomputable def EiShapeOk (_N : Nat) : Env := { te := TE, cs := [] }
noncomputable def FiShapeOk (N : Nat) (x : ((Int × (Int × Unit)) × Unit)) : Option (Bool × Unit) :=
  bif decide (x.1.1 ≥ (0 : Int)) then
   bif decide (x.1.1 ≤ (4 : Int)) then
    bif decide (x.1.2.1 ≥ (0 : Int)) then
     some (decide (x.1.2.1 ≤ (4 : Int)), ())
    else
    some (false, ())
   else
   some (false, ())
  else
  some (false, ())
noncomputable def coniShapeOk (N : Nat) : Con := { f := 69, din := diniShapeOk, outs := outiShapeOk, F := FiShapeOk N }
noncomputable def XiShapeOk (N : Nat) : Ctx := { E := EiShapeOk N, H := HiShapeOk, lp := [], jn := [] }
theorem FiShapeOk_eq (N : Nat) (x : ((Int × (Int × Unit)) × Unit)) : evFn (XiShapeOk N) Tryd.f69 diniShapeOk outiShapeOk x = FiShapeOk N x := by kernel_rfl
theorem cxiShapeOk (N : Nat) : CtxOk Tryd.prog (XiShapeOk N) := ⟨⟨TE_ok, fun k hk => absurd hk List.not_mem_nil⟩, mixed⟩
theorem speciShapeOk (N : Nat) : Spec Tryd.prog (coniShapeOk N) :=
  Spec.of_eq (fn_spec (cxiShapeOk N) (f := 69) (fn := Tryd.f69) (c := codeOf Tryd.f69) (by kernel_rfl) (by kernel_rfl) (by kernel_rfl) (loops_at (ids := []) (by kernel_rfl) (trivial)) (by kernel_rfl)) (fun x r h => (FiShapeOk_eq N x).trans h)

/-! ### 44: impl.OpOk -/

noncomputable def diniOpOk : Desc := { n := 1, regs := [.one (.val (.pair (.int .i64) (.pair (.int .i64) (.pair (.int .i64) (.pair (.int .i64) (.pair (.int .i64) (.pair (.int .i64) (.pair (.pair (.int .i64) (.pair (.int .i64) .unit)) .unit))))))))], bx := [], pins := [] }
noncomputable def outiOpOk : Outs := [(.ret, { n := 1, regs := [.one (.val .bool)], bx := [], pins := [] })]
noncomputable def HiOpOk : Hints := [(0, [(0, { fz := true })])]
noncomputable def EiOpOk (N : Nat) : Env := { te := TE, cs := [coniShapeOk N] }
noncomputable def FiOpOk (N : Nat) (x : ((Int × (Int × (Int × (Int × (Int × (Int × ((Int × (Int × Unit)) × Unit))))))) × Unit)) : Option (Bool × Unit) :=
  bif decide (x.1.1 ≥ (1 : Int)) then
   bif decide (x.1.1 ≤ (11 : Int)) then
    bif x.1.1 != (1 : Int) then
     some (true, ())
    else
    (FiShapeOk N (x.1.2.2.2.2.2.2.1, ())).bind fun r1 =>
    some (r1.1, ())
   else
   some (false, ())
  else
  some (false, ())
noncomputable def coniOpOk (N : Nat) : Con := { f := 44, din := diniOpOk, outs := outiOpOk, F := FiOpOk N }
noncomputable def XiOpOk (N : Nat) : Ctx := { E := EiOpOk N, H := HiOpOk, lp := [], jn := [] }
theorem FiOpOk_eq (N : Nat) (x : ((Int × (Int × (Int × (Int × (Int × (Int × ((Int × (Int × Unit)) × Unit))))))) × Unit)) : evFn (XiOpOk N) Tryd.f44 diniOpOk outiOpOk x = FiOpOk N x := by kernel_rfl
theorem cxiOpOk (N : Nat) : CtxOk Tryd.prog (XiOpOk N) := ⟨⟨TE_ok, List.forall_mem_cons.2 ⟨(speciShapeOk N), fun k hk => absurd hk List.not_mem_nil⟩⟩, mixed⟩
theorem speciOpOk (N : Nat) : Spec Tryd.prog (coniOpOk N) :=
  Spec.of_eq (fn_spec (cxiOpOk N) (f := 44) (fn := Tryd.f44) (c := codeOf Tryd.f44) (by kernel_rfl) (by kernel_rfl) (by kernel_rfl) (loops_at (ids := []) (by kernel_rfl) (trivial)) (by kernel_rfl)) (fun x r h => (FiOpOk_eq N x).trans h)

/-! ### 16: impl.OpRead -/

noncomputable def diniOpRead : Desc := { n := 1, regs := [.one (.val .str)], bx := [], pins := [] }
noncomputable def outiOpRead : Outs := [(.ret, { n := 2, regs := [.agg [.val (.int .i64), .val (.int .i64), .val (.int .i64), .val (.int .i64), .val (.int .i64), .val (.int .i64), .val (.int .i64), .val (.int .i64)], .one (.val .bool)], bx := [], pins := [] })]
noncomputable def HiOpRead : Hints := [(1, [(2, { con := 1 })]),
  (2, [(4, { con := 2 })])]
noncomputable def EiOpRead (N : Nat) : Env := { te := TE, cs := [conhSplit N, conhopOf N, coniOpOk N] }
noncomputable def FiOpRead (N : Nat) (x : (ByteArray × Unit)) : Option (Int × (Int × (Int × (Int × (Int × (Int × (Int × (Int × (Bool × Unit))))))))) :=
  (FhSplit N (x.1, (ByteArray.mk #[32]), ())).bind fun r1 =>
  (FhopOf N (r1.1, ())).bind fun r2 =>
  bif !r2.2.1 then
   some ((0 : Int), (0 : Int), (0 : Int), (0 : Int), (0 : Int), (0 : Int), (0 : Int), (0 : Int), false, ())
  else
  (FiOpOk N ((r2.1.1, r2.1.2.1, r2.1.2.2.1, r2.1.2.2.2.1, r2.1.2.2.2.2.1, r2.1.2.2.2.2.2.1, (r2.1.2.2.2.2.2.2.1.1, r2.1.2.2.2.2.2.2.1.2.1, ()), ()), ())).bind fun r3 =>
  bif !r3.1 then
   some ((0 : Int), (0 : Int), (0 : Int), (0 : Int), (0 : Int), (0 : Int), (0 : Int), (0 : Int), false, ())
  else
  some (r2.1.1, r2.1.2.1, r2.1.2.2.1, r2.1.2.2.2.1, r2.1.2.2.2.2.1, r2.1.2.2.2.2.2.1, r2.1.2.2.2.2.2.2.1.1, r2.1.2.2.2.2.2.2.1.2.1, true, ())
noncomputable def coniOpRead (N : Nat) : Con := { f := 16, din := diniOpRead, outs := outiOpRead, F := FiOpRead N }
noncomputable def XiOpRead (N : Nat) : Ctx := { E := EiOpRead N, H := HiOpRead, lp := [], jn := [] }
theorem FiOpRead_eq (N : Nat) (x : (ByteArray × Unit)) : evFn (XiOpRead N) Tryd.f16 diniOpRead outiOpRead x = FiOpRead N x := by kernel_rfl
theorem cxiOpRead (N : Nat) : CtxOk Tryd.prog (XiOpRead N) := ⟨⟨TE_ok, List.forall_mem_cons.2 ⟨(spechSplit N), List.forall_mem_cons.2 ⟨(spechopOf N), List.forall_mem_cons.2 ⟨(speciOpOk N), fun k hk => absurd hk List.not_mem_nil⟩⟩⟩⟩, mixed⟩
theorem speciOpRead (N : Nat) : Spec Tryd.prog (coniOpRead N) :=
  Spec.of_eq (fn_spec (cxiOpRead N) (f := 16) (fn := Tryd.f16) (c := codeOf Tryd.f16) (by kernel_rfl) (by kernel_rfl) (by kernel_rfl) (loops_at (ids := []) (by kernel_rfl) (trivial)) (by kernel_rfl)) (fun x r h => (FiOpRead_eq N x).trans h)

/-! ### 19: impl.ProgRead -/

noncomputable def diniProgRead : Desc := { n := 1, regs := [.one (.val .str)], bx := [], pins := [] }
noncomputable def outiProgRead : Outs := [(.ret, { n := 2, regs := [.one (.lit (.row 1025600)), .one (.val .bool)], bx := [(1025600, .row (.pair (.int .i64) (.pair (.int .i64) (.pair (.int .i64) (.pair (.int .i64) (.pair (.int .i64) (.pair (.int .i64) (.pair (.pair (.int .i64) (.pair (.int .i64) .unit)) .unit))))))))], pins := [] })]
noncomputable def HiProgRead : Hints := [(2, [(0, { nl := [(0, (.pair (.int .i64) (.pair (.int .i64) (.pair (.int .i64) (.pair (.int .i64) (.pair (.int .i64) (.pair (.int .i64) (.pair (.pair (.int .i64) (.pair (.int .i64) .unit)) .unit))))))))] })]),
  (4, [(1, { con := 1 })]),
  (6, [(0, { nl := [(0, (.pair (.int .i64) (.pair (.int .i64) (.pair (.int .i64) (.pair (.int .i64) (.pair (.int .i64) (.pair (.int .i64) (.pair (.pair (.int .i64) (.pair (.int .i64) .unit)) .unit))))))))] })]),
  (7, [(0, { nl := [(0, (.pair (.int .i64) (.pair (.int .i64) (.pair (.int .i64) (.pair (.int .i64) (.pair (.int .i64) (.pair (.int .i64) (.pair (.pair (.int .i64) (.pair (.int .i64) .unit)) .unit))))))))] })]),
  (11, [(1, { con := 2 })]),
  (13, [(0, { nl := [(0, (.pair (.int .i64) (.pair (.int .i64) (.pair (.int .i64) (.pair (.int .i64) (.pair (.int .i64) (.pair (.int .i64) (.pair (.pair (.int .i64) (.pair (.int .i64) .unit)) .unit))))))))] })])]
noncomputable def EiProgRead (N : Nat) : Env := { te := TE, cs := [constrings_CutSuffix N, conhSplit N, coniOpRead N] }
noncomputable def diProgRead_0 : Desc := { n := 52, regs := [u, u, u, u, u, u, u, .one (.lit (.row 1089600)), u, u, u, u, u, u, u, u, u, u, u, u, u, u, u, u, u, u, u, u, u, u, u, u, u, .one (.lit (.row 1051265)), .one (.val (.int .i64)), .one (.val (.int .i64))], bx := [(1089600, .row (.pair (.int .i64) (.pair (.int .i64) (.pair (.int .i64) (.pair (.int .i64) (.pair (.int .i64) (.pair (.int .i64) (.pair (.pair (.int .i64) (.pair (.int .i64) .unit)) .unit)))))))), (1051265, .row .str)], pins := [] }
noncomputable def oiProgRead_0 : Outs := [(.exit 0, { n := 52, regs := [u, u, u, u, u, u, u, .one (.lit (.row 1089600))], bx := [(1089600, .row (.pair (.int .i64) (.pair (.int .i64) (.pair (.int .i64) (.pair (.int .i64) (.pair (.int .i64) (.pair (.int .i64) (.pair (.pair (.int .i64) (.pair (.int .i64) .unit)) .unit))))))))], pins := [] }), (.ret, { n := 52, regs := [u, u, .one (.lit (.row 1166400)), .one (.val .bool)], bx := [(1166400, .row (.pair (.int .i64) (.pair (.int .i64) (.pair (.int .i64) (.pair (.int .i64) (.pair (.int .i64) (.pair (.int .i64) (.pair (.pair (.int .i64) (.pair (.int .i64) .unit)) .unit))))))))], pins := [] })]
noncomputable def jiProgRead_7 : Outs := [(.normal, { n := 52, regs := [u, u, u, u, u, u, .one (.lit (.row 1051265))], bx := [(1051265, .row .str)], pins := [] }), (.ret, { n := 52, regs := [u, u, .one (.lit (.row 1076800)), .one (.val .bool)], bx := [(1076800, .row (.pair (.int .i64) (.pair (.int .i64) (.pair (.int .i64) (.pair (.int .i64) (.pair (.int .i64) (.pair (.int .i64) (.pair (.pair (.int .i64) (.pair (.int .i64) .unit)) .unit))))))))], pins := [] })]
noncomputable def liProgRead_0 (N : Nat) : Nat → (Int × (Int × ((List (Int × (Int × (Int × (Int × (Int × (Int × ((Int × (Int × Unit)) × Unit)))))))) × ((List ByteArray) × Unit)))) → Option (((List (Int × (Int × (Int × (Int × (Int × (Int × ((Int × (Int × Unit)) × Unit)))))))) × Unit) ⊕ (Bool × ((List (Int × (Int × (Int × (Int × (Int × (Int × ((Int × (Int × Unit)) × Unit)))))))) × Unit)))
  | 0, _ => none
  | n + 1, v =>
    bif decide (v.2.1 < v.1) then
     bif decide (0 ≤ v.2.1) then
     bif decide (v.2.1.toNat < v.2.2.2.1.length) then
     let y13 := v.2.2.2.1.getD v.2.1.toNat ByteArray.empty
     (FiOpRead N (y13, ())).bind fun r14 =>
     bif !r14.2.2.2.2.2.2.2.2.1 then
      let y15 := ([] : (List (Int × (Int × (Int × (Int × (Int × (Int × ((Int × (Int × Unit)) × Unit)))))))))
      some (.inr ((false, y15, ())))
     else
     let y16 := [(r14.1, r14.2.1, r14.2.2.1, r14.2.2.2.1, r14.2.2.2.2.1, r14.2.2.2.2.2.1, (r14.2.2.2.2.2.2.1, r14.2.2.2.2.2.2.2.1, ()), ())]
     bif decide (v.2.2.1.length + y16.length ≤ lim) then
     liProgRead_0 N n (v.1, w64 (v.2.1 + (1 : Int)), v.2.2.1 ++ y16, v.2.2.2.1, ())
     else none
     else none
     else none
    else
    some (.inl (v.2.2.1, ()))
noncomputable def FiProgRead (N : Nat) (x : (ByteArray × Unit)) : Option (Bool × ((List (Int × (Int × (Int × (Int × (Int × (Int × ((Int × (Int × Unit)) × Unit)))))))) × Unit)) :=
  let y1 := x.1.toList == (ByteArray.mk #[]).toList
  bif y1 then
   let y2 := ([] : (List (Int × (Int × (Int × (Int × (Int × (Int × ((Int × (Int × Unit)) × Unit)))))))))
   some (true, y2, ())
  else
  (Fstrings_CutSuffix N (x.1, (ByteArray.mk #[10]), ())).bind fun r3 =>
  (FhSplit N (r3.1, (ByteArray.mk #[10]), ())).bind fun r4 =>
  Option.bind (
   bif !r3.2.1 then
    let y5 := ([] : (List (Int × (Int × (Int × (Int × (Int × (Int × ((Int × (Int × Unit)) × Unit)))))))))
    some (.inr ((false, y5, ())))
   else
   let y6 := decide ((x.1.size : Int) > (4000 : Int))
   bif y6 then
    let y7 := ([] : (List (Int × (Int × (Int × (Int × (Int × (Int × ((Int × (Int × Unit)) × Unit)))))))))
    some (.inr ((false, y7, ())))
   else
   let y8 := decide ((r4.1.length : Int) > (40 : Int))
   bif y8 then
    let y9 := ([] : (List (Int × (Int × (Int × (Int × (Int × (Int × ((Int × (Int × Unit)) × Unit)))))))))
    some (.inr ((false, y9, ())))
   else
   some (.inl (r4.1, ()))) fun o10 =>
  Sum.elim (fun o11 =>
   let y12 := ([] : (List (Int × (Int × (Int × (Int × (Int × (Int × ((Int × (Int × Unit)) × Unit)))))))))
   (liProgRead_0 N N ((o11.1.length : Int), (0 : Int), y12, o11.1, ())).bind fun o17 =>
   Sum.elim (fun o18 =>
    some (true, o18.1, ())) (fun o19 =>
    some (o19.1, o19.2.1, ())) o17) (fun o20 =>
   some (o20.1, o20.2.1, ())) o10
noncomputable def coniProgRead (N : Nat) : Con := { f := 19, din := diniProgRead, outs := outiProgRead, F := FiProgRead N }
noncomputable def XiProgRead (N : Nat) : Ctx := { E := EiProgRead N, H := HiProgRead, lp := [(0, { hd := diProgRead_0, outs := oiProgRead_0, run := fun v => liProgRead_0 N N v })], jn := [(7, jiProgRead_7)] }
noncomputable def biProgRead_0 : Code := loopBody (codeOf Tryd.f19) 0
theorem FiProgRead_eq (N : Nat) (x : (ByteArray × Unit)) : evFn (XiProgRead N) Tryd.f19 diniProgRead outiProgRead x = FiProgRead N x := by kernel_rfl
theorem liProgRead_0_eq (N n : Nat) (v : (Int × (Int × ((List (Int × (Int × (Int × (Int × (Int × (Int × ((Int × (Int × Unit)) × Unit)))))))) × ((List ByteArray) × Unit))))) : liProgRead_0 N (n + 1) v = ev (XiProgRead N) biProgRead_0 (roundK diProgRead_0 oiProgRead_0 (liProgRead_0 N n)) (diProgRead_0.mk' v) := by kernel_rfl
theorem cxiProgRead (N : Nat) : CtxOk Tryd.prog (XiProgRead N) := ⟨⟨TE_ok, List.forall_mem_cons.2 ⟨(specstrings_CutSuffix N), List.forall_mem_cons.2 ⟨(spechSplit N), List.forall_mem_cons.2 ⟨(speciOpRead N), fun k hk => absurd hk List.not_mem_nil⟩⟩⟩⟩, mixed⟩
theorem lpiProgRead_0 (N : Nat) : LoopOk Tryd.prog { hd := diProgRead_0, outs := oiProgRead_0, run := fun v => liProgRead_0 N N v } biProgRead_0 :=
  loop_fuel (d := diProgRead_0) (os := oiProgRead_0) (cxiProgRead N) (loops_at (ids := []) (by kernel_rfl) (trivial)) (liProgRead_0 N) (fun _ => rfl) (fun n v => liProgRead_0_eq N n v) (fun _ => N)
theorem speciProgRead (N : Nat) : Spec Tryd.prog (coniProgRead N) :=
  Spec.of_eq (fn_spec (cxiProgRead N) (f := 19) (fn := Tryd.f19) (c := codeOf Tryd.f19) (by kernel_rfl) (by kernel_rfl) (by kernel_rfl) (loops_at (ids := [0]) (by kernel_rfl) ⟨lp_of (lpiProgRead_0 N), trivial⟩) (by kernel_rfl)) (fun x r h => (FiProgRead_eq N x).trans h)

/-! ### 45: laws.eqShape -/

noncomputable def dinveqShape : Desc := { n := 2, regs := [.one (.val (.pair (.int .i64) (.pair (.int .i64) .unit))), .one (.val (.pair (.int .i64) (.pair (.int .i64) .unit)))], bx := [], pins := [] }
noncomputable def outveqShape : Outs := [(.ret, { n := 1, regs := [.one (.val .bool)], bx := [], pins := [] })]
noncomputable def HveqShape : Hints := [(0, [(0, { fz := true }), (1, { fz := true })])]
noncomputable def EveqShape (_N : Nat) : Env := { te := TE, cs := [] }
noncomputable def FveqShape (N : Nat) (x : ((Int × (Int × Unit)) × ((Int × (Int × Unit)) × Unit))) : Option (Bool × Unit) :=
  bif x.1.1 != x.2.1.1 then
   some (false, ())
  else
  bif x.1.2.1 != x.2.1.2.1 then
   some (false, ())
  else
  some (true, ())
noncomputable def conveqShape (N : Nat) : Con := { f := 45, din := dinveqShape, outs := outveqShape, F := FveqShape N }
noncomputable def XveqShape (N : Nat) : Ctx := { E := EveqShape N, H := HveqShape, lp := [], jn := [] }
theorem FveqShape_eq (N : Nat) (x : ((Int × (Int × Unit)) × ((Int × (Int × Unit)) × Unit))) : evFn (XveqShape N) Tryd.f45 dinveqShape outveqShape x = FveqShape N x := by kernel_rfl
theorem cxveqShape (N : Nat) : CtxOk Tryd.prog (XveqShape N) := ⟨⟨TE_ok, fun k hk => absurd hk List.not_mem_nil⟩, mixed⟩
theorem specveqShape (N : Nat) : Spec Tryd.prog (conveqShape N) :=
  Spec.of_eq (fn_spec (cxveqShape N) (f := 45) (fn := Tryd.f45) (c := codeOf Tryd.f45) (by kernel_rfl) (by kernel_rfl) (by kernel_rfl) (loops_at (ids := []) (by kernel_rfl) (trivial)) (by kernel_rfl)) (fun x r h => (FveqShape_eq N x).trans h)

/-! ### 17: laws.eqOp -/

noncomputable def dinveqOp : Desc := { n := 2, regs := [.one (.val (.pair (.int .i64) (.pair (.int .i64) (.pair (.int .i64) (.pair (.int .i64) (.pair (.int .i64) (.pair (.int .i64) (.pair (.pair (.int .i64) (.pair (.int .i64) .unit)) .unit)))))))), .one (.val (.pair (.int .i64) (.pair (.int .i64) (.pair (.int .i64) (.pair (.int .i64) (.pair (.int .i64) (.pair (.int .i64) (.pair (.pair (.int .i64) (.pair (.int .i64) .unit)) .unit))))))))], bx := [], pins := [] }
noncomputable def outveqOp : Outs := [(.ret, { n := 1, regs := [.one (.val .bool)], bx := [], pins := [] })]
noncomputable def HveqOp : Hints := [(0, [(0, { fz := true }), (1, { fz := true })])]
noncomputable def EveqOp (N : Nat) : Env := { te := TE, cs := [conveqShape N] }
noncomputable def FveqOp (N : Nat) (x : ((Int × (Int × (Int × (Int × (Int × (Int × ((Int × (Int × Unit)) × Unit))))))) × ((Int × (Int × (Int × (Int × (Int × (Int × ((Int × (Int × Unit)) × Unit))))))) × Unit))) : Option (Bool × Unit) :=
  bif x.1.1 != x.2.1.1 then
   some (false, ())
  else
  bif x.1.2.1 != x.2.1.2.1 then
   some (false, ())
  else
  bif x.1.2.2.1 != x.2.1.2.2.1 then
   some (false, ())
  else
  bif x.1.2.2.2.1 != x.2.1.2.2.2.1 then
   some (false, ())
  else
  bif x.1.2.2.2.2.1 != x.2.1.2.2.2.2.1 then
   some (false, ())
  else
  bif x.1.2.2.2.2.2.1 != x.2.1.2.2.2.2.2.1 then
   some (false, ())
  else
  (FveqShape N (x.1.2.2.2.2.2.2.1, x.2.1.2.2.2.2.2.2.1, ())).bind fun r1 =>
  bif !r1.1 then
   some (false, ())
  else
  some (true, ())
noncomputable def conveqOp (N : Nat) : Con := { f := 17, din := dinveqOp, outs := outveqOp, F := FveqOp N }
noncomputable def XveqOp (N : Nat) : Ctx := { E := EveqOp N, H := HveqOp, lp := [], jn := [] }
theorem FveqOp_eq (N : Nat) (x : ((Int × (Int × (Int × (Int × (Int × (Int × ((Int × (Int × Unit)) × Unit))))))) × ((Int × (Int × (Int × (Int × (Int × (Int × ((Int × (Int × Unit)) × Unit))))))) × Unit))) : evFn (XveqOp N) Tryd.f17 dinveqOp outveqOp x = FveqOp N x := by kernel_rfl
theorem cxveqOp (N : Nat) : CtxOk Tryd.prog (XveqOp N) := ⟨⟨TE_ok, List.forall_mem_cons.2 ⟨(specveqShape N), fun k hk => absurd hk List.not_mem_nil⟩⟩, mixed⟩
theorem specveqOp (N : Nat) : Spec Tryd.prog (conveqOp N) :=
  Spec.of_eq (fn_spec (cxveqOp N) (f := 17) (fn := Tryd.f17) (c := codeOf Tryd.f17) (by kernel_rfl) (by kernel_rfl) (by kernel_rfl) (loops_at (ids := []) (by kernel_rfl) (trivial)) (by kernel_rfl)) (fun x r h => (FveqOp_eq N x).trans h)

/-! ### 13: laws.eqOpS -/

noncomputable def dinveqOpS : Desc := { n := 2, regs := [.one (.val (.sl (.pair (.int .i64) (.pair (.int .i64) (.pair (.int .i64) (.pair (.int .i64) (.pair (.int .i64) (.pair (.int .i64) (.pair (.pair (.int .i64) (.pair (.int .i64) .unit)) .unit))))))))), .one (.val (.sl (.pair (.int .i64) (.pair (.int .i64) (.pair (.int .i64) (.pair (.int .i64) (.pair (.int .i64) (.pair (.int .i64) (.pair (.pair (.int .i64) (.pair (.int .i64) .unit)) .unit)))))))))], bx := [], pins := [] }
noncomputable def outveqOpS : Outs := [(.ret, { n := 1, regs := [.one (.val .bool)], bx := [], pins := [] })]
noncomputable def HveqOpS : Hints := []
noncomputable def EveqOpS (N : Nat) : Env := { te := TE, cs := [conveqOp N] }
noncomputable def dveqOpS_0 : Desc := { n := 27, regs := [.one (.val (.sl (.pair (.int .i64) (.pair (.int .i64) (.pair (.int .i64) (.pair (.int .i64) (.pair (.int .i64) (.pair (.int .i64) (.pair (.pair (.int .i64) (.pair (.int .i64) .unit)) .unit))))))))), .one (.val (.sl (.pair (.int .i64) (.pair (.int .i64) (.pair (.int .i64) (.pair (.int .i64) (.pair (.int .i64) (.pair (.int .i64) (.pair (.pair (.int .i64) (.pair (.int .i64) .unit)) .unit))))))))), u, u, u, .one (.val (.int .i64))], bx := [], pins := [] }
noncomputable def oveqOpS_0 : Outs := [(.exit 0, { n := 27, regs := [], bx := [], pins := [] }), (.ret, { n := 27, regs := [u, u, u, u, .one (.val .bool)], bx := [], pins := [] })]
noncomputable def lveqOpS_0 (N : Nat) : Nat → ((List (Int × (Int × (Int × (Int × (Int × (Int × ((Int × (Int × Unit)) × Unit)))))))) × ((List (Int × (Int × (Int × (Int × (Int × (Int × ((Int × (Int × Unit)) × Unit)))))))) × (Int × Unit))) → Option (Unit ⊕ (Bool × Unit))
  | 0, _ => none
  | n + 1, v =>
    let y2 := decide (v.2.2.1 < (v.1.length : Int))
    bif y2 then
     bif decide (0 ≤ v.2.2.1) then
     bif decide (v.2.2.1.toNat < v.1.length) then
     let y3 := v.1.getD v.2.2.1.toNat ((0 : Int), (0 : Int), (0 : Int), (0 : Int), (0 : Int), (0 : Int), ((0 : Int), (0 : Int), ()), ())
     bif decide (0 ≤ v.2.2.1) then
     bif decide (v.2.2.1.toNat < v.2.1.length) then
     let y4 := v.2.1.getD v.2.2.1.toNat ((0 : Int), (0 : Int), (0 : Int), (0 : Int), (0 : Int), (0 : Int), ((0 : Int), (0 : Int), ()), ())
     (FveqOp N (y3, y4, ())).bind fun r5 =>
     bif !r5.1 then
      some (.inr ((false, ())))
     else
     lveqOpS_0 N n (v.1, v.2.1, w64 (v.2.2.1 + (1 : Int)), ())
     else none
     else none
     else none
     else none
    else
    some (.inl ())
noncomputable def FveqOpS (N : Nat) (x : ((List (Int × (Int × (Int × (Int × (Int × (Int × ((Int × (Int × Unit)) × Unit)))))))) × ((List (Int × (Int × (Int × (Int × (Int × (Int × ((Int × (Int × Unit)) × Unit)))))))) × Unit))) : Option (Bool × Unit) :=
  let y1 := (x.1.length : Int) != (x.2.1.length : Int)
  bif y1 then
   some (false, ())
  else
  (lveqOpS_0 N N (x.1, x.2.1, (0 : Int), ())).bind fun o6 =>
  Sum.elim (fun o7 =>
   some (true, ())) (fun o8 =>
   some (o8.1, ())) o6
noncomputable def conveqOpS (N : Nat) : Con := { f := 13, din := dinveqOpS, outs := outveqOpS, F := FveqOpS N }
noncomputable def XveqOpS (N : Nat) : Ctx := { E := EveqOpS N, H := HveqOpS, lp := [(0, { hd := dveqOpS_0, outs := oveqOpS_0, run := fun v => lveqOpS_0 N N v })], jn := [] }
noncomputable def bveqOpS_0 : Code := loopBody (codeOf Tryd.f13) 0
theorem FveqOpS_eq (N : Nat) (x : ((List (Int × (Int × (Int × (Int × (Int × (Int × ((Int × (Int × Unit)) × Unit)))))))) × ((List (Int × (Int × (Int × (Int × (Int × (Int × ((Int × (Int × Unit)) × Unit)))))))) × Unit))) : evFn (XveqOpS N) Tryd.f13 dinveqOpS outveqOpS x = FveqOpS N x := by kernel_rfl
theorem lveqOpS_0_eq (N n : Nat) (v : ((List (Int × (Int × (Int × (Int × (Int × (Int × ((Int × (Int × Unit)) × Unit)))))))) × ((List (Int × (Int × (Int × (Int × (Int × (Int × ((Int × (Int × Unit)) × Unit)))))))) × (Int × Unit)))) : lveqOpS_0 N (n + 1) v = ev (XveqOpS N) bveqOpS_0 (roundK dveqOpS_0 oveqOpS_0 (lveqOpS_0 N n)) (dveqOpS_0.mk' v) := by kernel_rfl
theorem cxveqOpS (N : Nat) : CtxOk Tryd.prog (XveqOpS N) := ⟨⟨TE_ok, List.forall_mem_cons.2 ⟨(specveqOp N), fun k hk => absurd hk List.not_mem_nil⟩⟩, mixed⟩
theorem lpveqOpS_0 (N : Nat) : LoopOk Tryd.prog { hd := dveqOpS_0, outs := oveqOpS_0, run := fun v => lveqOpS_0 N N v } bveqOpS_0 :=
  loop_fuel (d := dveqOpS_0) (os := oveqOpS_0) (cxveqOpS N) (loops_at (ids := []) (by kernel_rfl) (trivial)) (lveqOpS_0 N) (fun _ => rfl) (fun n v => lveqOpS_0_eq N n v) (fun _ => N)
theorem specveqOpS (N : Nat) : Spec Tryd.prog (conveqOpS N) :=
  Spec.of_eq (fn_spec (cxveqOpS N) (f := 13) (fn := Tryd.f13) (c := codeOf Tryd.f13) (by kernel_rfl) (by kernel_rfl) (by kernel_rfl) (loops_at (ids := [0]) (by kernel_rfl) ⟨lp_of (lpveqOpS_0 N), trivial⟩) (by kernel_rfl)) (fun x r h => (FveqOpS_eq N x).trans h)

/-! ### 20: laws.markOpS -/

noncomputable def dinvmarkOpS : Desc := { n := 2, regs := [.one (.lit (.row 0)), .one (.val (.int .i64))], bx := [(0, .row (.pair (.int .i64) (.pair (.int .i64) (.pair (.int .i64) (.pair (.int .i64) (.pair (.int .i64) (.pair (.int .i64) (.pair (.pair (.int .i64) (.pair (.int .i64) .unit)) .unit))))))))], pins := [] }
noncomputable def outvmarkOpS : Outs := [(.ret, { n := 1, regs := [.one (.val (.int .i64))], bx := [(0, .row (.pair (.int .i64) (.pair (.int .i64) (.pair (.int .i64) (.pair (.int .i64) (.pair (.int .i64) (.pair (.int .i64) (.pair (.pair (.int .i64) (.pair (.int .i64) .unit)) .unit))))))))], pins := [.one (.lit (.row 0))] })]
noncomputable def HvmarkOpS : Hints := []
noncomputable def EvmarkOpS (_N : Nat) : Env := { te := TE, cs := [] }
noncomputable def dvmarkOpS_0 : Desc := { n := 71, regs := [.one (.lit (.row 0)), .one (.val (.int .i64)), u, u, u, .one (.val (.int .i64))], bx := [(0, .row (.pair (.int .i64) (.pair (.int .i64) (.pair (.int .i64) (.pair (.int .i64) (.pair (.int .i64) (.pair (.int .i64) (.pair (.pair (.int .i64) (.pair (.int .i64) .unit)) .unit))))))))], pins := [.one (.lit (.row 0))] }
noncomputable def ovmarkOpS_0 : Outs := [(.exit 0, { n := 71, regs := [u, .one (.val (.int .i64))], bx := [(0, .row (.pair (.int .i64) (.pair (.int .i64) (.pair (.int .i64) (.pair (.int .i64) (.pair (.int .i64) (.pair (.int .i64) (.pair (.pair (.int .i64) (.pair (.int .i64) .unit)) .unit))))))))], pins := [.one (.lit (.row 0))] })]
noncomputable def lvmarkOpS_0 (N : Nat) : Nat → (Int × (Int × ((List (Int × (Int × (Int × (Int × (Int × (Int × ((Int × (Int × Unit)) × Unit)))))))) × Unit))) → Option (Int × ((List (Int × (Int × (Int × (Int × (Int × (Int × ((Int × (Int × Unit)) × Unit)))))))) × Unit))
  | 0, _ => none
  | n + 1, v =>
    let y1 := decide (v.2.1 < (v.2.2.1.length : Int))
    bif y1 then
     bif decide (0 ≤ v.2.1) then
     bif decide (v.2.1.toNat < v.2.2.1.length) then
     let y2 := v.2.2.1.set v.2.1.toNat (v.1, (v.2.2.1.getD v.2.1.toNat ((0 : Int), (0 : Int), (0 : Int), (0 : Int), (0 : Int), (0 : Int), ((0 : Int), (0 : Int), ()), ())).2)
     bif decide (0 ≤ v.2.1) then
     bif decide (v.2.1.toNat < y2.length) then
     let y3 := y2.set v.2.1.toNat ((y2.getD v.2.1.toNat ((0 : Int), (0 : Int), (0 : Int), (0 : Int), (0 : Int), (0 : Int), ((0 : Int), (0 : Int), ()), ())).1, w64 (v.1 + (1 : Int)), ((y2.getD v.2.1.toNat ((0 : Int), (0 : Int), (0 : Int), (0 : Int), (0 : Int), (0 : Int), ((0 : Int), (0 : Int), ()), ())).2).2)
     let y4 := w64 ((w64 (v.1 + (1 : Int))) + (1 : Int))
     bif decide (0 ≤ v.2.1) then
     bif decide (v.2.1.toNat < y3.length) then
     let y5 := y3.set v.2.1.toNat ((y3.getD v.2.1.toNat ((0 : Int), (0 : Int), (0 : Int), (0 : Int), (0 : Int), (0 : Int), ((0 : Int), (0 : Int), ()), ())).1, ((y3.getD v.2.1.toNat ((0 : Int), (0 : Int), (0 : Int), (0 : Int), (0 : Int), (0 : Int), ((0 : Int), (0 : Int), ()), ())).2).1, y4, (((y3.getD v.2.1.toNat ((0 : Int), (0 : Int), (0 : Int), (0 : Int), (0 : Int), (0 : Int), ((0 : Int), (0 : Int), ()), ())).2).2).2)
     bif decide (0 ≤ v.2.1) then
     bif decide (v.2.1.toNat < y5.length) then
     let y6 := y5.set v.2.1.toNat ((y5.getD v.2.1.toNat ((0 : Int), (0 : Int), (0 : Int), (0 : Int), (0 : Int), (0 : Int), ((0 : Int), (0 : Int), ()), ())).1, ((y5.getD v.2.1.toNat ((0 : Int), (0 : Int), (0 : Int), (0 : Int), (0 : Int), (0 : Int), ((0 : Int), (0 : Int), ()), ())).2).1, (((y5.getD v.2.1.toNat ((0 : Int), (0 : Int), (0 : Int), (0 : Int), (0 : Int), (0 : Int), ((0 : Int), (0 : Int), ()), ())).2).2).1, w64 (y4 + (1 : Int)), ((((y5.getD v.2.1.toNat ((0 : Int), (0 : Int), (0 : Int), (0 : Int), (0 : Int), (0 : Int), ((0 : Int), (0 : Int), ()), ())).2).2).2).2)
     let y7 := w64 ((w64 (y4 + (1 : Int))) + (1 : Int))
     bif decide (0 ≤ v.2.1) then
     bif decide (v.2.1.toNat < y6.length) then
     let y8 := y6.set v.2.1.toNat ((y6.getD v.2.1.toNat ((0 : Int), (0 : Int), (0 : Int), (0 : Int), (0 : Int), (0 : Int), ((0 : Int), (0 : Int), ()), ())).1, ((y6.getD v.2.1.toNat ((0 : Int), (0 : Int), (0 : Int), (0 : Int), (0 : Int), (0 : Int), ((0 : Int), (0 : Int), ()), ())).2).1, (((y6.getD v.2.1.toNat ((0 : Int), (0 : Int), (0 : Int), (0 : Int), (0 : Int), (0 : Int), ((0 : Int), (0 : Int), ()), ())).2).2).1, ((((y6.getD v.2.1.toNat ((0 : Int), (0 : Int), (0 : Int), (0 : Int), (0 : Int), (0 : Int), ((0 : Int), (0 : Int), ()), ())).2).2).2).1, y7, (((((y6.getD v.2.1.toNat ((0 : Int), (0 : Int), (0 : Int), (0 : Int), (0 : Int), (0 : Int), ((0 : Int), (0 : Int), ()), ())).2).2).2).2).2)
     bif decide (0 ≤ v.2.1) then
     bif decide (v.2.1.toNat < y8.length) then
     let y9 := y8.set v.2.1.toNat ((y8.getD v.2.1.toNat ((0 : Int), (0 : Int), (0 : Int), (0 : Int), (0 : Int), (0 : Int), ((0 : Int), (0 : Int), ()), ())).1, ((y8.getD v.2.1.toNat ((0 : Int), (0 : Int), (0 : Int), (0 : Int), (0 : Int), (0 : Int), ((0 : Int), (0 : Int), ()), ())).2).1, (((y8.getD v.2.1.toNat ((0 : Int), (0 : Int), (0 : Int), (0 : Int), (0 : Int), (0 : Int), ((0 : Int), (0 : Int), ()), ())).2).2).1, ((((y8.getD v.2.1.toNat ((0 : Int), (0 : Int), (0 : Int), (0 : Int), (0 : Int), (0 : Int), ((0 : Int), (0 : Int), ()), ())).2).2).2).1, (((((y8.getD v.2.1.toNat ((0 : Int), (0 : Int), (0 : Int), (0 : Int), (0 : Int), (0 : Int), ((0 : Int), (0 : Int), ()), ())).2).2).2).2).1, w64 (y7 + (1 : Int)), ((((((y8.getD v.2.1.toNat ((0 : Int), (0 : Int), (0 : Int), (0 : Int), (0 : Int), (0 : Int), ((0 : Int), (0 : Int), ()), ())).2).2).2).2).2).2)
     let y10 := w64 ((w64 (y7 + (1 : Int))) + (1 : Int))
     bif decide (0 ≤ v.2.1) then
     bif decide (v.2.1.toNat < y9.length) then
     let y11 := y9.set v.2.1.toNat ((y9.getD v.2.1.toNat ((0 : Int), (0 : Int), (0 : Int), (0 : Int), (0 : Int), (0 : Int), ((0 : Int), (0 : Int), ()), ())).1, ((y9.getD v.2.1.toNat ((0 : Int), (0 : Int), (0 : Int), (0 : Int), (0 : Int), (0 : Int), ((0 : Int), (0 : Int), ()), ())).2).1, (((y9.getD v.2.1.toNat ((0 : Int), (0 : Int), (0 : Int), (0 : Int), (0 : Int), (0 : Int), ((0 : Int), (0 : Int), ()), ())).2).2).1, ((((y9.getD v.2.1.toNat ((0 : Int), (0 : Int), (0 : Int), (0 : Int), (0 : Int), (0 : Int), ((0 : Int), (0 : Int), ()), ())).2).2).2).1, (((((y9.getD v.2.1.toNat ((0 : Int), (0 : Int), (0 : Int), (0 : Int), (0 : Int), (0 : Int), ((0 : Int), (0 : Int), ()), ())).2).2).2).2).1, ((((((y9.getD v.2.1.toNat ((0 : Int), (0 : Int), (0 : Int), (0 : Int), (0 : Int), (0 : Int), ((0 : Int), (0 : Int), ()), ())).2).2).2).2).2).1, (y10, ((((((((y9.getD v.2.1.toNat ((0 : Int), (0 : Int), (0 : Int), (0 : Int), (0 : Int), (0 : Int), ((0 : Int), (0 : Int), ()), ())).2).2).2).2).2).2).1).2), (((((((y9.getD v.2.1.toNat ((0 : Int), (0 : Int), (0 : Int), (0 : Int), (0 : Int), (0 : Int), ((0 : Int), (0 : Int), ()), ())).2).2).2).2).2).2).2)
     bif decide (0 ≤ v.2.1) then
     bif decide (v.2.1.toNat < y11.length) then
     let y12 := y11.set v.2.1.toNat ((y11.getD v.2.1.toNat ((0 : Int), (0 : Int), (0 : Int), (0 : Int), (0 : Int), (0 : Int), ((0 : Int), (0 : Int), ()), ())).1, ((y11.getD v.2.1.toNat ((0 : Int), (0 : Int), (0 : Int), (0 : Int), (0 : Int), (0 : Int), ((0 : Int), (0 : Int), ()), ())).2).1, (((y11.getD v.2.1.toNat ((0 : Int), (0 : Int), (0 : Int), (0 : Int), (0 : Int), (0 : Int), ((0 : Int), (0 : Int), ()), ())).2).2).1, ((((y11.getD v.2.1.toNat ((0 : Int), (0 : Int), (0 : Int), (0 : Int), (0 : Int), (0 : Int), ((0 : Int), (0 : Int), ()), ())).2).2).2).1, (((((y11.getD v.2.1.toNat ((0 : Int), (0 : Int), (0 : Int), (0 : Int), (0 : Int), (0 : Int), ((0 : Int), (0 : Int), ()), ())).2).2).2).2).1, ((((((y11.getD v.2.1.toNat ((0 : Int), (0 : Int), (0 : Int), (0 : Int), (0 : Int), (0 : Int), ((0 : Int), (0 : Int), ()), ())).2).2).2).2).2).1, (((((((((y11.getD v.2.1.toNat ((0 : Int), (0 : Int), (0 : Int), (0 : Int), (0 : Int), (0 : Int), ((0 : Int), (0 : Int), ()), ())).2).2).2).2).2).2).1).1, w64 (y10 + (1 : Int)), (((((((((y11.getD v.2.1.toNat ((0 : Int), (0 : Int), (0 : Int), (0 : Int), (0 : Int), (0 : Int), ((0 : Int), (0 : Int), ()), ())).2).2).2).2).2).2).1).2).2), (((((((y11.getD v.2.1.toNat ((0 : Int), (0 : Int), (0 : Int), (0 : Int), (0 : Int), (0 : Int), ((0 : Int), (0 : Int), ()), ())).2).2).2).2).2).2).2)
     let y13 := w64 ((w64 (y10 + (1 : Int))) + (1 : Int))
     lvmarkOpS_0 N n (y13, w64 (v.2.1 + (1 : Int)), y12, ())
     else none
     else none
     else none
     else none
     else none
     else none
     else none
     else none
     else none
     else none
     else none
     else none
     else none
     else none
     else none
     else none
    else
    some (v.1, v.2.2.1, ())
noncomputable def FvmarkOpS (N : Nat) (x : (Int × ((List (Int × (Int × (Int × (Int × (Int × (Int × ((Int × (Int × Unit)) × Unit)))))))) × Unit))) : Option (Int × ((List (Int × (Int × (Int × (Int × (Int × (Int × ((Int × (Int × Unit)) × Unit)))))))) × Unit)) :=
  (lvmarkOpS_0 N N (x.1, (0 : Int), x.2.1, ())).bind fun o14 =>
  some (o14.1, o14.2.1, ())
noncomputable def convmarkOpS (N : Nat) : Con := { f := 20, din := dinvmarkOpS, outs := outvmarkOpS, F := FvmarkOpS N }
noncomputable def XvmarkOpS (N : Nat) : Ctx := { E := EvmarkOpS N, H := HvmarkOpS, lp := [(0, { hd := dvmarkOpS_0, outs := ovmarkOpS_0, run := fun v => lvmarkOpS_0 N N v })], jn := [] }
noncomputable def bvmarkOpS_0 : Code := loopBody (codeOf Tryd.f20) 0
theorem FvmarkOpS_eq (N : Nat) (x : (Int × ((List (Int × (Int × (Int × (Int × (Int × (Int × ((Int × (Int × Unit)) × Unit)))))))) × Unit))) : evFn (XvmarkOpS N) Tryd.f20 dinvmarkOpS outvmarkOpS x = FvmarkOpS N x := by kernel_rfl
theorem lvmarkOpS_0_eq (N n : Nat) (v : (Int × (Int × ((List (Int × (Int × (Int × (Int × (Int × (Int × ((Int × (Int × Unit)) × Unit)))))))) × Unit)))) : lvmarkOpS_0 N (n + 1) v = ev (XvmarkOpS N) bvmarkOpS_0 (roundK dvmarkOpS_0 ovmarkOpS_0 (lvmarkOpS_0 N n)) (dvmarkOpS_0.mk' v) := by kernel_rfl
theorem cxvmarkOpS (N : Nat) : CtxOk Tryd.prog (XvmarkOpS N) := ⟨⟨TE_ok, fun k hk => absurd hk List.not_mem_nil⟩, mixed⟩
theorem lpvmarkOpS_0 (N : Nat) : LoopOk Tryd.prog { hd := dvmarkOpS_0, outs := ovmarkOpS_0, run := fun v => lvmarkOpS_0 N N v } bvmarkOpS_0 :=
  loop_fuel (d := dvmarkOpS_0) (os := ovmarkOpS_0) (cxvmarkOpS N) (loops_at (ids := []) (by kernel_rfl) (trivial)) (lvmarkOpS_0 N) (fun _ => rfl) (fun n v => lvmarkOpS_0_eq N n v) (fun _ => N)
theorem specvmarkOpS (N : Nat) : Spec Tryd.prog (convmarkOpS N) :=
  Spec.of_eq (fn_spec (cxvmarkOpS N) (f := 20) (fn := Tryd.f20) (c := codeOf Tryd.f20) (by kernel_rfl) (by kernel_rfl) (by kernel_rfl) (loops_at (ids := [0]) (by kernel_rfl) ⟨lp_of (lpvmarkOpS_0 N), trivial⟩) (by kernel_rfl)) (fun x r h => (FvmarkOpS_eq N x).trans h)

/-! ### 21: laws.heldOpS -/

noncomputable def dinvheldOpS : Desc := { n := 2, regs := [.one (.val (.sl (.pair (.int .i64) (.pair (.int .i64) (.pair (.int .i64) (.pair (.int .i64) (.pair (.int .i64) (.pair (.int .i64) (.pair (.pair (.int .i64) (.pair (.int .i64) .unit)) .unit))))))))), .one (.val (.int .i64))], bx := [], pins := [] }
noncomputable def outvheldOpS : Outs := [(.ret, { n := 1, regs := [.one (.val (.int .i64))], bx := [], pins := [] })]
noncomputable def HvheldOpS : Hints := []
noncomputable def EvheldOpS (_N : Nat) : Env := { te := TE, cs := [] }
noncomputable def dvheldOpS_0 : Desc := { n := 87, regs := [.one (.val (.sl (.pair (.int .i64) (.pair (.int .i64) (.pair (.int .i64) (.pair (.int .i64) (.pair (.int .i64) (.pair (.int .i64) (.pair (.pair (.int .i64) (.pair (.int .i64) .unit)) .unit))))))))), .one (.val (.int .i64)), u, u, u, .one (.val (.int .i64))], bx := [], pins := [] }
noncomputable def ovheldOpS_0 : Outs := [(.exit 0, { n := 87, regs := [u, .one (.val (.int .i64))], bx := [], pins := [] }), (.ret, { n := 87, regs := [u, u, u, u, .one (.val (.int .i64))], bx := [], pins := [] })]
noncomputable def lvheldOpS_0 (N : Nat) : Nat → ((List (Int × (Int × (Int × (Int × (Int × (Int × ((Int × (Int × Unit)) × Unit)))))))) × (Int × (Int × Unit))) → Option ((Int × Unit) ⊕ (Int × Unit))
  | 0, _ => none
  | n + 1, v =>
    let y1 := decide (v.2.2.1 < (v.1.length : Int))
    bif y1 then
     bif decide (0 ≤ v.2.2.1) then
     bif decide (v.2.2.1.toNat < v.1.length) then
     let y2 := v.1.getD v.2.2.1.toNat ((0 : Int), (0 : Int), (0 : Int), (0 : Int), (0 : Int), (0 : Int), ((0 : Int), (0 : Int), ()), ())
     bif y2.1 != v.2.1 then
      some (.inr (((-1 : Int), ())))
     else
     bif decide (0 ≤ v.2.2.1) then
     bif decide (v.2.2.1.toNat < v.1.length) then
     let y3 := v.1.getD v.2.2.1.toNat ((0 : Int), (0 : Int), (0 : Int), (0 : Int), (0 : Int), (0 : Int), ((0 : Int), (0 : Int), ()), ())
     bif y3.2.1 != (w64 (v.2.1 + (1 : Int))) then
      some (.inr (((-1 : Int), ())))
     else
     let y4 := w64 ((w64 (v.2.1 + (1 : Int))) + (1 : Int))
     bif decide (0 ≤ v.2.2.1) then
     bif decide (v.2.2.1.toNat < v.1.length) then
     let y5 := v.1.getD v.2.2.1.toNat ((0 : Int), (0 : Int), (0 : Int), (0 : Int), (0 : Int), (0 : Int), ((0 : Int), (0 : Int), ()), ())
     bif y5.2.2.1 != y4 then
      some (.inr (((-1 : Int), ())))
     else
     bif decide (0 ≤ v.2.2.1) then
     bif decide (v.2.2.1.toNat < v.1.length) then
     let y6 := v.1.getD v.2.2.1.toNat ((0 : Int), (0 : Int), (0 : Int), (0 : Int), (0 : Int), (0 : Int), ((0 : Int), (0 : Int), ()), ())
     bif y6.2.2.2.1 != (w64 (y4 + (1 : Int))) then
      some (.inr (((-1 : Int), ())))
     else
     let y7 := w64 ((w64 (y4 + (1 : Int))) + (1 : Int))
     bif decide (0 ≤ v.2.2.1) then
     bif decide (v.2.2.1.toNat < v.1.length) then
     let y8 := v.1.getD v.2.2.1.toNat ((0 : Int), (0 : Int), (0 : Int), (0 : Int), (0 : Int), (0 : Int), ((0 : Int), (0 : Int), ()), ())
     bif y8.2.2.2.2.1 != y7 then
      some (.inr (((-1 : Int), ())))
     else
     bif decide (0 ≤ v.2.2.1) then
     bif decide (v.2.2.1.toNat < v.1.length) then
     let y9 := v.1.getD v.2.2.1.toNat ((0 : Int), (0 : Int), (0 : Int), (0 : Int), (0 : Int), (0 : Int), ((0 : Int), (0 : Int), ()), ())
     let y10 := y9.2.2.2.2.2.1 != (w64 (y7 + (1 : Int)))
     bif y10 then
      some (.inr (((-1 : Int), ())))
     else
     let y11 := w64 ((w64 (y7 + (1 : Int))) + (1 : Int))
     bif decide (0 ≤ v.2.2.1) then
     bif decide (v.2.2.1.toNat < v.1.length) then
     let y12 := v.1.getD v.2.2.1.toNat ((0 : Int), (0 : Int), (0 : Int), (0 : Int), (0 : Int), (0 : Int), ((0 : Int), (0 : Int), ()), ())
     bif y12.2.2.2.2.2.2.1.1 != y11 then
      some (.inr (((-1 : Int), ())))
     else
     bif decide (0 ≤ v.2.2.1) then
     bif decide (v.2.2.1.toNat < v.1.length) then
     let y13 := v.1.getD v.2.2.1.toNat ((0 : Int), (0 : Int), (0 : Int), (0 : Int), (0 : Int), (0 : Int), ((0 : Int), (0 : Int), ()), ())
     let y14 := y13.2.2.2.2.2.2.1.2.1 != (w64 (y11 + (1 : Int)))
     bif y14 then
      some (.inr (((-1 : Int), ())))
     else
     let y15 := w64 ((w64 (y11 + (1 : Int))) + (1 : Int))
     lvheldOpS_0 N n (v.1, y15, w64 (v.2.2.1 + (1 : Int)), ())
     else none
     else none
     else none
     else none
     else none
     else none
     else none
     else none
     else none
     else none
     else none
     else none
     else none
     else none
     else none
     else none
    else
    some (.inl (v.2.1, ()))
noncomputable def FvheldOpS (N : Nat) (x : ((List (Int × (Int × (Int × (Int × (Int × (Int × ((Int × (Int × Unit)) × Unit)))))))) × (Int × Unit))) : Option (Int × Unit) :=
  (lvheldOpS_0 N N (x.1, x.2.1, (0 : Int), ())).bind fun o16 =>
  Sum.elim (fun o17 =>
   some (o17.1, ())) (fun o18 =>
   some (o18.1, ())) o16
noncomputable def convheldOpS (N : Nat) : Con := { f := 21, din := dinvheldOpS, outs := outvheldOpS, F := FvheldOpS N }
noncomputable def XvheldOpS (N : Nat) : Ctx := { E := EvheldOpS N, H := HvheldOpS, lp := [(0, { hd := dvheldOpS_0, outs := ovheldOpS_0, run := fun v => lvheldOpS_0 N N v })], jn := [] }
noncomputable def bvheldOpS_0 : Code := loopBody (codeOf Tryd.f21) 0
theorem FvheldOpS_eq (N : Nat) (x : ((List (Int × (Int × (Int × (Int × (Int × (Int × ((Int × (Int × Unit)) × Unit)))))))) × (Int × Unit))) : evFn (XvheldOpS N) Tryd.f21 dinvheldOpS outvheldOpS x = FvheldOpS N x := by kernel_rfl
theorem lvheldOpS_0_eq (N n : Nat) (v : ((List (Int × (Int × (Int × (Int × (Int × (Int × ((Int × (Int × Unit)) × Unit)))))))) × (Int × (Int × Unit)))) : lvheldOpS_0 N (n + 1) v = ev (XvheldOpS N) bvheldOpS_0 (roundK dvheldOpS_0 ovheldOpS_0 (lvheldOpS_0 N n)) (dvheldOpS_0.mk' v) := by kernel_rfl
theorem cxvheldOpS (N : Nat) : CtxOk Tryd.prog (XvheldOpS N) := ⟨⟨TE_ok, fun k hk => absurd hk List.not_mem_nil⟩, mixed⟩
theorem lpvheldOpS_0 (N : Nat) : LoopOk Tryd.prog { hd := dvheldOpS_0, outs := ovheldOpS_0, run := fun v => lvheldOpS_0 N N v } bvheldOpS_0 :=
  loop_fuel (d := dvheldOpS_0) (os := ovheldOpS_0) (cxvheldOpS N) (loops_at (ids := []) (by kernel_rfl) (trivial)) (lvheldOpS_0 N) (fun _ => rfl) (fun n v => lvheldOpS_0_eq N n v) (fun _ => N)
theorem specvheldOpS (N : Nat) : Spec Tryd.prog (convheldOpS N) :=
  Spec.of_eq (fn_spec (cxvheldOpS N) (f := 21) (fn := Tryd.f21) (c := codeOf Tryd.f21) (by kernel_rfl) (by kernel_rfl) (by kernel_rfl) (loops_at (ids := [0]) (by kernel_rfl) ⟨lp_of (lpvheldOpS_0 N), trivial⟩) (by kernel_rfl)) (fun x r h => (FvheldOpS_eq N x).trans h)

/-! ### 6: laws.FnExactProgRead -/

noncomputable def dinvFnExactProgRead : Desc := { n := 1, regs := [.one (.val .str)], bx := [], pins := [] }
noncomputable def outvFnExactProgRead : Outs := [(.ret, { n := 1, regs := [.one (.val .bool)], bx := [], pins := [] })]
noncomputable def HvFnExactProgRead : Hints := [(4, [(1, { con := 1 })]),
  (5, [(2, { con := 2 })]),
  (8, [(2, { con := 3, sg := [(0, 1051265)] })]),
  (10, [(2, { con := 4 })]),
  (15, [(1, { con := 1 })]),
  (16, [(2, { con := 2 })]),
  (19, [(2, { con := 4 })])]
noncomputable def EvFnExactProgRead (N : Nat) : Env := { te := TE, cs := [consProgRead N, coniProgRead N, conveqOpS N, convmarkOpS N, convheldOpS N] }
noncomputable def jvFnExactProgRead_7 : Outs := [(.normal, { n := 66, regs := [.one (.val .str), u, u, .one (.lit (.row 1038465)), .one (.val .bool), .one (.lit (.row 1051265))], bx := [(1038465, .row (.pair (.int .i64) (.pair (.int .i64) (.pair (.int .i64) (.pair (.int .i64) (.pair (.int .i64) (.pair (.int .i64) (.pair (.pair (.int .i64) (.pair (.int .i64) .unit)) .unit)))))))), (1051265, .row (.pair (.int .i64) (.pair (.int .i64) (.pair (.int .i64) (.pair (.int .i64) (.pair (.int .i64) (.pair (.int .i64) (.pair (.pair (.int .i64) (.pair (.int .i64) .unit)) .unit))))))))], pins := [] }), (.ret, { n := 66, regs := [u, u, .one (.val .bool)], bx := [], pins := [] })]
noncomputable def jvFnExactProgRead_18 : Outs := [(.normal, { n := 66, regs := [u, u, u, u, u, .one (.lit (.row 1051265)), u, .one (.val (.int .i64))], bx := [(1051265, .row (.pair (.int .i64) (.pair (.int .i64) (.pair (.int .i64) (.pair (.int .i64) (.pair (.int .i64) (.pair (.int .i64) (.pair (.pair (.int .i64) (.pair (.int .i64) .unit)) .unit))))))))], pins := [] }), (.ret, { n := 66, regs := [u, u, .one (.val .bool)], bx := [], pins := [] })]
noncomputable def FvFnExactProgRead (N : Nat) (x : (ByteArray × Unit)) : Option (Bool × Unit) :=
  let y1 := decide ((x.1.size : Int) > (1048576 : Int))
  bif y1 then
   some (true, ())
  else
  (FsProgRead N (x.1, ())).bind fun r2 =>
  (FiProgRead N (x.1, ())).bind fun r3 =>
  Option.bind (
   (FveqOpS N (r3.2.1, r2.2.1, ())).bind fun r4 =>
   bif !r4.1 then
    some (.inr ((false, ())))
   else
   bif !(r3.1 == r2.1) then
    some (.inr ((false, ())))
   else
   some (.inl (x.1, r2.1, r2.2.1, r3.2.1, ()))) fun o5 =>
  Sum.elim (fun o6 =>
   (FvmarkOpS N ((1 : Int), o6.2.2.2.1, ())).bind fun r7 =>
   (FvheldOpS N (r7.2.1, (1 : Int), ())).bind fun r8 =>
   bif decide (r8.1 < (0 : Int)) then
    some (false, ())
   else
   bif r8.1 != r7.1 then
    some (false, ())
   else
   (FiProgRead N (o6.1, ())).bind fun r9 =>
   Option.bind (
    (FveqOpS N (r9.2.1, o6.2.2.1, ())).bind fun r10 =>
    bif !r10.1 then
     some (.inr ((false, ())))
    else
    bif !(r9.1 == o6.2.1) then
     some (.inr ((false, ())))
    else
    some (.inl (r7.1, r7.2.1, ()))) fun o11 =>
   Sum.elim (fun o12 =>
    (FvheldOpS N (o12.2.1, (1 : Int), ())).bind fun r13 =>
    bif decide (r13.1 < (0 : Int)) then
     some (false, ())
    else
    bif r13.1 != o12.1 then
     some (false, ())
    else
    some (true, ())) (fun o14 =>
    some (o14.1, ())) o11) (fun o15 =>
   some (o15.1, ())) o5
noncomputable def convFnExactProgRead (N : Nat) : Con := { f := 6, din := dinvFnExactProgRead, outs := outvFnExactProgRead, F := FvFnExactProgRead N }
noncomputable def XvFnExactProgRead (N : Nat) : Ctx := { E := EvFnExactProgRead N, H := HvFnExactProgRead, lp := [], jn := [(7, jvFnExactProgRead_7), (18, jvFnExactProgRead_18)] }
theorem FvFnExactProgRead_eq (N : Nat) (x : (ByteArray × Unit)) : evFn (XvFnExactProgRead N) Tryd.f6 dinvFnExactProgRead outvFnExactProgRead x = FvFnExactProgRead N x := by kernel_rfl
theorem cxvFnExactProgRead (N : Nat) : CtxOk Tryd.prog (XvFnExactProgRead N) := ⟨⟨TE_ok, List.forall_mem_cons.2 ⟨(specsProgRead N), List.forall_mem_cons.2 ⟨(speciProgRead N), List.forall_mem_cons.2 ⟨(specveqOpS N), List.forall_mem_cons.2 ⟨(specvmarkOpS N), List.forall_mem_cons.2 ⟨(specvheldOpS N), fun k hk => absurd hk List.not_mem_nil⟩⟩⟩⟩⟩⟩, mixed⟩
theorem specvFnExactProgRead (N : Nat) : Spec Tryd.prog (convFnExactProgRead N) :=
  Spec.of_eq (fn_spec (cxvFnExactProgRead N) (f := 6) (fn := Tryd.f6) (c := codeOf Tryd.f6) (by kernel_rfl) (by kernel_rfl) (by kernel_rfl) (loops_at (ids := []) (by kernel_rfl) (trivial)) (by kernel_rfl)) (fun x r h => (FvFnExactProgRead_eq N x).trans h)

end Go.Fl
set_option linter.all false
set_option maxRecDepth 10000
namespace Go.Fl
open Go

/-- A law's inputs are at most so large. -/
abbrev sm (n : Nat) : Prop := n ≤ 1048576

abbrev Nd := List Int × List Int × Unit

abbrev Gr := List Nd × List (List Int) × List Int × Unit

def smN (x : Nd) : Prop := sm x.1.length ∧ sm x.2.1.length

def smG (g : Gr) : Prop := sm g.1.length ∧ (∀ x ∈ g.1, smN x) ∧ sm g.2.1.length ∧ (∀ x ∈ g.2.1, sm x.length) ∧ sm g.2.2.1.length

abbrev ml (n : Nat) : Prop := n ≤ 9223372036854775807

def mlN (x : Nd) : Prop := ml x.1.length ∧ ml x.2.1.length

def mlG (g : Gr) : Prop := ml g.1.length ∧ (∀ x ∈ g.1, mlN x) ∧ ml g.2.1.length ∧ (∀ x ∈ g.2.1, ml x.length) ∧ ml g.2.2.1.length

/-- A loop that tells what is left, or stops. -/
theorem size_loop {α : Type} {xs : List α} (P : α → Prop) {L : Nat → Nat → Int → Option ((Int × Unit) ⊕ (Int × Unit))} (hl : xs.length ≤ lim)
    (h1 : ∀ n i (h : i < xs.length) (left : Int), 0 ≤ left → left ≤ 1048576 → w64 ((i : Int) + 1) = ((i + 1 : Nat) : Int) →
      L (n + 1) i left = some (.inr (-1, ())) ∨ ∃ r, 0 ≤ r ∧ r ≤ left ∧ P xs[i] ∧ L (n + 1) i left = L n (i + 1) r)
    (h3 : ∀ n left, L (n + 1) xs.length left = some (.inl (left, ()))) {n : Nat} (hn : xs.length < n) {left : Int} (h0 : 0 ≤ left) (h1' : left ≤ 1048576) :
    L n 0 left = some (.inr (-1, ())) ∨ ∃ r, 0 ≤ r ∧ r ≤ left ∧ (∀ x ∈ xs, P x) ∧ L n 0 left = some (.inl (r, ())) := by
  have key : ∀ n i left, 0 ≤ left → left ≤ 1048576 → i ≤ xs.length → xs.length - i < n → L n i left = some (.inr (-1, ())) ∨ ∃ r, 0 ≤ r ∧ r ≤ left ∧ (∀ x ∈ xs.drop i, P x) ∧ L n i left = some (.inl (r, ())) := by
    intro n
    induction n with
    | zero => intro i left _ _ _ h; exact absurd h (Nat.not_lt_zero _)
    | succ n ih =>
      intro i left h0 h2 hi hn
      by_cases h : i < xs.length
      · rcases h1 n i h left h0 h2 (w64_succ (by have : lim = 2147483648 := rfl; omega)) with h4 | ⟨r, h4, h5, h6, h7⟩
        · exact .inl h4
        · rw [h7]
          rcases ih (i + 1) r h4 (by omega) (by omega) (by omega) with h8 | ⟨q, h8, h9, h10, h11⟩
          · exact .inl h8
          · refine .inr ⟨q, h8, by omega, ?_, h11⟩
            rw [drop_at h]
            exact List.forall_mem_cons.2 ⟨h6, h10⟩
      · have : i = xs.length := by omega
        subst this
        exact .inr ⟨left, h0, Int.le_refl _, by simp, h3 _ _⟩
  simpa using key n 0 left h0 h1' (by omega) (by omega)

theorem sm_lim {n : Nat} (h : sm n) : n ≤ lim := by simp only [sm] at h; rw [lim_eq]; omega


def okSh (r n : Int) : Bool := decide (0 ≤ r) && decide (r ≤ 4) && decide (0 ≤ n) && decide (n ≤ 4)
def okOp (o : OpD) : Bool := decide (1 ≤ o.1) && decide (o.1 ≤ 11) && (decide (o.1 ≠ 1) || okSh o.2.2.2.2.2.2.1.1 o.2.2.2.2.2.2.1.2.1)
section
variable {N : Nat}
theorem ShapeOk_gen {F : Int × Int × Unit → Option (Bool × Unit)} (hF : F = fun x => bif decide (x.1 ≥ 0) then bif decide (x.1 ≤ 4) then bif decide (x.2.1 ≥ 0) then some (decide (x.2.1 ≤ 4), ()) else some (false, ()) else some (false, ()) else some (false, ())) (r n : Int) : F (r, n, ()) = some (okSh r n, ()) := by
  subst hF
  unfold okSh
  by_cases h1 : 0 ≤ r
  · have : r ≥ 0 := h1
    by_cases h2 : r ≤ 4
    · by_cases h3 : 0 ≤ n
      · have h3' : n ≥ 0 := h3
        simp only [this, h1, h2, h3, h3', decide_true, cond_true, Bool.true_and]
      · have h3' : ¬ n ≥ 0 := h3
        simp only [this, h1, h2, h3, h3', decide_true, decide_false, cond_true, cond_false, Bool.true_and, Bool.false_and]
    · simp only [this, h1, h2, decide_true, decide_false, cond_true, cond_false, Bool.true_and, Bool.false_and]
  · have : ¬ r ≥ 0 := h1
    simp only [this, h1, decide_false, cond_false, Bool.false_and]
theorem sShape_ok2 (r n : Int) : FsShapeOk N ((r, n, ()), ()) = some (okSh r n, ()) := ShapeOk_gen (F := fun x => FsShapeOk N (x, ())) rfl r n
theorem iShape_ok2 (r n : Int) : FiShapeOk N ((r, n, ()), ()) = some (okSh r n, ()) := ShapeOk_gen (F := fun x => FiShapeOk N (x, ())) rfl r n
theorem OpOk_gen {F : OpD → Option (Bool × Unit)} {G : Int × Int × Unit → Option (Bool × Unit)} (hG : ∀ r n, G (r, n, ()) = some (okSh r n, ())) (hF : F = fun x => bif decide (x.1 ≥ 1) then bif decide (x.1 ≤ 11) then bif x.1 != 1 then some (true, ()) else (G x.2.2.2.2.2.2.1).bind fun r1 => some (r1.1, ()) else some (false, ()) else some (false, ())) (o : OpD) : F o = some (okOp o, ()) := by
  subst hF
  obtain ⟨a0, a1, a2, a3, a4, a5, ⟨a6, a7, ⟨⟩⟩, ⟨⟩⟩ := o
  unfold okOp
  have hg := hG a6 a7
  by_cases h1 : 1 ≤ a0
  · have : a0 ≥ 1 := h1
    by_cases h2 : a0 ≤ 11
    · by_cases h3 : a0 = 1
      · have hb : (a0 != 1) = false := by simp [h3]
        simp only [this, h1, h2, hb, h3, hg, decide_true, cond_true, cond_false, Bool.true_and, Option.bind_some, ne_eq, not_true_eq_false, decide_false, Bool.false_or, Int.reduceLE]
        rfl
      · have hb : (a0 != 1) = true := by simp [h3]
        simp only [this, h1, h2, hb, h3, decide_true, cond_true, Bool.true_and, ne_eq, not_false_eq_true, Bool.true_or]
    · simp only [this, h1, h2, decide_true, decide_false, cond_true, cond_false, Bool.true_and, Bool.false_and]
  · have : ¬ a0 ≥ 1 := h1
    simp only [this, h1, decide_false, cond_false, Bool.false_and]
theorem sOpOk_ok2 (o : OpD) : FsOpOk N (o, ()) = some (okOp o, ()) := OpOk_gen (F := fun x => FsOpOk N (x, ())) (G := fun x => FsShapeOk N (x, ())) sShape_ok2 rfl o
theorem iOpOk_ok2 (o : OpD) : FiOpOk N (o, ()) = some (okOp o, ()) := OpOk_gen (F := fun x => FiOpOk N (x, ())) (G := fun x => FiShapeOk N (x, ())) iShape_ok2 rfl o
theorem qShape_ok2 (r n : Int) : FqShapeOk N ((r, n, ()), ()) = some (okSh r n, ()) := ShapeOk_gen (F := fun x => FqShapeOk N (x, ())) rfl r n
theorem qOpOk_ok2 (o : OpD) : FqOpOk N (o, ()) = some (okOp o, ()) := OpOk_gen (F := fun x => FqOpOk N (x, ())) (G := fun x => FqShapeOk N (x, ())) qShape_ok2 rfl o
end

/-- A string's bytes, and back. -/
def bl (s : ByteArray) : List UInt8 := s.data.toList
def lb (l : List UInt8) : ByteArray := ⟨l.toArray⟩
theorem bl_lb (l : List UInt8) : bl (lb l) = l := rfl
theorem lb_bl (s : ByteArray) : lb (bl s) = s := by cases s; simp [lb, bl]
theorem bl_inj {a b : ByteArray} (h : bl a = bl b) : a = b := by rw [← lb_bl a, ← lb_bl b, h]
theorem bl_len (s : ByteArray) : (bl s).length = s.size := Array.length_toList
theorem lb_size (l : List UInt8) : (lb l).size = l.length := List.size_toArray
theorem bl_toList (s : ByteArray) : s.toList = bl s := ByteArray.toList_eq s
theorem bl_append (a b : ByteArray) : bl (a ++ b) = bl a ++ bl b := by simp [bl]
theorem lb_append (a b : List UInt8) : lb a ++ lb b = lb (a ++ b) := bl_inj (by rw [bl_append]; rfl)
theorem bl_getD (s : ByteArray) (i : Nat) : s.data.getD i 0 = (bl s).getD i 0 := by simp [bl, Array.getD_eq_getD_getElem?, List.getD_eq_getElem?_getD]
theorem bl_extract (s : ByteArray) (i j : Nat) : bl (s.extract i j) = ((bl s).drop i).take (j - i) := by
  simp [bl, ByteArray.data_extract, Array.toList_extract, List.extract_eq_take_drop]
theorem ba_beq {a b : ByteArray} : (a.toList == b.toList) = decide (bl a = bl b) := by
  rw [bl_toList, bl_toList]
  by_cases h : bl a = bl b
  · simp [h]
  · rw [beq_eq_false_iff_ne.2 h]; simp [h]
theorem lb_nil : lb [] = ByteArray.empty := rfl

/-- Cut at a byte. -/
def spl (c : UInt8) : List UInt8 → List (List UInt8)
  | [] => [[]]
  | b :: l => if b = c then [] :: spl c l else (b :: (spl c l).headD []) :: (spl c l).tail
theorem spl_ne (c : UInt8) (l : List UInt8) : spl c l ≠ [] := by
  cases l with
  | nil => simp [spl]
  | cons b l => unfold spl; split <;> simp
theorem spl_cons (c : UInt8) (l : List UInt8) : spl c l = (spl c l).headD [] :: (spl c l).tail := by
  cases h : spl c l with
  | nil => exact absurd h (spl_ne c l)
  | cons x r => rfl
theorem spl_word {c : UInt8} : ∀ {x : List UInt8}, c ∉ x → spl c x = [x]
  | [], _ => rfl
  | b :: x, h => by
    have h1 : b ≠ c := fun e => h (by simp [e])
    have h2 : c ∉ x := fun e => h (by simp [e])
    unfold spl
    rw [if_neg h1, spl_word h2]
    rfl
theorem spl_sep {c : UInt8} : ∀ {x : List UInt8} (l : List UInt8), c ∉ x → spl c (x ++ c :: l) = x :: spl c l
  | [], l, _ => by simp [spl]
  | b :: x, l, h => by
    have h1 : b ≠ c := fun e => h (by simp [e])
    have h2 : c ∉ x := fun e => h (by simp [e])
    rw [List.cons_append, spl, if_neg h1, spl_sep l h2]
    rfl
theorem spl_free {c : UInt8} : ∀ (l : List UInt8), ∀ x ∈ spl c l, c ∉ x
  | [], x, h => by simp [spl] at h; simp [h]
  | b :: l, x, h => by
    have ih := spl_free (c := c) l
    unfold spl at h
    split at h
    · rcases List.mem_cons.1 h with rfl | h
      · simp
      · exact ih x h
    · rename_i hb
      rw [spl_cons] at ih
      rcases List.mem_cons.1 h with rfl | h
      · intro hc
        rcases List.mem_cons.1 hc with e | e
        · exact hb e.symm
        · exact ih _ List.mem_cons_self e
      · exact ih x (List.mem_cons_of_mem _ h)
theorem mem_split (c : UInt8) : ∀ l : List UInt8, c ∈ l → ∃ a b, l = a ++ c :: b ∧ c ∉ a
  | [], h => by simp at h
  | x :: l, h => by
    by_cases hx : x = c
    · exact ⟨[], l, by simp [hx], by simp⟩
    · obtain ⟨a, b, e, ha⟩ := mem_split c l ((List.mem_cons.1 h).resolve_left (Ne.symm hx))
      exact ⟨x :: a, b, by rw [e]; rfl, by simp [ha, Ne.symm hx]⟩
theorem spl_split (c : UInt8) (l : List UInt8) : (c ∉ l ∧ spl c l = [l]) ∨ ∃ a b, l = a ++ c :: b ∧ c ∉ a ∧ spl c l = a :: spl c b := by
  by_cases h : c ∈ l
  · obtain ⟨a, b, e, ha⟩ := mem_split c l h
    exact .inr ⟨a, b, e, ha, by rw [e, spl_sep b ha]⟩
  · exact .inl ⟨h, spl_word h⟩

theorem spl_len (c : UInt8) : ∀ l : List UInt8, (spl c l).length ≤ l.length + 1
  | [] => by simp [spl]
  | b :: l => by
    have := spl_len c l
    unfold spl
    split
    · simp; omega
    · simp
      have h := spl_cons c l
      rw [h] at this
      simp at this; omega
theorem spl_each (c : UInt8) : ∀ l : List UInt8, ∀ x ∈ spl c l, x.length ≤ l.length
  | [], x, h => by simp [spl] at h; simp [h]
  | b :: l, x, h => by
    have ih := spl_each c l
    unfold spl at h
    split at h
    · rcases List.mem_cons.1 h with rfl | h
      · simp
      · have := ih x h; simp; omega
    · rw [spl_cons] at ih
      rcases List.mem_cons.1 h with rfl | h
      · have := ih _ List.mem_cons_self; simp; simpa using this
      · have := ih x (List.mem_cons_of_mem _ h); simp; omega
theorem join_cons2 (c : UInt8) (x y : List UInt8) (r : List (List UInt8)) : Lib.join (x :: y :: r) [c] = x ++ c :: Lib.join (y :: r) [c] := by
  rw [Lib.join_cons, Lib.join_cons]
  simp [Lib.joinTail]
theorem spl_join {c : UInt8} : ∀ {xs : List (List UInt8)}, xs ≠ [] → (∀ x ∈ xs, c ∉ x) → spl c (Lib.join xs [c]) = xs
  | [], h, _ => absurd rfl h
  | [x], _, h => by rw [Lib.join_one, spl_word (h x (by simp))]
  | x :: y :: r, _, h => by rw [join_cons2, spl_sep _ (h x (by simp)), spl_join (by simp) fun z hz => h z (List.mem_cons_of_mem _ hz)]
theorem join_spl (c : UInt8) : ∀ l : List UInt8, Lib.join (spl c l) [c] = l
  | [] => by simp [spl, Lib.join_one]
  | b :: l => by
    have ih := join_spl c l
    unfold spl
    rw [spl_cons] at ih ⊢
    split
    · rename_i h; rw [join_cons2, ih, h]; rfl
    · simp only [List.headD_cons, List.tail_cons]
      cases ht : (spl c l).tail with
      | nil => rw [ht, Lib.join_one] at ih; rw [Lib.join_one, ih]
      | cons y r => rw [ht, join_cons2] at ih; rw [join_cons2]; exact congrArg (List.cons b) ih

theorem splitK_spl (c : UInt8) : ∀ s : List UInt8, Lib.splitK [c] 0 (s.count c) s = spl c s
  | [] => rfl
  | b :: l => by
    have ih := splitK_spl c l
    by_cases hb : b = c
    · subst hb
      have hix : Lib.index (b :: l) [b] = 0 := by rw [Lib.index]; simp [List.isPrefixOf]
      rw [List.count_cons_self, Lib.splitK, hix, spl, if_pos rfl, if_neg (by decide)]
      simpa using ih
    · have hp : ([c] : List UInt8).isPrefixOf (b :: l) = false := by simp [List.isPrefixOf, Ne.symm hb]
      have hix : Lib.index (b :: l) [c] = if Lib.index l [c] == -1 then -1 else Lib.index l [c] + 1 := by rw [Lib.index, hp]; simp
      rw [List.count_cons_of_ne (by simpa using hb), spl, if_neg hb]
      rw [spl_cons] at ih
      cases hk : l.count c with
      | zero =>
        rw [hk, Lib.splitK] at ih
        obtain ⟨e1, e2⟩ := List.cons.inj ih
        rw [Lib.splitK, ← e1, ← e2]
      | succ k =>
        rw [hk, Lib.splitK] at ih
        rw [Lib.splitK, hix]
        by_cases hm : Lib.index l [c] = -1
        · rw [hm] at ih ⊢
          simp only [beq_self_eq_true, if_true] at ih ⊢
          obtain ⟨e1, e2⟩ := List.cons.inj ih
          rw [← e1, ← e2]
        · have hge := Lib.index_ge l [c]
          obtain ⟨j, hj⟩ : ∃ j : Nat, Lib.index l [c] = j := ⟨(Lib.index l [c]).toNat, by omega⟩
          have n1 : ¬ ((Lib.index l [c] == -1) = true) := fun e => hm (beq_iff_eq.1 e)
          have n2 : ¬ ((Lib.index l [c] + 1 == -1) = true) := fun e => by have := beq_iff_eq.1 e; omega
          rw [if_neg n1] at ih
          rw [if_neg n1, if_neg n2]
          obtain ⟨e1, e2⟩ := List.cons.inj ih
          rw [← e1, ← e2, hj]
          have t : ((j : Int) + 1).toNat = j + 1 := by omega
          rw [t]
          simp

theorem splitB_spl (c : UInt8) (s : ByteArray) : Lib.splitB ⟨#[c]⟩ 0 (Lib.countB s ⟨#[c]⟩) s = (spl c (bl s)).map lb := by
  have h := Lib.splitB_data ⟨#[c]⟩ 0 (Lib.countB s ⟨#[c]⟩) s
  have hc : Lib.countB s ⟨#[c]⟩ = (bl s).count c := by
    unfold Lib.countB
    exact Lib.count_one c _
  have e : ((⟨#[c]⟩ : ByteArray)).data.toList = [c] := rfl
  rw [e] at h
  have h2 := h.trans (show _ = spl c (bl s) by rw [hc]; exact splitK_spl c (bl s))
  rw [← h2, List.map_map]
  have : (lb ∘ fun x : ByteArray => x.data.toList) = id := by funext x; exact lb_bl x
  rw [this, List.map_id]

/-! digits -/
def isDig (c : UInt8) : Bool := decide (48 ≤ c.toNat) && decide (c.toNat ≤ 57)
def valF (a : Nat) (c : UInt8) : Nat := 10 * a + (c.toNat - 48)
def valD (d : List UInt8) : Nat := d.foldl valF 0
theorem isDig_of {k : Nat} (h : k < 10) : (UInt8.ofNat (48 + k)).toNat = 48 + k := by
  simp only [UInt8.toNat_ofNat']; omega
theorem dec_dig (u : Nat) : ∀ c ∈ Lib.decDigits u, isDig c = true := by
  induction u using Nat.strongRecOn with
  | _ u ih =>
    intro c hc
    rw [Lib.decDigits] at hc
    split at hc
    · rename_i h
      have : c = UInt8.ofNat (48 + u) := by simpa using hc
      subst this
      simp only [isDig, isDig_of h, Bool.and_eq_true, decide_eq_true_eq]; omega
    · rename_i h
      rcases List.mem_append.1 hc with hc | hc
      · exact ih (u / 10) (by omega) c hc
      · have : c = UInt8.ofNat (48 + u % 10) := by simpa using hc
        subst this
        simp only [isDig, isDig_of (Nat.mod_lt u (by omega) : u % 10 < 10), Bool.and_eq_true, decide_eq_true_eq]; omega
theorem dec_ne (u : Nat) : Lib.decDigits u ≠ [] := by
  rw [Lib.decDigits]; split <;> simp
theorem dec_val (u : Nat) : valD (Lib.decDigits u) = u := by
  induction u using Nat.strongRecOn with
  | _ u ih =>
    rw [Lib.decDigits]
    split
    · rename_i h
      simp only [valD, List.foldl_cons, List.foldl_nil, valF, isDig_of h]; omega
    · rename_i h
      have := ih (u / 10) (by omega)
      unfold valD at this
      simp only [valD, List.foldl_append, List.foldl_cons, List.foldl_nil, this, valF, isDig_of (Nat.mod_lt u (by omega) : u % 10 < 10)]
      omega
theorem dec_head (u : Nat) (h : (Lib.decDigits u).head? = some 48) : u = 0 := by
  induction u using Nat.strongRecOn with
  | _ u ih =>
    rw [Lib.decDigits] at h
    split at h
    · rename_i hu
      simp only [List.head?_cons, Option.some.injEq] at h
      have := congrArg UInt8.toNat h
      rw [isDig_of hu] at this
      have e : (48 : UInt8).toNat = 48 := rfl
      omega
    · rename_i hu
      have hne := dec_ne (u / 10)
      have ih' := ih (u / 10) (by omega)
      cases hd : Lib.decDigits (u / 10) with
      | nil => exact absurd hd hne
      | cons x r =>
        rw [hd] at h ih'
        have := ih' (by simpa using h)
        omega
theorem valF_pos (d : List UInt8) : ∀ a, 1 ≤ a → 1 ≤ d.foldl valF a := by
  induction d with
  | nil => intro a h; exact h
  | cons c d ih => intro a h; exact ih _ (by unfold valF; omega)
theorem val_pos {c : UInt8} {d : List UInt8} (h : isDig c = true) (h0 : c ≠ 48) : 1 ≤ valD (c :: d) := by
  unfold valD
  rw [List.foldl_cons]
  apply valF_pos
  simp only [isDig, Bool.and_eq_true, decide_eq_true_eq] at h
  have : c.toNat ≠ 48 := fun e => h0 (UInt8.toNat_inj.1 e)
  unfold valF; omega
theorem ofNat_dig {c : UInt8} (h : isDig c = true) : UInt8.ofNat (48 + (c.toNat - 48)) = c := by
  simp only [isDig, Bool.and_eq_true, decide_eq_true_eq] at h
  apply UInt8.toNat_inj.1
  rw [isDig_of (by omega)]; omega
theorem val_dec : ∀ (n : Nat) (d : List UInt8), d.length = n → (∀ c ∈ d, isDig c = true) → d ≠ [] → (d.head? = some 48 → d = [48]) → Lib.decDigits (valD d) = d
  | 0, d, hn, _, hd, _ => absurd (List.length_eq_zero_iff.1 hn) hd
  | n + 1, d, hn, hc, hd, h0 => by
    have ed := (List.dropLast_concat_getLast hd).symm
    generalize hp : d.dropLast = p at ed
    generalize hl : d.getLast hd = c at ed
    have hcc : isDig c = true := hc c (by rw [ed]; simp)
    have hv : valD d = 10 * valD p + (c.toNat - 48) := by rw [ed]; simp [valD, valF]
    have hc9 : c.toNat - 48 < 10 := by simp only [isDig, Bool.and_eq_true, decide_eq_true_eq] at hcc; omega
    cases p with
    | nil =>
      have h1 : valD d = c.toNat - 48 := by rw [hv]; simp [valD]
      rw [Lib.decDigits, dif_pos (by omega), h1, ofNat_dig hcc, ed]; rfl
    | cons x p =>
      have hx : isDig x = true := hc x (by rw [ed]; simp)
      have hx0 : x ≠ 48 := fun e => by
        have := h0 (by rw [ed, e]; rfl)
        rw [ed] at this
        have := congrArg List.length this
        simp at this
      have hpos := val_pos (d := p) hx hx0
      have ih := val_dec n (x :: p) (by rw [ed] at hn; simpa using hn) (fun z hz => hc z (by rw [ed]; exact List.mem_append_left _ hz)) (by simp) (fun e => by simp at e; exact absurd e hx0)
      rw [Lib.decDigits, dif_neg (by omega), hv]
      have q1 : (10 * valD (x :: p) + (c.toNat - 48)) / 10 = valD (x :: p) := by omega
      have q2 : (10 * valD (x :: p) + (c.toNat - 48)) % 10 = c.toNat - 48 := by omega
      rw [q1, q2, ih, ofNat_dig hcc, ed]
theorem valF_lt (d : List UInt8) : ∀ a, (∀ c ∈ d, isDig c = true) → d.foldl valF a < (a + 1) * 10 ^ d.length := by
  induction d with
  | nil => intro a _; simp
  | cons c d ih =>
    intro a h
    have hc := h c (by simp)
    simp only [isDig, Bool.and_eq_true, decide_eq_true_eq] at hc
    have := ih (valF a c) (fun x hx => h x (List.mem_cons_of_mem _ hx))
    rw [List.foldl_cons, List.length_cons, Nat.pow_succ]
    refine Nat.lt_of_lt_of_le this ?_
    have e : (a + 1) * (10 ^ d.length * 10) = ((a + 1) * 10) * 10 ^ d.length := by rw [Nat.mul_comm (10 ^ d.length) 10, Nat.mul_assoc]
    rw [e]
    exact Nat.mul_le_mul_right _ (by unfold valF; omega)
theorem val_lt {d : List UInt8} (h : ∀ c ∈ d, isDig c = true) (hl : d.length ≤ 9) : valD d < 1000000000 := by
  have := valF_lt d 0 h
  have e : 10 ^ d.length ≤ 10 ^ 9 := Nat.pow_le_pow_right (by omega) hl
  unfold valD
  have : (10 : Nat) ^ 9 = 1000000000 := by decide
  omega
theorem parse_val (d : List UInt8) : ∀ a, (∀ c ∈ d, isDig c = true) → (a + 1) * 10 ^ d.length ≤ 1000000000000000 → Lib.parseUint10 a d = .ok (d.foldl valF a) := by
  induction d with
  | nil => intro a _ _; rfl
  | cons c d ih =>
    intro a h hb
    have hc := h c (by simp)
    simp only [isDig, Bool.and_eq_true, decide_eq_true_eq] at hc
    rw [List.length_cons, Nat.pow_succ] at hb
    have e : (a + 1) * (10 ^ d.length * 10) = ((a + 1) * 10) * 10 ^ d.length := by rw [Nat.mul_comm (10 ^ d.length) 10, Nat.mul_assoc]
    rw [e] at hb
    have hp : 1 ≤ 10 ^ d.length := Nat.one_le_pow _ _ (by omega)
    have ha : (a + 1) * 10 ≤ 1000000000000000 := Nat.le_trans (Nat.le_mul_of_pos_right _ hp) hb
    rw [Lib.parseUint10, if_pos hc, if_neg (by omega), if_neg (by omega), List.foldl_cons]
    have e2 : a * 10 + (c.toNat - 48) = valF a c := by unfold valF; omega
    rw [e2]
    refine ih _ (fun x hx => h x (List.mem_cons_of_mem _ hx)) (Nat.le_trans ?_ hb)
    exact Nat.mul_le_mul_right _ (by unfold valF; omega)

/-- A number of at most nine digits, as it is written. -/
def numOk (s d : List UInt8) : Bool := !d.isEmpty && decide (d.length ≤ 9) && !(d.head? == some 48 && s != [48]) && d.all isDig
def numL (s : List UInt8) : Option Int :=
  if s.head? = some 45 then (if numOk s s.tail then some (-(valD s.tail : Int)) else none) else (if numOk s s then some (valD s : Int) else none)
theorem numOk_iff {s d : List UInt8} : numOk s d = true ↔ d ≠ [] ∧ d.length ≤ 9 ∧ (d.head? = some 48 → s = [48]) ∧ ∀ c ∈ d, isDig c = true := by
  unfold numOk
  simp only [Bool.and_eq_true, Bool.not_eq_true', List.isEmpty_eq_false_iff, decide_eq_true_eq, Bool.and_eq_false_iff, beq_eq_false_iff_ne, bne_eq_false_iff_eq, List.all_eq_true, ne_eq, and_assoc]
  constructor
  · rintro ⟨h1, h2, h3, h4⟩
    exact ⟨h1, h2, fun e => h3.elim (fun h => absurd e h) id, h4⟩
  · rintro ⟨h1, h2, h3, h4⟩
    exact ⟨h1, h2, (Decidable.em (d.head? = some 48)).elim (fun h => .inr (h3 h)) .inl, h4⟩
theorem dig_45 : isDig 45 = false := by decide
theorem dig_43 : isDig 43 = false := by decide
theorem trim_neg (d : List UInt8) : Lib.trimPrefix (45 :: d) [45] = d := by simp [Lib.trimPrefix, Lib.hasPrefix]
theorem trim_pos {s : List UInt8} (h : s.head? ≠ some 45) : Lib.trimPrefix s [45] = s := by
  cases s with
  | nil => simp [Lib.trimPrefix, Lib.hasPrefix]
  | cons c r =>
    have : c ≠ 45 := fun e => h (by simp [e])
    simp [Lib.trimPrefix, Lib.hasPrefix, List.isPrefixOf, Ne.symm this]
theorem itoa_neg {n : Nat} (h : 1 ≤ n) : Lib.itoa (-(n : Int)) = 45 :: Lib.decDigits n := by
  unfold Lib.itoa
  rw [if_pos (by omega)]
  congr 2; omega
theorem itoa_pos (n : Nat) : Lib.itoa (n : Int) = Lib.decDigits n := by
  unfold Lib.itoa
  rw [if_neg (by omega)]
  congr 1
theorem parseMag_val {d : List UInt8} (h : ∀ c ∈ d, isDig c = true) (hn : d ≠ []) (hl : d.length ≤ 9) : Lib.parseMag d = .ok (valD d) := by
  unfold Lib.parseMag
  rw [if_neg hn]
  refine parse_val d 0 h ?_
  have e : 10 ^ d.length ≤ 10 ^ 9 := Nat.pow_le_pow_right (by omega) hl
  have : (10 : Nat) ^ 9 = 1000000000 := by decide
  omega

/-- What is read as such a number: atoi, and written again the same. -/
theorem num_atoi (s : List UInt8) : (match Lib.atoiAll s with
  | .ok v => if Lib.itoa v = s ∧ (Lib.trimPrefix s [45]).length ≤ 9 then (v, true) else (0, false)
  | _ => ((0 : Int), false)) = ((numL s).getD 0, (numL s).isSome) := by
  unfold numL
  by_cases hneg : s.head? = some 45
  · rw [if_pos hneg]
    obtain ⟨d, rfl⟩ : ∃ d, s = 45 :: d := by
      cases s with
      | nil => simp at hneg
      | cons c d => simp at hneg; exact ⟨d, by rw [hneg]⟩
    rw [List.tail_cons]
    by_cases hok : numOk (45 :: d) d = true
    · rw [if_pos hok]
      obtain ⟨h1, h2, h3, h4⟩ := numOk_iff.1 hok
      have hd0 : d.head? ≠ some 48 := fun e => by have := h3 e; simp at this
      have hpos : 1 ≤ valD d := by
        cases d with
        | nil => exact absurd rfl h1
        | cons c r => exact val_pos (h4 c (by simp)) (fun e => hd0 (by simp [e]))
      have ha : Lib.atoiAll (45 :: d) = .ok (-(valD d : Int)) := by
        have h9 := val_lt h4 h2
        unfold Lib.atoiAll
        have e45 : (45 : UInt8).toNat = 45 := rfl
        simp only [e45, or_true, if_true, parseMag_val h4 h1 h2, not_true_eq_false, false_and, if_false, true_and]
        rw [if_neg (by omega)]
      rw [ha]
      have hd := val_dec _ d rfl h4 h1 (fun e => absurd e hd0)
      simp only [itoa_neg hpos, hd, trim_neg, h2, and_self, if_true, Option.getD_some, Option.isSome_some]
    · rw [if_neg hok]
      rcases ha : Lib.atoiAll (45 :: d) with v | _ | _
      · simp only [trim_neg]
        by_cases hc : Lib.itoa v = 45 :: d ∧ d.length ≤ 9
        · exfalso
          obtain ⟨hc1, hc2⟩ := hc
          apply hok
          unfold Lib.itoa at hc1
          split at hc1
          · rename_i hv
            have e := (List.cons.inj hc1).2
            refine numOk_iff.2 ⟨by rw [← e]; exact dec_ne _, hc2, fun h => ?_, by rw [← e]; exact dec_dig _⟩
            rw [← e] at h
            have := dec_head _ h
            omega
          · have := dec_dig v.toNat 45 (by rw [hc1]; simp)
            rw [dig_45] at this; cases this
        · rw [if_neg hc]; rfl
      · rfl
      · rfl
  · rw [if_neg hneg]
    by_cases hok : numOk s s = true
    · rw [if_pos hok]
      obtain ⟨h1, h2, h3, h4⟩ := numOk_iff.1 hok
      have ha : Lib.atoiAll s = .ok (valD s : Int) := by
        have h9 := val_lt h4 h2
        have hp := parseMag_val h4 h1 h2
        cases s with
        | nil => exact absurd rfl h1
        | cons c r =>
          have hc := h4 c (by simp)
          simp only [isDig, Bool.and_eq_true, decide_eq_true_eq] at hc
          unfold Lib.atoiAll
          have n1 : ¬ (c.toNat = 43 ∨ c.toNat = 45) := by omega
          have n2 : ¬ (c.toNat = 45) := by omega
          have n3 : ¬ (c.toNat = 43) := by omega
          simp only [n2, n3, or_self, if_false, not_false_eq_true, true_and, false_and]
          rw [hp]
          simp only []
          rw [if_neg (by omega)]
      rw [ha]
      have hd := val_dec _ s rfl h4 h1 h3
      simp only [itoa_pos, hd, trim_pos hneg, h2, and_self, if_true, Option.getD_some, Option.isSome_some]
    · rw [if_neg hok]
      rcases ha : Lib.atoiAll s with v | _ | _
      · simp only [trim_pos hneg]
        by_cases hc : Lib.itoa v = s ∧ s.length ≤ 9
        · exfalso
          obtain ⟨hc1, hc2⟩ := hc
          apply hok
          unfold Lib.itoa at hc1
          split at hc1
          · rw [← hc1] at hneg; simp at hneg
          · refine numOk_iff.2 ⟨by rw [← hc1]; exact dec_ne _, hc2, fun h => ?_, by rw [← hc1]; exact dec_dig _⟩
            have h0 : v.toNat = 0 := dec_head _ (by rw [hc1]; exact h)
            rw [← hc1, h0]
            rw [Lib.decDigits, dif_pos (by omega)]; rfl
        · rw [if_neg hc]; rfl
      · rfl
      · rfl
theorem numL_bound {s : List UInt8} {v : Int} (h : numL s = some v) : -999999999 ≤ v ∧ v ≤ 999999999 := by
  unfold numL at h
  split at h
  · split at h
    · rename_i hk
      obtain ⟨_, h2, _, h4⟩ := numOk_iff.1 hk
      have := val_lt h4 h2
      cases h; omega
    · cases h
  · split at h
    · rename_i hk
      obtain ⟨_, h2, _, h4⟩ := numOk_iff.1 hk
      have := val_lt h4 h2
      cases h; omega
    · cases h
/-- A number that is written is read. -/
theorem numL_itoa {v : Int} (h1 : -999999999 ≤ v) (h2 : v ≤ 999999999) : numL (Lib.itoa v) = some v := by
  have hlen : ∀ u : Nat, u ≤ 999999999 → (Lib.decDigits u).length ≤ 9 := by
    intro u hu
    by_cases h : (Lib.decDigits u).length ≤ 9
    · exact h
    · exfalso
      rw [Lib.decDigits_length] at h
      have hn : ∀ (k u : Nat), u < 10 ^ (k + 1) → Lib.nDigits u ≤ k + 1 := by
        intro k
        induction k with
        | zero => intro u hu; rw [Lib.nDigits_small (by simpa using hu)]; omega
        | succ k ih =>
          intro u hu
          by_cases h : u < 10
          · rw [Lib.nDigits_small h]; omega
          · rw [Lib.nDigits_big h]
            rw [Nat.pow_succ] at hu
            have := ih (u / 10) (by omega)
            omega
      have := hn 8 u (by have : (10 : Nat) ^ (8 + 1) = 1000000000 := by decide
                         omega)
      omega
  unfold Lib.itoa
  split
  · rename_i hv
    unfold numL
    rw [if_pos (show (45 :: Lib.decDigits v.natAbs).head? = some 45 from rfl), List.tail_cons, if_pos (numOk_iff.2 ⟨dec_ne _, hlen _ (by omega), fun h => by have := dec_head _ h; omega, dec_dig _⟩), dec_val]
    congr 1; omega
  · rename_i hv
    have hh : (Lib.decDigits v.toNat).head? ≠ some 45 := fun e => by
      have := dec_dig v.toNat 45 (List.mem_of_mem_head? (by rw [e]; rfl))
      rw [dig_45] at this; cases this
    unfold numL
    rw [if_neg hh, if_pos (numOk_iff.2 ⟨dec_ne _, hlen _ (by omega), fun h => by
      have := dec_head _ h
      rw [this, Lib.decDigits, dif_pos (by omega)]; rfl, dec_dig _⟩), dec_val]
    congr 1; omega
theorem itoa_ne (v : Int) : Lib.itoa v ≠ [] := by
  unfold Lib.itoa
  split
  · simp
  · exact dec_ne _
theorem itoa_mem {v : Int} {c : UInt8} (h : c ∈ Lib.itoa v) : c = 45 ∨ isDig c = true := by
  unfold Lib.itoa at h
  split at h
  · rcases List.mem_cons.1 h with h | h
    · exact .inl h
    · exact .inr (dec_dig _ c h)
  · exact .inr (dec_dig _ c h)

/-- It comes to an end, and what it comes to is so. -/
def Ret {α : Type} (o : Option α) (P : α → Prop) : Prop := ∃ r, o = some r ∧ P r

theorem Ret.pure {α : Type} {a : α} {P : α → Prop} (h : P a) : Ret (some a) P := ⟨a, rfl, h⟩
theorem Ret.bind {α β : Type} {o : Option α} {k : α → Option β} {P : β → Prop} (Q : α → Prop) (h : Ret o Q) (hk : ∀ r, Q r → Ret (k r) P) : Ret (o.bind k) P := by
  obtain ⟨r, e, hr⟩ := h
  rw [e]
  exact hk r hr
theorem Ret.bindE {α β : Type} {o : Option α} {k : α → Option β} {P : β → Prop} {r : α} (e : o = some r) (hk : Ret (k r) P) : Ret (o.bind k) P := by
  rw [e]; exact hk
theorem Ret.mono {α : Type} {o : Option α} {P Q : α → Prop} (h : Ret o P) (hm : ∀ r, P r → Q r) : Ret o Q := by
  obtain ⟨r, e, hr⟩ := h; exact ⟨r, e, hm r hr⟩
theorem Ret.bif {α : Type} {c : Bool} {a b : Option α} {P : α → Prop} (h1 : c = true → Ret a P) (h2 : c = false → Ret b P) : Ret (bif c then a else b) P := by
  cases c with
  | true => exact h1 rfl
  | false => exact h2 rfl
theorem Ret.dec {α : Type} {p : Prop} [Decidable p] {a b : Option α} {P : α → Prop} (h1 : p → Ret a P) (h2 : ¬ p → Ret b P) : Ret (_root_.cond (decide p) a b) P := by
  by_cases h : p
  · simpa [h] using h1 h
  · simpa [h] using h2 h
theorem Ret.guard {α : Type} {p : Prop} [Decidable p] {a : Option α} {P : α → Prop} (hp : p) (h : Ret a P) : Ret (_root_.cond (decide p) a none) P := by
  simpa [hp] using h
theorem Ret.guardN {α : Type} {p : Prop} [Decidable p] {a : Option α} {P : α → Prop} (hp : ¬ p) (h : Ret a P) : Ret (_root_.cond (decide p) none a) P := by
  simpa [hp] using h
theorem Ret.beq {α β : Type} [DecidableEq β] {x y : β} {a b : Option α} {P : α → Prop} (h1 : x = y → Ret a P) (h2 : ¬ x = y → Ret b P) : Ret (_root_.cond (x == y) a b) P := by
  rw [bif_beq]
  by_cases h : x = y
  · simpa [h] using h1 h
  · simpa [h] using h2 h
theorem obind_eq {α β : Type} {o : Option α} {r : α} {k : α → Option β} {z : Option β} (e : o = some r) (h : k r = z) : o.bind k = z := by
  rw [e]; exact h

theorem wrap8 {x : Int} (h1 : 0 ≤ x) (h2 : x < 256) : IntKind.wrap .u8 x = x := by
  have e1 : (2 : Int) ^ 8 = 256 := rfl
  simp only [IntKind.wrap, IntKind.signed, IntKind.bits, Bool.false_and, e1]
  simp only [Bool.false_eq_true, if_false]
  omega
theorem bstr_one (n : Nat) : bstr [((n : Nat) : Int)] = lb [UInt8.ofNat n] := by
  simp [bstr, lb]; rfl
/-- The digits of a number, none for 0. -/
def digs (n : Nat) : List UInt8 := if n = 0 then [] else Lib.decDigits n
theorem digs_div {n : Nat} (h : n ≠ 0) : digs n = digs (n / 10) ++ [UInt8.ofNat (48 + n % 10)] := by
  unfold digs
  rw [if_neg h, Lib.decDigits]
  by_cases h2 : n < 10
  · rw [dif_pos h2, if_pos (by omega), show n % 10 = n by omega]; rfl
  · rw [dif_neg h2, if_neg (by omega)]
theorem digs_len : ∀ (k n : Nat), n < 10 ^ k → (digs n).length ≤ k
  | 0, n, h => by have : n = 0 := by simpa using h
                  subst this; simp [digs]
  | k + 1, n, h => by
    by_cases h0 : n = 0
    · subst h0; simp [digs]
    · rw [digs_div h0, List.length_append]
      have := digs_len k (n / 10) (by rw [Nat.pow_succ] at h; omega)
      simp; omega
section
variable {N : Nat} (hN : lim < N)
include hN
end

/-- What is done when the sign is off. -/
noncomputable def numRest (N : Nat) (o4 : ByteArray × ByteArray × Unit) : Option (Int × Bool × Unit) :=
  Option.bind (
   let y5 := decide ((o4.2.1.size : Int) < (1 : Int))
   bif y5 then
    some (.inr (((0 : Int), false, ())))
   else
   let y6 := decide ((o4.2.1.size : Int) > (9 : Int))
   bif y6 then
    some (.inr (((0 : Int), false, ())))
   else
   bif decide (0 ≤ (0 : Int)) then
   bif decide ((0 : Int).toNat < o4.2.1.size) then
   let y7 := ((o4.2.1.data.getD (0 : Int).toNat 0).toNat : Int)
   bif y7 == (48 : Int) then
    let y8 := !(o4.1.toList == (ByteArray.mk #[48]).toList)
    bif y8 then
     some (.inr (((0 : Int), false, ())))
    else
    some (.inl (o4.1, o4.2.1, ()))
   else
   some (.inl (o4.1, o4.2.1, ()))
   else none
   else none) fun o9 =>
  Sum.elim (fun o10 =>
   (lsl9Num_0 N N (o10.1, o10.2.1, (0 : Int), (0 : Int), ())).bind fun o20 =>
   Sum.elim (fun o21 =>
    let y22 := decide ((o21.2.1.size : Int) < (o21.1.size : Int))
    bif y22 then
     some (w64 (0 - o21.2.2.1), true, ())
    else
    some (o21.2.2.1, true, ())) (fun o23 =>
    some (o23.1, o23.2.1, ())) o20) (fun o24 =>
   some (o24.1, o24.2.1, ())) o9
section
variable {N : Nat} (hN : lim < N)
include hN
theorem lsl9Num_ok {s d : ByteArray} (hd : d.size ≤ 9) : ∀ (n i : Nat) (v : Nat), i ≤ d.size → d.size - i < n → v < 10 ^ i → (∀ c ∈ (bl d).take i, isDig c = true) → v = valD ((bl d).take i) →
    lsl9Num_0 N n (s, d, (v : Int), (i : Int), ()) = if ∀ c ∈ bl d, isDig c = true then some (.inl (s, d, (valD (bl d) : Int), ())) else some (.inr (0, false, ())) := by
  intro n
  induction n with
  | zero => intro i v _ h; exact absurd h (Nat.not_lt_zero _)
  | succ n ih =>
    intro i v hi hn hv hf hval
    have hlen := bl_len d
    have hp : 10 ^ i ≤ 10 ^ 9 := Nat.pow_le_pow_right (by omega) (by omega)
    have hp9 : (10 : Nat) ^ 9 = 1000000000 := by decide
    by_cases h : i < d.size
    · have hi' : i < (bl d).length := by omega
      have hb : d.data.getD i 0 = (bl d)[i] := by rw [bl_getD, getD_lt hi']
      have hmem : (bl d)[i] ∈ bl d := List.getElem_mem hi'
      have hlt : ((bl d)[i]).toNat < 256 := UInt8.toNat_lt _
      have g1 : (i : Int) < (d.size : Int) := by omega
      by_cases hdig : isDig (bl d)[i] = true
      · have hdig' := hdig
        simp only [isDig, Bool.and_eq_true, decide_eq_true_eq] at hdig'
        have g2 : ¬ (((bl d)[i].toNat : Int) < 48) := by omega
        have g3 : ¬ (((bl d)[i].toNat : Int) > 57) := by omega
        have hw := ih (i + 1) (10 * v + ((bl d)[i].toNat - 48)) (by omega) (by omega) (by rw [Nat.pow_succ]; omega)
          (fun c hc => by
            rw [List.take_add_one, List.getElem?_eq_getElem hi'] at hc
            rcases List.mem_append.1 hc with hc | hc
            · exact hf c hc
            · simp at hc; rw [hc]; exact hdig)
          (by rw [List.take_add_one, List.getElem?_eq_getElem hi']; simp only [valD] at hval ⊢; rw [Option.toList_some, List.foldl_append, ← hval]; rfl)
        have w1 : w64 ((w64 (10 * (v : Int))) + w64 (IntKind.wrap .u8 (((bl d)[i].toNat : Int) - 48))) = ((10 * v + ((bl d)[i].toNat - 48) : Nat) : Int) := by
          rw [wrap8 (by omega) (by omega), w64_id (x := 10 * (v : Int)) (by omega) (by omega), w64_id (x := ((bl d)[i].toNat : Int) - 48) (by omega) (by omega), w64_id (by omega) (by omega)]; omega
        have w2 : w64 ((i : Int) + 1) = ((i + 1 : Nat) : Int) := w64_succ (by omega)
        simp only [lsl9Num_0, g1, decide_true, cond_true, Int.natCast_nonneg, Int.toNat_natCast, h, hb, g2, g3, decide_false, cond_false, Option.bind_some, Sum.elim_inl, w1, w2]
        exact hw
      · rw [if_neg (fun hall => hdig (hall _ hmem))]
        have hdig' : ¬ (48 ≤ ((bl d)[i]).toNat ∧ ((bl d)[i]).toNat ≤ 57) := by
          simpa [isDig] using hdig
        by_cases g2 : (((bl d)[i].toNat : Int) < 48)
        · simp only [lsl9Num_0, g1, decide_true, cond_true, Int.natCast_nonneg, Int.toNat_natCast, h, hb, g2, Option.bind_some, Sum.elim_inr]
        · have g3 : (((bl d)[i].toNat : Int) > 57) := by omega
          simp only [lsl9Num_0, g1, decide_true, cond_true, Int.natCast_nonneg, Int.toNat_natCast, h, hb, g2, g3, decide_false, cond_false, Option.bind_some, Sum.elim_inr]
    · have : i = d.size := by omega
      subst this
      have e : (bl d).take d.size = bl d := List.take_of_length_le (by omega)
      rw [e] at hf hval
      rw [if_pos hf]
      have g1 : ¬ ((d.size : Int) < (d.size : Int)) := by omega
      simp only [lsl9Num_0, g1, decide_false, cond_false, hval]
theorem numRest_ok {s d : ByteArray} {neg : Bool} (hneg : neg = decide (d.size < s.size)) (hds : d.size ≤ s.size) : numRest N (s, d, ()) = if numOk (bl s) (bl d) = true then some (bif neg then -(valD (bl d) : Int) else (valD (bl d) : Int), true, ()) else some (0, false, ()) := by
  have hlim : lim = 2147483648 := rfl
  have hlen := bl_len d
  have z0 : (0 : Int).toNat = 0 := rfl
  have c48 : bl (ByteArray.mk #[48]) = [48] := rfl
  by_cases h1 : (d.size : Int) < 1
  · have : bl d = [] := List.length_eq_zero_iff.1 (by omega)
    rw [if_neg (fun h => (numOk_iff.1 h).1 this)]
    simp only [numRest, h1, decide_true, cond_true, Option.bind_some, Sum.elim_inr]
  · by_cases h2 : (d.size : Int) > 9
    · rw [if_neg (fun h => by have := (numOk_iff.1 h).2.1; omega)]
      simp only [numRest, h1, h2, decide_true, decide_false, cond_true, cond_false, Option.bind_some, Sum.elim_inr]
    · have h0 : 0 < d.size := by omega
      obtain ⟨c, r, hd⟩ : ∃ c r, bl d = c :: r := by
        cases hb : bl d with
        | nil => rw [hb] at hlen; simp at hlen; omega
        | cons c r => exact ⟨c, r, rfl⟩
      have hb : d.data.getD 0 0 = c := by rw [bl_getD, hd]; rfl
      by_cases h3 : c = 48 ∧ bl s ≠ [48]
      · rw [if_neg (fun h => h3.2 ((numOk_iff.1 h).2.2.1 (by rw [hd, h3.1]; rfl)))]
        have e1 : ((c.toNat : Int) == 48) = true := by rw [h3.1]; rfl
        have e2 : (s.toList == (ByteArray.mk #[48]).toList) = false := by rw [ba_beq, c48]; simpa using h3.2
        simp only [numRest, h1, h2, h0, z0, hb, e1, e2, Int.le_refl, decide_true, decide_false, cond_true, cond_false, Bool.not_false, Option.bind_some, Sum.elim_inr]
      · have hst : (Option.bind (bif ((c.toNat : Int) == 48) then (bif !(s.toList == (ByteArray.mk #[48]).toList) then some (.inr ((0 : Int), false, ())) else some (.inl (s, d, ()))) else some (.inl (s, d, ()))) (fun o => some o) : Option ((ByteArray × ByteArray × Unit) ⊕ (Int × Bool × Unit))) = some (.inl (s, d, ())) := by
          by_cases hc : c = 48
          · have hs : bl s = [48] := Decidable.byContradiction fun h => h3 ⟨hc, h⟩
            have e1 : ((c.toNat : Int) == 48) = true := by rw [hc]; rfl
            have e2 : (s.toList == (ByteArray.mk #[48]).toList) = true := by rw [ba_beq, c48]; simpa using hs
            simp only [e1, e2, cond_true, Bool.not_true, cond_false, Option.bind_some]
          · have e1 : ((c.toNat : Int) == 48) = false := by
              rw [beq_eq_false_iff_ne]; intro e; exact hc (UInt8.toNat_inj.1 (by rw [show (48 : UInt8).toNat = 48 from rfl]; omega))
            simp only [e1, cond_false, Option.bind_some]
        have hst' : (bif ((c.toNat : Int) == 48) then (bif !(s.toList == (ByteArray.mk #[48]).toList) then some (.inr ((0 : Int), false, ())) else some (.inl (s, d, ()))) else some (.inl (s, d, ())) : Option ((ByteArray × ByteArray × Unit) ⊕ (Int × Bool × Unit))) = some (.inl (s, d, ())) := by
          simpa only [Option.bind_fun_some] using hst
        have hloop := lsl9Num_ok hN (s := s) (d := d) (by omega) N 0 0 (by omega) (by omega) (by simp) (by simp) (by simp [valD])
        simp only [Int.natCast_zero] at hloop
        simp only [numRest, h1, h2, h0, z0, hb, Int.le_refl, decide_true, decide_false, cond_true, cond_false, hst', Option.bind_some, Sum.elim_inl, hloop]
        by_cases hall : ∀ c ∈ bl d, isDig c = true
        · rw [if_pos hall, if_pos (numOk_iff.2 ⟨by rw [hd]; simp, by omega, fun h => by
            rw [hd] at h
            exact Decidable.byContradiction fun h' => h3 ⟨by simpa using h, h'⟩, hall⟩)]
          have hv := val_lt hall (by omega)
          have hw : w64 (0 - (valD (bl d) : Int)) = -(valD (bl d) : Int) := by rw [w64_id (by omega) (by omega)]; omega
          have hn : decide ((d.size : Int) < (s.size : Int)) = neg := by rw [hneg]; congr 1; simp
          simp only [Option.bind_some, Sum.elim_inl, hw, hn]
          cases neg <;> rfl
        · rw [if_neg hall, if_neg (fun h => hall (numOk_iff.1 h).2.2.2)]
          simp only [Option.bind_some, Sum.elim_inr]
theorem sl9Num_ok (s : ByteArray) : Fsl9Num N (s, ()) = some ((numL (bl s)).getD 0, (numL (bl s)).isSome, ()) := by
  have hlen := bl_len s
  have z0 : (0 : Int).toNat = 0 := rfl
  have z1 : (1 : Int).toNat = 1 := rfl
  have hdef : Fsl9Num N (s, ()) = Option.bind (bif decide ((s.size : Int) > 0) then
      bif decide ((0 : Int) ≤ 0) then bif decide ((0 : Int).toNat < s.size) then
      bif ((s.data.getD (0 : Int).toNat 0).toNat : Int) == 45 then
       bif decide ((0 : Int) ≤ (s.size : Int)) then bif decide ((s.size : Int) ≤ (s.size : Int)) then bif decide ((0 : Int) ≤ 1) then bif decide ((1 : Int) ≤ (s.size : Int)) then
       some (s, s.extract (1 : Int).toNat (s.size : Int).toNat, ()) else none else none else none else none
      else some (s, s, ()) else none else none else some (s, s, ())) (numRest N) := rfl
  have fin : ∀ (o : Option Int) (b : Bool), (if b = true then some ((o.getD 0), true, ()) else some ((0 : Int), false, ())) = some (((if b = true then some (o.getD 0) else none).getD 0), (if b = true then some (o.getD 0) else none).isSome, ()) := by
    intro o b; cases b <;> rfl
  rw [hdef]
  cases hs : bl s with
  | nil =>
    rw [hs] at hlen
    have h0 : s.size = 0 := by simpa using hlen.symm
    have h1 : ¬ ((s.size : Int) > 0) := by omega
    simp only [h1, decide_false, cond_false, Option.bind_some]
    rw [numRest_ok hN (neg := false) (by simp) (Nat.le_refl _), hs]
    rfl
  | cons c r =>
    rw [hs] at hlen
    have h0 : 0 < s.size := by simp at hlen; omega
    have h1 : (s.size : Int) > 0 := by omega
    have h2 : (1 : Int) ≤ (s.size : Int) := by omega
    have hb : s.data.getD 0 0 = c := by rw [bl_getD, hs]; rfl
    by_cases hc : c = 45
    · subst hc
      have e45 : (((45 : UInt8).toNat : Int) == 45) = true := rfl
      have hx : bl (s.extract 1 s.size) = r := by
        rw [bl_extract, hs, List.take_of_length_le (by simp; simp at hlen; omega)]; rfl
      have hxs : (s.extract 1 s.size).size = r.length := by rw [← bl_len, hx]
      simp only [h1, h0, z0, z1, hb, h2, e45, decide_true, cond_true, Int.le_refl, Int.natCast_nonneg, Int.toNat_natCast, show (0 : Int) ≤ 1 by omega, Option.bind_some]
      rw [numRest_ok hN (neg := true) (by rw [hxs, ← hlen]; simp) (by rw [hxs, ← hlen]; simp), hs, hx]
      unfold numL
      rw [if_pos (show (45 :: r).head? = some 45 from rfl), List.tail_cons]
      cases numOk (45 :: r) r <;> rfl
    · have hne : ((c.toNat : Int) == 45) = false := by
        rw [beq_eq_false_iff_ne]; intro e; exact hc (UInt8.toNat_inj.1 (by rw [show (45 : UInt8).toNat = 45 from rfl]; omega))
      simp only [h1, h0, z0, hb, hne, decide_true, cond_true, cond_false, Int.le_refl, Option.bind_some]
      rw [numRest_ok hN (neg := false) (by simp) (Nat.le_refl _), hs]
      unfold numL
      rw [if_neg (show ¬ (c :: r).head? = some 45 by simpa using hc)]
      cases numOk (c :: r) (c :: r) <;> rfl
/-- All are numbers. -/
def numsL : List (List UInt8) → Option (List Int)
  | [] => some []
  | s :: r => (numL s).bind fun v => (numsL r).map (v :: ·)
theorem sl9Nums_loop {w : List ByteArray} (hw : w.length ≤ lim) : ∀ n i (out : List Int), i ≤ w.length → w.length - i < n → out.length = i →
    lsl9Nums_0 N n (w, (i : Int), out, ()) = match numsL ((w.drop i).map bl) with
      | some vs => some (.inl (out ++ vs, ()))
      | none => some (.inr (false, [], ())) := by
  intro n
  induction n with
  | zero => intro i out _ h; exact absurd h (Nat.not_lt_zero _)
  | succ n ih =>
    intro i out hi hn ho
    have hlim : lim = 2147483648 := rfl
    by_cases h : i < w.length
    · have g1 : (i : Int) < (w.length : Int) := by omega
      have w1 : w64 ((i : Int) + 1) = ((i + 1 : Nat) : Int) := w64_succ (by omega)
      have hnum := sl9Num_ok hN w[i]
      rw [drop_at h, List.map_cons, numsL]
      cases hv : numL (bl w[i]) with
      | none =>
        rw [hv] at hnum
        simp only [lsl9Nums_0, g1, decide_true, cond_true, Int.natCast_nonneg, Int.toNat_natCast, h, getD_lt h, hnum, Option.bind_some, Option.isSome_none, Bool.not_false, Option.bind_none]
      | some v =>
        rw [hv] at hnum
        have := ih (i + 1) (out ++ [v]) (by omega) (by omega) (by simp [ho])
        have g2 : out.length + 1 ≤ lim := by omega
        simp only [lsl9Nums_0, g1, decide_true, cond_true, Int.natCast_nonneg, Int.toNat_natCast, h, getD_lt h, hnum, Option.bind_some, Option.isSome_some, Bool.not_true, cond_false, Option.getD_some, List.length_cons, List.length_nil, Nat.zero_add, g2, w1]
        rw [this]
        cases numsL ((w.drop (i + 1)).map bl) with
        | none => rfl
        | some vs => simp
    · have : i = w.length := by omega
      subst this
      have g1 : ¬ ((w.length : Int) < (w.length : Int)) := by omega
      simp [lsl9Nums_0, numsL]
theorem sl9Nums_ok {w : List ByteArray} (hw : w.length ≤ lim) : Fsl9Nums N (w, ()) = some ((numsL (w.map bl)).isSome, (numsL (w.map bl)).getD [], ()) := by
  have := sl9Nums_loop hN hw N 0 [] (by omega) (by omega) rfl
  simp only [Int.natCast_zero, List.drop_zero, List.nil_append] at this
  simp only [Fsl9Nums, this]
  cases numsL (w.map bl) with
  | none => rfl
  | some vs => rfl
end

/-- Which kind a word tells, 0: none. -/
def kindOf (w : List UInt8) : Nat :=
  if w = kWord 1 then 1 else
  if w = kWord 2 then 2 else
  if w = kWord 3 then 3 else
  if w = kWord 4 then 4 else
  if w = kWord 5 then 5 else
  if w = kWord 6 then 6 else
  if w = kWord 7 then 7 else
  if w = kWord 8 then 8 else
  if w = kWord 9 then 9 else
  if w = kWord 10 then 10 else
  if w = kWord 11 then 11 else
  0
def opL9 (w : List UInt8) (n : List Int) : List Int × Bool := if kindOf w ≠ 0 ∧ n.length = (kOffs (kindOf w)).length then (fillL (kindOf w) n, true) else (zeros8, false)
def tup8 (r : List Int × Bool) : Int × Int × Int × Int × Int × Int × Int × Int × Bool × Unit := (r.1.getD 0 0, r.1.getD 1 0, r.1.getD 2 0, r.1.getD 3 0, r.1.getD 4 0, r.1.getD 5 0, r.1.getD 6 0, r.1.getD 7 0, r.2, ())
theorem kindOf_word : ∀ k : Fin 12, kindOf (kWord k.val) = k.val := by decide
theorem kindOf_le (w : List UInt8) : kindOf w ≤ 11 := by
  unfold kindOf
  repeat' (first | split | omega)
theorem kindOf_ne {w : List UInt8} (h : kindOf w ≠ 0) : kWord (kindOf w) = w := by
  unfold kindOf at h ⊢
  repeat' (first | (rename_i e; rw [if_pos e, e]; done) | split)
  all_goals first | (rename_i e; exact e.symm) | simp_all
section
variable {N : Nat}
theorem l9Op_1 {s : ByteArray} {n : List Int} (hs : bl s = kWord 1) : Fsl9Op N (s, n, ()) = some (tup8 (if n.length = 2 then (fillL 1 n, true) else (zeros8, false))) := by
  have e1 : (s.toList == (ByteArray.mk #[110, 101, 119]).toList) = true := by rw [ba_beq, hs]; decide
  by_cases hn : n.length = 2
  · have hb : ((n.length : Int) == 2) = true := beq_iff_eq.2 (by omega)
    match n, hn, hb with
    | [a, b], hn, hb =>
      simp only [Fsl9Op, e1, cond_true, cond_false, Option.bind_some, hb, List.length_cons, List.length_nil, Nat.zero_add, Nat.reduceAdd, if_true]
      rfl
  · have hb : ((n.length : Int) == 2) = false := beq_eq_false_iff_ne.2 (by omega)
    have f2 : (s.toList == (ByteArray.mk #[108, 111, 97, 100]).toList) = false := by rw [ba_beq, hs]; decide
    have f3 : (s.toList == (ByteArray.mk #[115, 116, 111, 114, 101]).toList) = false := by rw [ba_beq, hs]; decide
    have f4 : (s.toList == (ByteArray.mk #[112, 117, 116]).toList) = false := by rw [ba_beq, hs]; decide
    have f5 : (s.toList == (ByteArray.mk #[103, 101, 116]).toList) = false := by rw [ba_beq, hs]; decide
    have f6 : (s.toList == (ByteArray.mk #[115, 97, 109, 101]).toList) = false := by rw [ba_beq, hs]; decide
    have f7 : (s.toList == (ByteArray.mk #[99, 97, 115]).toList) = false := by rw [ba_beq, hs]; decide
    have f8 : (s.toList == (ByteArray.mk #[100, 114, 111, 112]).toList) = false := by rw [ba_beq, hs]; decide
    have f9 : (s.toList == (ByteArray.mk #[100, 117, 112]).toList) = false := by rw [ba_beq, hs]; decide
    have f10 : (s.toList == (ByteArray.mk #[112, 105, 110]).toList) = false := by rw [ba_beq, hs]; decide
    have f11 : (s.toList == (ByteArray.mk #[117, 110, 112, 105, 110]).toList) = false := by rw [ba_beq, hs]; decide
    rw [if_neg hn]
    simp only [Fsl9Op, e1, cond_true, cond_false, Option.bind_some, hb, f2, f3, f4, f5, f6, f7, f8, f9, f10, f11]
    rfl
theorem l9Op_2 {s : ByteArray} {n : List Int} (hs : bl s = kWord 2) : Fsl9Op N (s, n, ()) = some (tup8 (if n.length = 2 then (fillL 2 n, true) else (zeros8, false))) := by
  have e1 : (s.toList == (ByteArray.mk #[110, 101, 119]).toList) = false := by rw [ba_beq, hs]; decide
  have e2 : (s.toList == (ByteArray.mk #[108, 111, 97, 100]).toList) = true := by rw [ba_beq, hs]; decide
  by_cases hn : n.length = 2
  · have hb : ((n.length : Int) == 2) = true := beq_iff_eq.2 (by omega)
    match n, hn, hb with
    | [a, b], hn, hb =>
      simp only [Fsl9Op, e1, e2, cond_true, cond_false, Option.bind_some, hb, List.length_cons, List.length_nil, Nat.zero_add, Nat.reduceAdd, if_true]
      rfl
  · have hb : ((n.length : Int) == 2) = false := beq_eq_false_iff_ne.2 (by omega)
    have f3 : (s.toList == (ByteArray.mk #[115, 116, 111, 114, 101]).toList) = false := by rw [ba_beq, hs]; decide
    have f4 : (s.toList == (ByteArray.mk #[112, 117, 116]).toList) = false := by rw [ba_beq, hs]; decide
    have f5 : (s.toList == (ByteArray.mk #[103, 101, 116]).toList) = false := by rw [ba_beq, hs]; decide
    have f6 : (s.toList == (ByteArray.mk #[115, 97, 109, 101]).toList) = false := by rw [ba_beq, hs]; decide
    have f7 : (s.toList == (ByteArray.mk #[99, 97, 115]).toList) = false := by rw [ba_beq, hs]; decide
    have f8 : (s.toList == (ByteArray.mk #[100, 114, 111, 112]).toList) = false := by rw [ba_beq, hs]; decide
    have f9 : (s.toList == (ByteArray.mk #[100, 117, 112]).toList) = false := by rw [ba_beq, hs]; decide
    have f10 : (s.toList == (ByteArray.mk #[112, 105, 110]).toList) = false := by rw [ba_beq, hs]; decide
    have f11 : (s.toList == (ByteArray.mk #[117, 110, 112, 105, 110]).toList) = false := by rw [ba_beq, hs]; decide
    rw [if_neg hn]
    simp only [Fsl9Op, e1, e2, cond_true, cond_false, Option.bind_some, hb, f3, f4, f5, f6, f7, f8, f9, f10, f11]
    rfl
theorem l9Op_3 {s : ByteArray} {n : List Int} (hs : bl s = kWord 3) : Fsl9Op N (s, n, ()) = some (tup8 (if n.length = 3 then (fillL 3 n, true) else (zeros8, false))) := by
  have e1 : (s.toList == (ByteArray.mk #[110, 101, 119]).toList) = false := by rw [ba_beq, hs]; decide
  have e2 : (s.toList == (ByteArray.mk #[108, 111, 97, 100]).toList) = false := by rw [ba_beq, hs]; decide
  have e3 : (s.toList == (ByteArray.mk #[115, 116, 111, 114, 101]).toList) = true := by rw [ba_beq, hs]; decide
  by_cases hn : n.length = 3
  · have hb : ((n.length : Int) == 3) = true := beq_iff_eq.2 (by omega)
    match n, hn, hb with
    | [a, b, c], hn, hb =>
      simp only [Fsl9Op, e1, e2, e3, cond_true, cond_false, Option.bind_some, hb, List.length_cons, List.length_nil, Nat.zero_add, Nat.reduceAdd, if_true]
      rfl
  · have hb : ((n.length : Int) == 3) = false := beq_eq_false_iff_ne.2 (by omega)
    have f4 : (s.toList == (ByteArray.mk #[112, 117, 116]).toList) = false := by rw [ba_beq, hs]; decide
    have f5 : (s.toList == (ByteArray.mk #[103, 101, 116]).toList) = false := by rw [ba_beq, hs]; decide
    have f6 : (s.toList == (ByteArray.mk #[115, 97, 109, 101]).toList) = false := by rw [ba_beq, hs]; decide
    have f7 : (s.toList == (ByteArray.mk #[99, 97, 115]).toList) = false := by rw [ba_beq, hs]; decide
    have f8 : (s.toList == (ByteArray.mk #[100, 114, 111, 112]).toList) = false := by rw [ba_beq, hs]; decide
    have f9 : (s.toList == (ByteArray.mk #[100, 117, 112]).toList) = false := by rw [ba_beq, hs]; decide
    have f10 : (s.toList == (ByteArray.mk #[112, 105, 110]).toList) = false := by rw [ba_beq, hs]; decide
    have f11 : (s.toList == (ByteArray.mk #[117, 110, 112, 105, 110]).toList) = false := by rw [ba_beq, hs]; decide
    rw [if_neg hn]
    simp only [Fsl9Op, e1, e2, e3, cond_true, cond_false, Option.bind_some, hb, f4, f5, f6, f7, f8, f9, f10, f11]
    rfl
theorem l9Op_4 {s : ByteArray} {n : List Int} (hs : bl s = kWord 4) : Fsl9Op N (s, n, ()) = some (tup8 (if n.length = 3 then (fillL 4 n, true) else (zeros8, false))) := by
  have e1 : (s.toList == (ByteArray.mk #[110, 101, 119]).toList) = false := by rw [ba_beq, hs]; decide
  have e2 : (s.toList == (ByteArray.mk #[108, 111, 97, 100]).toList) = false := by rw [ba_beq, hs]; decide
  have e3 : (s.toList == (ByteArray.mk #[115, 116, 111, 114, 101]).toList) = false := by rw [ba_beq, hs]; decide
  have e4 : (s.toList == (ByteArray.mk #[112, 117, 116]).toList) = true := by rw [ba_beq, hs]; decide
  by_cases hn : n.length = 3
  · have hb : ((n.length : Int) == 3) = true := beq_iff_eq.2 (by omega)
    match n, hn, hb with
    | [a, b, c], hn, hb =>
      simp only [Fsl9Op, e1, e2, e3, e4, cond_true, cond_false, Option.bind_some, hb, List.length_cons, List.length_nil, Nat.zero_add, Nat.reduceAdd, if_true]
      rfl
  · have hb : ((n.length : Int) == 3) = false := beq_eq_false_iff_ne.2 (by omega)
    have f5 : (s.toList == (ByteArray.mk #[103, 101, 116]).toList) = false := by rw [ba_beq, hs]; decide
    have f6 : (s.toList == (ByteArray.mk #[115, 97, 109, 101]).toList) = false := by rw [ba_beq, hs]; decide
    have f7 : (s.toList == (ByteArray.mk #[99, 97, 115]).toList) = false := by rw [ba_beq, hs]; decide
    have f8 : (s.toList == (ByteArray.mk #[100, 114, 111, 112]).toList) = false := by rw [ba_beq, hs]; decide
    have f9 : (s.toList == (ByteArray.mk #[100, 117, 112]).toList) = false := by rw [ba_beq, hs]; decide
    have f10 : (s.toList == (ByteArray.mk #[112, 105, 110]).toList) = false := by rw [ba_beq, hs]; decide
    have f11 : (s.toList == (ByteArray.mk #[117, 110, 112, 105, 110]).toList) = false := by rw [ba_beq, hs]; decide
    rw [if_neg hn]
    simp only [Fsl9Op, e1, e2, e3, e4, cond_true, cond_false, Option.bind_some, hb, f5, f6, f7, f8, f9, f10, f11]
    rfl
theorem l9Op_5 {s : ByteArray} {n : List Int} (hs : bl s = kWord 5) : Fsl9Op N (s, n, ()) = some (tup8 (if n.length = 2 then (fillL 5 n, true) else (zeros8, false))) := by
  have e1 : (s.toList == (ByteArray.mk #[110, 101, 119]).toList) = false := by rw [ba_beq, hs]; decide
  have e2 : (s.toList == (ByteArray.mk #[108, 111, 97, 100]).toList) = false := by rw [ba_beq, hs]; decide
  have e3 : (s.toList == (ByteArray.mk #[115, 116, 111, 114, 101]).toList) = false := by rw [ba_beq, hs]; decide
  have e4 : (s.toList == (ByteArray.mk #[112, 117, 116]).toList) = false := by rw [ba_beq, hs]; decide
  have e5 : (s.toList == (ByteArray.mk #[103, 101, 116]).toList) = true := by rw [ba_beq, hs]; decide
  by_cases hn : n.length = 2
  · have hb : ((n.length : Int) == 2) = true := beq_iff_eq.2 (by omega)
    match n, hn, hb with
    | [a, b], hn, hb =>
      simp only [Fsl9Op, e1, e2, e3, e4, e5, cond_true, cond_false, Option.bind_some, hb, List.length_cons, List.length_nil, Nat.zero_add, Nat.reduceAdd, if_true]
      rfl
  · have hb : ((n.length : Int) == 2) = false := beq_eq_false_iff_ne.2 (by omega)
    have f6 : (s.toList == (ByteArray.mk #[115, 97, 109, 101]).toList) = false := by rw [ba_beq, hs]; decide
    have f7 : (s.toList == (ByteArray.mk #[99, 97, 115]).toList) = false := by rw [ba_beq, hs]; decide
    have f8 : (s.toList == (ByteArray.mk #[100, 114, 111, 112]).toList) = false := by rw [ba_beq, hs]; decide
    have f9 : (s.toList == (ByteArray.mk #[100, 117, 112]).toList) = false := by rw [ba_beq, hs]; decide
    have f10 : (s.toList == (ByteArray.mk #[112, 105, 110]).toList) = false := by rw [ba_beq, hs]; decide
    have f11 : (s.toList == (ByteArray.mk #[117, 110, 112, 105, 110]).toList) = false := by rw [ba_beq, hs]; decide
    rw [if_neg hn]
    simp only [Fsl9Op, e1, e2, e3, e4, e5, cond_true, cond_false, Option.bind_some, hb, f6, f7, f8, f9, f10, f11]
    rfl
theorem l9Op_6 {s : ByteArray} {n : List Int} (hs : bl s = kWord 6) : Fsl9Op N (s, n, ()) = some (tup8 (if n.length = 2 then (fillL 6 n, true) else (zeros8, false))) := by
  have e1 : (s.toList == (ByteArray.mk #[110, 101, 119]).toList) = false := by rw [ba_beq, hs]; decide
  have e2 : (s.toList == (ByteArray.mk #[108, 111, 97, 100]).toList) = false := by rw [ba_beq, hs]; decide
  have e3 : (s.toList == (ByteArray.mk #[115, 116, 111, 114, 101]).toList) = false := by rw [ba_beq, hs]; decide
  have e4 : (s.toList == (ByteArray.mk #[112, 117, 116]).toList) = false := by rw [ba_beq, hs]; decide
  have e5 : (s.toList == (ByteArray.mk #[103, 101, 116]).toList) = false := by rw [ba_beq, hs]; decide
  have e6 : (s.toList == (ByteArray.mk #[115, 97, 109, 101]).toList) = true := by rw [ba_beq, hs]; decide
  by_cases hn : n.length = 2
  · have hb : ((n.length : Int) == 2) = true := beq_iff_eq.2 (by omega)
    match n, hn, hb with
    | [a, b], hn, hb =>
      simp only [Fsl9Op, e1, e2, e3, e4, e5, e6, cond_true, cond_false, Option.bind_some, hb, List.length_cons, List.length_nil, Nat.zero_add, Nat.reduceAdd, if_true]
      rfl
  · have hb : ((n.length : Int) == 2) = false := beq_eq_false_iff_ne.2 (by omega)
    have f7 : (s.toList == (ByteArray.mk #[99, 97, 115]).toList) = false := by rw [ba_beq, hs]; decide
    have f8 : (s.toList == (ByteArray.mk #[100, 114, 111, 112]).toList) = false := by rw [ba_beq, hs]; decide
    have f9 : (s.toList == (ByteArray.mk #[100, 117, 112]).toList) = false := by rw [ba_beq, hs]; decide
    have f10 : (s.toList == (ByteArray.mk #[112, 105, 110]).toList) = false := by rw [ba_beq, hs]; decide
    have f11 : (s.toList == (ByteArray.mk #[117, 110, 112, 105, 110]).toList) = false := by rw [ba_beq, hs]; decide
    rw [if_neg hn]
    simp only [Fsl9Op, e1, e2, e3, e4, e5, e6, cond_true, cond_false, Option.bind_some, hb, f7, f8, f9, f10, f11]
    rfl
theorem l9Op_7 {s : ByteArray} {n : List Int} (hs : bl s = kWord 7) : Fsl9Op N (s, n, ()) = some (tup8 (if n.length = 4 then (fillL 7 n, true) else (zeros8, false))) := by
  have e1 : (s.toList == (ByteArray.mk #[110, 101, 119]).toList) = false := by rw [ba_beq, hs]; decide
  have e2 : (s.toList == (ByteArray.mk #[108, 111, 97, 100]).toList) = false := by rw [ba_beq, hs]; decide
  have e3 : (s.toList == (ByteArray.mk #[115, 116, 111, 114, 101]).toList) = false := by rw [ba_beq, hs]; decide
  have e4 : (s.toList == (ByteArray.mk #[112, 117, 116]).toList) = false := by rw [ba_beq, hs]; decide
  have e5 : (s.toList == (ByteArray.mk #[103, 101, 116]).toList) = false := by rw [ba_beq, hs]; decide
  have e6 : (s.toList == (ByteArray.mk #[115, 97, 109, 101]).toList) = false := by rw [ba_beq, hs]; decide
  have e7 : (s.toList == (ByteArray.mk #[99, 97, 115]).toList) = true := by rw [ba_beq, hs]; decide
  by_cases hn : n.length = 4
  · have hb : ((n.length : Int) == 4) = true := beq_iff_eq.2 (by omega)
    match n, hn, hb with
    | [a, b, c, d], hn, hb =>
      simp only [Fsl9Op, e1, e2, e3, e4, e5, e6, e7, cond_true, cond_false, Option.bind_some, hb, List.length_cons, List.length_nil, Nat.zero_add, Nat.reduceAdd, if_true]
      rfl
  · have hb : ((n.length : Int) == 4) = false := beq_eq_false_iff_ne.2 (by omega)
    have f8 : (s.toList == (ByteArray.mk #[100, 114, 111, 112]).toList) = false := by rw [ba_beq, hs]; decide
    have f9 : (s.toList == (ByteArray.mk #[100, 117, 112]).toList) = false := by rw [ba_beq, hs]; decide
    have f10 : (s.toList == (ByteArray.mk #[112, 105, 110]).toList) = false := by rw [ba_beq, hs]; decide
    have f11 : (s.toList == (ByteArray.mk #[117, 110, 112, 105, 110]).toList) = false := by rw [ba_beq, hs]; decide
    rw [if_neg hn]
    simp only [Fsl9Op, e1, e2, e3, e4, e5, e6, e7, cond_true, cond_false, Option.bind_some, hb, f8, f9, f10, f11]
    rfl
theorem l9Op_8 {s : ByteArray} {n : List Int} (hs : bl s = kWord 8) : Fsl9Op N (s, n, ()) = some (tup8 (if n.length = 0 then (fillL 8 n, true) else (zeros8, false))) := by
  have e1 : (s.toList == (ByteArray.mk #[110, 101, 119]).toList) = false := by rw [ba_beq, hs]; decide
  have e2 : (s.toList == (ByteArray.mk #[108, 111, 97, 100]).toList) = false := by rw [ba_beq, hs]; decide
  have e3 : (s.toList == (ByteArray.mk #[115, 116, 111, 114, 101]).toList) = false := by rw [ba_beq, hs]; decide
  have e4 : (s.toList == (ByteArray.mk #[112, 117, 116]).toList) = false := by rw [ba_beq, hs]; decide
  have e5 : (s.toList == (ByteArray.mk #[103, 101, 116]).toList) = false := by rw [ba_beq, hs]; decide
  have e6 : (s.toList == (ByteArray.mk #[115, 97, 109, 101]).toList) = false := by rw [ba_beq, hs]; decide
  have e7 : (s.toList == (ByteArray.mk #[99, 97, 115]).toList) = false := by rw [ba_beq, hs]; decide
  have e8 : (s.toList == (ByteArray.mk #[100, 114, 111, 112]).toList) = true := by rw [ba_beq, hs]; decide
  by_cases hn : n.length = 0
  · have hb : ((n.length : Int) == 0) = true := beq_iff_eq.2 (by omega)
    rw [if_pos hn]
    have : n = [] := List.length_eq_zero_iff.1 hn
    subst this
    simp only [Fsl9Op, e1, e2, e3, e4, e5, e6, e7, e8, cond_true, cond_false, Option.bind_some, hb]
    rfl
  · have hb : ((n.length : Int) == 0) = false := beq_eq_false_iff_ne.2 (by omega)
    have f9 : (s.toList == (ByteArray.mk #[100, 117, 112]).toList) = false := by rw [ba_beq, hs]; decide
    have f10 : (s.toList == (ByteArray.mk #[112, 105, 110]).toList) = false := by rw [ba_beq, hs]; decide
    have f11 : (s.toList == (ByteArray.mk #[117, 110, 112, 105, 110]).toList) = false := by rw [ba_beq, hs]; decide
    rw [if_neg hn]
    simp only [Fsl9Op, e1, e2, e3, e4, e5, e6, e7, e8, cond_true, cond_false, Option.bind_some, hb, f9, f10, f11]
    rfl
theorem l9Op_9 {s : ByteArray} {n : List Int} (hs : bl s = kWord 9) : Fsl9Op N (s, n, ()) = some (tup8 (if n.length = 1 then (fillL 9 n, true) else (zeros8, false))) := by
  have e1 : (s.toList == (ByteArray.mk #[110, 101, 119]).toList) = false := by rw [ba_beq, hs]; decide
  have e2 : (s.toList == (ByteArray.mk #[108, 111, 97, 100]).toList) = false := by rw [ba_beq, hs]; decide
  have e3 : (s.toList == (ByteArray.mk #[115, 116, 111, 114, 101]).toList) = false := by rw [ba_beq, hs]; decide
  have e4 : (s.toList == (ByteArray.mk #[112, 117, 116]).toList) = false := by rw [ba_beq, hs]; decide
  have e5 : (s.toList == (ByteArray.mk #[103, 101, 116]).toList) = false := by rw [ba_beq, hs]; decide
  have e6 : (s.toList == (ByteArray.mk #[115, 97, 109, 101]).toList) = false := by rw [ba_beq, hs]; decide
  have e7 : (s.toList == (ByteArray.mk #[99, 97, 115]).toList) = false := by rw [ba_beq, hs]; decide
  have e8 : (s.toList == (ByteArray.mk #[100, 114, 111, 112]).toList) = false := by rw [ba_beq, hs]; decide
  have e9 : (s.toList == (ByteArray.mk #[100, 117, 112]).toList) = true := by rw [ba_beq, hs]; decide
  by_cases hn : n.length = 1
  · have hb : ((n.length : Int) == 1) = true := beq_iff_eq.2 (by omega)
    match n, hn, hb with
    | [a], hn, hb =>
      simp only [Fsl9Op, e1, e2, e3, e4, e5, e6, e7, e8, e9, cond_true, cond_false, Option.bind_some, hb, List.length_cons, List.length_nil, Nat.zero_add, Nat.reduceAdd, if_true]
      rfl
  · have hb : ((n.length : Int) == 1) = false := beq_eq_false_iff_ne.2 (by omega)
    have f10 : (s.toList == (ByteArray.mk #[112, 105, 110]).toList) = false := by rw [ba_beq, hs]; decide
    have f11 : (s.toList == (ByteArray.mk #[117, 110, 112, 105, 110]).toList) = false := by rw [ba_beq, hs]; decide
    rw [if_neg hn]
    simp only [Fsl9Op, e1, e2, e3, e4, e5, e6, e7, e8, e9, cond_true, cond_false, Option.bind_some, hb, f10, f11]
    rfl
theorem l9Op_10 {s : ByteArray} {n : List Int} (hs : bl s = kWord 10) : Fsl9Op N (s, n, ()) = some (tup8 (if n.length = 1 then (fillL 10 n, true) else (zeros8, false))) := by
  have e1 : (s.toList == (ByteArray.mk #[110, 101, 119]).toList) = false := by rw [ba_beq, hs]; decide
  have e2 : (s.toList == (ByteArray.mk #[108, 111, 97, 100]).toList) = false := by rw [ba_beq, hs]; decide
  have e3 : (s.toList == (ByteArray.mk #[115, 116, 111, 114, 101]).toList) = false := by rw [ba_beq, hs]; decide
  have e4 : (s.toList == (ByteArray.mk #[112, 117, 116]).toList) = false := by rw [ba_beq, hs]; decide
  have e5 : (s.toList == (ByteArray.mk #[103, 101, 116]).toList) = false := by rw [ba_beq, hs]; decide
  have e6 : (s.toList == (ByteArray.mk #[115, 97, 109, 101]).toList) = false := by rw [ba_beq, hs]; decide
  have e7 : (s.toList == (ByteArray.mk #[99, 97, 115]).toList) = false := by rw [ba_beq, hs]; decide
  have e8 : (s.toList == (ByteArray.mk #[100, 114, 111, 112]).toList) = false := by rw [ba_beq, hs]; decide
  have e9 : (s.toList == (ByteArray.mk #[100, 117, 112]).toList) = false := by rw [ba_beq, hs]; decide
  have e10 : (s.toList == (ByteArray.mk #[112, 105, 110]).toList) = true := by rw [ba_beq, hs]; decide
  by_cases hn : n.length = 1
  · have hb : ((n.length : Int) == 1) = true := beq_iff_eq.2 (by omega)
    match n, hn, hb with
    | [a], hn, hb =>
      simp only [Fsl9Op, e1, e2, e3, e4, e5, e6, e7, e8, e9, e10, cond_true, cond_false, Option.bind_some, hb, List.length_cons, List.length_nil, Nat.zero_add, Nat.reduceAdd, if_true]
      rfl
  · have hb : ((n.length : Int) == 1) = false := beq_eq_false_iff_ne.2 (by omega)
    have f11 : (s.toList == (ByteArray.mk #[117, 110, 112, 105, 110]).toList) = false := by rw [ba_beq, hs]; decide
    rw [if_neg hn]
    simp only [Fsl9Op, e1, e2, e3, e4, e5, e6, e7, e8, e9, e10, cond_true, cond_false, Option.bind_some, hb, f11]
    rfl
theorem l9Op_11 {s : ByteArray} {n : List Int} (hs : bl s = kWord 11) : Fsl9Op N (s, n, ()) = some (tup8 (if n.length = 1 then (fillL 11 n, true) else (zeros8, false))) := by
  have e1 : (s.toList == (ByteArray.mk #[110, 101, 119]).toList) = false := by rw [ba_beq, hs]; decide
  have e2 : (s.toList == (ByteArray.mk #[108, 111, 97, 100]).toList) = false := by rw [ba_beq, hs]; decide
  have e3 : (s.toList == (ByteArray.mk #[115, 116, 111, 114, 101]).toList) = false := by rw [ba_beq, hs]; decide
  have e4 : (s.toList == (ByteArray.mk #[112, 117, 116]).toList) = false := by rw [ba_beq, hs]; decide
  have e5 : (s.toList == (ByteArray.mk #[103, 101, 116]).toList) = false := by rw [ba_beq, hs]; decide
  have e6 : (s.toList == (ByteArray.mk #[115, 97, 109, 101]).toList) = false := by rw [ba_beq, hs]; decide
  have e7 : (s.toList == (ByteArray.mk #[99, 97, 115]).toList) = false := by rw [ba_beq, hs]; decide
  have e8 : (s.toList == (ByteArray.mk #[100, 114, 111, 112]).toList) = false := by rw [ba_beq, hs]; decide
  have e9 : (s.toList == (ByteArray.mk #[100, 117, 112]).toList) = false := by rw [ba_beq, hs]; decide
  have e10 : (s.toList == (ByteArray.mk #[112, 105, 110]).toList) = false := by rw [ba_beq, hs]; decide
  have e11 : (s.toList == (ByteArray.mk #[117, 110, 112, 105, 110]).toList) = true := by rw [ba_beq, hs]; decide
  by_cases hn : n.length = 1
  · have hb : ((n.length : Int) == 1) = true := beq_iff_eq.2 (by omega)
    match n, hn, hb with
    | [a], hn, hb =>
      simp only [Fsl9Op, e1, e2, e3, e4, e5, e6, e7, e8, e9, e10, e11, cond_true, cond_false, Option.bind_some, hb, List.length_cons, List.length_nil, Nat.zero_add, Nat.reduceAdd, if_true]
      rfl
  · have hb : ((n.length : Int) == 1) = false := beq_eq_false_iff_ne.2 (by omega)
    rw [if_neg hn]
    simp only [Fsl9Op, e1, e2, e3, e4, e5, e6, e7, e8, e9, e10, e11, cond_true, cond_false, Option.bind_some, hb]
    rfl
theorem l9Op_0 {s : ByteArray} {n : List Int} (hs : kindOf (bl s) = 0) : Fsl9Op N (s, n, ()) = some (tup8 (zeros8, false)) := by
  have e1 : (s.toList == (ByteArray.mk #[110, 101, 119]).toList) = false := by
    rw [ba_beq]
    have hw : bl (ByteArray.mk #[110, 101, 119]) = kWord 1 := rfl
    rw [hw]
    refine decide_eq_false (fun e => ?_)
    rw [e] at hs
    revert hs; decide
  have e2 : (s.toList == (ByteArray.mk #[108, 111, 97, 100]).toList) = false := by
    rw [ba_beq]
    have hw : bl (ByteArray.mk #[108, 111, 97, 100]) = kWord 2 := rfl
    rw [hw]
    refine decide_eq_false (fun e => ?_)
    rw [e] at hs
    revert hs; decide
  have e3 : (s.toList == (ByteArray.mk #[115, 116, 111, 114, 101]).toList) = false := by
    rw [ba_beq]
    have hw : bl (ByteArray.mk #[115, 116, 111, 114, 101]) = kWord 3 := rfl
    rw [hw]
    refine decide_eq_false (fun e => ?_)
    rw [e] at hs
    revert hs; decide
  have e4 : (s.toList == (ByteArray.mk #[112, 117, 116]).toList) = false := by
    rw [ba_beq]
    have hw : bl (ByteArray.mk #[112, 117, 116]) = kWord 4 := rfl
    rw [hw]
    refine decide_eq_false (fun e => ?_)
    rw [e] at hs
    revert hs; decide
  have e5 : (s.toList == (ByteArray.mk #[103, 101, 116]).toList) = false := by
    rw [ba_beq]
    have hw : bl (ByteArray.mk #[103, 101, 116]) = kWord 5 := rfl
    rw [hw]
    refine decide_eq_false (fun e => ?_)
    rw [e] at hs
    revert hs; decide
  have e6 : (s.toList == (ByteArray.mk #[115, 97, 109, 101]).toList) = false := by
    rw [ba_beq]
    have hw : bl (ByteArray.mk #[115, 97, 109, 101]) = kWord 6 := rfl
    rw [hw]
    refine decide_eq_false (fun e => ?_)
    rw [e] at hs
    revert hs; decide
  have e7 : (s.toList == (ByteArray.mk #[99, 97, 115]).toList) = false := by
    rw [ba_beq]
    have hw : bl (ByteArray.mk #[99, 97, 115]) = kWord 7 := rfl
    rw [hw]
    refine decide_eq_false (fun e => ?_)
    rw [e] at hs
    revert hs; decide
  have e8 : (s.toList == (ByteArray.mk #[100, 114, 111, 112]).toList) = false := by
    rw [ba_beq]
    have hw : bl (ByteArray.mk #[100, 114, 111, 112]) = kWord 8 := rfl
    rw [hw]
    refine decide_eq_false (fun e => ?_)
    rw [e] at hs
    revert hs; decide
  have e9 : (s.toList == (ByteArray.mk #[100, 117, 112]).toList) = false := by
    rw [ba_beq]
    have hw : bl (ByteArray.mk #[100, 117, 112]) = kWord 9 := rfl
    rw [hw]
    refine decide_eq_false (fun e => ?_)
    rw [e] at hs
    revert hs; decide
  have e10 : (s.toList == (ByteArray.mk #[112, 105, 110]).toList) = false := by
    rw [ba_beq]
    have hw : bl (ByteArray.mk #[112, 105, 110]) = kWord 10 := rfl
    rw [hw]
    refine decide_eq_false (fun e => ?_)
    rw [e] at hs
    revert hs; decide
  have e11 : (s.toList == (ByteArray.mk #[117, 110, 112, 105, 110]).toList) = false := by
    rw [ba_beq]
    have hw : bl (ByteArray.mk #[117, 110, 112, 105, 110]) = kWord 11 := rfl
    rw [hw]
    refine decide_eq_false (fun e => ?_)
    rw [e] at hs
    revert hs; decide
  simp only [Fsl9Op, e1, e2, e3, e4, e5, e6, e7, e8, e9, e10, e11, cond_false, Option.bind_some]
  rfl
theorem sl9Op_ok (s : ByteArray) (n : List Int) : Fsl9Op N (s, n, ()) = some (tup8 (opL9 (bl s) n)) := by
  unfold opL9
  by_cases h0 : kindOf (bl s) = 0
  · rw [l9Op_0 h0, if_neg (fun h => h.1 h0)]
  · have hle := kindOf_le (bl s)
    have hw := kindOf_ne h0
    generalize hk : kindOf (bl s) = k at *
    have : k = 1 ∨ k = 2 ∨ k = 3 ∨ k = 4 ∨ k = 5 ∨ k = 6 ∨ k = 7 ∨ k = 8 ∨ k = 9 ∨ k = 10 ∨ k = 11 := by omega
    rcases this with rfl | rfl | rfl | rfl | rfl | rfl | rfl | rfl | rfl | rfl | rfl
    · rw [l9Op_1 hw.symm]
      by_cases hn : n.length = 2
      · rw [if_pos hn, if_pos ⟨by decide, hn⟩]
      · rw [if_neg hn, if_neg (fun h => hn h.2)]
    · rw [l9Op_2 hw.symm]
      by_cases hn : n.length = 2
      · rw [if_pos hn, if_pos ⟨by decide, hn⟩]
      · rw [if_neg hn, if_neg (fun h => hn h.2)]
    · rw [l9Op_3 hw.symm]
      by_cases hn : n.length = 3
      · rw [if_pos hn, if_pos ⟨by decide, hn⟩]
      · rw [if_neg hn, if_neg (fun h => hn h.2)]
    · rw [l9Op_4 hw.symm]
      by_cases hn : n.length = 3
      · rw [if_pos hn, if_pos ⟨by decide, hn⟩]
      · rw [if_neg hn, if_neg (fun h => hn h.2)]
    · rw [l9Op_5 hw.symm]
      by_cases hn : n.length = 2
      · rw [if_pos hn, if_pos ⟨by decide, hn⟩]
      · rw [if_neg hn, if_neg (fun h => hn h.2)]
    · rw [l9Op_6 hw.symm]
      by_cases hn : n.length = 2
      · rw [if_pos hn, if_pos ⟨by decide, hn⟩]
      · rw [if_neg hn, if_neg (fun h => hn h.2)]
    · rw [l9Op_7 hw.symm]
      by_cases hn : n.length = 4
      · rw [if_pos hn, if_pos ⟨by decide, hn⟩]
      · rw [if_neg hn, if_neg (fun h => hn h.2)]
    · rw [l9Op_8 hw.symm]
      by_cases hn : n.length = 0
      · rw [if_pos hn, if_pos ⟨by decide, hn⟩]
      · rw [if_neg hn, if_neg (fun h => hn h.2)]
    · rw [l9Op_9 hw.symm]
      by_cases hn : n.length = 1
      · rw [if_pos hn, if_pos ⟨by decide, hn⟩]
      · rw [if_neg hn, if_neg (fun h => hn h.2)]
    · rw [l9Op_10 hw.symm]
      by_cases hn : n.length = 1
      · rw [if_pos hn, if_pos ⟨by decide, hn⟩]
      · rw [if_neg hn, if_neg (fun h => hn h.2)]
    · rw [l9Op_11 hw.symm]
      by_cases hn : n.length = 1
      · rw [if_pos hn, if_pos ⟨by decide, hn⟩]
      · rw [if_neg hn, if_neg (fun h => hn h.2)]
end

section
variable {N : Nat} (hN : lim < N)
include hN

omit hN in
theorem spl_at {c : UInt8} {l : List UInt8} {a i : Nat} (hai : a ≤ i) (hi : i < l.length) (hc : l[i] = c) (hfree : c ∉ (l.drop a).take (i - a)) : spl c (l.drop a) = (l.drop a).take (i - a) :: spl c (l.drop (i + 1)) := by
  have e : l.drop a = (l.drop a).take (i - a) ++ c :: l.drop (i + 1) := by
    conv => lhs; rw [← List.take_append_drop (i - a) (l.drop a)]
    rw [List.drop_drop, show a + (i - a) = i by omega, drop_at hi, hc]
  conv => lhs; rw [e]
  exact spl_sep _ hfree
omit hN in
theorem free_succ {c : UInt8} {l : List UInt8} {a i : Nat} (hai : a ≤ i) (hi : i < l.length) (hc : l[i] ≠ c) (hfree : c ∉ (l.drop a).take (i - a)) : c ∉ (l.drop a).take (i + 1 - a) := by
  rw [show i + 1 - a = (i - a) + 1 by omega, List.take_add_one]
  have : (l.drop a)[i - a]? = some l[i] := by rw [List.getElem?_drop, show a + (i - a) = i by omega, List.getElem?_eq_getElem hi]
  rw [this]
  intro h
  rcases List.mem_append.1 h with h | h
  · exact hfree h
  · simp at h; exact hc h.symm

theorem sl9Split_ok {s : ByteArray} {c : UInt8} {k : Int} (hk : k = (c.toNat : Int)) (hs : s.size < lim) : Fsl9Split N (s, k, ()) = some ((spl c (bl s)).map lb, ()) := by
  subst hk
  have hlim : lim = 2147483648 := rfl
  have hlen := bl_len s
  have key : ∀ n i a (out : List ByteArray), a ≤ i → i ≤ s.size → out.length ≤ a → s.size - i < n → c ∉ ((bl s).drop a).take (i - a) →
      ∃ (a' : Nat) (out' : List ByteArray), lsl9Split_0 N n (s, (c.toNat : Int), (a : Int), (i : Int), out, ()) = some (s, (a' : Int), out', ()) ∧ a' ≤ s.size ∧ out'.length ≤ s.size ∧ out' ++ [s.extract a' s.size] = out ++ (spl c ((bl s).drop a)).map lb := by
    intro n
    induction n with
    | zero => intro i a out _ _ _ h; exact absurd h (Nat.not_lt_zero _)
    | succ n ih =>
      intro i a out hai hi hout hn hfree
      have hw : w64 ((i : Int) + 1) = ((i + 1 : Nat) : Int) := w64_succ (by omega)
      by_cases h : i < s.size
      · have hi' : i < (bl s).length := by omega
        have hb : s.data.getD i 0 = (bl s)[i] := by rw [bl_getD, getD_lt hi']
        by_cases hc : (bl s)[i] = c
        · obtain ⟨a', out', h1, h2, h3, h4⟩ := ih (i + 1) (i + 1) (out ++ [s.extract a i]) (Nat.le_refl _) (by omega) (by simp; omega) (by omega) (by simp)
          refine ⟨a', out', ?_, h2, h3, ?_⟩
          · have g1 : (i : Int) < (s.size : Int) := by omega
            have g2 : (i : Int) ≤ (s.size : Int) := by omega
            have g3 : (a : Int) ≤ (i : Int) := by omega
            have g4 : out.length + 1 ≤ lim := by omega
            simp only [lsl9Split_0, g1, g2, g3, decide_true, cond_true, Int.natCast_nonneg, Int.toNat_natCast, h, hb, hc, beq_self_eq_true, List.length_singleton, List.length_cons, List.length_nil, Nat.zero_add, g4, hw]
            exact h1
          · rw [h4, spl_at hai hi' hc hfree, List.map_cons, List.append_assoc]
            congr 1
            have : s.extract a i = lb (((bl s).drop a).take (i - a)) := bl_inj (by rw [bl_extract]; rfl)
            rw [this]; rfl
        · obtain ⟨a', out', h1, h2, h3, h4⟩ := ih (i + 1) a out (by omega) (by omega) hout (by omega) (free_succ hai hi' hc hfree)
          refine ⟨a', out', ?_, h2, h3, h4⟩
          have g1 : (i : Int) < (s.size : Int) := by omega
          have g2 : (((bl s)[i].toNat : Int) == (c.toNat : Int)) = false := by
            rw [beq_eq_false_iff_ne]
            intro e
            exact hc (UInt8.toNat_inj.1 (by omega))
          simp only [lsl9Split_0, g1, g2, decide_true, cond_true, cond_false, Int.natCast_nonneg, Int.toNat_natCast, h, hb, hw]
          exact h1
      · have : i = s.size := by omega
        subst this
        refine ⟨a, out, ?_, by omega, by omega, ?_⟩
        · have g1 : ¬ ((s.size : Int) < (s.size : Int)) := by omega
          simp only [lsl9Split_0, g1, decide_false, cond_false]
        · have hf : c ∉ (bl s).drop a := by
            rwa [List.take_of_length_le (by simp; omega)] at hfree
          rw [spl_word hf]
          congr 2
          apply bl_inj
          rw [bl_extract, List.take_of_length_le (by simp; omega)]; rfl
  obtain ⟨a', out', h1, h2, h3, h4⟩ := key N 0 0 [] (Nat.le_refl _) (by omega) (by simp) (by omega) (by simp)
  simp only [Int.natCast_zero] at h1
  have g1 : (a' : Int) ≤ (s.size : Int) := by omega
  have g2 : out'.length + 1 ≤ lim := by omega
  simp only [List.nil_append, List.drop_zero] at h4
  simp only [Fsl9Split, h1, Option.bind_some, Int.natCast_nonneg, decide_true, cond_true, Int.le_refl, g1, Int.toNat_natCast, List.length_singleton, List.length_cons, List.length_nil, Nat.zero_add, g2, h4]
end

section
variable {N : Nat}
theorem FhItoa_ok {n : Int} (h1 : -9223372036854775808 ≤ n) (h2 : n < 9223372036854775808) : FhItoa N (n, ()) = some (lb (Lib.itoa n), ()) := by
  have h3 : n ≤ 9223372036854775807 := by omega
  simp only [FkItoa, h1, h3, decide_true, Bool.and_self, cond_true]; rfl
theorem Fhfigure_ok {s : ByteArray} (h : s.size ≤ lim) : Fhfigure N (s, ()) = some ((numL (bl s)).getD 0, (numL (bl s)).isSome, ()) := by
  have hlim : lim = 2147483648 := rfl
  have e := num_atoi (bl s)
  have hf : figF s = ((numL (bl s)).getD 0, (numL (bl s)).isSome) := by
    rw [← e]; unfold figF bl
    cases Lib.atoiAll s.data.toList <;> rfl
  have : s.size ≤ 281474976710656 := by omega
  simp only [Fifigure, this, decide_true, cond_true, hf]
theorem cut_spl {c : UInt8} (l : List UInt8) : Lib.cut l [c] = match spl c l with
    | [] => (l, [], false)
    | [_] => (l, [], false)
    | a :: b :: r => (a, Lib.join (b :: r) [c], true) := by
  unfold Lib.cut
  rcases spl_split c l with ⟨h, e⟩ | ⟨a, b, rfl, ha, e⟩
  · rw [e]
    have hm : Lib.index l [c] = -1 := by
      rcases Lib.index_spec l [c] with ⟨h1, _⟩ | ⟨i, h1, h2, h3, _⟩
      · exact h1
      · exfalso
        apply h
        have := h3
        simp only [Lib.occAt, List.isPrefixOf_iff_prefix] at this
        obtain ⟨t, ht⟩ := this
        have : c ∈ l.drop i := by rw [← ht]; simp
        exact List.mem_of_mem_drop this
    rw [if_neg (by omega)]
  · rw [e]
    have key : ∀ a : List UInt8, c ∉ a → Lib.index (a ++ c :: b) [c] = a.length := by
      intro a
      induction a with
      | nil => intro _; rw [List.nil_append, Lib.index]; simp [List.isPrefixOf]
      | cons x a ih =>
        intro hx
        have hne : c ≠ x := fun e => hx (by simp [e])
        have hp : ([c] : List UInt8).isPrefixOf (x :: (a ++ c :: b)) = false := by simp [List.isPrefixOf, hne]
        have := ih (fun h => hx (by simp [h]))
        rw [List.cons_append, Lib.index, hp, this]
        simp
    have hi := key a ha
    rw [if_pos (by omega), hi]
    rw [spl_cons]
    have hj := join_spl c b
    rw [spl_cons] at hj
    simp only [hj]
    simp
theorem FhCut_ok {s : ByteArray} {c : UInt8} (h : s.size ≤ lim) : FhCut N (s, ⟨#[c]⟩, ()) = some (match spl c (bl s) with
    | [] => (s, lb [], false, ())
    | [_] => (s, lb [], false, ())
    | a :: b :: r => (lb a, lb (Lib.join (b :: r) [c]), true, ())) := by
  have hlim : lim = 2147483648 := rfl
  have h' : s.size < 4294967281 := by omega
  have e : (⟨#[c]⟩ : ByteArray).data.toList = [c] := rfl
  have ec := cut_spl (c := c) (bl s)
  simp only [FkCut, h', decide_true, cond_true, e]
  rw [show s.data.toList = bl s from rfl, ec]
  cases hs : spl c (bl s) with
  | nil => exact absurd hs (spl_ne c _)
  | cons a r =>
    cases r with
    | nil => simp only []; rw [show (⟨(bl s).toArray⟩ : ByteArray) = s from lb_bl s]; rfl
    | cons b r => rfl
theorem FhSplit_ok {s : ByteArray} {c : UInt8} (h : s.size ≤ lim) : FhSplit N (s, ⟨#[c]⟩, ()) = some ((spl c (bl s)).map lb, ()) := by
  have hlim : lim = 2147483648 := rfl
  have h' : s.size < 4294967281 := by omega
  have e : 1 ≤ (⟨#[c]⟩ : ByteArray).size := Nat.le_refl 1
  simp only [FkSplit, h', e, decide_true, Bool.and_self, cond_true, splitB_spl]
theorem FhJoin_ok {xs : List ByteArray} {c : UInt8} (h1 : xs.length ≤ lim) (h2 : (Lib.join (xs.map bl) [c]).length ≤ lim) : FhJoin N (xs, ⟨#[c]⟩, ()) = some (lb (Lib.join (xs.map bl) [c]), ()) := by
  have hlim : lim = 2147483648 := rfl
  have e : joinF xs ⟨#[c]⟩ = lb (Lib.join (xs.map bl) [c]) := rfl
  have g1 : xs.length ≤ 140737488355328 := by omega
  have g2 : (lb (Lib.join (xs.map bl) [c])).size ≤ 140737488355328 := by rw [lb_size]; omega
  simp only [FkJoin, e, g1, g2, decide_true, Bool.and_self, cond_true]
end

theorem wf_u8 {n : Int} (h : (Lit.int .u8 n).wf = true) : 0 ≤ n ∧ n < 256 := by
  simp only [Lit.wf, IntKind.min, IntKind.max, IntKind.signed, IntKind.bits] at h
  simp at h
  omega
theorem wf_i64 {n : Int} (h : (Lit.int .i64 n).wf = true) : -9223372036854775808 ≤ n ∧ n < 9223372036854775808 := by
  simp only [Lit.wf, IntKind.min, IntKind.max, IntKind.signed, IntKind.bits] at h
  simp at h
  omega

/-- Rows of at most so many elements. -/
def lnT : (t : Ty) → t.den → Prop
  | .pair a b, x => lnT a x.1 ∧ lnT b x.2
  | .sl t, xs => xs.length ≤ 1048576 ∧ ∀ x ∈ xs, lnT t x
  | .fz t, x => lnT t x
  | _, _ => True

/-- Marks, one element behind the other. -/
def mkS {α : Type} (f : Int → α → Int × α) : Int → List α → Int × List α
  | k, [] => (k, [])
  | k, x :: r => ((mkS f (f k x).1 r).1, (f k x).2 :: (mkS f (f k x).1 r).2)

/-- Marks in an element. -/
def markE : (t : Ty) → Int → t.den → Int × t.den
  | .int _, k, _ => (k + 1, k)
  | .bool, k, _ => (k + 1, Int.tmod k 3 == 0)
  | .pair a b, k, x => ((markE b (markE a k x.1).1 x.2).1, ((markE a k x.1).2, (markE b (markE a k x.1).1 x.2).2))
  | .sl t, k, xs => mkS (markE t) k xs
  | .fz t, k, x => markE t k x
  | .str, k, x => (k, x)
  | .unit, k, x => (k, x)
  | .mp _, k, x => (k, x)
  | .hnd _, k, x => (k, x)

/-- So many marks at most. -/
def bndT : Ty → Int
  | .int _ | .bool => 1
  | .pair a b => bndT a + bndT b
  | .sl t => 1048576 * bndT t
  | .fz t => bndT t
  | _ => 0

theorem bndT_nn : ∀ t : Ty, 0 ≤ bndT t
  | .int _ | .bool => by simp [bndT]
  | .pair a b => by have := bndT_nn a; have := bndT_nn b; simp only [bndT]; omega
  | .sl t => by have := bndT_nn t; simp only [bndT]; omega
  | .fz t => by have := bndT_nn t; simp only [bndT]; omega
  | .str | .unit | .mp _ | .hnd _ => by simp [bndT]

theorem mkS_rng {α : Type} {f : Int → α → Int × α} {P : α → Prop} {B : Int} (hB : ∀ k x, P x → k ≤ (f k x).1 ∧ (f k x).1 ≤ k + B) : ∀ {xs : List α} (k : Int), (∀ x ∈ xs, P x) → k ≤ (mkS f k xs).1 ∧ (mkS f k xs).1 ≤ k + B * xs.length
  | [], k, _ => by simp [mkS]
  | x :: r, k, h => by
    have h1 := hB k x (h x (by simp))
    have h2 := mkS_rng hB (xs := r) (f k x).1 fun y hy => h y (by simp [hy])
    simp only [mkS, List.length_cons, Int.natCast_add, Int.natCast_one, Int.mul_add, Int.mul_one]
    omega

theorem mkS_len {α : Type} {f : Int → α → Int × α} : ∀ {xs : List α} (k : Int), (mkS f k xs).2.length = xs.length
  | [], _ => rfl
  | x :: r, k => by simp [mkS, mkS_len]

theorem markE_rng : ∀ {t : Ty} {x : t.den} (k : Int), lnT t x → k ≤ (markE t k x).1 ∧ (markE t k x).1 ≤ k + bndT t
  | .int _, _, _, _ | .bool, _, _, _ => by simp only [markE, bndT]; omega
  | .pair a b, x, k, h => by
    have h1 := markE_rng (t := a) (x := x.1) k h.1
    have h2 := markE_rng (t := b) (x := x.2) (markE a k x.1).1 h.2
    simp only [markE, bndT]; omega
  | .sl t, xs, k, h => by
    have h1 := mkS_rng (f := markE t) (P := lnT t) (B := bndT t) (fun k x hx => markE_rng k hx) (xs := xs) k h.2
    have h2 : bndT t * (xs.length : Int) ≤ bndT t * 1048576 := Int.mul_le_mul_of_nonneg_left (by have := h.1; omega) (bndT_nn t)
    simp only [markE, bndT]; omega
  | .fz t, x, k, h => markE_rng (t := t) (x := x) k h
  | .str, _, _, _ | .unit, _, _, _ | .mp _, _, _, _ | .hnd _, _, _, _ => by simp only [markE, bndT]; omega

/-- Marking goes element by element. -/
theorem mark_loop {α ρ : Type} {f : Int → α → Int × α} {P : α → Prop} {B : Int} {xs : List α} {L : Nat → Int → Nat → List α → Option ρ} {fin : Int → List α → ρ} (hl : xs.length ≤ lim) (hx : ∀ x ∈ xs, P x) (b0 : 0 ≤ B)
    (hB : ∀ k x, P x → k ≤ (f k x).1 ∧ (f k x).1 ≤ k + B)
    (h1 : ∀ n k i (s : List α) (h : i < s.length), P s[i] → 0 ≤ k → k + B ≤ 4611686018427387904 → w64 ((i : Int) + 1) = ((i + 1 : Nat) : Int) → L (n + 1) k i s = L n (f k s[i]).1 (i + 1) (s.set i (f k s[i]).2))
    (h3 : ∀ n k s, L (n + 1) k s.length s = some (fin k s)) {n : Nat} (hn : xs.length < n) {k : Int} (h0 : 0 ≤ k) (hk : k + B * xs.length ≤ 4611686018427387904) : L n k 0 xs = some (fin (mkS f k xs).1 (mkS f k xs).2) := by
  have key : ∀ (ys pre : List α) (n : Nat) (k : Int), (∀ x ∈ ys, P x) → pre.length + ys.length ≤ lim → ys.length < n → 0 ≤ k → k + B * ys.length ≤ 4611686018427387904 →
      L n k pre.length (pre ++ ys) = some (fin (mkS f k ys).1 (pre ++ (mkS f k ys).2)) := by
    intro ys
    induction ys with
    | nil =>
      intro pre n k _ _ hn _ _
      obtain ⟨n, rfl⟩ : ∃ n', n = n' + 1 := ⟨n - 1, by simp at hn; omega⟩
      have := h3 n k pre
      simpa [mkS] using this
    | cons y ys ih =>
      intro pre n k hy hl hn h0 hk
      obtain ⟨n, rfl⟩ : ∃ n', n = n' + 1 := ⟨n - 1, by simp at hn; omega⟩
      have hlim : lim = 2147483648 := rfl
      simp only [List.length_cons, Int.natCast_add, Int.natCast_one, Int.mul_add, Int.mul_one] at hl hn hk
      have b1 : 0 ≤ B * (ys.length : Int) := Int.mul_nonneg b0 (by omega)
      have hlt : pre.length < (pre ++ y :: ys).length := by simp
      have hg : (pre ++ y :: ys)[pre.length] = y := by simp
      have hPy := hy y (by simp)
      have h4 := hB k y hPy
      have := h1 n k pre.length (pre ++ y :: ys) hlt (by rw [hg]; exact hPy) h0 (by omega) (w64_succ (by omega))
      rw [this, hg]
      have e : (pre ++ y :: ys).set pre.length (f k y).2 = (pre ++ [(f k y).2]) ++ ys := by simp
      have := ih (pre ++ [(f k y).2]) n (f k y).1 (fun x hx => hy x (by simp [hx])) (by simp; omega) (by omega) (by omega) (by omega)
      simp only [List.length_append, List.length_singleton] at this
      rw [e, this]
      simp [mkS]
  have := key xs [] n k hx (by simpa using hl) hn h0 hk
  simpa using this

/-- What was marked is held. -/
theorem held_loop {α ρ : Type} {f : Int → α → Int × α} {P : α → Prop} {B : Int} {xs : List α} {L : Nat → List α → Int → Nat → Option ρ} {fin : Int → ρ} (hl : xs.length ≤ lim) (hx : ∀ x ∈ xs, P x) (b0 : 0 ≤ B)
    (hB : ∀ k x, P x → k ≤ (f k x).1 ∧ (f k x).1 ≤ k + B)
    (h1 : ∀ n k i (s : List α) (h : i < s.length) x, s[i] = (f k x).2 → P x → 0 ≤ k → k + B ≤ 4611686018427387904 → w64 ((i : Int) + 1) = ((i + 1 : Nat) : Int) → L (n + 1) s k i = L n s (f k x).1 (i + 1))
    (h3 : ∀ n k s, L (n + 1) s k s.length = some (fin k)) {n : Nat} (hn : xs.length < n) {k : Int} (h0 : 0 ≤ k) (hk : k + B * xs.length ≤ 4611686018427387904) : L n (mkS f k xs).2 k 0 = some (fin (mkS f k xs).1) := by
  have key : ∀ (ys pre : List α) (n : Nat) (k : Int), (∀ x ∈ ys, P x) → pre.length + ys.length ≤ lim → ys.length < n → 0 ≤ k → k + B * ys.length ≤ 4611686018427387904 →
      L n (pre ++ (mkS f k ys).2) k pre.length = some (fin (mkS f k ys).1) := by
    intro ys
    induction ys with
    | nil =>
      intro pre n k _ _ hn _ _
      obtain ⟨n, rfl⟩ : ∃ n', n = n' + 1 := ⟨n - 1, by simp at hn; omega⟩
      have := h3 n k pre
      simpa [mkS] using this
    | cons y ys ih =>
      intro pre n k hy hl hn h0 hk
      obtain ⟨n, rfl⟩ : ∃ n', n = n' + 1 := ⟨n - 1, by simp at hn; omega⟩
      have hlim : lim = 2147483648 := rfl
      simp only [List.length_cons, Int.natCast_add, Int.natCast_one, Int.mul_add, Int.mul_one] at hl hn hk
      have b1 : 0 ≤ B * (ys.length : Int) := Int.mul_nonneg b0 (by omega)
      have hPy := hy y (by simp)
      have h4 := hB k y hPy
      simp only [mkS]
      generalize hq : (mkS f (f k y).1 ys).2 = q
      have hlt : pre.length < (pre ++ (f k y).2 :: q).length := by simp
      have hg : (pre ++ (f k y).2 :: q)[pre.length] = (f k y).2 := by simp
      rw [h1 n k pre.length _ hlt y hg hPy h0 (by omega) (w64_succ (by omega))]
      have := ih (pre ++ [(f k y).2]) n (f k y).1 (fun x hx => hy x (by simp [hx])) (by simp; omega) (by omega) (by omega) (by omega)
      rw [hq] at this
      simp only [List.length_append, List.length_singleton, List.append_assoc, List.cons_append, List.nil_append] at this
      exact this
  have := key xs [] n k hx (by simpa using hl) hn h0 hk
  simpa using this

theorem getD_set_i {α : Type} {l : List α} {i : Nat} {x d : α} (h : i < l.length) : (l.set i x).getD i d = x := by
  rw [getD_lt (by simpa using h)]; exact List.getElem_set_self _

theorem ne_step {α : Type} [DecidableEq α] {a b : α} {c : Bool} : (_root_.cond (a != b) (some (false, ())) (some (c, ())) : Option (Bool × Unit)) = some (decide (a = b) && c, ()) := by
  by_cases h : a = b <;> simp [h]
theorem not_step {d c : Bool} : (_root_.cond (!d) (some (false, ())) (some (c, ())) : Option (Bool × Unit)) = some (d && c, ()) := by
  cases d <;> rfl
theorem bool_beq {a b : Bool} : (a == b) = decide (a = b) := by cases a <;> cases b <;> rfl

/-- A row's size. -/
theorem sz_loop {α : Type} {xs : List α} (P : α → Prop) {L : Nat → Nat → Int → Option ((Int × Unit) ⊕ (Int × Unit))} {N : Nat} (hN : lim < N) {left : Int} (hx : (xs.length : Int) ≤ 9223372036854775807) (h0 : 0 ≤ left) (h1' : left ≤ 1048576)
    (h1 : ∀ n i (h : i < xs.length) (left : Int), 0 ≤ left → left ≤ 1048576 → w64 ((i : Int) + 1) = ((i + 1 : Nat) : Int) →
      L (n + 1) i left = some (.inr (-1, ())) ∨ ∃ r, 0 ≤ r ∧ r ≤ left ∧ P xs[i] ∧ L (n + 1) i left = L n (i + 1) r)
    (h3 : ∀ n left, L (n + 1) xs.length left = some (.inl (left, ()))) :
    ∃ r : Int, (_root_.cond (decide (w64 (left - (xs.length : Int)) < 0)) (some ((-1 : Int), ())) ((L N 0 (w64 (left - (xs.length : Int)))).bind fun o => Sum.elim (fun o => some (o.1, ())) (fun o => some (o.1, ())) o) : Option (Int × Unit)) = some (r, ()) ∧
      (r < 0 ∨ (0 ≤ r ∧ r ≤ left ∧ xs.length ≤ 1048576 ∧ ∀ x ∈ xs, P x)) := by
  rw [w64_id (by omega) (by omega)]
  by_cases h : left - (xs.length : Int) < 0
  · exact ⟨-1, by simp [h], by simp⟩
  · simp only [h, decide_false, cond_false]
    have hlim : lim = 2147483648 := rfl
    rcases size_loop (xs := xs) (n := N) P (by omega) h1 h3 (by omega) (left := left - xs.length) (by omega) (by omega) with hL | ⟨r, h2, h3, h4, hL⟩
    · exact ⟨-1, by rw [hL]; rfl, by simp⟩
    · exact ⟨r, by rw [hL]; rfl, .inr ⟨h2, by omega, by omega, h4⟩⟩

abbrev tIntS : Ty := (.sl (.int .i64))
abbrev tBoolS : Ty := (.sl .bool)
abbrev tShape : Ty := (.pair (.int .i64) (.pair (.int .i64) .unit))
abbrev tOp : Ty := (.pair (.int .i64) (.pair (.int .i64) (.pair (.int .i64) (.pair (.int .i64) (.pair (.int .i64) (.pair (.int .i64) (.pair (.pair (.int .i64) (.pair (.int .i64) .unit)) .unit)))))))
abbrev tOpS : Ty := (.sl (.pair (.int .i64) (.pair (.int .i64) (.pair (.int .i64) (.pair (.int .i64) (.pair (.int .i64) (.pair (.int .i64) (.pair (.pair (.int .i64) (.pair (.int .i64) .unit)) .unit))))))))
abbrev tOpSS : Ty := (.sl (.sl (.pair (.int .i64) (.pair (.int .i64) (.pair (.int .i64) (.pair (.int .i64) (.pair (.int .i64) (.pair (.int .i64) (.pair (.pair (.int .i64) (.pair (.int .i64) .unit)) .unit)))))))))
abbrev tEvent : Ty := (.pair (.int .i64) (.pair (.int .i64) (.pair (.int .i64) (.pair (.int .i64) .unit))))
abbrev tEventS : Ty := (.sl (.pair (.int .i64) (.pair (.int .i64) (.pair (.int .i64) (.pair (.int .i64) .unit)))))
abbrev tRegion : Ty := (.pair (.int .i64) (.pair (.int .i64) (.pair (.int .i64) (.pair (.int .i64) (.pair (.int .i64) .unit)))))
abbrev tRegionS : Ty := (.sl (.pair (.int .i64) (.pair (.int .i64) (.pair (.int .i64) (.pair (.int .i64) (.pair (.int .i64) .unit))))))
abbrev tThread : Ty := (.pair (.sl (.int .i64)) (.pair (.int .i64) (.pair .bool (.pair (.int .i64) .unit))))
abbrev tThreadS : Ty := (.sl (.pair (.sl (.int .i64)) (.pair (.int .i64) (.pair .bool (.pair (.int .i64) .unit)))))
abbrev tState : Ty := (.pair (.sl (.int .i64)) (.pair (.sl (.pair (.int .i64) (.pair (.int .i64) (.pair (.int .i64) (.pair (.int .i64) (.pair (.int .i64) .unit)))))) (.pair (.sl .bool) (.pair (.int .i64) (.pair .bool (.pair .bool (.pair .bool (.pair (.int .i64) (.pair (.sl (.pair (.sl (.int .i64)) (.pair (.int .i64) (.pair .bool (.pair (.int .i64) .unit))))) (.pair (.sl (.int .i64)) (.pair (.sl (.int .i64)) (.pair (.int .i64) (.pair (.int .i64) .unit)))))))))))))
abbrev tConfig : Ty := (.pair (.int .i64) (.pair (.int .i64) (.pair (.int .i64) .unit)))
abbrev tCall : Ty := (.pair (.int .i64) (.pair (.int .i64) (.pair (.int .i64) (.pair (.int .i64) (.pair (.int .i64) (.pair (.int .i64) .unit))))))
abbrev tCallS : Ty := (.sl (.pair (.int .i64) (.pair (.int .i64) (.pair (.int .i64) (.pair (.int .i64) (.pair (.int .i64) (.pair (.int .i64) .unit)))))))
abbrev tNode : Ty := (.pair (.sl (.int .i64)) (.pair (.sl (.int .i64)) .unit))
abbrev tNodeS : Ty := (.sl (.pair (.sl (.int .i64)) (.pair (.sl (.int .i64)) .unit)))
abbrev tIntSS : Ty := (.sl (.sl (.int .i64)))
abbrev tGraph : Ty := (.pair (.sl (.pair (.sl (.int .i64)) (.pair (.sl (.int .i64)) .unit))) (.pair (.sl (.sl (.int .i64))) (.pair (.sl (.int .i64)) .unit)))
instance decOp_6 : DecidableEq ((Int × Int × Unit) × Unit) := @instDecidableEqProd _ _ inferInstance inferInstance
instance decOp_5 : DecidableEq (Int × ((Int × Int × Unit) × Unit)) := @instDecidableEqProd _ _ inferInstance decOp_6
instance decOp_4 : DecidableEq (Int × (Int × (Int × Int × Unit) × Unit)) := @instDecidableEqProd _ _ inferInstance decOp_5
instance decOp_3 : DecidableEq (Int × (Int × Int × (Int × Int × Unit) × Unit)) := @instDecidableEqProd _ _ inferInstance decOp_4
instance decOp_2 : DecidableEq (Int × (Int × Int × Int × (Int × Int × Unit) × Unit)) := @instDecidableEqProd _ _ inferInstance decOp_3
instance decOp_1 : DecidableEq (Int × (Int × Int × Int × Int × (Int × Int × Unit) × Unit)) := @instDecidableEqProd _ _ inferInstance decOp_2
instance decOp_0 : DecidableEq (Int × (Int × Int × Int × Int × Int × (Int × Int × Unit) × Unit)) := @instDecidableEqProd _ _ inferInstance decOp_1
instance decRegion_4 : DecidableEq (Int × Unit) := @instDecidableEqProd _ _ inferInstance inferInstance
instance decRegion_3 : DecidableEq (Int × (Int × Unit)) := @instDecidableEqProd _ _ inferInstance decRegion_4
instance decRegion_2 : DecidableEq (Int × (Int × Int × Unit)) := @instDecidableEqProd _ _ inferInstance decRegion_3
instance decRegion_1 : DecidableEq (Int × (Int × Int × Int × Unit)) := @instDecidableEqProd _ _ inferInstance decRegion_2
instance decRegion_0 : DecidableEq (Int × (Int × Int × Int × Int × Unit)) := @instDecidableEqProd _ _ inferInstance decRegion_1
instance decState_12 : DecidableEq (Int × Unit) := @instDecidableEqProd _ _ inferInstance inferInstance
instance decState_11 : DecidableEq (Int × (Int × Unit)) := @instDecidableEqProd _ _ inferInstance decState_12
instance decState_10 : DecidableEq ((List Int) × (Int × Int × Unit)) := @instDecidableEqProd _ _ inferInstance decState_11
instance decState_9 : DecidableEq ((List Int) × ((List Int) × Int × Int × Unit)) := @instDecidableEqProd _ _ inferInstance decState_10
instance decState_8 : DecidableEq ((List ((List Int) × Int × Bool × Int × Unit)) × ((List Int) × (List Int) × Int × Int × Unit)) := @instDecidableEqProd _ _ inferInstance decState_9
instance decState_7 : DecidableEq (Int × ((List ((List Int) × Int × Bool × Int × Unit)) × (List Int) × (List Int) × Int × Int × Unit)) := @instDecidableEqProd _ _ inferInstance decState_8
instance decState_6 : DecidableEq (Bool × (Int × (List ((List Int) × Int × Bool × Int × Unit)) × (List Int) × (List Int) × Int × Int × Unit)) := @instDecidableEqProd _ _ inferInstance decState_7
instance decState_5 : DecidableEq (Bool × (Bool × Int × (List ((List Int) × Int × Bool × Int × Unit)) × (List Int) × (List Int) × Int × Int × Unit)) := @instDecidableEqProd _ _ inferInstance decState_6
instance decState_4 : DecidableEq (Bool × (Bool × Bool × Int × (List ((List Int) × Int × Bool × Int × Unit)) × (List Int) × (List Int) × Int × Int × Unit)) := @instDecidableEqProd _ _ inferInstance decState_5
instance decState_3 : DecidableEq (Int × (Bool × Bool × Bool × Int × (List ((List Int) × Int × Bool × Int × Unit)) × (List Int) × (List Int) × Int × Int × Unit)) := @instDecidableEqProd _ _ inferInstance decState_4
instance decState_2 : DecidableEq ((List Bool) × (Int × Bool × Bool × Bool × Int × (List ((List Int) × Int × Bool × Int × Unit)) × (List Int) × (List Int) × Int × Int × Unit)) := @instDecidableEqProd _ _ inferInstance decState_3
instance decState_1 : DecidableEq ((List (Int × Int × Int × Int × Int × Unit)) × ((List Bool) × Int × Bool × Bool × Bool × Int × (List ((List Int) × Int × Bool × Int × Unit)) × (List Int) × (List Int) × Int × Int × Unit)) := @instDecidableEqProd _ _ inferInstance decState_2
instance decState_0 : DecidableEq ((List Int) × ((List (Int × Int × Int × Int × Int × Unit)) × (List Bool) × Int × Bool × Bool × Bool × Int × (List ((List Int) × Int × Bool × Int × Unit)) × (List Int) × (List Int) × Int × Int × Unit)) := @instDecidableEqProd _ _ inferInstance decState_1
instance decCall_5 : DecidableEq (Int × Unit) := @instDecidableEqProd _ _ inferInstance inferInstance
instance decCall_4 : DecidableEq (Int × (Int × Unit)) := @instDecidableEqProd _ _ inferInstance decCall_5
instance decCall_3 : DecidableEq (Int × (Int × Int × Unit)) := @instDecidableEqProd _ _ inferInstance decCall_4
instance decCall_2 : DecidableEq (Int × (Int × Int × Int × Unit)) := @instDecidableEqProd _ _ inferInstance decCall_3
instance decCall_1 : DecidableEq (Int × (Int × Int × Int × Int × Unit)) := @instDecidableEqProd _ _ inferInstance decCall_2
instance decCall_0 : DecidableEq (Int × (Int × Int × Int × Int × Int × Unit)) := @instDecidableEqProd _ _ inferInstance decCall_1

section
variable {N : Nat} (hN : lim < N)
include hN

theorem weqShape_ok {x y : (Int × Int × Unit)} (hx : lnT tShape x) : FveqShape N (x, y, ()) = some (decide (x = y), ()) := by
  obtain ⟨xa, xb, ⟨⟩⟩ := x
  obtain ⟨ya, yb, ⟨⟩⟩ := y
  simp only [FveqShape, Option.bind_some, ne_step, not_step, bool_beq]
  simp only [Prod.mk.injEq, Bool.decide_and, and_true, Bool.and_true, decide_true]
end

section
variable {N : Nat} (hN : lim < N)
include hN

theorem weqOp_ok {x y : (Int × Int × Int × Int × Int × Int × (Int × Int × Unit) × Unit)} (hx : lnT tOp x) : FveqOp N (x, y, ()) = some (decide (x = y), ()) := by
  obtain ⟨xa, xb, xc, xd, xe, xf, ⟨xga, xgb, ⟨⟩⟩, ⟨⟩⟩ := x
  obtain ⟨ya, yb, yc, yd, ye, yf, ⟨yga, ygb, ⟨⟩⟩, ⟨⟩⟩ := y
  simp only [FveqOp, Option.bind_some, weqShape_ok hN hx.2.2.2.2.2.2.1, ne_step, not_step, bool_beq]
  simp only [Prod.mk.injEq, Bool.decide_and, and_true, Bool.and_true, decide_true]
end

section
variable {N : Nat}
variable (hN : lim < N)
include hN
theorem qfigures_loop {w : List ByteArray} (hw : w.length ≤ lim) (hx : ∀ x ∈ w, x.size ≤ lim) : ∀ n i (out : List Int), i ≤ w.length → w.length - i < n → out.length = i →
    lqfigures_0 N n (w, (w.length : Int), (i : Int), out, ()) = match numsL ((w.drop i).map bl) with
      | some vs => some (.inl (out ++ vs, ()))
      | none => some (.inr (false, [], ())) := by
  intro n
  induction n with
  | zero => intro i out _ h; exact absurd h (Nat.not_lt_zero _)
  | succ n ih =>
    intro i out hi hn ho
    have hlim : lim = 2147483648 := rfl
    by_cases h : i < w.length
    · have g1 : (i : Int) < (w.length : Int) := by omega
      have w1 : w64 ((i : Int) + 1) = ((i + 1 : Nat) : Int) := w64_succ (by omega)
      have hnum := Fhfigure_ok (N := N) (hx w[i] (List.getElem_mem h))
      rw [drop_at h, List.map_cons, numsL]
      cases hv : numL (bl w[i]) with
      | none =>
        rw [hv] at hnum
        simp only [lqfigures_0, g1, decide_true, cond_true, Int.natCast_nonneg, Int.toNat_natCast, h, getD_lt h, hnum, Option.bind_some, Option.isSome_none, Bool.not_false, Option.bind_none]
      | some v =>
        rw [hv] at hnum
        have := ih (i + 1) (out ++ [v]) (by omega) (by omega) (by simp [ho])
        have g2 : out.length + 1 ≤ lim := by omega
        simp only [lqfigures_0, g1, decide_true, cond_true, Int.natCast_nonneg, Int.toNat_natCast, h, getD_lt h, hnum, Option.bind_some, Option.isSome_some, Bool.not_true, cond_false, Option.getD_some, List.length_cons, List.length_nil, Nat.zero_add, g2, w1]
        rw [this]
        cases numsL ((w.drop (i + 1)).map bl) with
        | none => rfl
        | some vs => simp
    · have : i = w.length := by omega
      subst this
      have g1 : ¬ ((w.length : Int) < (w.length : Int)) := by omega
      simp [lqfigures_0, numsL]
theorem qfigures_ok {w : List ByteArray} (hw : w.length ≤ lim) (hx : ∀ x ∈ w, x.size ≤ lim) : Fqfigures N (w, ()) = some ((numsL (w.map bl)).isSome, (numsL (w.map bl)).getD [], ()) := by
  have := qfigures_loop hN hw hx N 0 [] (by omega) (by omega) rfl
  simp only [Int.natCast_zero, List.drop_zero, List.nil_append] at this
  simp only [Fqfigures, this]
  cases numsL (w.map bl) with
  | none => rfl
  | some vs => rfl
omit hN in
theorem lnOp (o : OpD) : lnT tOp o := ⟨trivial, trivial, trivial, trivial, trivial, trivial, ⟨trivial, trivial, trivial⟩, trivial⟩
omit hN in
def kindFrom : Nat → Nat → List UInt8 → Nat
  | 0, _, _ => 0
  | f + 1, k, w => if kWord k = w then k else kindFrom f (k + 1) w
omit hN in
theorem kindFrom_of (w : List UInt8) : kindFrom 11 1 w = kindOf w := by
  unfold kindOf
  simp only [kindFrom, eq_comm (a := w)]
/-- An operation of words. -/
def opW (w : List UInt8) (r : List (List UInt8)) : List Int × Bool := match numsL r with
  | some ns => opL9 w ns
  | none => (zeros8, false)
theorem opOfK_ok {w : ByteArray} {r : List ByteArray} (hw : r.length ≤ lim) (hx : ∀ x ∈ r, x.size ≤ lim) : ∀ f k, 1 ≤ k → opOfK N (w :: r) f k = some (
    if kindFrom f k (bl w) = 0 then (zeros8, false) else match numsL (r.map bl) with
      | some ns => if ns.length = (kOffs (kindFrom f k (bl w))).length then (fillL (kindFrom f k (bl w)) ns, true) else (zeros8, false)
      | none => (zeros8, false)) := by
  intro f
  induction f with
  | zero => intro k _; simp [opOfK, kindFrom]
  | succ f ih =>
    intro k hk
    rw [opOfK, kindFrom]
    have hh : (w :: r).headD ByteArray.empty = w := rfl
    rw [hh, bl_toList]
    by_cases he : kWord k = bl w
    · have hb : (kWord k == bl w) = true := by simpa using he
      rw [if_pos hb, if_pos he, if_neg (by omega)]
      have hd : (w :: r).drop 1 = r := rfl
      rw [hd, qfigures_ok hN hw hx]
      cases numsL (r.map bl) with
      | none => simp
      | some ns =>
        simp only [Option.isSome_some, Option.getD_some, true_and]
        split <;> rfl
    · have hb : ¬ (kWord k == bl w) = true := by simpa using he
      rw [if_neg hb, if_neg he]
      exact ih (k + 1) (by omega)
theorem hopOf_ok {w : ByteArray} {r : List ByteArray} (hw : r.length ≤ lim) (hx : ∀ x ∈ r, x.size ≤ lim) : FhopOf N (w :: r, ()) = some (opD (opW (bl w) (r.map bl)).1, (opW (bl w) (r.map bl)).2, ()) := by
  have h := opOfK_ok hN (w := w) hw hx 11 1 (Nat.le_refl _)
  rw [kindFrom_of] at h
  have hl : 0 < (w :: r).length := by simp
  simp only [FhopOf, hl, decide_true, cond_true, h, Option.map_some]
  have e : (if kindOf (bl w) = 0 then (zeros8, false) else match numsL (r.map bl) with
      | some ns => if ns.length = (kOffs (kindOf (bl w))).length then (fillL (kindOf (bl w)) ns, true) else (zeros8, false)
      | none => (zeros8, false)) = opW (bl w) (r.map bl) := by
    unfold opW opL9
    cases numsL (r.map bl) with
    | none => simp
    | some ns =>
      by_cases h0 : kindOf (bl w) = 0
      · simp [h0]
      · simp [h0]
  rw [e]
/-- The operation of a text. -/
def opR (t : List UInt8) : List Int × Bool := match spl 32 t with
  | [] => (zeros8, false)
  | w :: r => if (opW w r).2 = true ∧ okOp (opD (opW w r).1) = true then opW w r else (zeros8, false)
omit hN in
theorem numL_len {s : List UInt8} {v : Int} (h : numL s = some v) : s.length ≤ 10 := by
  unfold numL at h
  split at h
  · split at h
    · rename_i hk
      have := (numOk_iff.1 hk).2.1
      cases s with
      | nil => simp
      | cons c r => simp at this ⊢; omega
    · cases h
  · split at h
    · rename_i hk
      have := (numOk_iff.1 hk).2.1; omega
    · cases h
omit hN in
theorem numsL_len : ∀ {r : List (List UInt8)} {ns : List Int}, numsL r = some ns → ns.length = r.length ∧ ∀ x ∈ r, x.length ≤ 10
  | [], ns, h => by simp [numsL] at h; subst h; simp
  | s :: r, ns, h => by
    simp only [numsL, Option.bind_eq_some_iff, Option.map_eq_some_iff] at h
    obtain ⟨v, hv, vs, hvs, rfl⟩ := h
    obtain ⟨h1, h2⟩ := numsL_len hvs
    refine ⟨by simp [h1], fun x hx => ?_⟩
    rcases List.mem_cons.1 hx with rfl | hx
    · exact numL_len hv
    · exact h2 x hx
omit hN in
theorem opW_true {w : List UInt8} {r : List (List UInt8)} (h : (opW w r).2 = true) : w.length ≤ 5 ∧ r.length ≤ 4 ∧ ∀ x ∈ r, x.length ≤ 10 := by
  unfold opW at h
  cases hn : numsL r with
  | none => rw [hn] at h; simp at h
  | some ns =>
    rw [hn] at h
    obtain ⟨h1, h2⟩ := numsL_len hn
    simp only [opL9] at h
    split at h
    · rename_i hc
      have hw := kindOf_ne hc.1
      have := kWord_len (kindOf w)
      rw [hw] at this
      have := kOffs_len (kindOf w)
      exact ⟨by omega, by omega, h2⟩
    · simp at h
omit hN in
theorem joinLen32 {K : Nat} : ∀ ps : List (List UInt8), (∀ x ∈ ps, x.length ≤ K) → (Lib.join ps [32]).length ≤ ps.length * (K + 1)
  | [], _ => by simp [Lib.join_nil]
  | [x], h => by rw [Lib.join_one]; have := h x (by simp); simp; omega
  | x :: y :: r, h => by
    rw [join_cons2]
    have h1 := h x (by simp)
    have h2 := joinLen32 (y :: r) (fun z hz => h z (List.mem_cons_of_mem _ hz))
    simp only [List.length_append, List.length_cons, Nat.add_mul, Nat.one_mul] at h2 ⊢
    omega
omit hN in
theorem opR_long {t : List UInt8} (h : 4000 < t.length) : opR t = (zeros8, false) := by
  unfold opR
  cases hs : spl 32 t with
  | nil => rfl
  | cons w r =>
    simp only []
    split
    · rename_i hc
      exfalso
      obtain ⟨h1, h2, h3⟩ := opW_true hc.1
      have hj := join_spl 32 t
      rw [hs] at hj
      have := joinLen32 (K := 10) (w :: r) (fun x hx => by
        rcases List.mem_cons.1 hx with rfl | hx
        · omega
        · exact h3 x hx)
      rw [hj] at this
      simp only [List.length_cons] at this
      omega
    · rfl
theorem sOpRead_ok {s : ByteArray} : FsOpRead N (s, ()) = some (tup8 (opR (bl s))) := by
  have hlim : lim = 2147483648 := rfl
  have hlen := bl_len s
  by_cases h : (s.size : Int) > 4000
  · rw [opR_long (by omega)]
    simp only [FsOpRead, h, decide_true, cond_true]; rfl
  · have hsp := sl9Split_ok hN (s := s) (c := 32) (k := 32) rfl (by omega)
    have hl := spl_len (32 : UInt8) (bl s)
    unfold opR
    cases hs : spl 32 (bl s) with
    | nil => exact absurd hs (spl_ne _ _)
    | cons w r =>
      rw [hs] at hsp hl
      simp only [List.length_cons] at hl
      have hm : ((r.map lb)).map bl = r := by
        rw [List.map_map]; have : (bl ∘ lb) = id := by funext x; rfl
        rw [this, List.map_id]
      have hnu := sl9Nums_ok hN (w := r.map lb) (by simp; omega)
      rw [hm] at hnu
      have hd : (((w :: r).map lb).drop (Int.toNat 1)).take ((((w :: r).map lb).length : Int).toNat - Int.toNat 1) = r.map lb := by
        rw [show Int.toNat 1 = 1 from rfl, Int.toNat_natCast, List.map_cons, List.drop_one, List.tail_cons]
        exact List.take_of_length_le (by simp)
      have hw0 : ((w :: r).map lb).getD (Int.toNat 0) ByteArray.empty = lb w := rfl
      have g1 : (1 : Int) ≤ (((w :: r).map lb).length : Int) := by simp; omega
      have g2 : Int.toNat 0 < ((w :: r).map lb).length := by simp
      cases hv : numsL r with
      | none =>
        rw [hv] at hnu
        have ho : opW w r = (zeros8, false) := by unfold opW; rw [hv]
        simp only [ho]
        rw [if_neg (by simp)]
        simp only [FsOpRead, h, decide_false, cond_false, hsp, Option.bind_some, Int.natCast_nonneg, decide_true, cond_true, Int.le_refl, show (0 : Int) ≤ 1 by omega, g1, hd, hnu, Option.isSome_none, Bool.not_false]
        rfl
      | some ns =>
        rw [hv] at hnu
        have ho : opW w r = opL9 w ns := by unfold opW; rw [hv]
        have h9 := sl9Op_ok (N := N) (lb w) ns
        rw [bl_lb, ← ho] at h9
        simp only []
        generalize opW w r = q at h9 ⊢
        obtain ⟨l, b⟩ := q
        cases b with
        | false =>
          rw [if_neg (by simp)]
          simp only [FsOpRead, h, decide_false, cond_false, hsp, Option.bind_some, Int.natCast_nonneg, decide_true, cond_true, Int.le_refl, show (0 : Int) ≤ 1 by omega, g1, g2, hd, hnu, Option.isSome_some, Bool.not_true, Option.getD_some, hw0, h9, tup8, Bool.not_false]
          rfl
        | true =>
          have hok := sOpOk_ok2 (N := N) (opD l)
          simp only [opD] at hok
          by_cases hc : okOp (opD l) = true
          · rw [if_pos ⟨rfl, hc⟩]
            simp only [opD] at hc
            rw [hc] at hok
            simp only [FsOpRead, h, decide_false, cond_false, hsp, Option.bind_some, Int.natCast_nonneg, decide_true, cond_true, Int.le_refl, show (0 : Int) ≤ 1 by omega, g1, g2, hd, hnu, Option.isSome_some, Bool.not_true, Option.getD_some, hw0, h9, tup8, hok]
          · rw [if_neg (fun e => hc e.2)]
            simp only [opD, Bool.not_eq_true] at hc
            rw [hc] at hok
            simp only [FsOpRead, h, decide_false, cond_false, hsp, Option.bind_some, Int.natCast_nonneg, decide_true, cond_true, Int.le_refl, show (0 : Int) ≤ 1 by omega, g1, g2, hd, hnu, Option.isSome_some, Bool.not_true, Option.getD_some, hw0, h9, tup8, hok, Bool.not_false]
            rfl
theorem iOpRead_ok {s : ByteArray} (hsz : s.size < lim) : FiOpRead N (s, ()) = some (tup8 (opR (bl s))) := by
  have hlim : lim = 2147483648 := rfl
  have hlen := bl_len s
  have hsp := FhSplit_ok (N := N) (s := s) (c := 32) (by omega)
  have hl := spl_len (32 : UInt8) (bl s)
  have he := spl_each (32 : UInt8) (bl s)
  unfold opR
  cases hs : spl 32 (bl s) with
  | nil => exact absurd hs (spl_ne _ _)
  | cons w r =>
    rw [hs] at hsp hl he
    simp only [List.length_cons] at hl
    have hm : ((r.map lb)).map bl = r := by
      rw [List.map_map]; have : (bl ∘ lb) = id := by funext x; rfl
      rw [this, List.map_id]
    have ho := hopOf_ok hN (w := lb w) (r := r.map lb) (by simp; omega) (fun x hx => by
      obtain ⟨y, hy, rfl⟩ := List.mem_map.1 hx
      rw [lb_size]; have := he y (List.mem_cons_of_mem _ hy); omega)
    rw [hm, bl_lb] at ho
    simp only []
    generalize opW w r = q at ho ⊢
    obtain ⟨l, b⟩ := q
    rw [List.map_cons] at hsp
    cases b with
    | false =>
      rw [if_neg (by simp)]
      simp only [FiOpRead, hsp, ho, Option.bind_some, Bool.not_false, cond_true]
      rfl
    | true =>
      have hok := iOpOk_ok2 (N := N) (opD l)
      simp only [opD] at hok ho
      by_cases hc : okOp (opD l) = true
      · rw [if_pos ⟨rfl, hc⟩]
        simp only [opD] at hc
        rw [hc] at hok
        simp only [FiOpRead, hsp, ho, Option.bind_some, Bool.not_true, cond_false, hok, tup8]
      · rw [if_neg (fun e => hc e.2)]
        simp only [opD, Bool.not_eq_true] at hc
        rw [hc] at hok
        simp only [FiOpRead, hsp, ho, Option.bind_some, Bool.not_true, Bool.not_false, cond_true, cond_false, hok]
        rfl
end

section
variable {N : Nat}
theorem cutSuf_ok {s : ByteArray} {c : UInt8} (hs : s.size ≤ lim) : Fstrings_CutSuffix N (s, ⟨#[c]⟩, ()) = some (if (bl s).getLast? = some c then (lb (bl s).dropLast, true, ()) else (s, false, ())) := by
  have hlim : lim = 2147483648 := rfl
  have hlen := bl_len s
  have hc1 : (⟨#[c]⟩ : ByteArray).size = 1 := rfl
  have hcb : bl (⟨#[c]⟩ : ByteArray) = [c] := rfl
  have hH : Finternal_stringslite_HasSuffix N (s, ⟨#[c]⟩, ()) = some (decide ((bl s).getLast? = some c), ()) := by
    by_cases h : (s.size : Int) ≥ ((1 : Nat) : Int)
    · have w : w64 ((s.size : Int) - ((1 : Nat) : Int)) = ((s.size - 1 : Nat) : Int) := by rw [w64_id (by omega) (by omega)]; omega
      have g : ((s.size - 1 : Nat) : Int) ≤ (s.size : Int) := by omega
      have hx : bl (s.extract (s.size - 1) s.size) = (bl s).drop (s.size - 1) := by
        rw [bl_extract, List.take_of_length_le (by simp; omega)]
      have hne : bl s ≠ [] := fun e => by rw [e] at hlen; simp at hlen; omega
      have hd : (bl s).drop (s.size - 1) = [(bl s).getLast hne] := by
        have e := List.dropLast_concat_getLast hne
        have hl2 : (bl s).dropLast.length = s.size - 1 := by simp; omega
        conv => lhs; rw [← e]
        rw [← hl2, List.drop_left]
      simp only [Finternal_stringslite_HasSuffix, hc1, h, decide_true, cond_true, w, Int.natCast_nonneg, Int.le_refl, g, Int.toNat_natCast, ba_beq, hx, hcb, hd, List.getLast?_eq_some_getLast hne]
      congr 2
      simp
    · have h0 : bl s = [] := List.length_eq_zero_iff.1 (by omega)
      simp only [Finternal_stringslite_HasSuffix, hc1, h, decide_false, cond_false, h0, List.getLast?_nil]
      rfl
  by_cases h : (bl s).getLast? = some c
  · have hne : bl s ≠ [] := fun e => by rw [e] at h; simp at h
    have hp : 1 ≤ s.size := by
      have : (bl s).length ≠ 0 := fun e => hne (List.length_eq_zero_iff.1 e)
      omega
    have w : w64 ((s.size : Int) - ((1 : Nat) : Int)) = ((s.size - 1 : Nat) : Int) := by rw [w64_id (by omega) (by omega)]; omega
    have g : ((s.size - 1 : Nat) : Int) ≤ (s.size : Int) := by omega
    have hx : s.extract (Int.toNat 0) (s.size - 1) = lb (bl s).dropLast := bl_inj (by
      rw [bl_extract, bl_lb, List.dropLast_eq_take, hlen]; simp)
    rw [if_pos h]
    simp only [Fstrings_CutSuffix, Finternal_stringslite_CutSuffix, hH, h, decide_true, Bool.not_true, cond_false, cond_true, hc1, w, Int.natCast_nonneg, g, Int.le_refl, Int.toNat_natCast, hx, Option.bind_some]
  · rw [if_neg h]
    simp only [Fstrings_CutSuffix, Finternal_stringslite_CutSuffix, hH, h, decide_false, Bool.not_false, cond_true, Option.bind_some]
end
theorem spl_snoc (c : UInt8) : ∀ l : List UInt8, spl c (l ++ [c]) = spl c l ++ [[]]
  | [] => by simp [spl]
  | b :: l => by
    have ih := spl_snoc c l
    rw [List.cons_append, spl, spl]
    split
    · rw [ih]; rfl
    · rw [ih]
      have := spl_cons c l
      generalize (spl c l).headD [] = x at this
      generalize (spl c l).tail = y at this
      rw [this]; rfl
theorem spl_last {c : UInt8} : ∀ {l : List UInt8}, l ≠ [] → l.getLast? ≠ some c → (spl c l).getLast? ≠ some []
  | [], h, _ => absurd rfl h
  | [b], _, h => by
    have : b ≠ c := fun e => h (by simp [e])
    simp [spl, this]
  | b :: d :: l, _, h => by
    have ih := spl_last (c := c) (l := d :: l) (by simp) (by simpa using h)
    rw [spl]
    have hc := spl_cons c (d :: l)
    split
    · rw [hc] at ih ⊢
      simpa using ih
    · rw [hc] at ih
      cases ht : (spl c (d :: l)).tail with
      | nil => simp
      | cons x r =>
        rw [ht] at ih
        simpa using ih

def progL : List (List UInt8) → Option (List OpD)
  | [] => some []
  | x :: r => if (opR x).2 = true then (progL r).map (opD (opR x).1 :: ·) else none
theorem progL_len : ∀ {ls : List (List UInt8)} {os : List OpD}, progL ls = some os → os.length = ls.length
  | [], os, h => by simp [progL] at h; subst h; rfl
  | x :: r, os, h => by
    rw [progL] at h
    split at h
    · obtain ⟨q, hq, rfl⟩ := Option.map_eq_some_iff.1 h
      simp [progL_len hq]
    · cases h
/-- The operations of a text. -/
def progR (t : List UInt8) : Option (List OpD) := if 4000 < t.length ∨ (spl 10 t).getLast? ≠ some [] ∨ 41 < (spl 10 t).length then none else progL (spl 10 t).dropLast
theorem progR_len {t : List UInt8} {os : List OpD} (h : progR t = some os) : os.length ≤ 40 := by
  unfold progR at h
  split at h
  · cases h
  · rename_i hc
    have := progL_len h
    rw [List.length_dropLast] at this
    omega
section
variable {N : Nat} (hN : lim < N)
include hN
theorem sProg_loop {ls : List (List UInt8)} (hl : 1 ≤ ls.length ∧ ls.length ≤ 41) : ∀ n i (out : List OpD), i + 1 ≤ ls.length → ls.length - i < n + 1 → out.length = i →
    lsProgRead_0 N n ((i : Int), ls.map lb, out, ()) = match progL (ls.dropLast.drop i) with
      | some r => some (.inl (out ++ r, ()))
      | none => some (.inr (false, [], ())) := by
  have hlim : lim = 2147483648 := rfl
  intro n
  induction n with
  | zero => intro i out h1 h2; exact absurd h2 (by omega)
  | succ n ih =>
    intro i out h1 h2 ho
    have w1 : w64 ((i : Int) + 1) = ((i + 1 : Nat) : Int) := w64_succ (by omega)
    have hm : (ls.map lb).length = ls.length := by simp
    by_cases h : i + 1 < ls.length
    · have g1 : ((i + 1 : Nat) : Int) < ((ls.map lb).length : Int) := by rw [hm]; omega
      have g2 : i < (ls.map lb).length := by rw [hm]; omega
      have hd : i < ls.dropLast.length := by simp; omega
      have hx : ls.dropLast[i] = ls[i] := by rw [List.getElem_dropLast]
      have e1 : (ls.map lb).getD i ByteArray.empty = lb ls[i] := by rw [getD_lt g2]; simp
      have hr := sOpRead_ok hN (s := lb ls[i])
      rw [bl_lb] at hr
      rw [drop_at hd, progL, hx]
      generalize opR ls[i] = q at hr ⊢
      obtain ⟨l, b⟩ := q
      simp only [tup8] at hr
      cases b with
      | false =>
        rw [if_neg (by simp)]
        simp only [lsProgRead_0, w1, g1, decide_true, cond_true, Int.natCast_nonneg, Int.toNat_natCast, g2, e1, hr, Option.bind_some, Bool.not_false]
      | true =>
        rw [if_pos rfl]
        have := ih (i + 1) (out ++ [opD l]) (by omega) (by omega) (by simp [ho])
        have g3 : out.length + 1 ≤ lim := by omega
        simp only [lsProgRead_0, w1, g1, decide_true, cond_true, Int.natCast_nonneg, Int.toNat_natCast, g2, e1, hr, Option.bind_some, Bool.not_true, cond_false, List.length_cons, List.length_nil, Nat.zero_add, g3]
        refine Eq.trans this ?_
        cases progL (ls.dropLast.drop (i + 1)) with
        | none => rfl
        | some r => simp
    · have g1 : ¬ (((i + 1 : Nat) : Int) < ((ls.map lb).length : Int)) := by rw [hm]; omega
      have hd : ls.dropLast.drop i = [] := List.drop_eq_nil_of_le (by simp; omega)
      rw [hd, progL]
      simp only [lsProgRead_0, w1, g1, decide_false, cond_false, List.append_nil]
theorem iProg_loop {ls : List (List UInt8)} (hl : ls.length ≤ 41) (hx : ∀ x ∈ ls, x.length ≤ 5000) : ∀ n i (out : List OpD), i ≤ ls.length → ls.length - i < n → out.length = i →
    liProgRead_0 N n ((ls.length : Int), (i : Int), out, ls.map lb, ()) = match progL (ls.drop i) with
      | some r => some (.inl (out ++ r, ()))
      | none => some (.inr (false, [], ())) := by
  have hlim : lim = 2147483648 := rfl
  intro n
  induction n with
  | zero => intro i out h1 h2; exact absurd h2 (by omega)
  | succ n ih =>
    intro i out h1 h2 ho
    have w1 : w64 ((i : Int) + 1) = ((i + 1 : Nat) : Int) := w64_succ (by omega)
    have hm : (ls.map lb).length = ls.length := by simp
    by_cases h : i < ls.length
    · have g1 : (i : Int) < (ls.length : Int) := by omega
      have g2 : i < (ls.map lb).length := by rw [hm]; omega
      have e1 : (ls.map lb).getD i ByteArray.empty = lb ls[i] := by rw [getD_lt g2]; simp
      have hr := iOpRead_ok hN (s := lb ls[i]) (by rw [lb_size]; have := hx _ (List.getElem_mem h); omega)
      rw [bl_lb] at hr
      rw [drop_at h, progL]
      generalize opR ls[i] = q at hr ⊢
      obtain ⟨l, b⟩ := q
      simp only [tup8] at hr
      cases b with
      | false =>
        rw [if_neg (by simp)]
        simp only [liProgRead_0, g1, decide_true, cond_true, Int.natCast_nonneg, Int.toNat_natCast, g2, e1, hr, Option.bind_some, Bool.not_false]
      | true =>
        rw [if_pos rfl]
        have := ih (i + 1) (out ++ [opD l]) (by omega) (by omega) (by simp [ho])
        have g3 : out.length + 1 ≤ lim := by omega
        simp only [liProgRead_0, w1, g1, decide_true, cond_true, Int.natCast_nonneg, Int.toNat_natCast, g2, e1, hr, Option.bind_some, Bool.not_true, cond_false, List.length_cons, List.length_nil, Nat.zero_add, g3]
        refine Eq.trans this ?_
        cases progL (ls.drop (i + 1)) with
        | none => rfl
        | some r => simp
    · have : i = ls.length := by omega
      subst this
      have g1 : ¬ ((ls.length : Int) < (ls.length : Int)) := by omega
      simp only [liProgRead_0, g1, decide_false, cond_false, List.drop_length, progL, List.append_nil]
theorem sProgRead_ok {s : ByteArray} : FsProgRead N (s, ()) = some ((progR (bl s)).isSome, (progR (bl s)).getD [], ()) := by
  have hlim : lim = 2147483648 := rfl
  have hlen := bl_len s
  unfold progR
  by_cases h : (s.size : Int) > 4000
  · rw [if_pos (.inl (by omega))]
    simp only [FsProgRead, h, decide_true, cond_true]; rfl
  · have hsp := sl9Split_ok hN (s := s) (c := 10) (k := 10) rfl (by omega)
    have hl := spl_len (10 : UInt8) (bl s)
    have hne := spl_ne (10 : UInt8) (bl s)
    generalize spl 10 (bl s) = ls at hsp hl hne ⊢
    have hlp : 1 ≤ ls.length := by
      have : ls.length ≠ 0 := fun e => hne (List.length_eq_zero_iff.1 e)
      omega
    have hm : (ls.map lb).length = ls.length := by simp
    have w1 : w64 ((ls.length : Int) - 1) = ((ls.length - 1 : Nat) : Int) := by rw [w64_id (by omega) (by omega)]; omega
    have g2 : ls.length - 1 < (ls.map lb).length := by rw [hm]; omega
    have g2' : ls.length - 1 < ls.length := by omega
    have ce : bl (ByteArray.mk #[]) = [] := rfl
    have hlast : ls.getLast? = some (ls[ls.length - 1]'(by omega)) := by rw [List.getLast?_eq_getElem?, List.getElem?_eq_getElem]
    have e1 : (ls.map lb).getD (ls.length - 1) ByteArray.empty = lb (ls[ls.length - 1]'(by omega)) := by rw [getD_lt g2]; simp
    rw [hlast]
    by_cases hz : ls[ls.length - 1]'(by omega) = []
    · by_cases hbig : 41 < ls.length
      · rw [if_pos (.inr (.inr hbig))]
        have g3 : ((ls.length - 1 : Nat) : Int) > 40 := by omega
        simp only [FsProgRead, h, decide_false, cond_false, hsp, Option.bind_some, hm, w1, Int.natCast_nonneg, decide_true, cond_true, Int.toNat_natCast, g2, g2', e1, ba_beq, bl_lb, ce, hz, Bool.not_true, g3, Sum.elim_inr]
        rfl
      · rw [if_neg (by rw [hz]; simp; omega)]
        have g3 : ¬ ((ls.length - 1 : Nat) : Int) > 40 := by omega
        have hloop := sProg_loop hN (ls := ls) ⟨hlp, by omega⟩ N 0 [] (by omega) (by omega) rfl
        simp only [Int.natCast_zero, List.drop_zero, List.nil_append] at hloop
        simp only [FsProgRead, h, decide_false, cond_false, hsp, Option.bind_some, hm, w1, Int.natCast_nonneg, decide_true, cond_true, Int.toNat_natCast, g2, g2', e1, ba_beq, bl_lb, ce, hz, Bool.not_true, g3, Sum.elim_inl, hloop]
        cases progL ls.dropLast with
        | none => rfl
        | some r => rfl
    · rw [if_pos (.inr (.inl (fun e => hz (Option.some.inj e))))]
      simp only [FsProgRead, h, decide_false, cond_false, hsp, Option.bind_some, hm, w1, Int.natCast_nonneg, decide_true, cond_true, Int.toNat_natCast, g2, g2', e1, ba_beq, bl_lb, ce, hz, Bool.not_false, Sum.elim_inr]
      rfl
theorem iProgRead_ok {s : ByteArray} (hsz : s.size < lim) : FiProgRead N (s, ()) = some ((progR (bl s)).isSome, (progR (bl s)).getD [], ()) := by
  have hlim : lim = 2147483648 := rfl
  have hlen := bl_len s
  have ce : bl (ByteArray.mk #[]) = [] := rfl
  by_cases h0 : bl s = []
  · have : progR (bl s) = some [] := by rw [h0]; rfl
    rw [this]
    simp only [FiProgRead, ba_beq, ce, h0, decide_true, cond_true]; rfl
  · have hcut := cutSuf_ok (N := N) (s := s) (c := 10) (by omega)
    by_cases h1 : (bl s).getLast? = some 10
    · rw [if_pos h1] at hcut
      have hdl : bl s = (bl s).dropLast ++ [10] := by
        have e := List.dropLast_concat_getLast h0
        rw [List.getLast?_eq_some_getLast h0] at h1
        rw [Option.some.inj h1] at e
        exact e.symm
      have hspl : spl 10 (bl s) = spl 10 (bl s).dropLast ++ [[]] := by
        conv => lhs; rw [hdl]
        exact spl_snoc 10 _
      have hR : progR (bl s) = if 4000 < (bl s).length ∨ 40 < (spl 10 (bl s).dropLast).length then none else progL (spl 10 (bl s).dropLast) := by
        unfold progR
        rw [hspl]
        simp only [List.getLast?_append, List.getLast?_singleton, Option.some_or, ne_eq, not_true_eq_false, false_or, List.length_append, List.length_singleton, List.dropLast_concat]
        congr 1
        apply propext; omega
      rw [hR]
      have hsp := FhSplit_ok (N := N) (s := lb (bl s).dropLast) (c := 10) (by rw [lb_size]; simp; omega)
      rw [bl_lb] at hsp
      have he := spl_each (10 : UInt8) (bl s).dropLast
      have hne := spl_ne (10 : UInt8) (bl s).dropLast
      generalize spl 10 (bl s).dropLast = ls at hsp he hne ⊢
      have hm : (ls.map lb).length = ls.length := by simp
      by_cases h2 : (s.size : Int) > 4000
      · rw [if_pos (.inl (by omega))]
        simp only [FiProgRead, ba_beq, ce, h0, decide_false, cond_false, hcut, hsp, Option.bind_some, Bool.not_true, h2, decide_true, cond_true, Sum.elim_inr]
        rfl
      · by_cases h3 : 40 < ls.length
        · rw [if_pos (.inr h3)]
          have g : (ls.length : Int) > 40 := by omega
          simp only [FiProgRead, ba_beq, ce, h0, decide_false, cond_false, hcut, hsp, Option.bind_some, Bool.not_true, h2, hm, g, decide_true, cond_true, Sum.elim_inr]
          rfl
        · rw [if_neg (by omega)]
          have g : ¬ (ls.length : Int) > 40 := by omega
          have hloop := iProg_loop hN (ls := ls) (by omega) (fun x hx => by have := he x hx; simp at this; omega) N 0 [] (by omega) (by omega) rfl
          simp only [Int.natCast_zero, List.drop_zero, List.nil_append] at hloop
          simp only [FiProgRead, ba_beq, ce, h0, decide_false, cond_false, hcut, hsp, Option.bind_some, Bool.not_true, h2, hm, g, Sum.elim_inl, hloop]
          cases progL ls with
          | none => rfl
          | some r => rfl
    · rw [if_neg h1] at hcut
      have hR : progR (bl s) = none := by
        unfold progR
        rw [if_pos (.inr (.inl (spl_last h0 h1)))]
      rw [hR]
      have hsp := FhSplit_ok (N := N) (s := s) (c := 10) (by omega)
      simp only [FiProgRead, ba_beq, ce, h0, decide_false, cond_false, hcut, hsp, Option.bind_some, Bool.not_false, cond_true, Sum.elim_inr]
      rfl
end

section
variable {N : Nat} (hN : lim < N)
include hN

theorem weqOpS_ok {xs ys : (List (Int × Int × Int × Int × Int × Int × (Int × Int × Unit) × Unit))} (hx : lnT tOpS xs) : FveqOpS N (xs, ys, ()) = some (decide (xs = ys), ()) := by
  have hlim : lim = 2147483648 := rfl
  have hl : xs.length ≤ lim := by have := hx.1; omega
  by_cases hlen : xs.length = ys.length
  · have hL := eq_loop (xs := xs) (ys := ys) (n := N) (L := fun n i => lveqOpS_0 N n (xs, ys, (i : Int), ())) (yes := .inl ()) (no := .inr (false, ())) hl hlen
      (fun n i h1 h2 hw hq => by
        have e := weqOp_ok hN (y := ys[i]) (hx.2 _ (List.getElem_mem h1))
        rw [decide_eq_true hq] at e
        simp [lveqOpS_0, h1, h2, hw, e])
      (fun n i h1 h2 hq => by simp [lveqOpS_0, h1, h2, hq, weqOp_ok hN (y := ys[i]) (hx.2 _ (List.getElem_mem h1))])
      (fun n => by simp [lveqOpS_0, hlen]) (by omega)
    simp only [Int.natCast_zero] at hL
    rcases Decidable.em (xs = ys) with rfl | h
    · simp [FveqOpS, hL]
    · simp [FveqOpS, hL, h, hlen]
  · have h : xs ≠ ys := fun h => hlen (by rw [h])
    have h2 : (xs.length : Int) ≠ ys.length := by omega
    simp [FveqOpS, h, h2]
end

section
variable {N : Nat} (hN : lim < N)
include hN

theorem wmarkOpS_ok {k : Int} {xs : (List (Int × Int × Int × Int × Int × Int × (Int × Int × Unit) × Unit))} (hx : lnT tOpS xs) (h0 : 0 ≤ k) (h1 : k + bndT tOpS ≤ 4611686018427387904) : FvmarkOpS N (k, xs, ()) = some ((markE tOpS k xs).1, (markE tOpS k xs).2, ()) := by
  have hlim : lim = 2147483648 := rfl
  have hx1 := hx.1
  have hL := mark_loop (f := markE tOp) (P := lnT tOp) (B := bndT tOp) (xs := xs) (n := N) (k := k) (L := fun n k i s => lvmarkOpS_0 N n (k, (i : Int), s, ())) (fin := fun k s => (k, s, ())) (by omega) hx.2 (bndT_nn _) (fun k x hx => markE_rng k hx)
    (fun n k i s h hP hk0 hk hw => by
      have hb := hk; simp only [bndT] at hb
      have w0 : w64 (k + 1) = k + 1 := w64_id (by omega) (by omega)
      have w1 : w64 (k + 1 + 1) = k + 1 + 1 := w64_id (by omega) (by omega)
      have w2 : w64 (k + 1 + 1 + 1) = k + 1 + 1 + 1 := w64_id (by omega) (by omega)
      have w3 : w64 (k + 1 + 1 + 1 + 1) = k + 1 + 1 + 1 + 1 := w64_id (by omega) (by omega)
      have w4 : w64 (k + 1 + 1 + 1 + 1 + 1) = k + 1 + 1 + 1 + 1 + 1 := w64_id (by omega) (by omega)
      have w5 : w64 (k + 1 + 1 + 1 + 1 + 1 + 1) = k + 1 + 1 + 1 + 1 + 1 + 1 := w64_id (by omega) (by omega)
      have w6 : w64 (k + 1 + 1 + 1 + 1 + 1 + 1 + 1) = k + 1 + 1 + 1 + 1 + 1 + 1 + 1 := w64_id (by omega) (by omega)
      have w7 : w64 (k + 1 + 1 + 1 + 1 + 1 + 1 + 1 + 1) = k + 1 + 1 + 1 + 1 + 1 + 1 + 1 + 1 := w64_id (by omega) (by omega)
      simp only [lvmarkOpS_0, Int.ofNat_lt, h, decide_true, cond_true, Int.natCast_nonneg, Int.toNat_natCast, List.length_set, getD_set_i h, List.set_set, getD_lt h, hw, Option.bind_some, w0, w1, w2, w3, w4, w5, w6, w7, show decide ((3 : Int) = 0) = false from rfl, cond_false]
      try simp only [markE])
    (fun n k s => by simp [lvmarkOpS_0]) (by omega) h0 (by
      have : bndT tOp * (xs.length : Int) ≤ bndT tOp * 1048576 := Int.mul_le_mul_of_nonneg_left (by omega) (bndT_nn _)
      have e2 : bndT tOpS = 1048576 * bndT tOp := rfl
      omega)
  simp only [Int.natCast_zero] at hL
  simp only [FvmarkOpS, hL, Option.bind_some, markE]
end

section
variable {N : Nat} (hN : lim < N)
include hN

theorem wheldOpS_ok {k : Int} {xs : (List (Int × Int × Int × Int × Int × Int × (Int × Int × Unit) × Unit))} (hx : lnT tOpS xs) (h0 : 0 ≤ k) (h1 : k + bndT tOpS ≤ 4611686018427387904) : FvheldOpS N ((markE tOpS k xs).2, k, ()) = some ((markE tOpS k xs).1, ()) := by
  have hlim : lim = 2147483648 := rfl
  have hx1 := hx.1
  have hL := held_loop (f := markE tOp) (P := lnT tOp) (B := bndT tOp) (xs := xs) (n := N) (k := k) (L := fun n s k i => lvheldOpS_0 N n (s, k, (i : Int), ())) (fin := fun k => .inl (k, ())) (by omega) hx.2 (bndT_nn _) (fun k x hx => markE_rng k hx)
    (fun n k i s h x hg hP hk0 hk hw => by
      have hb := hk; simp only [bndT] at hb
      have w0 : w64 (k + 1) = k + 1 := w64_id (by omega) (by omega)
      have w1 : w64 (k + 1 + 1) = k + 1 + 1 := w64_id (by omega) (by omega)
      have w2 : w64 (k + 1 + 1 + 1) = k + 1 + 1 + 1 := w64_id (by omega) (by omega)
      have w3 : w64 (k + 1 + 1 + 1 + 1) = k + 1 + 1 + 1 + 1 := w64_id (by omega) (by omega)
      have w4 : w64 (k + 1 + 1 + 1 + 1 + 1) = k + 1 + 1 + 1 + 1 + 1 := w64_id (by omega) (by omega)
      have w5 : w64 (k + 1 + 1 + 1 + 1 + 1 + 1) = k + 1 + 1 + 1 + 1 + 1 + 1 := w64_id (by omega) (by omega)
      have w6 : w64 (k + 1 + 1 + 1 + 1 + 1 + 1 + 1) = k + 1 + 1 + 1 + 1 + 1 + 1 + 1 := w64_id (by omega) (by omega)
      have w7 : w64 (k + 1 + 1 + 1 + 1 + 1 + 1 + 1 + 1) = k + 1 + 1 + 1 + 1 + 1 + 1 + 1 + 1 := w64_id (by omega) (by omega)
      have hE : markE tOp k x = (k + 1 + 1 + 1 + 1 + 1 + 1 + 1 + 1, (k, k + 1, k + 1 + 1, k + 1 + 1 + 1, k + 1 + 1 + 1 + 1, k + 1 + 1 + 1 + 1 + 1, (k + 1 + 1 + 1 + 1 + 1 + 1, k + 1 + 1 + 1 + 1 + 1 + 1 + 1, ()), ())) := rfl
      rw [hE] at hg ⊢
      simp only [lvheldOpS_0, Int.ofNat_lt, h, decide_true, cond_true, Int.natCast_nonneg, Int.toNat_natCast, getD_lt h, hg, hw, Option.bind_some, w0, w1, w2, w3, w4, w5, w6, w7, bif_bne, if_true, decide_false, cond_false, beq_self_eq_true, Bool.not_true, show decide ((3 : Int) = 0) = false from rfl])
    (fun n k s => by simp [lvheldOpS_0]) (by omega) h0 (by
      have : bndT tOp * (xs.length : Int) ≤ bndT tOp * 1048576 := Int.mul_le_mul_of_nonneg_left (by omega) (bndT_nn _)
      have e2 : bndT tOpS = 1048576 * bndT tOp := rfl
      omega)
  simp only [Int.natCast_zero] at hL
  unfold FvheldOpS
  dsimp only
  rw [show markE tOpS k xs = mkS (markE tOp) k xs from rfl, hL]
  rfl
end

section
variable {N : Nat} (hN : lim < N)
include hN
theorem FnExactProgRead_ok {s : ByteArray} : FvFnExactProgRead N (s, ()) = some (true, ()) := by
  have hlim : lim = 2147483648 := rfl
  by_cases h : (s.size : Int) > 1048576
  · simp only [FvFnExactProgRead, h, decide_true, cond_true]
  · have h1 := sProgRead_ok hN (s := s)
    have h2 := iProgRead_ok hN (s := s) (by omega)
    have hl : ((progR (bl s)).getD []).length ≤ 40 := by
      cases hp : progR (bl s) with
      | none => simp
      | some r => exact progR_len hp
    generalize (progR (bl s)).getD [] = r at h1 h2 hl
    generalize (progR (bl s)).isSome = b at h1 h2
    have hw : lnT tOpS r := ⟨by omega, fun x _ => lnOp x⟩
    have h3 := weqOpS_ok hN (xs := r) (ys := r) hw
    have h4 := wmarkOpS_ok hN (k := 1) (xs := r) hw (by omega) (by decide)
    have h5 := wheldOpS_ok hN (k := 1) (xs := r) hw (by omega) (by decide)
    have h6 := (markE_rng (t := tOpS) (x := r) 1 hw).1
    have g1 : ¬ ((markE tOpS 1 r).1 < 0) := by omega
    simp only [FvFnExactProgRead, h, decide_false, cond_false, h1, h2, h3, h4, h5, Option.bind_some, decide_true, Bool.not_true, beq_self_eq_true, Sum.elim_inl, g1, bne_self_eq_false]
end
end Go.Fl

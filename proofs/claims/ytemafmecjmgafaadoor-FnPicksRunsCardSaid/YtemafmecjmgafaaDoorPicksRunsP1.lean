/- Proved: for every input the law FnPicksRuns returns true and leaves its arguments as they were. Part 1: the functions that the law reaches, as plain functions, and plain laws about them; no conditions. -/
import Derived.Test.YtemafmecjmgafaaDoorK3
import Derived.Test.YtemafmecjmgafaaDoorK4
import Derived.Test.YtemafmecjmgafaaDoorProg
import Derived.Lib.AtoiAll
import Derived.Lib.ItoaNum
import Derived.Lib.SplitLaws
import Derived.Lib.Join
set_option linter.all false
-- FUNCS sl1Open_o_ sl1Rd_pick sl20Config sl20Picks sl9Dec sPicksText sl20Bend sDrawPicksRead hSplit hCut hfigure math_bits_Mul64 math_bits_Mul kRepeat_Sint_int isized hItoa hJoin iPicksText iPicksRead sl9Split sl9Num sl9Nums sPicksRead vflInts vFnPicksRuns
set_option maxRecDepth 100000
set_option linter.all false
namespace Go.Fl
open Go Go.Proofs
noncomputable def TE : List (Nat × Ty) := [(3, (.int .i64)),
  (4, .bool),
  (5, (.int .u8)),
  (9, .str),
  (29, (.sl (.int .u8))),
  (43, (.sl (.int .i64))),
  (64, (.hnd false)),
  (68, (.sl .str)),
  (85, (.pair (.int .i64) (.pair (.int .i64) (.pair (.int .i64) .unit)))),
  (100, (.pair (.sl (.int .u8)) (.pair (.int .i64) .unit))),
  (106, (.int .u64)),
  (119, (.int .u64))]
theorem TE_ok : TyOk Tryd.prog TE := tysB_spec (by kernel_rfl)
theorem mixed : Tryd.prog.follows .mixedOrders = true := by kernel_rfl

/-! ### 35: spec.l1Open -/

noncomputable def dinsl1Open_o_ : Desc := { n := 1, regs := [.one (.val (.sl (.int .u8)))], bx := [], pins := [] }
noncomputable def outsl1Open_o_ : Outs := [(.ret, { n := 1, regs := [.one (.lit (.ptr 1038528 0))], bx := [(1038528, .var [.val (.sl (.int .u8)), .val (.int .i64)])], pins := [] })]
noncomputable def Hsl1Open_o_ : Hints := []
noncomputable def Esl1Open_o_ (_N : Nat) : Env := { te := TE, cs := [] }
noncomputable def Fsl1Open_o_ (N : Nat) (x : ((List Int) × Unit)) : Option ((List Int) × (Int × Unit)) :=
  let y1 := decide ((x.1.length : Int) > (2000 : Int))
  bif y1 then
   bif decide (0 ≤ (2000 : Int)) then
   bif decide ((2000 : Int) ≤ (x.1.length : Int)) then
   bif decide (0 ≤ (0 : Int)) then
   bif decide ((0 : Int) ≤ (2000 : Int)) then
   let y2 := (x.1.drop (0 : Int).toNat).take ((2000 : Int).toNat - (0 : Int).toNat)
   some (y2, (0 : Int), ())
   else none
   else none
   else none
   else none
  else
  some (x.1, (0 : Int), ())
noncomputable def consl1Open_o_ (N : Nat) : Con := { f := 35, din := dinsl1Open_o_, outs := outsl1Open_o_, F := Fsl1Open_o_ N }
noncomputable def Xsl1Open_o_ (N : Nat) : Ctx := { E := Esl1Open_o_ N, H := Hsl1Open_o_, lp := [], jn := [] }
theorem Fsl1Open_o__eq (N : Nat) (x : ((List Int) × Unit)) : evFn (Xsl1Open_o_ N) Tryd.f35 dinsl1Open_o_ outsl1Open_o_ x = Fsl1Open_o_ N x := by kernel_rfl
theorem cxsl1Open_o_ (N : Nat) : CtxOk Tryd.prog (Xsl1Open_o_ N) := ⟨⟨TE_ok, fun k hk => absurd hk List.not_mem_nil⟩, mixed⟩
theorem specsl1Open_o_ (N : Nat) : Spec Tryd.prog (consl1Open_o_ N) :=
  Spec.of_eq (fn_spec (cxsl1Open_o_ N) (f := 35) (fn := Tryd.f35) (c := codeOf Tryd.f35) (by kernel_rfl) (by kernel_rfl) (by kernel_rfl) (loops_at (ids := []) (by kernel_rfl) (trivial)) (by kernel_rfl)) (fun x r h => (Fsl1Open_o__eq N x).trans h)

/-! ### 36: spec.l1Rd).pick -/

noncomputable def dinsl1Rd_pick : Desc := { n := 2, regs := [.one (.lit (.ptr 0 0)), .one (.val (.int .i64))], bx := [(0, .var [.val (.sl (.int .u8)), .val (.int .i64)])], pins := [] }
noncomputable def outsl1Rd_pick : Outs := [(.ret, { n := 1, regs := [.one (.val (.int .i64))], bx := [(0, .var [.val (.sl (.int .u8)), .val (.int .i64)])], pins := [.one (.lit (.ptr 0 0))] })]
noncomputable def Hsl1Rd_pick : Hints := []
noncomputable def Esl1Rd_pick (_N : Nat) : Env := { te := TE, cs := [] }
noncomputable def jsl1Rd_pick_4 : Outs := [(.normal, { n := 99, regs := [.one (.lit (.ptr 0 0)), .one (.val (.int .i64))], bx := [(0, .var [.val (.sl (.int .u8)), .val (.int .i64)])], pins := [.one (.lit (.ptr 0 0))] }), (.ret, { n := 99, regs := [u, u, u, u, .one (.val (.int .i64))], bx := [(0, .var [.val (.sl (.int .u8)), .val (.int .i64)])], pins := [.one (.lit (.ptr 0 0))] })]
noncomputable def Fsl1Rd_pick (N : Nat) (x : (Int × ((List Int) × (Int × Unit)))) : Option (Int × ((List Int) × (Int × Unit))) :=
  Option.bind (
   bif decide (x.1 < (1 : Int)) then
    some (.inr (((0 : Int), x.2.1, w64 (x.2.2.1 + (1 : Int)), ())))
   else
   bif (x.2.1.length : Int) == (0 : Int) then
    some (.inr (((0 : Int), x.2.1, w64 (x.2.2.1 + (1 : Int)), ())))
   else
   some (.inl (x.1, x.2.1, w64 (x.2.2.1 + (1 : Int)), ()))) fun o1 =>
  Sum.elim (fun o2 =>
   let y3 := decide ((w64 (o2.2.2.1 - (1 : Int))) < (o2.2.1.length : Int))
   bif y3 then
    bif decide (0 ≤ (w64 (o2.2.2.1 - (1 : Int)))) then
    bif decide ((w64 (o2.2.2.1 - (1 : Int))).toNat < o2.2.1.length) then
    let y4 := o2.2.1.getD ((w64 (o2.2.2.1 - (1 : Int))).toNat) (0 : Int)
    bif decide (o2.1 = 0) then
     none
    else
    some (Int.tmod (w64 (y4)) o2.1, o2.2.1, o2.2.2.1, ())
    else none
    else none
   else
   bif decide ((o2.2.1.length : Int) = 0) then
    none
   else
   let y5 := Int.tmod (w64 (o2.2.2.1 - (1 : Int))) (o2.2.1.length : Int)
   bif decide (0 ≤ y5) then
   bif decide (y5.toNat < o2.2.1.length) then
   let y6 := w64 ((w64 (o2.2.1.getD y5.toNat (0 : Int))) * (131 : Int))
   let y7 := w64 ((w64 (o2.2.2.1 - (1 : Int))) * (7 : Int))
   bif decide ((o2.2.1.length : Int) = 0) then
    none
   else
   let y8 := Int.tmod (w64 (y7 + (3 : Int))) (o2.2.1.length : Int)
   bif decide (0 ≤ y8) then
   bif decide (y8.toNat < o2.2.1.length) then
   let y9 := w64 ((w64 (o2.2.1.getD y8.toNat (0 : Int))) * (1117 : Int))
   let y10 := w64 ((w64 (o2.2.2.1 - (1 : Int))) * (29 : Int))
   bif decide ((o2.2.1.length : Int) = 0) then
    none
   else
   let y11 := w64 (Int.tdiv (w64 (o2.2.2.1 - (1 : Int))) (o2.2.1.length : Int))
   let y12 := w64 ((w64 ((w64 (y6 + y9)) + y10)) + (w64 (y11 * (53 : Int))))
   bif decide ((64 : Int) = 0) then
    none
   else
   let y13 := w64 (((bitsOf .i64 y12 ^^^ bitsOf .i64 (w64 (Int.tdiv y12 (64 : Int)))).toNat : Int))
   bif decide (o2.1 = 0) then
    none
   else
   some (Int.tmod y13 o2.1, o2.2.1, o2.2.2.1, ())
   else none
   else none
   else none
   else none) (fun o14 =>
   some (o14.1, o14.2.1, o14.2.2.1, ())) o1
noncomputable def consl1Rd_pick (N : Nat) : Con := { f := 36, din := dinsl1Rd_pick, outs := outsl1Rd_pick, F := Fsl1Rd_pick N }
noncomputable def Xsl1Rd_pick (N : Nat) : Ctx := { E := Esl1Rd_pick N, H := Hsl1Rd_pick, lp := [], jn := [(4, jsl1Rd_pick_4)] }
theorem Fsl1Rd_pick_eq (N : Nat) (x : (Int × ((List Int) × (Int × Unit)))) : evFn (Xsl1Rd_pick N) Tryd.f36 dinsl1Rd_pick outsl1Rd_pick x = Fsl1Rd_pick N x := by kernel_rfl
theorem cxsl1Rd_pick (N : Nat) : CtxOk Tryd.prog (Xsl1Rd_pick N) := ⟨⟨TE_ok, fun k hk => absurd hk List.not_mem_nil⟩, mixed⟩
theorem specsl1Rd_pick (N : Nat) : Spec Tryd.prog (consl1Rd_pick N) :=
  Spec.of_eq (fn_spec (cxsl1Rd_pick N) (f := 36) (fn := Tryd.f36) (c := codeOf Tryd.f36) (by kernel_rfl) (by kernel_rfl) (by kernel_rfl) (loops_at (ids := []) (by kernel_rfl) (trivial)) (by kernel_rfl)) (fun x r h => (Fsl1Rd_pick_eq N x).trans h)

/-! ### 52: spec.l20Config -/

noncomputable def dinsl20Config : Desc := { n := 1, regs := [.one (.lit (.ptr 0 0))], bx := [(0, .var [.val (.sl (.int .u8)), .val (.int .i64)])], pins := [] }
noncomputable def outsl20Config : Outs := [(.ret, { n := 1, regs := [.agg [.val (.int .i64), .val (.int .i64), .val (.int .i64)]], bx := [(0, .var [.val (.sl (.int .u8)), .val (.int .i64)])], pins := [.one (.lit (.ptr 0 0))] })]
noncomputable def Hsl20Config : Hints := []
noncomputable def Esl20Config (N : Nat) : Env := { te := TE, cs := [consl1Rd_pick N] }
noncomputable def Fsl20Config (N : Nat) (x : ((List Int) × (Int × Unit))) : Option (Int × (Int × (Int × ((List Int) × (Int × Unit))))) :=
  (Fsl1Rd_pick N ((6 : Int), x.1, x.2.1, ())).bind fun r1 =>
  (Fsl1Rd_pick N ((3 : Int), r1.2.1, r1.2.2.1, ())).bind fun r2 =>
  let y3 := [(16 : Int), (32 : Int), (0 : Int), (8 : Int), (100 : Int)]
  (Fsl1Rd_pick N ((5 : Int), r2.2.1, r2.2.2.1, ())).bind fun r4 =>
  bif decide (0 ≤ r4.1) then
  bif decide (r4.1.toNat < y3.length) then
  some (w64 ((4 : Int) + r1.1), w64 ((1 : Int) + r2.1), y3.getD r4.1.toNat (0 : Int), r4.2.1, r4.2.2.1, ())
  else none
  else none
noncomputable def consl20Config (N : Nat) : Con := { f := 52, din := dinsl20Config, outs := outsl20Config, F := Fsl20Config N }
noncomputable def Xsl20Config (N : Nat) : Ctx := { E := Esl20Config N, H := Hsl20Config, lp := [], jn := [] }
theorem Fsl20Config_eq (N : Nat) (x : ((List Int) × (Int × Unit))) : evFn (Xsl20Config N) Tryd.f52 dinsl20Config outsl20Config x = Fsl20Config N x := by kernel_rfl
theorem cxsl20Config (N : Nat) : CtxOk Tryd.prog (Xsl20Config N) := ⟨⟨TE_ok, List.forall_mem_cons.2 ⟨(specsl1Rd_pick N), fun k hk => absurd hk List.not_mem_nil⟩⟩, mixed⟩
theorem specsl20Config (N : Nat) : Spec Tryd.prog (consl20Config N) :=
  Spec.of_eq (fn_spec (cxsl20Config N) (f := 52) (fn := Tryd.f52) (c := codeOf Tryd.f52) (by kernel_rfl) (by kernel_rfl) (by kernel_rfl) (loops_at (ids := []) (by kernel_rfl) (trivial)) (by kernel_rfl)) (fun x r h => (Fsl20Config_eq N x).trans h)

/-! ### 51: spec.l20Picks -/

noncomputable def dinsl20Picks : Desc := { n := 3, regs := [.one (.lit (.ptr 0 0)), .one (.val (.pair (.int .i64) (.pair (.int .i64) (.pair (.int .i64) .unit)))), .one (.val (.int .i64))], bx := [(0, .var [.val (.sl (.int .u8)), .val (.int .i64)])], pins := [] }
noncomputable def outsl20Picks : Outs := [(.ret, { n := 1, regs := [.one (.lit (.row 1012800))], bx := [(1012800, .row (.int .i64)), (0, .var [.val (.sl (.int .u8)), .val (.int .i64)])], pins := [.one (.lit (.ptr 0 0))] })]
noncomputable def Hsl20Picks : Hints := [(0, [(0, { fz := true })]),
  (1, [(0, { nl := [(0, (.int .i64))] })]),
  (19, [(2, { dp := true })])]
noncomputable def Esl20Picks (N : Nat) : Env := { te := TE, cs := [consl1Rd_pick N] }
noncomputable def dsl20Picks_2 : Desc := { n := 69, regs := [.one (.lit (.ptr 0 0)), u, .one (.val (.int .i64)), u, .one (.fpt (.pair (.int .i64) (.pair (.int .i64) (.pair (.int .i64) .unit)))), u, u, .one (.lit (.row 1012800)), .one (.val (.int .i64)), u, .one (.val (.int .i64))], bx := [(0, .var [.val (.sl (.int .u8)), .val (.int .i64)]), (1012800, .row (.int .i64))], pins := [.one (.lit (.ptr 0 0))] }
noncomputable def osl20Picks_2 : Outs := [(.exit 2, { n := 69, regs := [.one (.lit (.ptr 0 0)), u, .one (.val (.int .i64)), u, .one (.fpt (.pair (.int .i64) (.pair (.int .i64) (.pair (.int .i64) .unit)))), u, u, .one (.lit (.row 1012800))], bx := [(0, .var [.val (.sl (.int .u8)), .val (.int .i64)]), (1012800, .row (.int .i64))], pins := [.one (.lit (.ptr 0 0))] })]
noncomputable def dsl20Picks_4 : Desc := { n := 69, regs := [.one (.lit (.ptr 0 0)), u, .one (.val (.int .i64)), u, .one (.fpt (.pair (.int .i64) (.pair (.int .i64) (.pair (.int .i64) .unit)))), u, u, .one (.lit (.row 1012800)), .one (.val (.int .i64)), .one (.val (.int .i64)), u, .one (.val (.int .i64))], bx := [(0, .var [.val (.sl (.int .u8)), .val (.int .i64)]), (1012800, .row (.int .i64))], pins := [.one (.lit (.ptr 0 0))] }
noncomputable def osl20Picks_4 : Outs := [(.exit 4, { n := 69, regs := [.one (.lit (.ptr 0 0)), u, .one (.val (.int .i64)), u, .one (.fpt (.pair (.int .i64) (.pair (.int .i64) (.pair (.int .i64) .unit)))), u, u, .one (.lit (.row 1012800))], bx := [(0, .var [.val (.sl (.int .u8)), .val (.int .i64)]), (1012800, .row (.int .i64))], pins := [.one (.lit (.ptr 0 0))] })]
noncomputable def dsl20Picks_0 : Desc := { n := 69, regs := [.one (.lit (.ptr 0 0)), u, .one (.val (.int .i64)), u, .one (.fpt (.pair (.int .i64) (.pair (.int .i64) (.pair (.int .i64) .unit)))), u, u, .one (.lit (.row 1012800))], bx := [(0, .var [.val (.sl (.int .u8)), .val (.int .i64)]), (1012800, .row (.int .i64))], pins := [.one (.lit (.ptr 0 0))] }
noncomputable def osl20Picks_0 : Outs := [(.exit 0, { n := 69, regs := [u, u, .one (.val (.int .i64)), u, u, u, u, .one (.lit (.row 1012800))], bx := [(1012800, .row (.int .i64)), (0, .var [.val (.sl (.int .u8)), .val (.int .i64)])], pins := [.one (.lit (.ptr 0 0))] })]
noncomputable def jsl20Picks_8 : Outs := [(.normal, { n := 69, regs := [.one (.lit (.ptr 0 0)), u, .one (.val (.int .i64)), u, .one (.fpt (.pair (.int .i64) (.pair (.int .i64) (.pair (.int .i64) .unit)))), u, u, .one (.lit (.row 1012800)), .one (.val (.int .i64)), .one (.val (.int .i64))], bx := [(0, .var [.val (.sl (.int .u8)), .val (.int .i64)]), (1012800, .row (.int .i64))], pins := [.one (.lit (.ptr 0 0))] })]
noncomputable def jsl20Picks_10 : Outs := [(.normal, { n := 69, regs := [.one (.lit (.ptr 0 0)), u, .one (.val (.int .i64)), u, .one (.fpt (.pair (.int .i64) (.pair (.int .i64) (.pair (.int .i64) .unit)))), u, u, .one (.lit (.row 1012800)), .one (.val (.int .i64)), .one (.val (.int .i64))], bx := [(0, .var [.val (.sl (.int .u8)), .val (.int .i64)]), (1012800, .row (.int .i64))], pins := [.one (.lit (.ptr 0 0))] })]
noncomputable def lsl20Picks_2 (N : Nat) : Nat → (Int × ((Int × (Int × (Int × Unit))) × (Int × (Int × ((List Int) × (Int × ((List Int) × Unit))))))) → Option (Int × ((Int × (Int × (Int × Unit))) × ((List Int) × (Int × ((List Int) × Unit)))))
  | 0, _ => none
  | n + 1, v =>
    let y11 := decide (v.2.2.2.1 < (w64 ((2 : Int) * v.2.2.1)))
    bif y11 then
     (Fsl1Rd_pick N (w64 (v.2.1.2.1 + (1 : Int)), v.2.2.2.2.1, v.2.2.2.2.2.1, ())).bind fun r12 =>
     bif decide (v.2.2.2.2.2.2.1.length + [r12.1].length ≤ lim) then
     lsl20Picks_2 N n (v.1, v.2.1, v.2.2.1, w64 (v.2.2.2.1 + (1 : Int)), r12.2.1, r12.2.2.1, v.2.2.2.2.2.2.1 ++ [r12.1], ())
     else none
    else
    some (v.1, v.2.1, v.2.2.2.2.1, v.2.2.2.2.2.1, v.2.2.2.2.2.2.1, ())
noncomputable def lsl20Picks_4 (N : Nat) : Nat → (Int × ((Int × (Int × (Int × Unit))) × (Int × (Int × (Int × ((List Int) × (Int × ((List Int) × Unit)))))))) → Option (Int × ((Int × (Int × (Int × Unit))) × ((List Int) × (Int × ((List Int) × Unit)))))
  | 0, _ => none
  | n + 1, v =>
    bif decide (v.2.2.2.2.1 < v.2.2.1) then
     bif decide (v.2.2.2.2.2.2.2.1.length + [v.2.2.2.1].length ≤ lim) then
     lsl20Picks_4 N n (v.1, v.2.1, v.2.2.1, v.2.2.2.1, w64 (v.2.2.2.2.1 + (1 : Int)), v.2.2.2.2.2.1, v.2.2.2.2.2.2.1, v.2.2.2.2.2.2.2.1 ++ [v.2.2.2.1], ())
     else none
    else
    some (v.1, v.2.1, v.2.2.2.2.2.1, v.2.2.2.2.2.2.1, v.2.2.2.2.2.2.2.1, ())
noncomputable def lsl20Picks_0 (N : Nat) : Nat → (Int × ((Int × (Int × (Int × Unit))) × ((List Int) × (Int × ((List Int) × Unit))))) → Option (Int × ((List Int) × ((List Int) × (Int × Unit))))
  | 0, _ => none
  | n + 1, v =>
    let y1 := decide ((v.2.2.2.2.1.length : Int) < v.1)
    bif y1 then
     (Fsl1Rd_pick N ((12 : Int), v.2.2.1, v.2.2.2.1, ())).bind fun r2 =>
     (Fsl1Rd_pick N (w64 (v.2.1.2.1 + (1 : Int)), r2.2.1, r2.2.2.1, ())).bind fun r3 =>
     Option.bind (
      (Fsl1Rd_pick N ((3 : Int), r3.2.1, r3.2.2.1, ())).bind fun r4 =>
      bif r4.1 == (0 : Int) then
       let y5 := w64 ((w64 ((1 : Int) + r2.1)) * (3 : Int))
       some (v.1, v.2.1, y5, v.2.1.2.1, r4.2.1, r4.2.2.1, v.2.2.2.2.1, ())
      else
      some (v.1, v.2.1, w64 ((1 : Int) + r2.1), r3.1, r4.2.1, r4.2.2.1, v.2.2.2.2.1, ())) fun o6 =>
     Option.bind (
      (Fsl1Rd_pick N ((8 : Int), o6.2.2.2.2.1, o6.2.2.2.2.2.1, ())).bind fun r7 =>
      bif r7.1 == (0 : Int) then
       bif decide (o6.2.2.2.2.2.2.1.length + [w64 (o6.2.1.2.1 + (1 : Int))].length ≤ lim) then
       let y8 := o6.2.2.2.2.2.2.1 ++ [w64 (o6.2.1.2.1 + (1 : Int))]
       some (o6.1, o6.2.1, o6.2.2.1, o6.2.2.2.1, r7.2.1, r7.2.2.1, y8, ())
       else none
      else
      some (o6.1, o6.2.1, o6.2.2.1, o6.2.2.2.1, r7.2.1, r7.2.2.1, o6.2.2.2.2.2.2.1, ())) fun o9 =>
     (Fsl1Rd_pick N ((3 : Int), o9.2.2.2.2.1, o9.2.2.2.2.2.1, ())).bind fun r10 =>
     bif r10.1 == (0 : Int) then
      (lsl20Picks_2 N N (o9.1, o9.2.1, o9.2.2.1, (0 : Int), r10.2.1, r10.2.2.1, o9.2.2.2.2.2.2.1, ())).bind fun o13 =>
      lsl20Picks_0 N n (o13.1, o13.2.1, o13.2.2.1, o13.2.2.2.1, o13.2.2.2.2.1, ())
     else
     (lsl20Picks_4 N N (o9.1, o9.2.1, o9.2.2.1, o9.2.2.2.1, (0 : Int), r10.2.1, r10.2.2.1, o9.2.2.2.2.2.2.1, ())).bind fun o14 =>
     lsl20Picks_0 N n (o14.1, o14.2.1, o14.2.2.1, o14.2.2.2.1, o14.2.2.2.2.1, ())
    else
    some (v.1, v.2.2.2.2.1, v.2.2.1, v.2.2.2.1, ())
noncomputable def Fsl20Picks (N : Nat) (x : ((Int × (Int × (Int × Unit))) × (Int × ((List Int) × (Int × Unit))))) : Option ((List Int) × ((List Int) × (Int × Unit))) :=
  (lsl20Picks_0 N N (x.2.1, x.1, x.2.2.1, x.2.2.2.1, ([] : (List Int)), ())).bind fun o15 =>
  bif decide (0 ≤ o15.1) then
  bif decide (o15.1 ≤ (o15.2.1.length : Int)) then
  bif decide (0 ≤ (0 : Int)) then
  bif decide ((0 : Int) ≤ o15.1) then
  let y16 := (o15.2.1.drop (0 : Int).toNat).take (o15.1.toNat - (0 : Int).toNat)
  some (y16, o15.2.2.1, o15.2.2.2.1, ())
  else none
  else none
  else none
  else none
noncomputable def consl20Picks (N : Nat) : Con := { f := 51, din := dinsl20Picks, outs := outsl20Picks, F := Fsl20Picks N }
noncomputable def Xsl20Picks (N : Nat) : Ctx := { E := Esl20Picks N, H := Hsl20Picks, lp := [(2, { hd := dsl20Picks_2, outs := osl20Picks_2, run := fun v => lsl20Picks_2 N N v }), (4, { hd := dsl20Picks_4, outs := osl20Picks_4, run := fun v => lsl20Picks_4 N N v }), (0, { hd := dsl20Picks_0, outs := osl20Picks_0, run := fun v => lsl20Picks_0 N N v })], jn := [(8, jsl20Picks_8), (10, jsl20Picks_10)] }
noncomputable def bsl20Picks_0 : Code := loopBody (codeOf Tryd.f51) 0
noncomputable def bsl20Picks_4 : Code := loopBody bsl20Picks_0 1
noncomputable def bsl20Picks_2 : Code := loopBody bsl20Picks_0 0
theorem Fsl20Picks_eq (N : Nat) (x : ((Int × (Int × (Int × Unit))) × (Int × ((List Int) × (Int × Unit))))) : evFn (Xsl20Picks N) Tryd.f51 dinsl20Picks outsl20Picks x = Fsl20Picks N x := by kernel_rfl
theorem lsl20Picks_2_eq (N n : Nat) (v : (Int × ((Int × (Int × (Int × Unit))) × (Int × (Int × ((List Int) × (Int × ((List Int) × Unit)))))))) : lsl20Picks_2 N (n + 1) v = ev (Xsl20Picks N) bsl20Picks_2 (roundK dsl20Picks_2 osl20Picks_2 (lsl20Picks_2 N n)) (dsl20Picks_2.mk' v) := by kernel_rfl
theorem lsl20Picks_4_eq (N n : Nat) (v : (Int × ((Int × (Int × (Int × Unit))) × (Int × (Int × (Int × ((List Int) × (Int × ((List Int) × Unit))))))))) : lsl20Picks_4 N (n + 1) v = ev (Xsl20Picks N) bsl20Picks_4 (roundK dsl20Picks_4 osl20Picks_4 (lsl20Picks_4 N n)) (dsl20Picks_4.mk' v) := by kernel_rfl
theorem lsl20Picks_0_eq (N n : Nat) (v : (Int × ((Int × (Int × (Int × Unit))) × ((List Int) × (Int × ((List Int) × Unit)))))) : lsl20Picks_0 N (n + 1) v = ev (Xsl20Picks N) bsl20Picks_0 (roundK dsl20Picks_0 osl20Picks_0 (lsl20Picks_0 N n)) (dsl20Picks_0.mk' v) := by kernel_rfl
theorem cxsl20Picks (N : Nat) : CtxOk Tryd.prog (Xsl20Picks N) := ⟨⟨TE_ok, List.forall_mem_cons.2 ⟨(specsl1Rd_pick N), fun k hk => absurd hk List.not_mem_nil⟩⟩, mixed⟩
theorem lpsl20Picks_2 (N : Nat) : LoopOk Tryd.prog { hd := dsl20Picks_2, outs := osl20Picks_2, run := fun v => lsl20Picks_2 N N v } bsl20Picks_2 :=
  loop_fuel (d := dsl20Picks_2) (os := osl20Picks_2) (cxsl20Picks N) (loops_at (ids := []) (by kernel_rfl) (trivial)) (lsl20Picks_2 N) (fun _ => rfl) (fun n v => lsl20Picks_2_eq N n v) (fun _ => N)
theorem lpsl20Picks_4 (N : Nat) : LoopOk Tryd.prog { hd := dsl20Picks_4, outs := osl20Picks_4, run := fun v => lsl20Picks_4 N N v } bsl20Picks_4 :=
  loop_fuel (d := dsl20Picks_4) (os := osl20Picks_4) (cxsl20Picks N) (loops_at (ids := []) (by kernel_rfl) (trivial)) (lsl20Picks_4 N) (fun _ => rfl) (fun n v => lsl20Picks_4_eq N n v) (fun _ => N)
theorem lpsl20Picks_0 (N : Nat) : LoopOk Tryd.prog { hd := dsl20Picks_0, outs := osl20Picks_0, run := fun v => lsl20Picks_0 N N v } bsl20Picks_0 :=
  loop_fuel (d := dsl20Picks_0) (os := osl20Picks_0) (cxsl20Picks N) (loops_at (ids := [2, 4]) (by kernel_rfl) ⟨lp_of (lpsl20Picks_2 N), ⟨lp_of (lpsl20Picks_4 N), trivial⟩⟩) (lsl20Picks_0 N) (fun _ => rfl) (fun n v => lsl20Picks_0_eq N n v) (fun _ => N)
theorem specsl20Picks (N : Nat) : Spec Tryd.prog (consl20Picks N) :=
  Spec.of_eq (fn_spec (cxsl20Picks N) (f := 51) (fn := Tryd.f51) (c := codeOf Tryd.f51) (by kernel_rfl) (by kernel_rfl) (by kernel_rfl) (loops_at (ids := [0]) (by kernel_rfl) ⟨lp_of (lpsl20Picks_0 N), trivial⟩) (by kernel_rfl)) (fun x r h => (Fsl20Picks_eq N x).trans h)

/-! ### 59: spec.l9Dec -/

noncomputable def dinsl9Dec : Desc := { n := 1, regs := [.one (.val (.int .i64))], bx := [], pins := [] }
noncomputable def outsl9Dec : Outs := [(.ret, { n := 1, regs := [.one (.val .str)], bx := [], pins := [] })]
noncomputable def Hsl9Dec : Hints := []
noncomputable def Esl9Dec (_N : Nat) : Env := { te := TE, cs := [] }
noncomputable def dsl9Dec_0 : Desc := { n := 31, regs := [.one (.val (.int .i64)), u, u, .one (.val .str), .one (.val .bool)], bx := [], pins := [] }
noncomputable def osl9Dec_0 : Outs := [(.exit 0, { n := 31, regs := [u, u, u, .one (.val .str), .one (.val .bool)], bx := [], pins := [] })]
noncomputable def jsl9Dec_9 : Outs := [(.normal, { n := 31, regs := [.one (.val (.int .i64)), u, u, .one (.val .str), .one (.val .bool), .one (.val (.int .i64))], bx := [], pins := [] })]
noncomputable def lsl9Dec_0 (N : Nat) : Nat → (Int × (ByteArray × (Bool × Unit))) → Option (ByteArray × (Bool × Unit))
  | 0, _ => none
  | n + 1, v =>
    bif v.1 != (0 : Int) then
     bif decide ((10 : Int) = 0) then
      none
     else
     Option.bind (
      let y1 := decide ((Int.tmod v.1 (10 : Int)) < (0 : Int))
      bif y1 then
       some (v.1, v.2.1, v.2.2.1, w64 (0 - (Int.tmod v.1 (10 : Int))), ())
      else
      some (v.1, v.2.1, v.2.2.1, Int.tmod v.1 (10 : Int), ())) fun o2 =>
     let y3 := IntKind.wrap .u8 (w64 ((48 : Int) + o2.2.2.2.1))
     bif decide ((bstr [y3]).size + o2.2.1.size ≤ lim) then
     bif decide ((10 : Int) = 0) then
      none
     else
     lsl9Dec_0 N n (w64 (Int.tdiv o2.1 (10 : Int)), (bstr [y3]) ++ o2.2.1, o2.2.2.1, ())
     else none
    else
    some (v.2.1, v.2.2.1, ())
noncomputable def Fsl9Dec (N : Nat) (x : (Int × Unit)) : Option (ByteArray × Unit) :=
  bif x.1 == (0 : Int) then
   some ((ByteArray.mk #[48]), ())
  else
  (lsl9Dec_0 N N (x.1, (ByteArray.mk #[]), decide (x.1 < (0 : Int)), ())).bind fun o4 =>
  bif o4.2.1 then
   bif decide ((ByteArray.mk #[45]).size + o4.1.size ≤ lim) then
   some ((ByteArray.mk #[45]) ++ o4.1, ())
   else none
  else
  some (o4.1, ())
noncomputable def consl9Dec (N : Nat) : Con := { f := 59, din := dinsl9Dec, outs := outsl9Dec, F := Fsl9Dec N }
noncomputable def Xsl9Dec (N : Nat) : Ctx := { E := Esl9Dec N, H := Hsl9Dec, lp := [(0, { hd := dsl9Dec_0, outs := osl9Dec_0, run := fun v => lsl9Dec_0 N N v })], jn := [(9, jsl9Dec_9)] }
noncomputable def bsl9Dec_0 : Code := loopBody (codeOf Tryd.f59) 0
theorem Fsl9Dec_eq (N : Nat) (x : (Int × Unit)) : evFn (Xsl9Dec N) Tryd.f59 dinsl9Dec outsl9Dec x = Fsl9Dec N x := by kernel_rfl
theorem lsl9Dec_0_eq (N n : Nat) (v : (Int × (ByteArray × (Bool × Unit)))) : lsl9Dec_0 N (n + 1) v = ev (Xsl9Dec N) bsl9Dec_0 (roundK dsl9Dec_0 osl9Dec_0 (lsl9Dec_0 N n)) (dsl9Dec_0.mk' v) := by kernel_rfl
theorem cxsl9Dec (N : Nat) : CtxOk Tryd.prog (Xsl9Dec N) := ⟨⟨TE_ok, fun k hk => absurd hk List.not_mem_nil⟩, mixed⟩
theorem lpsl9Dec_0 (N : Nat) : LoopOk Tryd.prog { hd := dsl9Dec_0, outs := osl9Dec_0, run := fun v => lsl9Dec_0 N N v } bsl9Dec_0 :=
  loop_fuel (d := dsl9Dec_0) (os := osl9Dec_0) (cxsl9Dec N) (loops_at (ids := []) (by kernel_rfl) (trivial)) (lsl9Dec_0 N) (fun _ => rfl) (fun n v => lsl9Dec_0_eq N n v) (fun _ => N)
theorem specsl9Dec (N : Nat) : Spec Tryd.prog (consl9Dec N) :=
  Spec.of_eq (fn_spec (cxsl9Dec N) (f := 59) (fn := Tryd.f59) (c := codeOf Tryd.f59) (by kernel_rfl) (by kernel_rfl) (by kernel_rfl) (loops_at (ids := [0]) (by kernel_rfl) ⟨lp_of (lpsl9Dec_0 N), trivial⟩) (by kernel_rfl)) (fun x r h => (Fsl9Dec_eq N x).trans h)

/-! ### 47: spec.PicksText -/

noncomputable def dinsPicksText : Desc := { n := 1, regs := [.one (.val (.sl (.int .i64)))], bx := [], pins := [] }
noncomputable def outsPicksText : Outs := [(.ret, { n := 1, regs := [.one (.val .str)], bx := [], pins := [] })]
noncomputable def HsPicksText : Hints := []
noncomputable def EsPicksText (N : Nat) : Env := { te := TE, cs := [consl9Dec N] }
noncomputable def dsPicksText_2 : Desc := { n := 68, regs := [.one (.val (.sl (.int .i64))), u, u, .one (.val .str), .one (.val (.int .i64)), .one (.val (.int .i64))], bx := [], pins := [] }
noncomputable def osPicksText_2 : Outs := [(.exit 2, { n := 68, regs := [.one (.val (.sl (.int .i64))), u, u, .one (.val .str), .one (.val (.int .i64)), .one (.val (.int .i64))], bx := [], pins := [] })]
noncomputable def dsPicksText_0 : Desc := { n := 68, regs := [.one (.val (.sl (.int .i64))), u, u, .one (.val .str), .one (.val (.int .i64))], bx := [], pins := [] }
noncomputable def osPicksText_0 : Outs := [(.exit 0, { n := 68, regs := [u, u, u, .one (.val .str)], bx := [], pins := [] }), (.ret, { n := 68, regs := [u, u, .one (.val .str)], bx := [], pins := [] })]
noncomputable def jsPicksText_8 : Outs := [(.normal, { n := 68, regs := [.one (.val (.sl (.int .i64))), u, u, .one (.val .str), .one (.val (.int .i64))], bx := [], pins := [] }), (.ret, { n := 68, regs := [u, u, .one (.val .str)], bx := [], pins := [] })]
noncomputable def jsPicksText_13 : Outs := [(.normal, { n := 68, regs := [.one (.val (.sl (.int .i64))), u, u, .one (.val .str), .one (.val (.int .i64)), .one (.val (.int .i64))], bx := [], pins := [] })]
noncomputable def lsPicksText_2 (N : Nat) : Nat → ((List Int) × (ByteArray × (Int × (Int × Unit)))) → Option ((List Int) × (ByteArray × (Int × (Int × Unit))))
  | 0, _ => none
  | n + 1, v =>
    let y7 := decide ((w64 (v.2.2.1 + v.2.2.2.1)) < (v.1.length : Int))
    bif y7 then
     bif decide (0 ≤ (w64 (v.2.2.1 + v.2.2.2.1))) then
     bif decide ((w64 (v.2.2.1 + v.2.2.2.1)).toNat < v.1.length) then
     let y8 := v.1.getD ((w64 (v.2.2.1 + v.2.2.2.1)).toNat) (0 : Int)
     bif decide (0 ≤ v.2.2.1) then
     bif decide (v.2.2.1.toNat < v.1.length) then
     let y9 := y8 == (v.1.getD v.2.2.1.toNat (0 : Int))
     bif y9 then
      lsPicksText_2 N n (v.1, v.2.1, v.2.2.1, w64 (v.2.2.2.1 + (1 : Int)), ())
     else
     some (v.1, v.2.1, v.2.2.1, v.2.2.2.1, ())
     else none
     else none
     else none
     else none
    else
    some (v.1, v.2.1, v.2.2.1, v.2.2.2.1, ())
noncomputable def lsPicksText_0 (N : Nat) : Nat → ((List Int) × (ByteArray × (Int × Unit))) → Option ((ByteArray × Unit) ⊕ (ByteArray × Unit))
  | 0, _ => none
  | n + 1, v =>
    let y2 := decide (v.2.2.1 < (v.1.length : Int))
    bif y2 then
     Option.bind (
      bif decide (0 ≤ v.2.2.1) then
      bif decide (v.2.2.1.toNat < v.1.length) then
      let y3 := decide ((v.1.getD v.2.2.1.toNat (0 : Int)) < (-999999999 : Int))
      bif y3 then
       some (.inr (((ByteArray.mk #[]), ())))
      else
      bif decide (0 ≤ v.2.2.1) then
      bif decide (v.2.2.1.toNat < v.1.length) then
      let y4 := decide ((v.1.getD v.2.2.1.toNat (0 : Int)) > (999999999 : Int))
      bif y4 then
       some (.inr (((ByteArray.mk #[]), ())))
      else
      some (.inl (v.1, v.2.1, v.2.2.1, ()))
      else none
      else none
      else none
      else none) fun o5 =>
     Sum.elim (fun o6 =>
      (lsPicksText_2 N N (o6.1, o6.2.1, o6.2.2.1, (1 : Int), ())).bind fun o10 =>
      Option.bind (
       bif decide (o10.2.2.1 > (0 : Int)) then
        bif decide (o10.2.1.size + (ByteArray.mk #[32]).size ≤ lim) then
        some (o10.1, o10.2.1 ++ (ByteArray.mk #[32]), o10.2.2.1, o10.2.2.2.1, ())
        else none
       else
       some (o10.1, o10.2.1, o10.2.2.1, o10.2.2.2.1, ())) fun o11 =>
      bif decide (0 ≤ o11.2.2.1) then
      bif decide (o11.2.2.1.toNat < o11.1.length) then
      (Fsl9Dec N (o11.1.getD o11.2.2.1.toNat (0 : Int), ())).bind fun r12 =>
      bif decide (o11.2.1.size + r12.1.size ≤ lim) then
      bif decide (o11.2.2.2.1 > (1 : Int)) then
       bif decide ((o11.2.1 ++ r12.1).size + (ByteArray.mk #[42]).size ≤ lim) then
       let y13 := (o11.2.1 ++ r12.1) ++ (ByteArray.mk #[42])
       (Fsl9Dec N (o11.2.2.2.1, ())).bind fun r14 =>
       bif decide (y13.size + r14.1.size ≤ lim) then
       lsPicksText_0 N n (o11.1, y13 ++ r14.1, w64 (o11.2.2.1 + o11.2.2.2.1), ())
       else none
       else none
      else
      lsPicksText_0 N n (o11.1, o11.2.1 ++ r12.1, w64 (o11.2.2.1 + o11.2.2.2.1), ())
      else none
      else none
      else none) (fun o15 =>
      some (.inr ((o15.1, ())))) o5
    else
    some (.inl (v.2.1, ()))
noncomputable def FsPicksText (N : Nat) (x : ((List Int) × Unit)) : Option (ByteArray × Unit) :=
  let y1 := decide ((x.1.length : Int) > (4000 : Int))
  bif y1 then
   some ((ByteArray.mk #[]), ())
  else
  (lsPicksText_0 N N (x.1, (ByteArray.mk #[]), (0 : Int), ())).bind fun o16 =>
  Sum.elim (fun o17 =>
   some (o17.1, ())) (fun o18 =>
   some (o18.1, ())) o16
noncomputable def consPicksText (N : Nat) : Con := { f := 47, din := dinsPicksText, outs := outsPicksText, F := FsPicksText N }
noncomputable def XsPicksText (N : Nat) : Ctx := { E := EsPicksText N, H := HsPicksText, lp := [(2, { hd := dsPicksText_2, outs := osPicksText_2, run := fun v => lsPicksText_2 N N v }), (0, { hd := dsPicksText_0, outs := osPicksText_0, run := fun v => lsPicksText_0 N N v })], jn := [(8, jsPicksText_8), (13, jsPicksText_13)] }
noncomputable def bsPicksText_0 : Code := loopBody (codeOf Tryd.f47) 0
noncomputable def bsPicksText_2 : Code := loopBody bsPicksText_0 0
theorem FsPicksText_eq (N : Nat) (x : ((List Int) × Unit)) : evFn (XsPicksText N) Tryd.f47 dinsPicksText outsPicksText x = FsPicksText N x := by kernel_rfl
theorem lsPicksText_2_eq (N n : Nat) (v : ((List Int) × (ByteArray × (Int × (Int × Unit))))) : lsPicksText_2 N (n + 1) v = ev (XsPicksText N) bsPicksText_2 (roundK dsPicksText_2 osPicksText_2 (lsPicksText_2 N n)) (dsPicksText_2.mk' v) := by kernel_rfl
theorem lsPicksText_0_eq (N n : Nat) (v : ((List Int) × (ByteArray × (Int × Unit)))) : lsPicksText_0 N (n + 1) v = ev (XsPicksText N) bsPicksText_0 (roundK dsPicksText_0 osPicksText_0 (lsPicksText_0 N n)) (dsPicksText_0.mk' v) := by kernel_rfl
theorem cxsPicksText (N : Nat) : CtxOk Tryd.prog (XsPicksText N) := ⟨⟨TE_ok, List.forall_mem_cons.2 ⟨(specsl9Dec N), fun k hk => absurd hk List.not_mem_nil⟩⟩, mixed⟩
theorem lpsPicksText_2 (N : Nat) : LoopOk Tryd.prog { hd := dsPicksText_2, outs := osPicksText_2, run := fun v => lsPicksText_2 N N v } bsPicksText_2 :=
  loop_fuel (d := dsPicksText_2) (os := osPicksText_2) (cxsPicksText N) (loops_at (ids := []) (by kernel_rfl) (trivial)) (lsPicksText_2 N) (fun _ => rfl) (fun n v => lsPicksText_2_eq N n v) (fun _ => N)
theorem lpsPicksText_0 (N : Nat) : LoopOk Tryd.prog { hd := dsPicksText_0, outs := osPicksText_0, run := fun v => lsPicksText_0 N N v } bsPicksText_0 :=
  loop_fuel (d := dsPicksText_0) (os := osPicksText_0) (cxsPicksText N) (loops_at (ids := [2]) (by kernel_rfl) ⟨lp_of (lpsPicksText_2 N), trivial⟩) (lsPicksText_0 N) (fun _ => rfl) (fun n v => lsPicksText_0_eq N n v) (fun _ => N)
theorem specsPicksText (N : Nat) : Spec Tryd.prog (consPicksText N) :=
  Spec.of_eq (fn_spec (cxsPicksText N) (f := 47) (fn := Tryd.f47) (c := codeOf Tryd.f47) (by kernel_rfl) (by kernel_rfl) (by kernel_rfl) (loops_at (ids := [0]) (by kernel_rfl) ⟨lp_of (lpsPicksText_0 N), trivial⟩) (by kernel_rfl)) (fun x r h => (FsPicksText_eq N x).trans h)

/-! ### 53: spec.l20Bend -/

noncomputable def dinsl20Bend : Desc := { n := 2, regs := [.one (.lit (.ptr 0 0)), .one (.val .str)], bx := [(0, .var [.val (.sl (.int .u8)), .val (.int .i64)])], pins := [] }
noncomputable def outsl20Bend : Outs := [(.ret, { n := 1, regs := [.one (.val .str)], bx := [(0, .var [.val (.sl (.int .u8)), .val (.int .i64)])], pins := [.one (.lit (.ptr 0 0))] })]
noncomputable def Hsl20Bend : Hints := []
noncomputable def Esl20Bend (N : Nat) : Env := { te := TE, cs := [consl1Rd_pick N] }
noncomputable def jsl20Bend_3 : Outs := [(.normal, { n := 35, regs := [.one (.lit (.ptr 0 0)), .one (.val .str)], bx := [(0, .var [.val (.sl (.int .u8)), .val (.int .i64)])], pins := [.one (.lit (.ptr 0 0))] }), (.ret, { n := 35, regs := [u, u, u, u, .one (.val .str)], bx := [(0, .var [.val (.sl (.int .u8)), .val (.int .i64)])], pins := [.one (.lit (.ptr 0 0))] })]
noncomputable def Fsl20Bend (N : Nat) (x : (ByteArray × ((List Int) × (Int × Unit)))) : Option (ByteArray × ((List Int) × (Int × Unit))) :=
  Option.bind (
   (Fsl1Rd_pick N ((3 : Int), x.2.1, x.2.2.1, ())).bind fun r1 =>
   bif decide (r1.1 > (0 : Int)) then
    some (.inr ((x.1, r1.2.1, r1.2.2.1, ())))
   else
   bif (x.1.size : Int) == (0 : Int) then
    some (.inr ((x.1, r1.2.1, r1.2.2.1, ())))
   else
   some (.inl (x.1, r1.2.1, r1.2.2.1, ()))) fun o2 =>
  Sum.elim (fun o3 =>
   (Fsl1Rd_pick N ((o3.1.size : Int), o3.2.1, o3.2.2.1, ())).bind fun r4 =>
   bif decide (0 ≤ r4.1) then
   bif decide (r4.1 ≤ (o3.1.size : Int)) then
   bif decide (0 ≤ (0 : Int)) then
   bif decide ((0 : Int) ≤ r4.1) then
   let y5 := o3.1.extract (0 : Int).toNat r4.1.toNat
   let y6 := [(ByteArray.mk #[]), (ByteArray.mk #[32]), (ByteArray.mk #[48]), (ByteArray.mk #[45]), (ByteArray.mk #[42]), (ByteArray.mk #[10]), (ByteArray.mk #[97]), (ByteArray.mk #[49])]
   (Fsl1Rd_pick N ((8 : Int), r4.2.1, r4.2.2.1, ())).bind fun r7 =>
   bif decide (0 ≤ r7.1) then
   bif decide (r7.1.toNat < y6.length) then
   bif decide (y5.size + (y6.getD r7.1.toNat ByteArray.empty).size ≤ lim) then
   let y8 := y5 ++ (y6.getD r7.1.toNat ByteArray.empty)
   (Fsl1Rd_pick N ((2 : Int), r7.2.1, r7.2.2.1, ())).bind fun r9 =>
   bif decide (0 ≤ (o3.1.size : Int)) then
   bif decide ((o3.1.size : Int) ≤ (o3.1.size : Int)) then
   bif decide (0 ≤ (w64 (r4.1 + r9.1))) then
   bif decide ((w64 (r4.1 + r9.1)) ≤ (o3.1.size : Int)) then
   let y10 := o3.1.extract (w64 (r4.1 + r9.1)).toNat (o3.1.size : Int).toNat
   bif decide (y8.size + y10.size ≤ lim) then
   some (y8 ++ y10, r9.2.1, r9.2.2.1, ())
   else none
   else none
   else none
   else none
   else none
   else none
   else none
   else none
   else none
   else none
   else none
   else none) (fun o11 =>
   some (o11.1, o11.2.1, o11.2.2.1, ())) o2
noncomputable def consl20Bend (N : Nat) : Con := { f := 53, din := dinsl20Bend, outs := outsl20Bend, F := Fsl20Bend N }
noncomputable def Xsl20Bend (N : Nat) : Ctx := { E := Esl20Bend N, H := Hsl20Bend, lp := [], jn := [(3, jsl20Bend_3)] }
theorem Fsl20Bend_eq (N : Nat) (x : (ByteArray × ((List Int) × (Int × Unit)))) : evFn (Xsl20Bend N) Tryd.f53 dinsl20Bend outsl20Bend x = Fsl20Bend N x := by kernel_rfl
theorem cxsl20Bend (N : Nat) : CtxOk Tryd.prog (Xsl20Bend N) := ⟨⟨TE_ok, List.forall_mem_cons.2 ⟨(specsl1Rd_pick N), fun k hk => absurd hk List.not_mem_nil⟩⟩, mixed⟩
theorem specsl20Bend (N : Nat) : Spec Tryd.prog (consl20Bend N) :=
  Spec.of_eq (fn_spec (cxsl20Bend N) (f := 53) (fn := Tryd.f53) (c := codeOf Tryd.f53) (by kernel_rfl) (by kernel_rfl) (by kernel_rfl) (loops_at (ids := []) (by kernel_rfl) (trivial)) (by kernel_rfl)) (fun x r h => (Fsl20Bend_eq N x).trans h)

/-! ### 27: spec.DrawPicksRead -/

noncomputable def dinsDrawPicksRead : Desc := { n := 1, regs := [.one (.val (.sl (.int .u8)))], bx := [], pins := [] }
noncomputable def outsDrawPicksRead : Outs := [(.ret, { n := 1, regs := [.one (.val .str)], bx := [], pins := [] })]
noncomputable def HsDrawPicksRead : Hints := [(2, [(2, { con := 1, sg := [(0, 1012865)] }), (4, { con := 2, sg := [(0, 1012865)] }), (5, { con := 3, sg := [(0, 1012865)] }), (6, { con := 4 })]),
  (3, [(1, { con := 2, sg := [(0, 1012865)] })]),
  (14, [(2, { con := 5, sg := [(0, 1012865)] })])]
noncomputable def EsDrawPicksRead (N : Nat) : Env := { te := TE, cs := [consl1Open_o_ N, consl20Config N, consl1Rd_pick N, consl20Picks N, consPicksText N, consl20Bend N] }
noncomputable def FsDrawPicksRead (N : Nat) (x : ((List Int) × Unit)) : Option (ByteArray × Unit) :=
  (Fsl1Open_o_ N (x.1, ())).bind fun r1 =>
  (Fsl20Config N (r1.1, r1.2.1, ())).bind fun r2 =>
  (Fsl1Rd_pick N ((60 : Int), r2.2.2.2.1, r2.2.2.2.2.1, ())).bind fun r3 =>
  (Fsl20Picks N ((r2.1, r2.2.1, r2.2.2.1, ()), r3.1, r3.2.1, r3.2.2.1, ())).bind fun r4 =>
  (FsPicksText N (r4.1, ())).bind fun r5 =>
  (Fsl1Rd_pick N ((20 : Int), r4.2.1, r4.2.2.1, ())).bind fun r6 =>
  bif r6.1 == (0 : Int) then
   let y7 := (ByteArray.mk #[48, 42, 52, 48, 48, 48])
   (Fsl20Bend N (y7, r6.2.1, r6.2.2.1, ())).bind fun r8 =>
   some (r8.1, ())
  else
  bif r6.1 == (1 : Int) then
   let y9 := (ByteArray.mk #[48, 42, 52, 48, 48, 49])
   (Fsl20Bend N (y9, r6.2.1, r6.2.2.1, ())).bind fun r10 =>
   some (r10.1, ())
  else
  bif r6.1 == (2 : Int) then
   (Fsl20Bend N ((ByteArray.mk #[49, 42, 49]), r6.2.1, r6.2.2.1, ())).bind fun r11 =>
   some (r11.1, ())
  else
  bif r6.1 == (3 : Int) then
   (Fsl20Bend N ((ByteArray.mk #[49, 32, 49]), r6.2.1, r6.2.2.1, ())).bind fun r12 =>
   some (r12.1, ())
  else
  bif r6.1 == (4 : Int) then
   (Fsl20Bend N ((ByteArray.mk #[48, 42, 51, 42, 50]), r6.2.1, r6.2.2.1, ())).bind fun r13 =>
   some (r13.1, ())
  else
  (Fsl20Bend N (r5.1, r6.2.1, r6.2.2.1, ())).bind fun r14 =>
  some (r14.1, ())
noncomputable def consDrawPicksRead (N : Nat) : Con := { f := 27, din := dinsDrawPicksRead, outs := outsDrawPicksRead, F := FsDrawPicksRead N }
noncomputable def XsDrawPicksRead (N : Nat) : Ctx := { E := EsDrawPicksRead N, H := HsDrawPicksRead, lp := [], jn := [] }
theorem FsDrawPicksRead_eq (N : Nat) (x : ((List Int) × Unit)) : evFn (XsDrawPicksRead N) Tryd.f27 dinsDrawPicksRead outsDrawPicksRead x = FsDrawPicksRead N x := by kernel_rfl
theorem cxsDrawPicksRead (N : Nat) : CtxOk Tryd.prog (XsDrawPicksRead N) := ⟨⟨TE_ok, List.forall_mem_cons.2 ⟨(specsl1Open_o_ N), List.forall_mem_cons.2 ⟨(specsl20Config N), List.forall_mem_cons.2 ⟨(specsl1Rd_pick N), List.forall_mem_cons.2 ⟨(specsl20Picks N), List.forall_mem_cons.2 ⟨(specsPicksText N), List.forall_mem_cons.2 ⟨(specsl20Bend N), fun k hk => absurd hk List.not_mem_nil⟩⟩⟩⟩⟩⟩⟩, mixed⟩
theorem specsDrawPicksRead (N : Nat) : Spec Tryd.prog (consDrawPicksRead N) :=
  Spec.of_eq (fn_spec (cxsDrawPicksRead N) (f := 27) (fn := Tryd.f27) (c := codeOf Tryd.f27) (by kernel_rfl) (by kernel_rfl) (by kernel_rfl) (loops_at (ids := []) (by kernel_rfl) (trivial)) (by kernel_rfl)) (fun x r h => (FsDrawPicksRead_eq N x).trans h)

/-! ### 87: bits.Mul64 -/

noncomputable def dinmath_bits_Mul64 : Desc := { n := 2, regs := [.one (.val (.int .u64)), .one (.val (.int .u64))], bx := [], pins := [] }
noncomputable def outmath_bits_Mul64 : Outs := [(.ret, { n := 2, regs := [.one (.val (.int .u64)), .one (.val (.int .u64))], bx := [], pins := [] })]
noncomputable def Hmath_bits_Mul64 : Hints := []
noncomputable def Emath_bits_Mul64 (_N : Nat) : Env := { te := TE, cs := [] }
noncomputable def Fmath_bits_Mul64 (N : Nat) (x : (Int × (Int × Unit))) : Option (Int × (Int × Unit)) :=
  let y1 := IntKind.wrap .u64 (((bitsOf .u64 x.1 &&& bitsOf .u64 (4294967295 : Int)).toNat : Int))
  bif decide (0 ≤ (32 : Int)) then
  let y2 := Int.fdiv x.1 (2 ^ min (32 : Int).toNat 64)
  let y3 := IntKind.wrap .u64 (((bitsOf .u64 x.2.1 &&& bitsOf .u64 (4294967295 : Int)).toNat : Int))
  bif decide (0 ≤ (32 : Int)) then
  let y4 := Int.fdiv x.2.1 (2 ^ min (32 : Int).toNat 64)
  bif decide (0 ≤ (32 : Int)) then
  let y5 := Int.fdiv (IntKind.wrap .u64 (y1 * y3)) (2 ^ min (32 : Int).toNat 64)
  let y6 := IntKind.wrap .u64 ((IntKind.wrap .u64 (y2 * y3)) + y5)
  let y7 := IntKind.wrap .u64 (((bitsOf .u64 y6 &&& bitsOf .u64 (4294967295 : Int)).toNat : Int))
  bif decide (0 ≤ (32 : Int)) then
  let y8 := Int.fdiv y6 (2 ^ min (32 : Int).toNat 64)
  let y9 := IntKind.wrap .u64 (y7 + (IntKind.wrap .u64 (y1 * y4)))
  let y10 := IntKind.wrap .u64 ((IntKind.wrap .u64 (y2 * y4)) + y8)
  bif decide (0 ≤ (32 : Int)) then
  let y11 := Int.fdiv y9 (2 ^ min (32 : Int).toNat 64)
  some (IntKind.wrap .u64 (y10 + y11), IntKind.wrap .u64 (x.1 * x.2.1), ())
  else none
  else none
  else none
  else none
  else none
noncomputable def conmath_bits_Mul64 (N : Nat) : Con := { f := 87, din := dinmath_bits_Mul64, outs := outmath_bits_Mul64, F := Fmath_bits_Mul64 N }
noncomputable def Xmath_bits_Mul64 (N : Nat) : Ctx := { E := Emath_bits_Mul64 N, H := Hmath_bits_Mul64, lp := [], jn := [] }
theorem Fmath_bits_Mul64_eq (N : Nat) (x : (Int × (Int × Unit))) : evFn (Xmath_bits_Mul64 N) Tryd.f87 dinmath_bits_Mul64 outmath_bits_Mul64 x = Fmath_bits_Mul64 N x := by kernel_rfl
theorem cxmath_bits_Mul64 (N : Nat) : CtxOk Tryd.prog (Xmath_bits_Mul64 N) := ⟨⟨TE_ok, fun k hk => absurd hk List.not_mem_nil⟩, mixed⟩
theorem specmath_bits_Mul64 (N : Nat) : Spec Tryd.prog (conmath_bits_Mul64 N) :=
  Spec.of_eq (fn_spec (cxmath_bits_Mul64 N) (f := 87) (fn := Tryd.f87) (c := codeOf Tryd.f87) (by kernel_rfl) (by kernel_rfl) (by kernel_rfl) (loops_at (ids := []) (by kernel_rfl) (trivial)) (by kernel_rfl)) (fun x r h => (Fmath_bits_Mul64_eq N x).trans h)

/-! ### 74: bits.Mul -/

noncomputable def dinmath_bits_Mul : Desc := { n := 2, regs := [.one (.val (.int .u64)), .one (.val (.int .u64))], bx := [], pins := [] }
noncomputable def outmath_bits_Mul : Outs := [(.ret, { n := 2, regs := [.one (.val (.int .u64)), .one (.val (.int .u64))], bx := [], pins := [] })]
noncomputable def Hmath_bits_Mul : Hints := []
noncomputable def Emath_bits_Mul (N : Nat) : Env := { te := TE, cs := [conmath_bits_Mul64 N] }
noncomputable def Fmath_bits_Mul (N : Nat) (x : (Int × (Int × Unit))) : Option (Int × (Int × Unit)) :=
  (Fmath_bits_Mul64 N (x.1, x.2.1, ())).bind fun r1 =>
  some (r1.1, r1.2.1, ())
noncomputable def conmath_bits_Mul (N : Nat) : Con := { f := 74, din := dinmath_bits_Mul, outs := outmath_bits_Mul, F := Fmath_bits_Mul N }
noncomputable def Xmath_bits_Mul (N : Nat) : Ctx := { E := Emath_bits_Mul N, H := Hmath_bits_Mul, lp := [], jn := [] }
theorem Fmath_bits_Mul_eq (N : Nat) (x : (Int × (Int × Unit))) : evFn (Xmath_bits_Mul N) Tryd.f74 dinmath_bits_Mul outmath_bits_Mul x = Fmath_bits_Mul N x := by kernel_rfl
theorem cxmath_bits_Mul (N : Nat) : CtxOk Tryd.prog (Xmath_bits_Mul N) := ⟨⟨TE_ok, List.forall_mem_cons.2 ⟨(specmath_bits_Mul64 N), fun k hk => absurd hk List.not_mem_nil⟩⟩, mixed⟩
theorem specmath_bits_Mul (N : Nat) : Spec Tryd.prog (conmath_bits_Mul N) :=
  Spec.of_eq (fn_spec (cxmath_bits_Mul N) (f := 74) (fn := Tryd.f74) (c := codeOf Tryd.f74) (by kernel_rfl) (by kernel_rfl) (by kernel_rfl) (loops_at (ids := []) (by kernel_rfl) (trivial)) (by kernel_rfl)) (fun x r h => (Fmath_bits_Mul_eq N x).trans h)

/-! ### 50: slices.Repeat[[]int,int] -/

noncomputable def dinkRepeat_Sint_int : Desc := { n := 2, regs := [.one (.val (.sl (.int .i64))), .one (.val (.int .i64))], bx := [], pins := [] }
noncomputable def outkRepeat_Sint_int : Outs := [(.ret, { n := 1, regs := [.one (.lit (.row 1076928))], bx := [(1076928, .row (.int .i64))], pins := [] })]
noncomputable def HkRepeat_Sint_int : Hints := []
noncomputable def EkRepeat_Sint_int (N : Nat) : Env := { te := TE, cs := [conmath_bits_Mul N] }
noncomputable def dkRepeat_Sint_int_0 : Desc := { n := 48, regs := [u, u, u, u, u, u, u, .one (.lit (.row 1076928)), .one (.val (.int .i64))], bx := [(1076928, .row (.int .i64))], pins := [] }
noncomputable def okRepeat_Sint_int_0 : Outs := [(.exit 0, { n := 48, regs := [u, u, u, u, u, u, u, .one (.lit (.row 1076928))], bx := [(1076928, .row (.int .i64))], pins := [] })]
noncomputable def jkRepeat_Sint_int_3 : Outs := [(.normal, { n := 48, regs := [.one (.val (.sl (.int .i64))), .one (.val (.int .i64))], bx := [], pins := [] })]
noncomputable def jkRepeat_Sint_int_6 : Outs := [(.normal, { n := 48, regs := [.one (.val (.sl (.int .i64))), u, u, u, u, u, .one (.val (.int .u64))], bx := [], pins := [] })]
noncomputable def lkRepeat_Sint_int_0 (N : Nat) : Nat → (Int × ((List Int) × Unit)) → Option ((List Int) × Unit)
  | 0, _ => none
  | n + 1, v =>
    bif decide (v.1 < (v.2.1.length : Int)) then
     bif decide (0 ≤ (v.2.1.length : Int)) then
     bif decide ((v.2.1.length : Int) ≤ (v.2.1.length : Int)) then
     bif decide (0 ≤ v.1) then
     bif decide (v.1 ≤ (v.2.1.length : Int)) then
     bif decide (0 ≤ v.1) then
     bif decide (v.1 ≤ (v.2.1.length : Int)) then
     bif decide (0 ≤ (0 : Int)) then
     bif decide ((0 : Int) ≤ v.1) then
     let y8 := lay v.2.1 v.1.toNat (((v.2.1.drop ((0 : Int).toNat)).take (v.1.toNat - (0 : Int).toNat)).take ((v.2.1.length : Int).toNat - v.1.toNat))
     let y9 := ((min ((v.2.1.drop ((0 : Int).toNat)).take (v.1.toNat - (0 : Int).toNat)).length ((v.2.1.length : Int).toNat - v.1.toNat) : Nat) : Int)
     lkRepeat_Sint_int_0 N n (w64 (v.1 + y9), y8, ())
     else none
     else none
     else none
     else none
     else none
     else none
     else none
     else none
    else
    some (v.2.1, ())
noncomputable def FkRepeat_Sint_int (N : Nat) (x : ((List Int) × (Int × Unit))) : Option ((List Int) × Unit) :=
  Option.bind (
   bif decide (x.2.1 < (0 : Int)) then
    none
   else
   some (x.1, x.2.1, ())) fun o1 =>
  let y2 := IntKind.wrap .u64 ((o1.1.length : Int))
  (Fmath_bits_Mul N (y2, IntKind.wrap .u64 (o1.2.1), ())).bind fun r3 =>
  Option.bind (
   bif decide (r3.1 > (0 : Int)) then
    none
   else
   let y4 := decide (r3.2.1 > (9223372036854775807 : Int))
   bif y4 then
    none
   else
   some (o1.1, r3.2.1, ())) fun o5 =>
  bif decide (0 ≤ (w64 (o5.2.1))) then
  bif decide ((w64 (o5.2.1)).toNat ≤ lim) then
  let y6 := List.replicate (w64 (o5.2.1)).toNat (0 : Int)
  let y7 := ((min o5.1.length y6.length : Nat) : Int)
  (lkRepeat_Sint_int_0 N N (y7, lay y6 0 (o5.1.take y6.length), ())).bind fun o10 =>
  some (o10.1, ())
  else none
  else none
noncomputable def conkRepeat_Sint_int (N : Nat) : Con := { f := 50, din := dinkRepeat_Sint_int, outs := outkRepeat_Sint_int, F := FkRepeat_Sint_int N }
noncomputable def XkRepeat_Sint_int (N : Nat) : Ctx := { E := EkRepeat_Sint_int N, H := HkRepeat_Sint_int, lp := [(0, { hd := dkRepeat_Sint_int_0, outs := okRepeat_Sint_int_0, run := fun v => lkRepeat_Sint_int_0 N N v })], jn := [(3, jkRepeat_Sint_int_3), (6, jkRepeat_Sint_int_6)] }
noncomputable def bkRepeat_Sint_int_0 : Code := loopBody (codeOf Tryd.f50) 0
theorem FkRepeat_Sint_int_eq (N : Nat) (x : ((List Int) × (Int × Unit))) : evFn (XkRepeat_Sint_int N) Tryd.f50 dinkRepeat_Sint_int outkRepeat_Sint_int x = FkRepeat_Sint_int N x := by kernel_rfl
theorem lkRepeat_Sint_int_0_eq (N n : Nat) (v : (Int × ((List Int) × Unit))) : lkRepeat_Sint_int_0 N (n + 1) v = ev (XkRepeat_Sint_int N) bkRepeat_Sint_int_0 (roundK dkRepeat_Sint_int_0 okRepeat_Sint_int_0 (lkRepeat_Sint_int_0 N n)) (dkRepeat_Sint_int_0.mk' v) := by kernel_rfl
theorem cxkRepeat_Sint_int (N : Nat) : CtxOk Tryd.prog (XkRepeat_Sint_int N) := ⟨⟨TE_ok, List.forall_mem_cons.2 ⟨(specmath_bits_Mul N), fun k hk => absurd hk List.not_mem_nil⟩⟩, mixed⟩
theorem lpkRepeat_Sint_int_0 (N : Nat) : LoopOk Tryd.prog { hd := dkRepeat_Sint_int_0, outs := okRepeat_Sint_int_0, run := fun v => lkRepeat_Sint_int_0 N N v } bkRepeat_Sint_int_0 :=
  loop_fuel (d := dkRepeat_Sint_int_0) (os := okRepeat_Sint_int_0) (cxkRepeat_Sint_int N) (loops_at (ids := []) (by kernel_rfl) (trivial)) (lkRepeat_Sint_int_0 N) (fun _ => rfl) (fun n v => lkRepeat_Sint_int_0_eq N n v) (fun _ => N)
theorem speckRepeat_Sint_int (N : Nat) : Spec Tryd.prog (conkRepeat_Sint_int N) :=
  Spec.of_eq (fn_spec (cxkRepeat_Sint_int N) (f := 50) (fn := Tryd.f50) (c := codeOf Tryd.f50) (by kernel_rfl) (by kernel_rfl) (by kernel_rfl) (loops_at (ids := [0]) (by kernel_rfl) ⟨lp_of (lpkRepeat_Sint_int_0 N), trivial⟩) (by kernel_rfl)) (fun x r h => (FkRepeat_Sint_int_eq N x).trans h)

/-! ### 54: impl.sized -/

noncomputable def dinisized : Desc := { n := 1, regs := [.one (.val (.int .i64))], bx := [], pins := [] }
noncomputable def outisized : Outs := [(.ret, { n := 1, regs := [.one (.val .bool)], bx := [], pins := [] })]
noncomputable def Hisized : Hints := []
noncomputable def Eisized (_N : Nat) : Env := { te := TE, cs := [] }
noncomputable def Fisized (N : Nat) (x : (Int × Unit)) : Option (Bool × Unit) :=
  bif decide (x.1 ≥ (-999999999 : Int)) then
   some (decide (x.1 ≤ (999999999 : Int)), ())
  else
  some (false, ())
noncomputable def conisized (N : Nat) : Con := { f := 54, din := dinisized, outs := outisized, F := Fisized N }
noncomputable def Xisized (N : Nat) : Ctx := { E := Eisized N, H := Hisized, lp := [], jn := [] }
theorem Fisized_eq (N : Nat) (x : (Int × Unit)) : evFn (Xisized N) Tryd.f54 dinisized outisized x = Fisized N x := by kernel_rfl
theorem cxisized (N : Nat) : CtxOk Tryd.prog (Xisized N) := ⟨⟨TE_ok, fun k hk => absurd hk List.not_mem_nil⟩, mixed⟩
theorem specisized (N : Nat) : Spec Tryd.prog (conisized N) :=
  Spec.of_eq (fn_spec (cxisized N) (f := 54) (fn := Tryd.f54) (c := codeOf Tryd.f54) (by kernel_rfl) (by kernel_rfl) (by kernel_rfl) (loops_at (ids := []) (by kernel_rfl) (trivial)) (by kernel_rfl)) (fun x r h => (Fisized_eq N x).trans h)

/-! ### 29: impl.PicksText -/

noncomputable def diniPicksText : Desc := { n := 1, regs := [.one (.val (.sl (.int .i64)))], bx := [], pins := [] }
noncomputable def outiPicksText : Outs := [(.ret, { n := 1, regs := [.one (.val .str)], bx := [], pins := [] })]
noncomputable def HiPicksText : Hints := [(3, [(0, { nl := [(0, .str)] })]),
  (11, [(4, { con := 1 })]),
  (13, [(2, { con := 1 })]),
  (16, [(1, { con := 2 })])]
noncomputable def EiPicksText (N : Nat) : Env := { te := TE, cs := [conisized N, conhItoa N, conhJoin N] }
noncomputable def diPicksText_2 : Desc := { n := 62, regs := [.one (.val (.sl (.int .i64))), u, u, .one (.lit (.row 1038400)), .one (.val (.int .i64)), .one (.val (.int .i64))], bx := [(1038400, .row .str)], pins := [] }
noncomputable def oiPicksText_2 : Outs := [(.exit 2, { n := 62, regs := [.one (.val (.sl (.int .i64))), u, u, .one (.lit (.row 1038400)), .one (.val (.int .i64)), .one (.val (.int .i64))], bx := [(1038400, .row .str)], pins := [] })]
noncomputable def diPicksText_0 : Desc := { n := 62, regs := [.one (.val (.sl (.int .i64))), u, u, .one (.lit (.row 1038400)), .one (.val (.int .i64))], bx := [(1038400, .row .str)], pins := [] }
noncomputable def oiPicksText_0 : Outs := [(.exit 0, { n := 62, regs := [u, u, u, .one (.lit (.row 1038400))], bx := [(1038400, .row .str)], pins := [] }), (.ret, { n := 62, regs := [u, u, .one (.val .str)], bx := [], pins := [] })]
noncomputable def jiPicksText_14 : Outs := [(.normal, { n := 62, regs := [.one (.val (.sl (.int .i64))), u, u, .one (.lit (.row 1038400)), .one (.val (.int .i64)), .one (.val (.int .i64)), .one (.val .str)], bx := [(1038400, .row .str)], pins := [] })]
noncomputable def liPicksText_2 (N : Nat) : Nat → ((List Int) × (Int × (Int × ((List ByteArray) × Unit)))) → Option ((List Int) × (Int × (Int × ((List ByteArray) × Unit))))
  | 0, _ => none
  | n + 1, v =>
    let y2 := decide ((w64 (v.2.1 + v.2.2.1)) < (v.1.length : Int))
    bif y2 then
     bif decide (0 ≤ (w64 (v.2.1 + v.2.2.1))) then
     bif decide ((w64 (v.2.1 + v.2.2.1)).toNat < v.1.length) then
     let y3 := v.1.getD ((w64 (v.2.1 + v.2.2.1)).toNat) (0 : Int)
     bif decide (0 ≤ v.2.1) then
     bif decide (v.2.1.toNat < v.1.length) then
     let y4 := y3 == (v.1.getD v.2.1.toNat (0 : Int))
     bif y4 then
      liPicksText_2 N n (v.1, v.2.1, w64 (v.2.2.1 + (1 : Int)), v.2.2.2.1, ())
     else
     some (v.1, v.2.1, v.2.2.1, v.2.2.2.1, ())
     else none
     else none
     else none
     else none
    else
    some (v.1, v.2.1, v.2.2.1, v.2.2.2.1, ())
noncomputable def liPicksText_0 (N : Nat) : Nat → ((List Int) × (Int × ((List ByteArray) × Unit))) → Option (((List ByteArray) × Unit) ⊕ (ByteArray × Unit))
  | 0, _ => none
  | n + 1, v =>
    bif decide (v.2.1 < (v.1.length : Int)) then
     (liPicksText_2 N N (v.1, v.2.1, (1 : Int), v.2.2.1, ())).bind fun o5 =>
     bif decide (0 ≤ o5.2.1) then
     bif decide (o5.2.1.toNat < o5.1.length) then
     (Fisized N (o5.1.getD o5.2.1.toNat (0 : Int), ())).bind fun r6 =>
     bif !r6.1 then
      some (.inr (((ByteArray.mk #[]), ())))
     else
     bif decide (0 ≤ o5.2.1) then
     bif decide (o5.2.1.toNat < o5.1.length) then
     (FhItoa N (o5.1.getD o5.2.1.toNat (0 : Int), ())).bind fun r7 =>
     Option.bind (
      bif decide (o5.2.2.1 > (1 : Int)) then
       (FhItoa N (o5.2.2.1, ())).bind fun r8 =>
       bif decide ((ByteArray.mk #[42]).size + r8.1.size ≤ lim) then
       bif decide (r7.1.size + ((ByteArray.mk #[42]) ++ r8.1).size ≤ lim) then
       let y9 := r7.1 ++ ((ByteArray.mk #[42]) ++ r8.1)
       some (o5.1, o5.2.1, o5.2.2.1, y9, o5.2.2.2.1, ())
       else none
       else none
      else
      some (o5.1, o5.2.1, o5.2.2.1, r7.1, o5.2.2.2.1, ())) fun o10 =>
     bif decide (o10.2.2.2.2.1.length + [o10.2.2.2.1].length ≤ lim) then
     liPicksText_0 N n (o10.1, w64 (o10.2.1 + o10.2.2.1), o10.2.2.2.2.1 ++ [o10.2.2.2.1], ())
     else none
     else none
     else none
     else none
     else none
    else
    some (.inl (v.2.2.1, ()))
noncomputable def FiPicksText (N : Nat) (x : ((List Int) × Unit)) : Option (ByteArray × Unit) :=
  let y1 := decide ((x.1.length : Int) > (4000 : Int))
  bif y1 then
   some ((ByteArray.mk #[]), ())
  else
  (liPicksText_0 N N (x.1, (0 : Int), ([] : (List ByteArray)), ())).bind fun o11 =>
  Sum.elim (fun o12 =>
   (FhJoin N (o12.1, (ByteArray.mk #[32]), ())).bind fun r13 =>
   some (r13.1, ())) (fun o14 =>
   some (o14.1, ())) o11
noncomputable def coniPicksText (N : Nat) : Con := { f := 29, din := diniPicksText, outs := outiPicksText, F := FiPicksText N }
noncomputable def XiPicksText (N : Nat) : Ctx := { E := EiPicksText N, H := HiPicksText, lp := [(2, { hd := diPicksText_2, outs := oiPicksText_2, run := fun v => liPicksText_2 N N v }), (0, { hd := diPicksText_0, outs := oiPicksText_0, run := fun v => liPicksText_0 N N v })], jn := [(14, jiPicksText_14)] }
noncomputable def biPicksText_0 : Code := loopBody (codeOf Tryd.f29) 0
noncomputable def biPicksText_2 : Code := loopBody biPicksText_0 0
theorem FiPicksText_eq (N : Nat) (x : ((List Int) × Unit)) : evFn (XiPicksText N) Tryd.f29 diniPicksText outiPicksText x = FiPicksText N x := by kernel_rfl
theorem liPicksText_2_eq (N n : Nat) (v : ((List Int) × (Int × (Int × ((List ByteArray) × Unit))))) : liPicksText_2 N (n + 1) v = ev (XiPicksText N) biPicksText_2 (roundK diPicksText_2 oiPicksText_2 (liPicksText_2 N n)) (diPicksText_2.mk' v) := by kernel_rfl
theorem liPicksText_0_eq (N n : Nat) (v : ((List Int) × (Int × ((List ByteArray) × Unit)))) : liPicksText_0 N (n + 1) v = ev (XiPicksText N) biPicksText_0 (roundK diPicksText_0 oiPicksText_0 (liPicksText_0 N n)) (diPicksText_0.mk' v) := by kernel_rfl
theorem cxiPicksText (N : Nat) : CtxOk Tryd.prog (XiPicksText N) := ⟨⟨TE_ok, List.forall_mem_cons.2 ⟨(specisized N), List.forall_mem_cons.2 ⟨(spechItoa N), List.forall_mem_cons.2 ⟨(spechJoin N), fun k hk => absurd hk List.not_mem_nil⟩⟩⟩⟩, mixed⟩
theorem lpiPicksText_2 (N : Nat) : LoopOk Tryd.prog { hd := diPicksText_2, outs := oiPicksText_2, run := fun v => liPicksText_2 N N v } biPicksText_2 :=
  loop_fuel (d := diPicksText_2) (os := oiPicksText_2) (cxiPicksText N) (loops_at (ids := []) (by kernel_rfl) (trivial)) (liPicksText_2 N) (fun _ => rfl) (fun n v => liPicksText_2_eq N n v) (fun _ => N)
theorem lpiPicksText_0 (N : Nat) : LoopOk Tryd.prog { hd := diPicksText_0, outs := oiPicksText_0, run := fun v => liPicksText_0 N N v } biPicksText_0 :=
  loop_fuel (d := diPicksText_0) (os := oiPicksText_0) (cxiPicksText N) (loops_at (ids := [2]) (by kernel_rfl) ⟨lp_of (lpiPicksText_2 N), trivial⟩) (liPicksText_0 N) (fun _ => rfl) (fun n v => liPicksText_0_eq N n v) (fun _ => N)
theorem speciPicksText (N : Nat) : Spec Tryd.prog (coniPicksText N) :=
  Spec.of_eq (fn_spec (cxiPicksText N) (f := 29) (fn := Tryd.f29) (c := codeOf Tryd.f29) (by kernel_rfl) (by kernel_rfl) (by kernel_rfl) (loops_at (ids := [0]) (by kernel_rfl) ⟨lp_of (lpiPicksText_0 N), trivial⟩) (by kernel_rfl)) (fun x r h => (FiPicksText_eq N x).trans h)

/-! ### 23: impl.PicksRead -/

noncomputable def diniPicksRead : Desc := { n := 1, regs := [.one (.val .str)], bx := [], pins := [] }
noncomputable def outiPicksRead : Outs := [(.ret, { n := 2, regs := [.one (.lit (.row 1025600)), .one (.val .bool)], bx := [(1025600, .row (.int .i64))], pins := [] })]
noncomputable def HiPicksRead : Hints := [(2, [(0, { nl := [(0, (.int .i64))] })]),
  (4, [(0, { nl := [(0, (.int .i64))] })]),
  (5, [(0, { nl := [(0, (.int .i64))] })]),
  (9, [(1, { con := 1 })]),
  (10, [(1, { con := 2 })]),
  (13, [(1, { con := 2 })]),
  (15, [(0, { nl := [(0, (.int .i64))] })]),
  (16, [(4, { con := 3 })]),
  (18, [(1, { con := 4 })]),
  (19, [(0, { nl := [(0, (.int .i64))] })])]
noncomputable def EiPicksRead (N : Nat) : Env := { te := TE, cs := [conhSplit N, conhCut N, conhfigure N, conkRepeat_Sint_int N, coniPicksText N] }
noncomputable def diPicksRead_0 : Desc := { n := 70, regs := [.one (.val .str), u, u, u, .one (.lit (.row 1064000)), u, u, u, u, u, u, u, u, u, u, u, u, u, u, .one (.lit (.row 1076865)), .one (.val (.int .i64)), .one (.val (.int .i64))], bx := [(1064000, .row (.int .i64)), (1076865, .row .str)], pins := [] }
noncomputable def oiPicksRead_0 : Outs := [(.exit 0, { n := 70, regs := [.one (.val .str), u, u, u, .one (.lit (.row 1064000))], bx := [(1064000, .row (.int .i64))], pins := [] }), (.ret, { n := 70, regs := [u, u, .one (.lit (.row 1192000)), .one (.val .bool)], bx := [(1192000, .row (.int .i64))], pins := [] })]
noncomputable def jiPicksRead_14 : Outs := [(.normal, { n := 70, regs := [.one (.val .str), u, u, u, .one (.lit (.row 1064000)), u, u, u, u, u, .one (.val (.int .i64)), .one (.val .bool), .one (.val (.int .i64)), u, u, u, u, u, u, .one (.lit (.row 1076865)), .one (.val (.int .i64)), .one (.val (.int .i64))], bx := [(1064000, .row (.int .i64)), (1076865, .row .str)], pins := [] })]
noncomputable def jiPicksRead_16 : Outs := [(.normal, { n := 70, regs := [.one (.val .str), u, u, u, .one (.lit (.row 1064000)), u, u, u, u, u, .one (.val (.int .i64)), u, .one (.val (.int .i64)), u, u, u, u, u, u, .one (.lit (.row 1076865)), .one (.val (.int .i64)), .one (.val (.int .i64))], bx := [(1064000, .row (.int .i64)), (1076865, .row .str)], pins := [] }), (.ret, { n := 70, regs := [u, u, .one (.lit (.row 1192000)), .one (.val .bool)], bx := [(1192000, .row (.int .i64))], pins := [] })]
noncomputable def liPicksRead_0 (N : Nat) : Nat → (ByteArray × (Int × (Int × ((List Int) × ((List ByteArray) × Unit))))) → Option ((ByteArray × ((List Int) × Unit)) ⊕ (Bool × ((List Int) × Unit)))
  | 0, _ => none
  | n + 1, v =>
    bif decide (v.2.2.1 < v.2.1) then
     bif decide (0 ≤ v.2.2.1) then
     bif decide (v.2.2.1.toNat < v.2.2.2.2.1.length) then
     let y4 := v.2.2.2.2.1.getD v.2.2.1.toNat ByteArray.empty
     (FhCut N (y4, (ByteArray.mk #[42]), ())).bind fun r5 =>
     (Fhfigure N (r5.1, ())).bind fun r6 =>
     Option.bind (
      bif r6.2.1 then
       bif r5.2.2.1 then
        (Fhfigure N (r5.2.1, ())).bind fun r7 =>
        some (v.1, r6.1, r7.2.1, r7.1, v.2.1, v.2.2.1, v.2.2.2.1, v.2.2.2.2.1, ())
       else
       some (v.1, r6.1, r6.2.1, (1 : Int), v.2.1, v.2.2.1, v.2.2.2.1, v.2.2.2.2.1, ())
      else
      some (v.1, r6.1, r6.2.1, (1 : Int), v.2.1, v.2.2.1, v.2.2.2.1, v.2.2.2.2.1, ())) fun o8 =>
     Option.bind (
      bif !o8.2.2.1 then
       some (.inr ((false, ([] : (List Int)), ())))
      else
      bif decide (o8.2.2.2.1 < (1 : Int)) then
       some (.inr ((false, ([] : (List Int)), ())))
      else
      let y9 := w64 ((4000 : Int) - (o8.2.2.2.2.2.2.1.length : Int))
      bif decide (o8.2.2.2.1 > y9) then
       some (.inr ((false, ([] : (List Int)), ())))
      else
      some (.inl (o8.1, o8.2.1, o8.2.2.2.1, o8.2.2.2.2.1, o8.2.2.2.2.2.1, o8.2.2.2.2.2.2.1, o8.2.2.2.2.2.2.2.1, ()))) fun o10 =>
     Sum.elim (fun o11 =>
      (FkRepeat_Sint_int N ([o11.2.1], o11.2.2.1, ())).bind fun r12 =>
      bif decide (o11.2.2.2.2.2.1.length + r12.1.length ≤ lim) then
      liPicksRead_0 N n (o11.1, o11.2.2.2.1, w64 (o11.2.2.2.2.1 + (1 : Int)), o11.2.2.2.2.2.1 ++ r12.1, o11.2.2.2.2.2.2.1, ())
      else none) (fun o13 =>
      some (.inr ((o13.1, o13.2.1, ())))) o10
     else none
     else none
    else
    some (.inl (v.1, v.2.2.2.1, ()))
noncomputable def FiPicksRead (N : Nat) (x : (ByteArray × Unit)) : Option (Bool × ((List Int) × Unit)) :=
  let y1 := x.1.toList == (ByteArray.mk #[]).toList
  bif y1 then
   some (true, ([] : (List Int)), ())
  else
  let y2 := decide ((x.1.size : Int) > (4000 : Int))
  bif y2 then
   some (false, ([] : (List Int)), ())
  else
  (FhSplit N (x.1, (ByteArray.mk #[32]), ())).bind fun r3 =>
  (liPicksRead_0 N N (x.1, (r3.1.length : Int), (0 : Int), ([] : (List Int)), r3.1, ())).bind fun o14 =>
  Sum.elim (fun o15 =>
   (FiPicksText N (o15.2.1, ())).bind fun r16 =>
   bif !(r16.1.toList == o15.1.toList) then
    some (false, ([] : (List Int)), ())
   else
   some (true, o15.2.1, ())) (fun o17 =>
   some (o17.1, o17.2.1, ())) o14
noncomputable def coniPicksRead (N : Nat) : Con := { f := 23, din := diniPicksRead, outs := outiPicksRead, F := FiPicksRead N }
noncomputable def XiPicksRead (N : Nat) : Ctx := { E := EiPicksRead N, H := HiPicksRead, lp := [(0, { hd := diPicksRead_0, outs := oiPicksRead_0, run := fun v => liPicksRead_0 N N v })], jn := [(14, jiPicksRead_14), (16, jiPicksRead_16)] }
noncomputable def biPicksRead_0 : Code := loopBody (codeOf Tryd.f23) 0
theorem FiPicksRead_eq (N : Nat) (x : (ByteArray × Unit)) : evFn (XiPicksRead N) Tryd.f23 diniPicksRead outiPicksRead x = FiPicksRead N x := by kernel_rfl
theorem liPicksRead_0_eq (N n : Nat) (v : (ByteArray × (Int × (Int × ((List Int) × ((List ByteArray) × Unit)))))) : liPicksRead_0 N (n + 1) v = ev (XiPicksRead N) biPicksRead_0 (roundK diPicksRead_0 oiPicksRead_0 (liPicksRead_0 N n)) (diPicksRead_0.mk' v) := by kernel_rfl
theorem cxiPicksRead (N : Nat) : CtxOk Tryd.prog (XiPicksRead N) := ⟨⟨TE_ok, List.forall_mem_cons.2 ⟨(spechSplit N), List.forall_mem_cons.2 ⟨(spechCut N), List.forall_mem_cons.2 ⟨(spechfigure N), List.forall_mem_cons.2 ⟨(speckRepeat_Sint_int N), List.forall_mem_cons.2 ⟨(speciPicksText N), fun k hk => absurd hk List.not_mem_nil⟩⟩⟩⟩⟩⟩, mixed⟩
theorem lpiPicksRead_0 (N : Nat) : LoopOk Tryd.prog { hd := diPicksRead_0, outs := oiPicksRead_0, run := fun v => liPicksRead_0 N N v } biPicksRead_0 :=
  loop_fuel (d := diPicksRead_0) (os := oiPicksRead_0) (cxiPicksRead N) (loops_at (ids := []) (by kernel_rfl) (trivial)) (liPicksRead_0 N) (fun _ => rfl) (fun n v => liPicksRead_0_eq N n v) (fun _ => N)
theorem speciPicksRead (N : Nat) : Spec Tryd.prog (coniPicksRead N) :=
  Spec.of_eq (fn_spec (cxiPicksRead N) (f := 23) (fn := Tryd.f23) (c := codeOf Tryd.f23) (by kernel_rfl) (by kernel_rfl) (by kernel_rfl) (loops_at (ids := [0]) (by kernel_rfl) ⟨lp_of (lpiPicksRead_0 N), trivial⟩) (by kernel_rfl)) (fun x r h => (FiPicksRead_eq N x).trans h)

/-! ### 38: spec.l9Split -/

noncomputable def dinsl9Split : Desc := { n := 2, regs := [.one (.val .str), .one (.val (.int .u8))], bx := [], pins := [] }
noncomputable def outsl9Split : Outs := [(.ret, { n := 1, regs := [.one (.lit (.row 1012800))], bx := [(1012800, .row .str)], pins := [] })]
noncomputable def Hsl9Split : Hints := [(1, [(0, { nl := [(0, .str)] })])]
noncomputable def Esl9Split (_N : Nat) : Env := { te := TE, cs := [] }
noncomputable def dsl9Split_0 : Desc := { n := 34, regs := [.one (.val .str), .one (.val (.int .u8)), u, u, u, .one (.lit (.row 1012800)), .one (.val (.int .i64)), .one (.val (.int .i64))], bx := [(1012800, .row .str)], pins := [] }
noncomputable def osl9Split_0 : Outs := [(.exit 0, { n := 34, regs := [.one (.val .str), u, u, u, u, .one (.lit (.row 1012800)), .one (.val (.int .i64))], bx := [(1012800, .row .str)], pins := [] })]
noncomputable def lsl9Split_0 (N : Nat) : Nat → (ByteArray × (Int × (Int × (Int × ((List ByteArray) × Unit))))) → Option (ByteArray × (Int × ((List ByteArray) × Unit)))
  | 0, _ => none
  | n + 1, v =>
    let y1 := decide (v.2.2.2.1 < (v.1.size : Int))
    bif y1 then
     bif decide (0 ≤ v.2.2.2.1) then
     bif decide (v.2.2.2.1.toNat < v.1.size) then
     let y2 := ((v.1.data.getD v.2.2.2.1.toNat 0).toNat : Int)
     bif y2 == v.2.1 then
      bif decide (0 ≤ v.2.2.2.1) then
      bif decide (v.2.2.2.1 ≤ (v.1.size : Int)) then
      bif decide (0 ≤ v.2.2.1) then
      bif decide (v.2.2.1 ≤ v.2.2.2.1) then
      let y3 := v.1.extract v.2.2.1.toNat v.2.2.2.1.toNat
      bif decide (v.2.2.2.2.1.length + [y3].length ≤ lim) then
      lsl9Split_0 N n (v.1, v.2.1, w64 (v.2.2.2.1 + (1 : Int)), w64 (v.2.2.2.1 + (1 : Int)), v.2.2.2.2.1 ++ [y3], ())
      else none
      else none
      else none
      else none
      else none
     else
     lsl9Split_0 N n (v.1, v.2.1, v.2.2.1, w64 (v.2.2.2.1 + (1 : Int)), v.2.2.2.2.1, ())
     else none
     else none
    else
    some (v.1, v.2.2.1, v.2.2.2.2.1, ())
noncomputable def Fsl9Split (N : Nat) (x : (ByteArray × (Int × Unit))) : Option ((List ByteArray) × Unit) :=
  (lsl9Split_0 N N (x.1, x.2.1, (0 : Int), (0 : Int), ([] : (List ByteArray)), ())).bind fun o4 =>
  bif decide (0 ≤ (o4.1.size : Int)) then
  bif decide ((o4.1.size : Int) ≤ (o4.1.size : Int)) then
  bif decide (0 ≤ o4.2.1) then
  bif decide (o4.2.1 ≤ (o4.1.size : Int)) then
  let y5 := o4.1.extract o4.2.1.toNat (o4.1.size : Int).toNat
  bif decide (o4.2.2.1.length + [y5].length ≤ lim) then
  some (o4.2.2.1 ++ [y5], ())
  else none
  else none
  else none
  else none
  else none
noncomputable def consl9Split (N : Nat) : Con := { f := 38, din := dinsl9Split, outs := outsl9Split, F := Fsl9Split N }
noncomputable def Xsl9Split (N : Nat) : Ctx := { E := Esl9Split N, H := Hsl9Split, lp := [(0, { hd := dsl9Split_0, outs := osl9Split_0, run := fun v => lsl9Split_0 N N v })], jn := [] }
noncomputable def bsl9Split_0 : Code := loopBody (codeOf Tryd.f38) 0
theorem Fsl9Split_eq (N : Nat) (x : (ByteArray × (Int × Unit))) : evFn (Xsl9Split N) Tryd.f38 dinsl9Split outsl9Split x = Fsl9Split N x := by kernel_rfl
theorem lsl9Split_0_eq (N n : Nat) (v : (ByteArray × (Int × (Int × (Int × ((List ByteArray) × Unit)))))) : lsl9Split_0 N (n + 1) v = ev (Xsl9Split N) bsl9Split_0 (roundK dsl9Split_0 osl9Split_0 (lsl9Split_0 N n)) (dsl9Split_0.mk' v) := by kernel_rfl
theorem cxsl9Split (N : Nat) : CtxOk Tryd.prog (Xsl9Split N) := ⟨⟨TE_ok, fun k hk => absurd hk List.not_mem_nil⟩, mixed⟩
theorem lpsl9Split_0 (N : Nat) : LoopOk Tryd.prog { hd := dsl9Split_0, outs := osl9Split_0, run := fun v => lsl9Split_0 N N v } bsl9Split_0 :=
  loop_fuel (d := dsl9Split_0) (os := osl9Split_0) (cxsl9Split N) (loops_at (ids := []) (by kernel_rfl) (trivial)) (lsl9Split_0 N) (fun _ => rfl) (fun n v => lsl9Split_0_eq N n v) (fun _ => N)
theorem specsl9Split (N : Nat) : Spec Tryd.prog (consl9Split N) :=
  Spec.of_eq (fn_spec (cxsl9Split N) (f := 38) (fn := Tryd.f38) (c := codeOf Tryd.f38) (by kernel_rfl) (by kernel_rfl) (by kernel_rfl) (loops_at (ids := [0]) (by kernel_rfl) ⟨lp_of (lpsl9Split_0 N), trivial⟩) (by kernel_rfl)) (fun x r h => (Fsl9Split_eq N x).trans h)

/-! ### 65: spec.l9Num -/

noncomputable def dinsl9Num : Desc := { n := 1, regs := [.one (.val .str)], bx := [], pins := [] }
noncomputable def outsl9Num : Outs := [(.ret, { n := 2, regs := [.one (.val (.int .i64)), .one (.val .bool)], bx := [], pins := [] })]
noncomputable def Hsl9Num : Hints := []
noncomputable def Esl9Num (_N : Nat) : Env := { te := TE, cs := [] }
noncomputable def dsl9Num_0 : Desc := { n := 67, regs := [.one (.val .str), u, u, u, .one (.val .str), .one (.val (.int .i64)), .one (.val (.int .i64))], bx := [], pins := [] }
noncomputable def osl9Num_0 : Outs := [(.exit 0, { n := 67, regs := [.one (.val .str), u, u, u, .one (.val .str), .one (.val (.int .i64))], bx := [], pins := [] }), (.ret, { n := 67, regs := [u, u, .one (.val (.int .i64)), .one (.val .bool)], bx := [], pins := [] })]
noncomputable def jsl9Num_4 : Outs := [(.normal, { n := 67, regs := [.one (.val .str), u, u, u, .one (.val .str)], bx := [], pins := [] })]
noncomputable def jsl9Num_6 : Outs := [(.normal, { n := 67, regs := [.one (.val .str), u, u, u, .one (.val .str)], bx := [], pins := [] }), (.ret, { n := 67, regs := [u, u, .one (.val (.int .i64)), .one (.val .bool)], bx := [], pins := [] })]
noncomputable def jsl9Num_12 : Outs := [(.normal, { n := 67, regs := [.one (.val .str), u, u, u, .one (.val .str), .one (.val (.int .i64)), .one (.val (.int .i64))], bx := [], pins := [] }), (.ret, { n := 67, regs := [u, u, .one (.val (.int .i64)), .one (.val .bool)], bx := [], pins := [] })]
noncomputable def lsl9Num_0 (N : Nat) : Nat → (ByteArray × (ByteArray × (Int × (Int × Unit)))) → Option ((ByteArray × (ByteArray × (Int × Unit))) ⊕ (Int × (Bool × Unit)))
  | 0, _ => none
  | n + 1, v =>
    let y11 := decide (v.2.2.2.1 < (v.2.1.size : Int))
    bif y11 then
     Option.bind (
      bif decide (0 ≤ v.2.2.2.1) then
      bif decide (v.2.2.2.1.toNat < v.2.1.size) then
      let y12 := ((v.2.1.data.getD v.2.2.2.1.toNat 0).toNat : Int)
      bif decide (y12 < (48 : Int)) then
       some (.inr (((0 : Int), false, ())))
      else
      bif decide (0 ≤ v.2.2.2.1) then
      bif decide (v.2.2.2.1.toNat < v.2.1.size) then
      let y13 := ((v.2.1.data.getD v.2.2.2.1.toNat 0).toNat : Int)
      bif decide (y13 > (57 : Int)) then
       some (.inr (((0 : Int), false, ())))
      else
      some (.inl (v.1, v.2.1, v.2.2.1, v.2.2.2.1, ()))
      else none
      else none
      else none
      else none) fun o14 =>
     Sum.elim (fun o15 =>
      bif decide (0 ≤ o15.2.2.2.1) then
      bif decide (o15.2.2.2.1.toNat < o15.2.1.size) then
      let y16 := ((o15.2.1.data.getD o15.2.2.2.1.toNat 0).toNat : Int)
      let y17 := w64 (IntKind.wrap .u8 (y16 - (48 : Int)))
      let y18 := w64 ((w64 ((10 : Int) * o15.2.2.1)) + y17)
      lsl9Num_0 N n (o15.1, o15.2.1, y18, w64 (o15.2.2.2.1 + (1 : Int)), ())
      else none
      else none) (fun o19 =>
      some (.inr ((o19.1, o19.2.1, ())))) o14
    else
    some (.inl (v.1, v.2.1, v.2.2.1, ()))
noncomputable def Fsl9Num (N : Nat) (x : (ByteArray × Unit)) : Option (Int × (Bool × Unit)) :=
  Option.bind (
   let y1 := decide ((x.1.size : Int) > (0 : Int))
   bif y1 then
    bif decide (0 ≤ (0 : Int)) then
    bif decide ((0 : Int).toNat < x.1.size) then
    let y2 := ((x.1.data.getD (0 : Int).toNat 0).toNat : Int)
    bif y2 == (45 : Int) then
     bif decide (0 ≤ (x.1.size : Int)) then
     bif decide ((x.1.size : Int) ≤ (x.1.size : Int)) then
     bif decide (0 ≤ (1 : Int)) then
     bif decide ((1 : Int) ≤ (x.1.size : Int)) then
     let y3 := x.1.extract (1 : Int).toNat (x.1.size : Int).toNat
     some (x.1, y3, ())
     else none
     else none
     else none
     else none
    else
    some (x.1, x.1, ())
    else none
    else none
   else
   some (x.1, x.1, ())) fun o4 =>
  Option.bind (
   let y5 := decide ((o4.2.1.size : Int) < (1 : Int))
   bif y5 then
    some (.inr (((0 : Int), false, ())))
   else
   let y6 := decide ((o4.2.1.size : Int) > (9 : Int))
   bif y6 then
    some (.inr (((0 : Int), false, ())))
   else
   bif decide (0 ≤ (0 : Int)) then
   bif decide ((0 : Int).toNat < o4.2.1.size) then
   let y7 := ((o4.2.1.data.getD (0 : Int).toNat 0).toNat : Int)
   bif y7 == (48 : Int) then
    let y8 := !(o4.1.toList == (ByteArray.mk #[48]).toList)
    bif y8 then
     some (.inr (((0 : Int), false, ())))
    else
    some (.inl (o4.1, o4.2.1, ()))
   else
   some (.inl (o4.1, o4.2.1, ()))
   else none
   else none) fun o9 =>
  Sum.elim (fun o10 =>
   (lsl9Num_0 N N (o10.1, o10.2.1, (0 : Int), (0 : Int), ())).bind fun o20 =>
   Sum.elim (fun o21 =>
    let y22 := decide ((o21.2.1.size : Int) < (o21.1.size : Int))
    bif y22 then
     some (w64 (0 - o21.2.2.1), true, ())
    else
    some (o21.2.2.1, true, ())) (fun o23 =>
    some (o23.1, o23.2.1, ())) o20) (fun o24 =>
   some (o24.1, o24.2.1, ())) o9
noncomputable def consl9Num (N : Nat) : Con := { f := 65, din := dinsl9Num, outs := outsl9Num, F := Fsl9Num N }
noncomputable def Xsl9Num (N : Nat) : Ctx := { E := Esl9Num N, H := Hsl9Num, lp := [(0, { hd := dsl9Num_0, outs := osl9Num_0, run := fun v => lsl9Num_0 N N v })], jn := [(4, jsl9Num_4), (6, jsl9Num_6), (12, jsl9Num_12)] }
noncomputable def bsl9Num_0 : Code := loopBody (codeOf Tryd.f65) 0
theorem Fsl9Num_eq (N : Nat) (x : (ByteArray × Unit)) : evFn (Xsl9Num N) Tryd.f65 dinsl9Num outsl9Num x = Fsl9Num N x := by kernel_rfl
theorem lsl9Num_0_eq (N n : Nat) (v : (ByteArray × (ByteArray × (Int × (Int × Unit))))) : lsl9Num_0 N (n + 1) v = ev (Xsl9Num N) bsl9Num_0 (roundK dsl9Num_0 osl9Num_0 (lsl9Num_0 N n)) (dsl9Num_0.mk' v) := by kernel_rfl
theorem cxsl9Num (N : Nat) : CtxOk Tryd.prog (Xsl9Num N) := ⟨⟨TE_ok, fun k hk => absurd hk List.not_mem_nil⟩, mixed⟩
theorem lpsl9Num_0 (N : Nat) : LoopOk Tryd.prog { hd := dsl9Num_0, outs := osl9Num_0, run := fun v => lsl9Num_0 N N v } bsl9Num_0 :=
  loop_fuel (d := dsl9Num_0) (os := osl9Num_0) (cxsl9Num N) (loops_at (ids := []) (by kernel_rfl) (trivial)) (lsl9Num_0 N) (fun _ => rfl) (fun n v => lsl9Num_0_eq N n v) (fun _ => N)
theorem specsl9Num (N : Nat) : Spec Tryd.prog (consl9Num N) :=
  Spec.of_eq (fn_spec (cxsl9Num N) (f := 65) (fn := Tryd.f65) (c := codeOf Tryd.f65) (by kernel_rfl) (by kernel_rfl) (by kernel_rfl) (loops_at (ids := [0]) (by kernel_rfl) ⟨lp_of (lpsl9Num_0 N), trivial⟩) (by kernel_rfl)) (fun x r h => (Fsl9Num_eq N x).trans h)

/-! ### 39: spec.l9Nums -/

noncomputable def dinsl9Nums : Desc := { n := 1, regs := [.one (.val (.sl .str))], bx := [], pins := [] }
noncomputable def outsl9Nums : Outs := [(.ret, { n := 2, regs := [.one (.lit (.row 1012800)), .one (.val .bool)], bx := [(1012800, .row (.int .i64))], pins := [] })]
noncomputable def Hsl9Nums : Hints := [(1, [(0, { nl := [(0, (.int .i64))] })]),
  (7, [(0, { nl := [(0, (.int .i64))] })])]
noncomputable def Esl9Nums (N : Nat) : Env := { te := TE, cs := [consl9Num N] }
noncomputable def dsl9Nums_0 : Desc := { n := 29, regs := [.one (.val (.sl .str)), u, u, u, .one (.lit (.row 1012800)), .one (.val (.int .i64))], bx := [(1012800, .row (.int .i64))], pins := [] }
noncomputable def osl9Nums_0 : Outs := [(.exit 0, { n := 29, regs := [u, u, u, u, .one (.lit (.row 1012800))], bx := [(1012800, .row (.int .i64))], pins := [] }), (.ret, { n := 29, regs := [u, u, .one (.lit (.row 1089600)), .one (.val .bool)], bx := [(1089600, .row (.int .i64))], pins := [] })]
noncomputable def lsl9Nums_0 (N : Nat) : Nat → ((List ByteArray) × (Int × ((List Int) × Unit))) → Option (((List Int) × Unit) ⊕ (Bool × ((List Int) × Unit)))
  | 0, _ => none
  | n + 1, v =>
    bif decide (v.2.1 < (v.1.length : Int)) then
     bif decide (0 ≤ v.2.1) then
     bif decide (v.2.1.toNat < v.1.length) then
     (Fsl9Num N (v.1.getD v.2.1.toNat ByteArray.empty, ())).bind fun r1 =>
     bif !r1.2.1 then
      some (.inr ((false, ([] : (List Int)), ())))
     else
     bif decide (v.2.2.1.length + [r1.1].length ≤ lim) then
     lsl9Nums_0 N n (v.1, w64 (v.2.1 + (1 : Int)), v.2.2.1 ++ [r1.1], ())
     else none
     else none
     else none
    else
    some (.inl (v.2.2.1, ()))
noncomputable def Fsl9Nums (N : Nat) (x : ((List ByteArray) × Unit)) : Option (Bool × ((List Int) × Unit)) :=
  (lsl9Nums_0 N N (x.1, (0 : Int), ([] : (List Int)), ())).bind fun o2 =>
  Sum.elim (fun o3 =>
   some (true, o3.1, ())) (fun o4 =>
   some (o4.1, o4.2.1, ())) o2
noncomputable def consl9Nums (N : Nat) : Con := { f := 39, din := dinsl9Nums, outs := outsl9Nums, F := Fsl9Nums N }
noncomputable def Xsl9Nums (N : Nat) : Ctx := { E := Esl9Nums N, H := Hsl9Nums, lp := [(0, { hd := dsl9Nums_0, outs := osl9Nums_0, run := fun v => lsl9Nums_0 N N v })], jn := [] }
noncomputable def bsl9Nums_0 : Code := loopBody (codeOf Tryd.f39) 0
theorem Fsl9Nums_eq (N : Nat) (x : ((List ByteArray) × Unit)) : evFn (Xsl9Nums N) Tryd.f39 dinsl9Nums outsl9Nums x = Fsl9Nums N x := by kernel_rfl
theorem lsl9Nums_0_eq (N n : Nat) (v : ((List ByteArray) × (Int × ((List Int) × Unit)))) : lsl9Nums_0 N (n + 1) v = ev (Xsl9Nums N) bsl9Nums_0 (roundK dsl9Nums_0 osl9Nums_0 (lsl9Nums_0 N n)) (dsl9Nums_0.mk' v) := by kernel_rfl
theorem cxsl9Nums (N : Nat) : CtxOk Tryd.prog (Xsl9Nums N) := ⟨⟨TE_ok, List.forall_mem_cons.2 ⟨(specsl9Num N), fun k hk => absurd hk List.not_mem_nil⟩⟩, mixed⟩
theorem lpsl9Nums_0 (N : Nat) : LoopOk Tryd.prog { hd := dsl9Nums_0, outs := osl9Nums_0, run := fun v => lsl9Nums_0 N N v } bsl9Nums_0 :=
  loop_fuel (d := dsl9Nums_0) (os := osl9Nums_0) (cxsl9Nums N) (loops_at (ids := []) (by kernel_rfl) (trivial)) (lsl9Nums_0 N) (fun _ => rfl) (fun n v => lsl9Nums_0_eq N n v) (fun _ => N)
theorem specsl9Nums (N : Nat) : Spec Tryd.prog (consl9Nums N) :=
  Spec.of_eq (fn_spec (cxsl9Nums N) (f := 39) (fn := Tryd.f39) (c := codeOf Tryd.f39) (by kernel_rfl) (by kernel_rfl) (by kernel_rfl) (loops_at (ids := [0]) (by kernel_rfl) ⟨lp_of (lpsl9Nums_0 N), trivial⟩) (by kernel_rfl)) (fun x r h => (Fsl9Nums_eq N x).trans h)

/-! ### 22: spec.PicksRead -/

noncomputable def dinsPicksRead : Desc := { n := 1, regs := [.one (.val .str)], bx := [], pins := [] }
noncomputable def outsPicksRead : Outs := [(.ret, { n := 2, regs := [.one (.lit (.row 1025600)), .one (.val .bool)], bx := [(1025600, .row (.int .i64))], pins := [] })]
noncomputable def HsPicksRead : Hints := [(2, [(0, { nl := [(0, (.int .i64))] })]),
  (4, [(0, { nl := [(0, (.int .i64))] })]),
  (6, [(0, { nl := [(0, (.int .i64))] })]),
  (11, [(1, { con := 1 })]),
  (13, [(0, { nl := [(0, (.int .i64))] })]),
  (18, [(0, { nl := [(0, (.int .i64))] })]),
  (23, [(1, { con := 2 })]),
  (24, [(0, { nl := [(0, (.int .i64))] })])]
noncomputable def EsPicksRead (N : Nat) : Env := { te := TE, cs := [consl9Split N, consl9Nums N, consPicksText N] }
noncomputable def dsPicksRead_2 : Desc := { n := 73, regs := [.one (.val .str), u, u, u, .one (.lit (.row 1064065)), .one (.lit (.row 1076800)), .one (.val (.int .i64)), u, .one (.lit (.row 1140865)), u, .one (.val (.int .i64)), .one (.val (.int .i64))], bx := [(1064065, .row .str), (1076800, .row (.int .i64)), (1140865, .row (.int .i64))], pins := [] }
noncomputable def osPicksRead_2 : Outs := [(.exit 2, { n := 73, regs := [.one (.val .str), u, u, u, .one (.lit (.row 1064065)), .one (.lit (.row 1076800)), .one (.val (.int .i64))], bx := [(1064065, .row .str), (1076800, .row (.int .i64))], pins := [] })]
noncomputable def dsPicksRead_0 : Desc := { n := 73, regs := [.one (.val .str), u, u, u, .one (.lit (.row 1064065)), .one (.lit (.row 1076800)), .one (.val (.int .i64))], bx := [(1064065, .row .str), (1076800, .row (.int .i64))], pins := [] }
noncomputable def osPicksRead_0 : Outs := [(.exit 0, { n := 73, regs := [.one (.val .str), u, u, u, u, .one (.lit (.row 1076800))], bx := [(1076800, .row (.int .i64))], pins := [] }), (.ret, { n := 73, regs := [u, u, .one (.lit (.row 1230400)), .one (.val .bool)], bx := [(1230400, .row (.int .i64))], pins := [] })]
noncomputable def jsPicksRead_14 : Outs := [(.normal, { n := 73, regs := [.one (.val .str), u, u, u, .one (.lit (.row 1064065)), .one (.lit (.row 1076800)), .one (.val (.int .i64)), u, .one (.lit (.row 1140865))], bx := [(1064065, .row .str), (1076800, .row (.int .i64)), (1140865, .row (.int .i64))], pins := [] }), (.ret, { n := 73, regs := [u, u, .one (.lit (.row 1166400)), .one (.val .bool)], bx := [(1166400, .row (.int .i64))], pins := [] })]
noncomputable def jsPicksRead_17 : Outs := [(.normal, { n := 73, regs := [.one (.val .str), u, u, u, .one (.lit (.row 1064065)), .one (.lit (.row 1076800)), .one (.val (.int .i64)), u, .one (.lit (.row 1140865)), u, .one (.val (.int .i64))], bx := [(1064065, .row .str), (1076800, .row (.int .i64)), (1140865, .row (.int .i64))], pins := [] })]
noncomputable def jsPicksRead_19 : Outs := [(.normal, { n := 73, regs := [.one (.val .str), u, u, u, .one (.lit (.row 1064065)), .one (.lit (.row 1076800)), .one (.val (.int .i64)), u, .one (.lit (.row 1140865)), u, .one (.val (.int .i64))], bx := [(1064065, .row .str), (1076800, .row (.int .i64)), (1140865, .row (.int .i64))], pins := [] }), (.ret, { n := 73, regs := [u, u, .one (.lit (.row 1230400)), .one (.val .bool)], bx := [(1230400, .row (.int .i64))], pins := [] })]
noncomputable def lsPicksRead_2 (N : Nat) : Nat → (ByteArray × (Int × (Int × (Int × ((List ByteArray) × ((List Int) × ((List Int) × Unit))))))) → Option (ByteArray × (Int × ((List ByteArray) × ((List Int) × Unit))))
  | 0, _ => none
  | n + 1, v =>
    bif decide (v.2.2.2.1 < v.2.2.1) then
     bif decide (0 ≤ (0 : Int)) then
     bif decide ((0 : Int).toNat < v.2.2.2.2.2.2.1.length) then
     let y17 := v.2.2.2.2.2.2.1.getD ((0 : Int).toNat) (0 : Int)
     bif decide (v.2.2.2.2.2.1.length + [y17].length ≤ lim) then
     lsPicksRead_2 N n (v.1, v.2.1, v.2.2.1, w64 (v.2.2.2.1 + (1 : Int)), v.2.2.2.2.1, v.2.2.2.2.2.1 ++ [y17], v.2.2.2.2.2.2.1, ())
     else none
     else none
     else none
    else
    some (v.1, v.2.1, v.2.2.2.2.1, v.2.2.2.2.2.1, ())
noncomputable def lsPicksRead_0 (N : Nat) : Nat → (ByteArray × (Int × ((List ByteArray) × ((List Int) × Unit)))) → Option ((ByteArray × ((List Int) × Unit)) ⊕ (Bool × ((List Int) × Unit)))
  | 0, _ => none
  | n + 1, v =>
    let y4 := decide (v.2.1 < (v.2.2.1.length : Int))
    bif y4 then
     bif decide (0 ≤ v.2.1) then
     bif decide (v.2.1.toNat < v.2.2.1.length) then
     let y5 := v.2.2.1.getD v.2.1.toNat ByteArray.empty
     (Fsl9Split N (y5, (42 : Int), ())).bind fun r6 =>
     (Fsl9Nums N (r6.1, ())).bind fun r7 =>
     Option.bind (
      bif !r7.1 then
       some (.inr ((false, ([] : (List Int)), ())))
      else
      let y8 := decide ((r7.2.1.length : Int) > (2 : Int))
      bif y8 then
       some (.inr ((false, ([] : (List Int)), ())))
      else
      some (.inl (v.1, v.2.1, v.2.2.1, v.2.2.2.1, r7.2.1, ()))) fun o9 =>
     Sum.elim (fun o10 =>
      Option.bind (
       let y11 := (o10.2.2.2.2.1.length : Int) == (2 : Int)
       bif y11 then
        bif decide (0 ≤ (1 : Int)) then
        bif decide ((1 : Int).toNat < o10.2.2.2.2.1.length) then
        let y12 := o10.2.2.2.2.1.getD ((1 : Int).toNat) (0 : Int)
        some (o10.1, o10.2.1, y12, o10.2.2.1, o10.2.2.2.1, o10.2.2.2.2.1, ())
        else none
        else none
       else
       some (o10.1, o10.2.1, (1 : Int), o10.2.2.1, o10.2.2.2.1, o10.2.2.2.2.1, ())) fun o13 =>
      Option.bind (
       bif decide (o13.2.2.1 < (1 : Int)) then
        some (.inr ((false, ([] : (List Int)), ())))
       else
       let y14 := w64 ((4000 : Int) - (o13.2.2.2.2.1.length : Int))
       bif decide (o13.2.2.1 > y14) then
        some (.inr ((false, ([] : (List Int)), ())))
       else
       some (.inl (o13.1, o13.2.1, o13.2.2.1, o13.2.2.2.1, o13.2.2.2.2.1, o13.2.2.2.2.2.1, ()))) fun o15 =>
      Sum.elim (fun o16 =>
       (lsPicksRead_2 N N (o16.1, o16.2.1, o16.2.2.1, (0 : Int), o16.2.2.2.1, o16.2.2.2.2.1, o16.2.2.2.2.2.1, ())).bind fun o18 =>
       lsPicksRead_0 N n (o18.1, w64 (o18.2.1 + (1 : Int)), o18.2.2.1, o18.2.2.2.1, ())) (fun o19 =>
       some (.inr ((o19.1, o19.2.1, ())))) o15) (fun o20 =>
      some (.inr ((o20.1, o20.2.1, ())))) o9
     else none
     else none
    else
    some (.inl (v.1, v.2.2.2.1, ()))
noncomputable def FsPicksRead (N : Nat) (x : (ByteArray × Unit)) : Option (Bool × ((List Int) × Unit)) :=
  let y1 := decide ((x.1.size : Int) > (4000 : Int))
  bif y1 then
   some (false, ([] : (List Int)), ())
  else
  let y2 := x.1.toList == (ByteArray.mk #[]).toList
  bif y2 then
   some (true, ([] : (List Int)), ())
  else
  (Fsl9Split N (x.1, (32 : Int), ())).bind fun r3 =>
  (lsPicksRead_0 N N (x.1, (0 : Int), r3.1, ([] : (List Int)), ())).bind fun o21 =>
  Sum.elim (fun o22 =>
   (FsPicksText N (o22.2.1, ())).bind fun r23 =>
   bif !(r23.1.toList == o22.1.toList) then
    some (false, ([] : (List Int)), ())
   else
   some (true, o22.2.1, ())) (fun o24 =>
   some (o24.1, o24.2.1, ())) o21
noncomputable def consPicksRead (N : Nat) : Con := { f := 22, din := dinsPicksRead, outs := outsPicksRead, F := FsPicksRead N }
noncomputable def XsPicksRead (N : Nat) : Ctx := { E := EsPicksRead N, H := HsPicksRead, lp := [(2, { hd := dsPicksRead_2, outs := osPicksRead_2, run := fun v => lsPicksRead_2 N N v }), (0, { hd := dsPicksRead_0, outs := osPicksRead_0, run := fun v => lsPicksRead_0 N N v })], jn := [(14, jsPicksRead_14), (17, jsPicksRead_17), (19, jsPicksRead_19)] }
noncomputable def bsPicksRead_0 : Code := loopBody (codeOf Tryd.f22) 0
noncomputable def bsPicksRead_2 : Code := loopBody bsPicksRead_0 0
theorem FsPicksRead_eq (N : Nat) (x : (ByteArray × Unit)) : evFn (XsPicksRead N) Tryd.f22 dinsPicksRead outsPicksRead x = FsPicksRead N x := by kernel_rfl
theorem lsPicksRead_2_eq (N n : Nat) (v : (ByteArray × (Int × (Int × (Int × ((List ByteArray) × ((List Int) × ((List Int) × Unit)))))))) : lsPicksRead_2 N (n + 1) v = ev (XsPicksRead N) bsPicksRead_2 (roundK dsPicksRead_2 osPicksRead_2 (lsPicksRead_2 N n)) (dsPicksRead_2.mk' v) := by kernel_rfl
theorem lsPicksRead_0_eq (N n : Nat) (v : (ByteArray × (Int × ((List ByteArray) × ((List Int) × Unit))))) : lsPicksRead_0 N (n + 1) v = ev (XsPicksRead N) bsPicksRead_0 (roundK dsPicksRead_0 osPicksRead_0 (lsPicksRead_0 N n)) (dsPicksRead_0.mk' v) := by kernel_rfl
theorem cxsPicksRead (N : Nat) : CtxOk Tryd.prog (XsPicksRead N) := ⟨⟨TE_ok, List.forall_mem_cons.2 ⟨(specsl9Split N), List.forall_mem_cons.2 ⟨(specsl9Nums N), List.forall_mem_cons.2 ⟨(specsPicksText N), fun k hk => absurd hk List.not_mem_nil⟩⟩⟩⟩, mixed⟩
theorem lpsPicksRead_2 (N : Nat) : LoopOk Tryd.prog { hd := dsPicksRead_2, outs := osPicksRead_2, run := fun v => lsPicksRead_2 N N v } bsPicksRead_2 :=
  loop_fuel (d := dsPicksRead_2) (os := osPicksRead_2) (cxsPicksRead N) (loops_at (ids := []) (by kernel_rfl) (trivial)) (lsPicksRead_2 N) (fun _ => rfl) (fun n v => lsPicksRead_2_eq N n v) (fun _ => N)
theorem lpsPicksRead_0 (N : Nat) : LoopOk Tryd.prog { hd := dsPicksRead_0, outs := osPicksRead_0, run := fun v => lsPicksRead_0 N N v } bsPicksRead_0 :=
  loop_fuel (d := dsPicksRead_0) (os := osPicksRead_0) (cxsPicksRead N) (loops_at (ids := [2]) (by kernel_rfl) ⟨lp_of (lpsPicksRead_2 N), trivial⟩) (lsPicksRead_0 N) (fun _ => rfl) (fun n v => lsPicksRead_0_eq N n v) (fun _ => N)
theorem specsPicksRead (N : Nat) : Spec Tryd.prog (consPicksRead N) :=
  Spec.of_eq (fn_spec (cxsPicksRead N) (f := 22) (fn := Tryd.f22) (c := codeOf Tryd.f22) (by kernel_rfl) (by kernel_rfl) (by kernel_rfl) (loops_at (ids := [0]) (by kernel_rfl) ⟨lp_of (lpsPicksRead_0 N), trivial⟩) (by kernel_rfl)) (fun x r h => (FsPicksRead_eq N x).trans h)

/-! ### 28: laws.flInts -/

noncomputable def dinvflInts : Desc := { n := 2, regs := [.one (.val (.sl (.int .i64))), .one (.val (.sl (.int .i64)))], bx := [], pins := [] }
noncomputable def outvflInts : Outs := [(.ret, { n := 1, regs := [.one (.val .bool)], bx := [], pins := [] })]
noncomputable def HvflInts : Hints := []
noncomputable def EvflInts (_N : Nat) : Env := { te := TE, cs := [] }
noncomputable def dvflInts_0 : Desc := { n := 26, regs := [.one (.val (.sl (.int .i64))), .one (.val (.sl (.int .i64))), u, u, u, .one (.val (.int .i64))], bx := [], pins := [] }
noncomputable def ovflInts_0 : Outs := [(.exit 0, { n := 26, regs := [], bx := [], pins := [] }), (.ret, { n := 26, regs := [u, u, u, u, .one (.val .bool)], bx := [], pins := [] })]
noncomputable def lvflInts_0 (N : Nat) : Nat → ((List Int) × ((List Int) × (Int × Unit))) → Option (Unit ⊕ (Bool × Unit))
  | 0, _ => none
  | n + 1, v =>
    let y2 := decide (v.2.2.1 < (v.1.length : Int))
    bif y2 then
     bif decide (0 ≤ v.2.2.1) then
     bif decide (v.2.2.1.toNat < v.1.length) then
     bif decide (0 ≤ v.2.2.1) then
     bif decide (v.2.2.1.toNat < v.2.1.length) then
     let y3 := (v.1.getD v.2.2.1.toNat (0 : Int)) != (v.2.1.getD v.2.2.1.toNat (0 : Int))
     bif y3 then
      some (.inr ((false, ())))
     else
     lvflInts_0 N n (v.1, v.2.1, w64 (v.2.2.1 + (1 : Int)), ())
     else none
     else none
     else none
     else none
    else
    some (.inl ())
noncomputable def FvflInts (N : Nat) (x : ((List Int) × ((List Int) × Unit))) : Option (Bool × Unit) :=
  let y1 := (x.1.length : Int) != (x.2.1.length : Int)
  bif y1 then
   some (false, ())
  else
  (lvflInts_0 N N (x.1, x.2.1, (0 : Int), ())).bind fun o4 =>
  Sum.elim (fun o5 =>
   some (true, ())) (fun o6 =>
   some (o6.1, ())) o4
noncomputable def convflInts (N : Nat) : Con := { f := 28, din := dinvflInts, outs := outvflInts, F := FvflInts N }
noncomputable def XvflInts (N : Nat) : Ctx := { E := EvflInts N, H := HvflInts, lp := [(0, { hd := dvflInts_0, outs := ovflInts_0, run := fun v => lvflInts_0 N N v })], jn := [] }
noncomputable def bvflInts_0 : Code := loopBody (codeOf Tryd.f28) 0
theorem FvflInts_eq (N : Nat) (x : ((List Int) × ((List Int) × Unit))) : evFn (XvflInts N) Tryd.f28 dinvflInts outvflInts x = FvflInts N x := by kernel_rfl
theorem lvflInts_0_eq (N n : Nat) (v : ((List Int) × ((List Int) × (Int × Unit)))) : lvflInts_0 N (n + 1) v = ev (XvflInts N) bvflInts_0 (roundK dvflInts_0 ovflInts_0 (lvflInts_0 N n)) (dvflInts_0.mk' v) := by kernel_rfl
theorem cxvflInts (N : Nat) : CtxOk Tryd.prog (XvflInts N) := ⟨⟨TE_ok, fun k hk => absurd hk List.not_mem_nil⟩, mixed⟩
theorem lpvflInts_0 (N : Nat) : LoopOk Tryd.prog { hd := dvflInts_0, outs := ovflInts_0, run := fun v => lvflInts_0 N N v } bvflInts_0 :=
  loop_fuel (d := dvflInts_0) (os := ovflInts_0) (cxvflInts N) (loops_at (ids := []) (by kernel_rfl) (trivial)) (lvflInts_0 N) (fun _ => rfl) (fun n v => lvflInts_0_eq N n v) (fun _ => N)
theorem specvflInts (N : Nat) : Spec Tryd.prog (convflInts N) :=
  Spec.of_eq (fn_spec (cxvflInts N) (f := 28) (fn := Tryd.f28) (c := codeOf Tryd.f28) (by kernel_rfl) (by kernel_rfl) (by kernel_rfl) (loops_at (ids := [0]) (by kernel_rfl) ⟨lp_of (lpvflInts_0 N), trivial⟩) (by kernel_rfl)) (fun x r h => (FvflInts_eq N x).trans h)

/-! ### 8: laws.FnPicksRuns -/

noncomputable def dinvFnPicksRuns : Desc := { n := 1, regs := [.one (.val (.sl (.int .u8)))], bx := [], pins := [] }
noncomputable def outvFnPicksRuns : Outs := [(.ret, { n := 1, regs := [.one (.val .bool)], bx := [], pins := [] })]
noncomputable def HvFnPicksRuns : Hints := [(4, [(1, { con := 1 })]),
  (5, [(1, { con := 2 })]),
  (6, [(6, { con := 3 })]),
  (22, [(1, { con := 4 })])]
noncomputable def EvFnPicksRuns (N : Nat) : Env := { te := TE, cs := [consDrawPicksRead N, coniPicksRead N, consPicksRead N, convflInts N, coniPicksText N] }
noncomputable def dvFnPicksRuns_0 : Desc := { n := 89, regs := [u, u, u, .one (.val .str), .one (.lit (.row 1051265)), u, u, u, .one (.val (.int .i64)), .one (.val (.int .i64))], bx := [(1051265, .row (.int .i64))], pins := [] }
noncomputable def ovFnPicksRuns_0 : Outs := [(.exit 0, { n := 89, regs := [u, u, u, .one (.val .str), .one (.lit (.row 1051265)), u, u, u, .one (.val (.int .i64))], bx := [(1051265, .row (.int .i64))], pins := [] })]
noncomputable def dvFnPicksRuns_2 : Desc := { n := 89, regs := [u, u, u, .one (.val .str), .one (.lit (.row 1051265)), u, u, u, .one (.val (.int .i64)), u, .one (.val (.int .i64)), .one (.val (.int .i64))], bx := [(1051265, .row (.int .i64))], pins := [] }
noncomputable def ovFnPicksRuns_2 : Outs := [(.exit 2, { n := 89, regs := [u, u, u, .one (.val .str), .one (.lit (.row 1051265)), u, u, u, .one (.val (.int .i64)), u, .one (.val (.int .i64))], bx := [(1051265, .row (.int .i64))], pins := [] })]
noncomputable def jvFnPicksRuns_8 : Outs := [(.normal, { n := 89, regs := [u, u, u, .one (.val .str), .one (.lit (.row 1051265)), .one (.val .bool)], bx := [(1051265, .row (.int .i64))], pins := [] }), (.ret, { n := 89, regs := [u, u, .one (.val .bool)], bx := [], pins := [] })]
noncomputable def lvFnPicksRuns_0 (N : Nat) : Nat → (ByteArray × (Int × (Int × ((List Int) × Unit)))) → Option (ByteArray × (Int × ((List Int) × Unit)))
  | 0, _ => none
  | n + 1, v =>
    let y8 := decide (v.2.2.1 < (v.2.2.2.1.length : Int))
    bif y8 then
     bif v.2.2.1 == (0 : Int) then
      lvFnPicksRuns_0 N n (v.1, w64 (v.2.1 + (1 : Int)), w64 (v.2.2.1 + (1 : Int)), v.2.2.2.1, ())
     else
     bif decide (0 ≤ v.2.2.1) then
     bif decide (v.2.2.1.toNat < v.2.2.2.1.length) then
     let y9 := v.2.2.2.1.getD v.2.2.1.toNat (0 : Int)
     bif decide (0 ≤ (w64 (v.2.2.1 - (1 : Int)))) then
     bif decide ((w64 (v.2.2.1 - (1 : Int))).toNat < v.2.2.2.1.length) then
     let y10 := v.2.2.2.1.getD ((w64 (v.2.2.1 - (1 : Int))).toNat) (0 : Int)
     bif y9 != y10 then
      lvFnPicksRuns_0 N n (v.1, w64 (v.2.1 + (1 : Int)), w64 (v.2.2.1 + (1 : Int)), v.2.2.2.1, ())
     else
     lvFnPicksRuns_0 N n (v.1, v.2.1, w64 (v.2.2.1 + (1 : Int)), v.2.2.2.1, ())
     else none
     else none
     else none
     else none
    else
    some (v.1, v.2.1, v.2.2.2.1, ())
noncomputable def lvFnPicksRuns_2 (N : Nat) : Nat → (ByteArray × (Int × (Int × (Int × ((List Int) × Unit))))) → Option (ByteArray × (Int × (Int × ((List Int) × Unit))))
  | 0, _ => none
  | n + 1, v =>
    let y12 := decide (v.2.2.2.1 < (v.1.size : Int))
    bif y12 then
     bif decide (0 ≤ v.2.2.2.1) then
     bif decide (v.2.2.2.1.toNat < v.1.size) then
     let y13 := ((v.1.data.getD v.2.2.2.1.toNat 0).toNat : Int)
     bif y13 == (32 : Int) then
      lvFnPicksRuns_2 N n (v.1, v.2.1, w64 (v.2.2.1 + (1 : Int)), w64 (v.2.2.2.1 + (1 : Int)), v.2.2.2.2.1, ())
     else
     lvFnPicksRuns_2 N n (v.1, v.2.1, v.2.2.1, w64 (v.2.2.2.1 + (1 : Int)), v.2.2.2.2.1, ())
     else none
     else none
    else
    some (v.1, v.2.1, v.2.2.1, v.2.2.2.2.1, ())
noncomputable def FvFnPicksRuns (N : Nat) (x : ((List Int) × Unit)) : Option (Bool × Unit) :=
  let y1 := decide ((x.1.length : Int) > (1048576 : Int))
  bif y1 then
   some (true, ())
  else
  (FsDrawPicksRead N (x.1, ())).bind fun r2 =>
  (FiPicksRead N (r2.1, ())).bind fun r3 =>
  (FsPicksRead N (r2.1, ())).bind fun r4 =>
  Option.bind (
   bif !(r3.1 == r4.1) then
    some (.inr ((false, ())))
   else
   (FvflInts N (r3.2.1, r4.2.1, ())).bind fun r5 =>
   bif !r5.1 then
    some (.inr ((false, ())))
   else
   some (.inl (r2.1, r3.1, r3.2.1, ()))) fun o6 =>
  Sum.elim (fun o7 =>
   bif !o7.2.1 then
    some ((o7.2.2.1.length : Int) == (0 : Int), ())
   else
   (lvFnPicksRuns_0 N N (o7.1, (0 : Int), (0 : Int), o7.2.2.1, ())).bind fun o11 =>
   (lvFnPicksRuns_2 N N (o11.1, o11.2.1, (0 : Int), (0 : Int), o11.2.2.1, ())).bind fun o14 =>
   (FiPicksText N (o14.2.2.2.1, ())).bind fun r15 =>
   bif r15.1.toList == o14.1.toList then
    bif o14.2.1 == (0 : Int) then
     some (true, ())
    else
    let y16 := o14.2.2.1 == (w64 (o14.2.1 - (1 : Int)))
    some (y16, ())
   else
   some (false, ())) (fun o17 =>
   some (o17.1, ())) o6
noncomputable def convFnPicksRuns (N : Nat) : Con := { f := 8, din := dinvFnPicksRuns, outs := outvFnPicksRuns, F := FvFnPicksRuns N }
noncomputable def XvFnPicksRuns (N : Nat) : Ctx := { E := EvFnPicksRuns N, H := HvFnPicksRuns, lp := [(0, { hd := dvFnPicksRuns_0, outs := ovFnPicksRuns_0, run := fun v => lvFnPicksRuns_0 N N v }), (2, { hd := dvFnPicksRuns_2, outs := ovFnPicksRuns_2, run := fun v => lvFnPicksRuns_2 N N v })], jn := [(8, jvFnPicksRuns_8)] }
noncomputable def bvFnPicksRuns_2 : Code := loopBody (codeOf Tryd.f8) 1
noncomputable def bvFnPicksRuns_0 : Code := loopBody (codeOf Tryd.f8) 0
theorem FvFnPicksRuns_eq (N : Nat) (x : ((List Int) × Unit)) : evFn (XvFnPicksRuns N) Tryd.f8 dinvFnPicksRuns outvFnPicksRuns x = FvFnPicksRuns N x := by kernel_rfl
theorem lvFnPicksRuns_0_eq (N n : Nat) (v : (ByteArray × (Int × (Int × ((List Int) × Unit))))) : lvFnPicksRuns_0 N (n + 1) v = ev (XvFnPicksRuns N) bvFnPicksRuns_0 (roundK dvFnPicksRuns_0 ovFnPicksRuns_0 (lvFnPicksRuns_0 N n)) (dvFnPicksRuns_0.mk' v) := by kernel_rfl
theorem lvFnPicksRuns_2_eq (N n : Nat) (v : (ByteArray × (Int × (Int × (Int × ((List Int) × Unit)))))) : lvFnPicksRuns_2 N (n + 1) v = ev (XvFnPicksRuns N) bvFnPicksRuns_2 (roundK dvFnPicksRuns_2 ovFnPicksRuns_2 (lvFnPicksRuns_2 N n)) (dvFnPicksRuns_2.mk' v) := by kernel_rfl
theorem cxvFnPicksRuns (N : Nat) : CtxOk Tryd.prog (XvFnPicksRuns N) := ⟨⟨TE_ok, List.forall_mem_cons.2 ⟨(specsDrawPicksRead N), List.forall_mem_cons.2 ⟨(speciPicksRead N), List.forall_mem_cons.2 ⟨(specsPicksRead N), List.forall_mem_cons.2 ⟨(specvflInts N), List.forall_mem_cons.2 ⟨(speciPicksText N), fun k hk => absurd hk List.not_mem_nil⟩⟩⟩⟩⟩⟩, mixed⟩
theorem lpvFnPicksRuns_0 (N : Nat) : LoopOk Tryd.prog { hd := dvFnPicksRuns_0, outs := ovFnPicksRuns_0, run := fun v => lvFnPicksRuns_0 N N v } bvFnPicksRuns_0 :=
  loop_fuel (d := dvFnPicksRuns_0) (os := ovFnPicksRuns_0) (cxvFnPicksRuns N) (loops_at (ids := []) (by kernel_rfl) (trivial)) (lvFnPicksRuns_0 N) (fun _ => rfl) (fun n v => lvFnPicksRuns_0_eq N n v) (fun _ => N)
theorem lpvFnPicksRuns_2 (N : Nat) : LoopOk Tryd.prog { hd := dvFnPicksRuns_2, outs := ovFnPicksRuns_2, run := fun v => lvFnPicksRuns_2 N N v } bvFnPicksRuns_2 :=
  loop_fuel (d := dvFnPicksRuns_2) (os := ovFnPicksRuns_2) (cxvFnPicksRuns N) (loops_at (ids := []) (by kernel_rfl) (trivial)) (lvFnPicksRuns_2 N) (fun _ => rfl) (fun n v => lvFnPicksRuns_2_eq N n v) (fun _ => N)
theorem specvFnPicksRuns (N : Nat) : Spec Tryd.prog (convFnPicksRuns N) :=
  Spec.of_eq (fn_spec (cxvFnPicksRuns N) (f := 8) (fn := Tryd.f8) (c := codeOf Tryd.f8) (by kernel_rfl) (by kernel_rfl) (by kernel_rfl) (loops_at (ids := [0, 2]) (by kernel_rfl) ⟨lp_of (lpvFnPicksRuns_0 N), ⟨lp_of (lpvFnPicksRuns_2 N), trivial⟩⟩) (by kernel_rfl)) (fun x r h => (FvFnPicksRuns_eq N x).trans h)

end Go.Fl
set_option linter.all false
set_option maxRecDepth 10000
namespace Go.Fl
open Go

/-- A law's inputs are at most so large. -/
abbrev sm (n : Nat) : Prop := n ≤ 1048576

abbrev Nd := List Int × List Int × Unit

abbrev Gr := List Nd × List (List Int) × List Int × Unit

def smN (x : Nd) : Prop := sm x.1.length ∧ sm x.2.1.length

def smG (g : Gr) : Prop := sm g.1.length ∧ (∀ x ∈ g.1, smN x) ∧ sm g.2.1.length ∧ (∀ x ∈ g.2.1, sm x.length) ∧ sm g.2.2.1.length

abbrev ml (n : Nat) : Prop := n ≤ 9223372036854775807

def mlN (x : Nd) : Prop := ml x.1.length ∧ ml x.2.1.length

def mlG (g : Gr) : Prop := ml g.1.length ∧ (∀ x ∈ g.1, mlN x) ∧ ml g.2.1.length ∧ (∀ x ∈ g.2.1, ml x.length) ∧ ml g.2.2.1.length

/-- A loop that tells what is left, or stops. -/
theorem size_loop {α : Type} {xs : List α} (P : α → Prop) {L : Nat → Nat → Int → Option ((Int × Unit) ⊕ (Int × Unit))} (hl : xs.length ≤ lim)
    (h1 : ∀ n i (h : i < xs.length) (left : Int), 0 ≤ left → left ≤ 1048576 → w64 ((i : Int) + 1) = ((i + 1 : Nat) : Int) →
      L (n + 1) i left = some (.inr (-1, ())) ∨ ∃ r, 0 ≤ r ∧ r ≤ left ∧ P xs[i] ∧ L (n + 1) i left = L n (i + 1) r)
    (h3 : ∀ n left, L (n + 1) xs.length left = some (.inl (left, ()))) {n : Nat} (hn : xs.length < n) {left : Int} (h0 : 0 ≤ left) (h1' : left ≤ 1048576) :
    L n 0 left = some (.inr (-1, ())) ∨ ∃ r, 0 ≤ r ∧ r ≤ left ∧ (∀ x ∈ xs, P x) ∧ L n 0 left = some (.inl (r, ())) := by
  have key : ∀ n i left, 0 ≤ left → left ≤ 1048576 → i ≤ xs.length → xs.length - i < n → L n i left = some (.inr (-1, ())) ∨ ∃ r, 0 ≤ r ∧ r ≤ left ∧ (∀ x ∈ xs.drop i, P x) ∧ L n i left = some (.inl (r, ())) := by
    intro n
    induction n with
    | zero => intro i left _ _ _ h; exact absurd h (Nat.not_lt_zero _)
    | succ n ih =>
      intro i left h0 h2 hi hn
      by_cases h : i < xs.length
      · rcases h1 n i h left h0 h2 (w64_succ (by have : lim = 2147483648 := rfl; omega)) with h4 | ⟨r, h4, h5, h6, h7⟩
        · exact .inl h4
        · rw [h7]
          rcases ih (i + 1) r h4 (by omega) (by omega) (by omega) with h8 | ⟨q, h8, h9, h10, h11⟩
          · exact .inl h8
          · refine .inr ⟨q, h8, by omega, ?_, h11⟩
            rw [drop_at h]
            exact List.forall_mem_cons.2 ⟨h6, h10⟩
      · have : i = xs.length := by omega
        subst this
        exact .inr ⟨left, h0, Int.le_refl _, by simp, h3 _ _⟩
  simpa using key n 0 left h0 h1' (by omega) (by omega)

theorem sm_lim {n : Nat} (h : sm n) : n ≤ lim := by simp only [sm] at h; rw [lim_eq]; omega


/-- A string's bytes, and back. -/
def bl (s : ByteArray) : List UInt8 := s.data.toList
def lb (l : List UInt8) : ByteArray := ⟨l.toArray⟩
theorem bl_lb (l : List UInt8) : bl (lb l) = l := rfl
theorem lb_bl (s : ByteArray) : lb (bl s) = s := by cases s; simp [lb, bl]
theorem bl_inj {a b : ByteArray} (h : bl a = bl b) : a = b := by rw [← lb_bl a, ← lb_bl b, h]
theorem bl_len (s : ByteArray) : (bl s).length = s.size := Array.length_toList
theorem lb_size (l : List UInt8) : (lb l).size = l.length := List.size_toArray
theorem bl_toList (s : ByteArray) : s.toList = bl s := ByteArray.toList_eq s
theorem bl_append (a b : ByteArray) : bl (a ++ b) = bl a ++ bl b := by simp [bl]
theorem lb_append (a b : List UInt8) : lb a ++ lb b = lb (a ++ b) := bl_inj (by rw [bl_append]; rfl)
theorem bl_getD (s : ByteArray) (i : Nat) : s.data.getD i 0 = (bl s).getD i 0 := by simp [bl, Array.getD_eq_getD_getElem?, List.getD_eq_getElem?_getD]
theorem bl_extract (s : ByteArray) (i j : Nat) : bl (s.extract i j) = ((bl s).drop i).take (j - i) := by
  simp [bl, ByteArray.data_extract, Array.toList_extract, List.extract_eq_take_drop]
theorem ba_beq {a b : ByteArray} : (a.toList == b.toList) = decide (bl a = bl b) := by
  rw [bl_toList, bl_toList]
  by_cases h : bl a = bl b
  · simp [h]
  · rw [beq_eq_false_iff_ne.2 h]; simp [h]
theorem lb_nil : lb [] = ByteArray.empty := rfl

/-- Cut at a byte. -/
def spl (c : UInt8) : List UInt8 → List (List UInt8)
  | [] => [[]]
  | b :: l => if b = c then [] :: spl c l else (b :: (spl c l).headD []) :: (spl c l).tail
theorem spl_ne (c : UInt8) (l : List UInt8) : spl c l ≠ [] := by
  cases l with
  | nil => simp [spl]
  | cons b l => unfold spl; split <;> simp
theorem spl_cons (c : UInt8) (l : List UInt8) : spl c l = (spl c l).headD [] :: (spl c l).tail := by
  cases h : spl c l with
  | nil => exact absurd h (spl_ne c l)
  | cons x r => rfl
theorem spl_word {c : UInt8} : ∀ {x : List UInt8}, c ∉ x → spl c x = [x]
  | [], _ => rfl
  | b :: x, h => by
    have h1 : b ≠ c := fun e => h (by simp [e])
    have h2 : c ∉ x := fun e => h (by simp [e])
    unfold spl
    rw [if_neg h1, spl_word h2]
    rfl
theorem spl_sep {c : UInt8} : ∀ {x : List UInt8} (l : List UInt8), c ∉ x → spl c (x ++ c :: l) = x :: spl c l
  | [], l, _ => by simp [spl]
  | b :: x, l, h => by
    have h1 : b ≠ c := fun e => h (by simp [e])
    have h2 : c ∉ x := fun e => h (by simp [e])
    rw [List.cons_append, spl, if_neg h1, spl_sep l h2]
    rfl
theorem spl_free {c : UInt8} : ∀ (l : List UInt8), ∀ x ∈ spl c l, c ∉ x
  | [], x, h => by simp [spl] at h; simp [h]
  | b :: l, x, h => by
    have ih := spl_free (c := c) l
    unfold spl at h
    split at h
    · rcases List.mem_cons.1 h with rfl | h
      · simp
      · exact ih x h
    · rename_i hb
      rw [spl_cons] at ih
      rcases List.mem_cons.1 h with rfl | h
      · intro hc
        rcases List.mem_cons.1 hc with e | e
        · exact hb e.symm
        · exact ih _ List.mem_cons_self e
      · exact ih x (List.mem_cons_of_mem _ h)
theorem mem_split (c : UInt8) : ∀ l : List UInt8, c ∈ l → ∃ a b, l = a ++ c :: b ∧ c ∉ a
  | [], h => by simp at h
  | x :: l, h => by
    by_cases hx : x = c
    · exact ⟨[], l, by simp [hx], by simp⟩
    · obtain ⟨a, b, e, ha⟩ := mem_split c l ((List.mem_cons.1 h).resolve_left (Ne.symm hx))
      exact ⟨x :: a, b, by rw [e]; rfl, by simp [ha, Ne.symm hx]⟩
theorem spl_split (c : UInt8) (l : List UInt8) : (c ∉ l ∧ spl c l = [l]) ∨ ∃ a b, l = a ++ c :: b ∧ c ∉ a ∧ spl c l = a :: spl c b := by
  by_cases h : c ∈ l
  · obtain ⟨a, b, e, ha⟩ := mem_split c l h
    exact .inr ⟨a, b, e, ha, by rw [e, spl_sep b ha]⟩
  · exact .inl ⟨h, spl_word h⟩

theorem spl_len (c : UInt8) : ∀ l : List UInt8, (spl c l).length ≤ l.length + 1
  | [] => by simp [spl]
  | b :: l => by
    have := spl_len c l
    unfold spl
    split
    · simp; omega
    · simp
      have h := spl_cons c l
      rw [h] at this
      simp at this; omega
theorem spl_each (c : UInt8) : ∀ l : List UInt8, ∀ x ∈ spl c l, x.length ≤ l.length
  | [], x, h => by simp [spl] at h; simp [h]
  | b :: l, x, h => by
    have ih := spl_each c l
    unfold spl at h
    split at h
    · rcases List.mem_cons.1 h with rfl | h
      · simp
      · have := ih x h; simp; omega
    · rw [spl_cons] at ih
      rcases List.mem_cons.1 h with rfl | h
      · have := ih _ List.mem_cons_self; simp; simpa using this
      · have := ih x (List.mem_cons_of_mem _ h); simp; omega
theorem join_cons2 (c : UInt8) (x y : List UInt8) (r : List (List UInt8)) : Lib.join (x :: y :: r) [c] = x ++ c :: Lib.join (y :: r) [c] := by
  rw [Lib.join_cons, Lib.join_cons]
  simp [Lib.joinTail]
theorem spl_join {c : UInt8} : ∀ {xs : List (List UInt8)}, xs ≠ [] → (∀ x ∈ xs, c ∉ x) → spl c (Lib.join xs [c]) = xs
  | [], h, _ => absurd rfl h
  | [x], _, h => by rw [Lib.join_one, spl_word (h x (by simp))]
  | x :: y :: r, _, h => by rw [join_cons2, spl_sep _ (h x (by simp)), spl_join (by simp) fun z hz => h z (List.mem_cons_of_mem _ hz)]
theorem join_spl (c : UInt8) : ∀ l : List UInt8, Lib.join (spl c l) [c] = l
  | [] => by simp [spl, Lib.join_one]
  | b :: l => by
    have ih := join_spl c l
    unfold spl
    rw [spl_cons] at ih ⊢
    split
    · rename_i h; rw [join_cons2, ih, h]; rfl
    · simp only [List.headD_cons, List.tail_cons]
      cases ht : (spl c l).tail with
      | nil => rw [ht, Lib.join_one] at ih; rw [Lib.join_one, ih]
      | cons y r => rw [ht, join_cons2] at ih; rw [join_cons2]; exact congrArg (List.cons b) ih

theorem splitK_spl (c : UInt8) : ∀ s : List UInt8, Lib.splitK [c] 0 (s.count c) s = spl c s
  | [] => rfl
  | b :: l => by
    have ih := splitK_spl c l
    by_cases hb : b = c
    · subst hb
      have hix : Lib.index (b :: l) [b] = 0 := by rw [Lib.index]; simp [List.isPrefixOf]
      rw [List.count_cons_self, Lib.splitK, hix, spl, if_pos rfl, if_neg (by decide)]
      simpa using ih
    · have hp : ([c] : List UInt8).isPrefixOf (b :: l) = false := by simp [List.isPrefixOf, Ne.symm hb]
      have hix : Lib.index (b :: l) [c] = if Lib.index l [c] == -1 then -1 else Lib.index l [c] + 1 := by rw [Lib.index, hp]; simp
      rw [List.count_cons_of_ne (by simpa using hb), spl, if_neg hb]
      rw [spl_cons] at ih
      cases hk : l.count c with
      | zero =>
        rw [hk, Lib.splitK] at ih
        obtain ⟨e1, e2⟩ := List.cons.inj ih
        rw [Lib.splitK, ← e1, ← e2]
      | succ k =>
        rw [hk, Lib.splitK] at ih
        rw [Lib.splitK, hix]
        by_cases hm : Lib.index l [c] = -1
        · rw [hm] at ih ⊢
          simp only [beq_self_eq_true, if_true] at ih ⊢
          obtain ⟨e1, e2⟩ := List.cons.inj ih
          rw [← e1, ← e2]
        · have hge := Lib.index_ge l [c]
          obtain ⟨j, hj⟩ : ∃ j : Nat, Lib.index l [c] = j := ⟨(Lib.index l [c]).toNat, by omega⟩
          have n1 : ¬ ((Lib.index l [c] == -1) = true) := fun e => hm (beq_iff_eq.1 e)
          have n2 : ¬ ((Lib.index l [c] + 1 == -1) = true) := fun e => by have := beq_iff_eq.1 e; omega
          rw [if_neg n1] at ih
          rw [if_neg n1, if_neg n2]
          obtain ⟨e1, e2⟩ := List.cons.inj ih
          rw [← e1, ← e2, hj]
          have t : ((j : Int) + 1).toNat = j + 1 := by omega
          rw [t]
          simp

theorem splitB_spl (c : UInt8) (s : ByteArray) : Lib.splitB ⟨#[c]⟩ 0 (Lib.countB s ⟨#[c]⟩) s = (spl c (bl s)).map lb := by
  have h := Lib.splitB_data ⟨#[c]⟩ 0 (Lib.countB s ⟨#[c]⟩) s
  have hc : Lib.countB s ⟨#[c]⟩ = (bl s).count c := by
    unfold Lib.countB
    exact Lib.count_one c _
  have e : ((⟨#[c]⟩ : ByteArray)).data.toList = [c] := rfl
  rw [e] at h
  have h2 := h.trans (show _ = spl c (bl s) by rw [hc]; exact splitK_spl c (bl s))
  rw [← h2, List.map_map]
  have : (lb ∘ fun x : ByteArray => x.data.toList) = id := by funext x; exact lb_bl x
  rw [this, List.map_id]

/-! digits -/
def isDig (c : UInt8) : Bool := decide (48 ≤ c.toNat) && decide (c.toNat ≤ 57)
def valF (a : Nat) (c : UInt8) : Nat := 10 * a + (c.toNat - 48)
def valD (d : List UInt8) : Nat := d.foldl valF 0
theorem isDig_of {k : Nat} (h : k < 10) : (UInt8.ofNat (48 + k)).toNat = 48 + k := by
  simp only [UInt8.toNat_ofNat']; omega
theorem dec_dig (u : Nat) : ∀ c ∈ Lib.decDigits u, isDig c = true := by
  induction u using Nat.strongRecOn with
  | _ u ih =>
    intro c hc
    rw [Lib.decDigits] at hc
    split at hc
    · rename_i h
      have : c = UInt8.ofNat (48 + u) := by simpa using hc
      subst this
      simp only [isDig, isDig_of h, Bool.and_eq_true, decide_eq_true_eq]; omega
    · rename_i h
      rcases List.mem_append.1 hc with hc | hc
      · exact ih (u / 10) (by omega) c hc
      · have : c = UInt8.ofNat (48 + u % 10) := by simpa using hc
        subst this
        simp only [isDig, isDig_of (Nat.mod_lt u (by omega) : u % 10 < 10), Bool.and_eq_true, decide_eq_true_eq]; omega
theorem dec_ne (u : Nat) : Lib.decDigits u ≠ [] := by
  rw [Lib.decDigits]; split <;> simp
theorem dec_val (u : Nat) : valD (Lib.decDigits u) = u := by
  induction u using Nat.strongRecOn with
  | _ u ih =>
    rw [Lib.decDigits]
    split
    · rename_i h
      simp only [valD, List.foldl_cons, List.foldl_nil, valF, isDig_of h]; omega
    · rename_i h
      have := ih (u / 10) (by omega)
      unfold valD at this
      simp only [valD, List.foldl_append, List.foldl_cons, List.foldl_nil, this, valF, isDig_of (Nat.mod_lt u (by omega) : u % 10 < 10)]
      omega
theorem dec_head (u : Nat) (h : (Lib.decDigits u).head? = some 48) : u = 0 := by
  induction u using Nat.strongRecOn with
  | _ u ih =>
    rw [Lib.decDigits] at h
    split at h
    · rename_i hu
      simp only [List.head?_cons, Option.some.injEq] at h
      have := congrArg UInt8.toNat h
      rw [isDig_of hu] at this
      have e : (48 : UInt8).toNat = 48 := rfl
      omega
    · rename_i hu
      have hne := dec_ne (u / 10)
      have ih' := ih (u / 10) (by omega)
      cases hd : Lib.decDigits (u / 10) with
      | nil => exact absurd hd hne
      | cons x r =>
        rw [hd] at h ih'
        have := ih' (by simpa using h)
        omega
theorem valF_pos (d : List UInt8) : ∀ a, 1 ≤ a → 1 ≤ d.foldl valF a := by
  induction d with
  | nil => intro a h; exact h
  | cons c d ih => intro a h; exact ih _ (by unfold valF; omega)
theorem val_pos {c : UInt8} {d : List UInt8} (h : isDig c = true) (h0 : c ≠ 48) : 1 ≤ valD (c :: d) := by
  unfold valD
  rw [List.foldl_cons]
  apply valF_pos
  simp only [isDig, Bool.and_eq_true, decide_eq_true_eq] at h
  have : c.toNat ≠ 48 := fun e => h0 (UInt8.toNat_inj.1 e)
  unfold valF; omega
theorem ofNat_dig {c : UInt8} (h : isDig c = true) : UInt8.ofNat (48 + (c.toNat - 48)) = c := by
  simp only [isDig, Bool.and_eq_true, decide_eq_true_eq] at h
  apply UInt8.toNat_inj.1
  rw [isDig_of (by omega)]; omega
theorem val_dec : ∀ (n : Nat) (d : List UInt8), d.length = n → (∀ c ∈ d, isDig c = true) → d ≠ [] → (d.head? = some 48 → d = [48]) → Lib.decDigits (valD d) = d
  | 0, d, hn, _, hd, _ => absurd (List.length_eq_zero_iff.1 hn) hd
  | n + 1, d, hn, hc, hd, h0 => by
    have ed := (List.dropLast_concat_getLast hd).symm
    generalize hp : d.dropLast = p at ed
    generalize hl : d.getLast hd = c at ed
    have hcc : isDig c = true := hc c (by rw [ed]; simp)
    have hv : valD d = 10 * valD p + (c.toNat - 48) := by rw [ed]; simp [valD, valF]
    have hc9 : c.toNat - 48 < 10 := by simp only [isDig, Bool.and_eq_true, decide_eq_true_eq] at hcc; omega
    cases p with
    | nil =>
      have h1 : valD d = c.toNat - 48 := by rw [hv]; simp [valD]
      rw [Lib.decDigits, dif_pos (by omega), h1, ofNat_dig hcc, ed]; rfl
    | cons x p =>
      have hx : isDig x = true := hc x (by rw [ed]; simp)
      have hx0 : x ≠ 48 := fun e => by
        have := h0 (by rw [ed, e]; rfl)
        rw [ed] at this
        have := congrArg List.length this
        simp at this
      have hpos := val_pos (d := p) hx hx0
      have ih := val_dec n (x :: p) (by rw [ed] at hn; simpa using hn) (fun z hz => hc z (by rw [ed]; exact List.mem_append_left _ hz)) (by simp) (fun e => by simp at e; exact absurd e hx0)
      rw [Lib.decDigits, dif_neg (by omega), hv]
      have q1 : (10 * valD (x :: p) + (c.toNat - 48)) / 10 = valD (x :: p) := by omega
      have q2 : (10 * valD (x :: p) + (c.toNat - 48)) % 10 = c.toNat - 48 := by omega
      rw [q1, q2, ih, ofNat_dig hcc, ed]
theorem valF_lt (d : List UInt8) : ∀ a, (∀ c ∈ d, isDig c = true) → d.foldl valF a < (a + 1) * 10 ^ d.length := by
  induction d with
  | nil => intro a _; simp
  | cons c d ih =>
    intro a h
    have hc := h c (by simp)
    simp only [isDig, Bool.and_eq_true, decide_eq_true_eq] at hc
    have := ih (valF a c) (fun x hx => h x (List.mem_cons_of_mem _ hx))
    rw [List.foldl_cons, List.length_cons, Nat.pow_succ]
    refine Nat.lt_of_lt_of_le this ?_
    have e : (a + 1) * (10 ^ d.length * 10) = ((a + 1) * 10) * 10 ^ d.length := by rw [Nat.mul_comm (10 ^ d.length) 10, Nat.mul_assoc]
    rw [e]
    exact Nat.mul_le_mul_right _ (by unfold valF; omega)
theorem val_lt {d : List UInt8} (h : ∀ c ∈ d, isDig c = true) (hl : d.length ≤ 9) : valD d < 1000000000 := by
  have := valF_lt d 0 h
  have e : 10 ^ d.length ≤ 10 ^ 9 := Nat.pow_le_pow_right (by omega) hl
  unfold valD
  have : (10 : Nat) ^ 9 = 1000000000 := by decide
  omega
theorem parse_val (d : List UInt8) : ∀ a, (∀ c ∈ d, isDig c = true) → (a + 1) * 10 ^ d.length ≤ 1000000000000000 → Lib.parseUint10 a d = .ok (d.foldl valF a) := by
  induction d with
  | nil => intro a _ _; rfl
  | cons c d ih =>
    intro a h hb
    have hc := h c (by simp)
    simp only [isDig, Bool.and_eq_true, decide_eq_true_eq] at hc
    rw [List.length_cons, Nat.pow_succ] at hb
    have e : (a + 1) * (10 ^ d.length * 10) = ((a + 1) * 10) * 10 ^ d.length := by rw [Nat.mul_comm (10 ^ d.length) 10, Nat.mul_assoc]
    rw [e] at hb
    have hp : 1 ≤ 10 ^ d.length := Nat.one_le_pow _ _ (by omega)
    have ha : (a + 1) * 10 ≤ 1000000000000000 := Nat.le_trans (Nat.le_mul_of_pos_right _ hp) hb
    rw [Lib.parseUint10, if_pos hc, if_neg (by omega), if_neg (by omega), List.foldl_cons]
    have e2 : a * 10 + (c.toNat - 48) = valF a c := by unfold valF; omega
    rw [e2]
    refine ih _ (fun x hx => h x (List.mem_cons_of_mem _ hx)) (Nat.le_trans ?_ hb)
    exact Nat.mul_le_mul_right _ (by unfold valF; omega)

/-- A number of at most nine digits, as it is written. -/
def numOk (s d : List UInt8) : Bool := !d.isEmpty && decide (d.length ≤ 9) && !(d.head? == some 48 && s != [48]) && d.all isDig
def numL (s : List UInt8) : Option Int :=
  if s.head? = some 45 then (if numOk s s.tail then some (-(valD s.tail : Int)) else none) else (if numOk s s then some (valD s : Int) else none)
theorem numOk_iff {s d : List UInt8} : numOk s d = true ↔ d ≠ [] ∧ d.length ≤ 9 ∧ (d.head? = some 48 → s = [48]) ∧ ∀ c ∈ d, isDig c = true := by
  unfold numOk
  simp only [Bool.and_eq_true, Bool.not_eq_true', List.isEmpty_eq_false_iff, decide_eq_true_eq, Bool.and_eq_false_iff, beq_eq_false_iff_ne, bne_eq_false_iff_eq, List.all_eq_true, ne_eq, and_assoc]
  constructor
  · rintro ⟨h1, h2, h3, h4⟩
    exact ⟨h1, h2, fun e => h3.elim (fun h => absurd e h) id, h4⟩
  · rintro ⟨h1, h2, h3, h4⟩
    exact ⟨h1, h2, (Decidable.em (d.head? = some 48)).elim (fun h => .inr (h3 h)) .inl, h4⟩
theorem dig_45 : isDig 45 = false := by decide
theorem dig_43 : isDig 43 = false := by decide
theorem trim_neg (d : List UInt8) : Lib.trimPrefix (45 :: d) [45] = d := by simp [Lib.trimPrefix, Lib.hasPrefix]
theorem trim_pos {s : List UInt8} (h : s.head? ≠ some 45) : Lib.trimPrefix s [45] = s := by
  cases s with
  | nil => simp [Lib.trimPrefix, Lib.hasPrefix]
  | cons c r =>
    have : c ≠ 45 := fun e => h (by simp [e])
    simp [Lib.trimPrefix, Lib.hasPrefix, List.isPrefixOf, Ne.symm this]
theorem itoa_neg {n : Nat} (h : 1 ≤ n) : Lib.itoa (-(n : Int)) = 45 :: Lib.decDigits n := by
  unfold Lib.itoa
  rw [if_pos (by omega)]
  congr 2; omega
theorem itoa_pos (n : Nat) : Lib.itoa (n : Int) = Lib.decDigits n := by
  unfold Lib.itoa
  rw [if_neg (by omega)]
  congr 1
theorem parseMag_val {d : List UInt8} (h : ∀ c ∈ d, isDig c = true) (hn : d ≠ []) (hl : d.length ≤ 9) : Lib.parseMag d = .ok (valD d) := by
  unfold Lib.parseMag
  rw [if_neg hn]
  refine parse_val d 0 h ?_
  have e : 10 ^ d.length ≤ 10 ^ 9 := Nat.pow_le_pow_right (by omega) hl
  have : (10 : Nat) ^ 9 = 1000000000 := by decide
  omega

/-- What is read as such a number: atoi, and written again the same. -/
theorem num_atoi (s : List UInt8) : (match Lib.atoiAll s with
  | .ok v => if Lib.itoa v = s ∧ (Lib.trimPrefix s [45]).length ≤ 9 then (v, true) else (0, false)
  | _ => ((0 : Int), false)) = ((numL s).getD 0, (numL s).isSome) := by
  unfold numL
  by_cases hneg : s.head? = some 45
  · rw [if_pos hneg]
    obtain ⟨d, rfl⟩ : ∃ d, s = 45 :: d := by
      cases s with
      | nil => simp at hneg
      | cons c d => simp at hneg; exact ⟨d, by rw [hneg]⟩
    rw [List.tail_cons]
    by_cases hok : numOk (45 :: d) d = true
    · rw [if_pos hok]
      obtain ⟨h1, h2, h3, h4⟩ := numOk_iff.1 hok
      have hd0 : d.head? ≠ some 48 := fun e => by have := h3 e; simp at this
      have hpos : 1 ≤ valD d := by
        cases d with
        | nil => exact absurd rfl h1
        | cons c r => exact val_pos (h4 c (by simp)) (fun e => hd0 (by simp [e]))
      have ha : Lib.atoiAll (45 :: d) = .ok (-(valD d : Int)) := by
        have h9 := val_lt h4 h2
        unfold Lib.atoiAll
        have e45 : (45 : UInt8).toNat = 45 := rfl
        simp only [e45, or_true, if_true, parseMag_val h4 h1 h2, not_true_eq_false, false_and, if_false, true_and]
        rw [if_neg (by omega)]
      rw [ha]
      have hd := val_dec _ d rfl h4 h1 (fun e => absurd e hd0)
      simp only [itoa_neg hpos, hd, trim_neg, h2, and_self, if_true, Option.getD_some, Option.isSome_some]
    · rw [if_neg hok]
      rcases ha : Lib.atoiAll (45 :: d) with v | _ | _
      · simp only [trim_neg]
        by_cases hc : Lib.itoa v = 45 :: d ∧ d.length ≤ 9
        · exfalso
          obtain ⟨hc1, hc2⟩ := hc
          apply hok
          unfold Lib.itoa at hc1
          split at hc1
          · rename_i hv
            have e := (List.cons.inj hc1).2
            refine numOk_iff.2 ⟨by rw [← e]; exact dec_ne _, hc2, fun h => ?_, by rw [← e]; exact dec_dig _⟩
            rw [← e] at h
            have := dec_head _ h
            omega
          · have := dec_dig v.toNat 45 (by rw [hc1]; simp)
            rw [dig_45] at this; cases this
        · rw [if_neg hc]; rfl
      · rfl
      · rfl
  · rw [if_neg hneg]
    by_cases hok : numOk s s = true
    · rw [if_pos hok]
      obtain ⟨h1, h2, h3, h4⟩ := numOk_iff.1 hok
      have ha : Lib.atoiAll s = .ok (valD s : Int) := by
        have h9 := val_lt h4 h2
        have hp := parseMag_val h4 h1 h2
        cases s with
        | nil => exact absurd rfl h1
        | cons c r =>
          have hc := h4 c (by simp)
          simp only [isDig, Bool.and_eq_true, decide_eq_true_eq] at hc
          unfold Lib.atoiAll
          have n1 : ¬ (c.toNat = 43 ∨ c.toNat = 45) := by omega
          have n2 : ¬ (c.toNat = 45) := by omega
          have n3 : ¬ (c.toNat = 43) := by omega
          simp only [n2, n3, or_self, if_false, not_false_eq_true, true_and, false_and]
          rw [hp]
          simp only []
          rw [if_neg (by omega)]
      rw [ha]
      have hd := val_dec _ s rfl h4 h1 h3
      simp only [itoa_pos, hd, trim_pos hneg, h2, and_self, if_true, Option.getD_some, Option.isSome_some]
    · rw [if_neg hok]
      rcases ha : Lib.atoiAll s with v | _ | _
      · simp only [trim_pos hneg]
        by_cases hc : Lib.itoa v = s ∧ s.length ≤ 9
        · exfalso
          obtain ⟨hc1, hc2⟩ := hc
          apply hok
          unfold Lib.itoa at hc1
          split at hc1
          · rw [← hc1] at hneg; simp at hneg
          · refine numOk_iff.2 ⟨by rw [← hc1]; exact dec_ne _, hc2, fun h => ?_, by rw [← hc1]; exact dec_dig _⟩
            have h0 : v.toNat = 0 := dec_head _ (by rw [hc1]; exact h)
            rw [← hc1, h0]
            rw [Lib.decDigits, dif_pos (by omega)]; rfl
        · rw [if_neg hc]; rfl
      · rfl
      · rfl
theorem numL_bound {s : List UInt8} {v : Int} (h : numL s = some v) : -999999999 ≤ v ∧ v ≤ 999999999 := by
  unfold numL at h
  split at h
  · split at h
    · rename_i hk
      obtain ⟨_, h2, _, h4⟩ := numOk_iff.1 hk
      have := val_lt h4 h2
      cases h; omega
    · cases h
  · split at h
    · rename_i hk
      obtain ⟨_, h2, _, h4⟩ := numOk_iff.1 hk
      have := val_lt h4 h2
      cases h; omega
    · cases h
/-- A number that is written is read. -/
theorem numL_itoa {v : Int} (h1 : -999999999 ≤ v) (h2 : v ≤ 999999999) : numL (Lib.itoa v) = some v := by
  have hlen : ∀ u : Nat, u ≤ 999999999 → (Lib.decDigits u).length ≤ 9 := by
    intro u hu
    by_cases h : (Lib.decDigits u).length ≤ 9
    · exact h
    · exfalso
      rw [Lib.decDigits_length] at h
      have hn : ∀ (k u : Nat), u < 10 ^ (k + 1) → Lib.nDigits u ≤ k + 1 := by
        intro k
        induction k with
        | zero => intro u hu; rw [Lib.nDigits_small (by simpa using hu)]; omega
        | succ k ih =>
          intro u hu
          by_cases h : u < 10
          · rw [Lib.nDigits_small h]; omega
          · rw [Lib.nDigits_big h]
            rw [Nat.pow_succ] at hu
            have := ih (u / 10) (by omega)
            omega
      have := hn 8 u (by have : (10 : Nat) ^ (8 + 1) = 1000000000 := by decide
                         omega)
      omega
  unfold Lib.itoa
  split
  · rename_i hv
    unfold numL
    rw [if_pos (show (45 :: Lib.decDigits v.natAbs).head? = some 45 from rfl), List.tail_cons, if_pos (numOk_iff.2 ⟨dec_ne _, hlen _ (by omega), fun h => by have := dec_head _ h; omega, dec_dig _⟩), dec_val]
    congr 1; omega
  · rename_i hv
    have hh : (Lib.decDigits v.toNat).head? ≠ some 45 := fun e => by
      have := dec_dig v.toNat 45 (List.mem_of_mem_head? (by rw [e]; rfl))
      rw [dig_45] at this; cases this
    unfold numL
    rw [if_neg hh, if_pos (numOk_iff.2 ⟨dec_ne _, hlen _ (by omega), fun h => by
      have := dec_head _ h
      rw [this, Lib.decDigits, dif_pos (by omega)]; rfl, dec_dig _⟩), dec_val]
    congr 1; omega
theorem itoa_ne (v : Int) : Lib.itoa v ≠ [] := by
  unfold Lib.itoa
  split
  · simp
  · exact dec_ne _
theorem itoa_mem {v : Int} {c : UInt8} (h : c ∈ Lib.itoa v) : c = 45 ∨ isDig c = true := by
  unfold Lib.itoa at h
  split at h
  · rcases List.mem_cons.1 h with h | h
    · exact .inl h
    · exact .inr (dec_dig _ c h)
  · exact .inr (dec_dig _ c h)

/-- Runs of picks. -/
def rl : List Int → List (Int × Nat)
  | [] => []
  | x :: l => match rl l with
    | [] => [(x, 1)]
    | (y, n) :: r => if x = y then (y, n + 1) :: r else (x, 1) :: (y, n) :: r
theorem rl_head : ∀ (x : Int) (l : List Int), ∃ n r, rl (x :: l) = (x, n) :: r ∧ 1 ≤ n
  | x, l => by
    unfold rl
    split
    · exact ⟨1, [], rfl, Nat.le_refl _⟩
    · rename_i y n r _
      split
      · rename_i e; subst e; exact ⟨n + 1, r, rfl, by omega⟩
      · exact ⟨1, _, rfl, Nat.le_refl _⟩
theorem rl_nil_iff {l : List Int} : rl l = [] ↔ l = [] := by
  cases l with
  | nil => simp [rl]
  | cons x l => obtain ⟨n, r, e, _⟩ := rl_head x l; simp [e]
theorem rl_same {x : Int} {l : List Int} {n : Nat} {r : List (Int × Nat)} (h : rl l = (x, n) :: r) : rl (x :: l) = (x, n + 1) :: r := by
  unfold rl; rw [h]; simp
theorem rl_diff {x : Int} {l : List Int} (h : l.head? ≠ some x) : rl (x :: l) = (x, 1) :: rl l := by
  cases l with
  | nil => simp [rl]
  | cons y l =>
    have : x ≠ y := fun e => h (by simp [e])
    obtain ⟨n, r, e, _⟩ := rl_head y l
    rw [rl, e]; simp [this]
theorem rl_rep {x : Int} {l : List Int} (h : l.head? ≠ some x) : ∀ n : Nat, rl (List.replicate (n + 1) x ++ l) = (x, n + 1) :: rl l
  | 0 => by simpa using rl_diff h
  | n + 1 => by
    rw [List.replicate_succ, List.cons_append]
    exact rl_same (rl_rep h n)
theorem rl_split {p : List Int} {i n : Nat} {x : Int} (hn : 1 ≤ n) (hi : i + n ≤ p.length) (h1 : ∀ k (h : k < p.length), i ≤ k → k < i + n → p[k] = x) (h2 : ∀ h : i + n < p.length, p[i + n] ≠ x) : rl (p.drop i) = (x, n) :: rl (p.drop (i + n)) := by
  have e : p.drop i = List.replicate n x ++ p.drop (i + n) := by
    apply List.ext_getElem
    · simp; omega
    · intro k k1 k2
      have k1' : k < p.length - i := by simpa using k1
      rw [List.getElem_drop]
      by_cases hk : k < n
      · rw [List.getElem_append_left (by simpa using hk), List.getElem_replicate]
        exact h1 _ (by omega) (by omega) (by omega)
      · rw [List.getElem_append_right (by simpa using hk), List.getElem_drop]
        congr 1; simp; omega
  obtain ⟨m, rfl⟩ : ∃ m, n = m + 1 := ⟨n - 1, by omega⟩
  rw [e]
  apply rl_rep
  by_cases h : i + (m + 1) < p.length
  · rw [List.head?_drop, List.getElem?_eq_getElem h]
    exact fun e => h2 h (Option.some.inj e)
  · rw [List.drop_eq_nil_of_le (by omega)]; simp

def sizedB (n : Int) : Bool := decide (-999999999 ≤ n) && decide (n ≤ 999999999)
/-- A run as it is written. -/
def piece (x : Int × Nat) : List UInt8 := if 1 < x.2 then Lib.itoa x.1 ++ 42 :: Lib.itoa x.2 else Lib.itoa x.1
theorem piece_free (x : Int × Nat) {c : UInt8} (h1 : c ≠ 45) (h2 : isDig c = false) (h3 : c ≠ 42) : c ∉ piece x := by
  have key : ∀ v : Int, c ∉ Lib.itoa v := fun v h => by
    rcases itoa_mem h with e | e
    · exact h1 e
    · rw [h2] at e; cases e
  unfold piece
  split
  · intro h
    rcases List.mem_append.1 h with h | h
    · exact key _ h
    · rcases List.mem_cons.1 h with h | h
      · exact h3 h
      · exact key _ h
  · exact key _
/-- The text of picks. -/
def picksT (p : List Int) : List UInt8 := if p.length ≤ 4000 ∧ (rl p).all (fun r => sizedB r.1) = true then Lib.join ((rl p).map piece) [32] else []

/-- It comes to an end, and what it comes to is so. -/
def Ret {α : Type} (o : Option α) (P : α → Prop) : Prop := ∃ r, o = some r ∧ P r

theorem Ret.pure {α : Type} {a : α} {P : α → Prop} (h : P a) : Ret (some a) P := ⟨a, rfl, h⟩
theorem Ret.bind {α β : Type} {o : Option α} {k : α → Option β} {P : β → Prop} (Q : α → Prop) (h : Ret o Q) (hk : ∀ r, Q r → Ret (k r) P) : Ret (o.bind k) P := by
  obtain ⟨r, e, hr⟩ := h
  rw [e]
  exact hk r hr
theorem Ret.bindE {α β : Type} {o : Option α} {k : α → Option β} {P : β → Prop} {r : α} (e : o = some r) (hk : Ret (k r) P) : Ret (o.bind k) P := by
  rw [e]; exact hk
theorem Ret.mono {α : Type} {o : Option α} {P Q : α → Prop} (h : Ret o P) (hm : ∀ r, P r → Q r) : Ret o Q := by
  obtain ⟨r, e, hr⟩ := h; exact ⟨r, e, hm r hr⟩
theorem Ret.bif {α : Type} {c : Bool} {a b : Option α} {P : α → Prop} (h1 : c = true → Ret a P) (h2 : c = false → Ret b P) : Ret (bif c then a else b) P := by
  cases c with
  | true => exact h1 rfl
  | false => exact h2 rfl
theorem Ret.dec {α : Type} {p : Prop} [Decidable p] {a b : Option α} {P : α → Prop} (h1 : p → Ret a P) (h2 : ¬ p → Ret b P) : Ret (_root_.cond (decide p) a b) P := by
  by_cases h : p
  · simpa [h] using h1 h
  · simpa [h] using h2 h
theorem Ret.guard {α : Type} {p : Prop} [Decidable p] {a : Option α} {P : α → Prop} (hp : p) (h : Ret a P) : Ret (_root_.cond (decide p) a none) P := by
  simpa [hp] using h
theorem Ret.guardN {α : Type} {p : Prop} [Decidable p] {a : Option α} {P : α → Prop} (hp : ¬ p) (h : Ret a P) : Ret (_root_.cond (decide p) none a) P := by
  simpa [hp] using h
theorem Ret.beq {α β : Type} [DecidableEq β] {x y : β} {a b : Option α} {P : α → Prop} (h1 : x = y → Ret a P) (h2 : ¬ x = y → Ret b P) : Ret (_root_.cond (x == y) a b) P := by
  rw [bif_beq]
  by_cases h : x = y
  · simpa [h] using h1 h
  · simpa [h] using h2 h
theorem obind_eq {α β : Type} {o : Option α} {r : α} {k : α → Option β} {z : Option β} (e : o = some r) (h : k r = z) : o.bind k = z := by
  rw [e]; exact h

theorem wrap8 {x : Int} (h1 : 0 ≤ x) (h2 : x < 256) : IntKind.wrap .u8 x = x := by
  have e1 : (2 : Int) ^ 8 = 256 := rfl
  simp only [IntKind.wrap, IntKind.signed, IntKind.bits, Bool.false_and, e1]
  simp only [Bool.false_eq_true, if_false]
  omega
theorem bstr_one (n : Nat) : bstr [((n : Nat) : Int)] = lb [UInt8.ofNat n] := by
  simp [bstr, lb]; rfl
/-- The digits of a number, none for 0. -/
def digs (n : Nat) : List UInt8 := if n = 0 then [] else Lib.decDigits n
theorem digs_div {n : Nat} (h : n ≠ 0) : digs n = digs (n / 10) ++ [UInt8.ofNat (48 + n % 10)] := by
  unfold digs
  rw [if_neg h, Lib.decDigits]
  by_cases h2 : n < 10
  · rw [dif_pos h2, if_pos (by omega), show n % 10 = n by omega]; rfl
  · rw [dif_neg h2, if_neg (by omega)]
theorem digs_len : ∀ (k n : Nat), n < 10 ^ k → (digs n).length ≤ k
  | 0, n, h => by have : n = 0 := by simpa using h
                  subst this; simp [digs]
  | k + 1, n, h => by
    by_cases h0 : n = 0
    · subst h0; simp [digs]
    · rw [digs_div h0, List.length_append]
      have := digs_len k (n / 10) (by rw [Nat.pow_succ] at h; omega)
      simp; omega
section
variable {N : Nat} (hN : lim < N)
include hN
omit hN in
theorem lsl9Dec_ok : ∀ (k f : Nat) (n : Int) (out : List UInt8) (neg : Bool), n.natAbs < 10 ^ k → k ≤ 20 → k < f → -9223372036854775808 ≤ n → n < 9223372036854775808 → out.length + k ≤ 30 →
    lsl9Dec_0 N f (n, lb out, neg, ()) = some (lb (digs n.natAbs ++ out), neg, ()) := by
  have hlim : lim = 2147483648 := rfl
  intro k
  induction k with
  | zero =>
    intro f n out neg h _ hf _ _ _
    obtain ⟨f, rfl⟩ : ∃ g, f = g + 1 := ⟨f - 1, by omega⟩
    have : n = 0 := by simpa using h
    subst this
    rfl
  | succ k ih =>
    intro f n out neg h hk hf b1 b2 hl
    obtain ⟨f, rfl⟩ : ∃ g, f = g + 1 := ⟨f - 1, by omega⟩
    by_cases h0 : n = 0
    · subst h0; rfl
    · have hne : (n != 0) = true := by simpa using h0
      have h10 : ¬ ((10 : Int) = 0) := by omega
      have hq : (Int.tdiv n 10).natAbs = n.natAbs / 10 := by rw [Int.natAbs_tdiv]; rfl
      have hdiv : w64 (Int.tdiv n 10) = Int.tdiv n 10 := w64_id (by omega) (by omega)
      have hm : (Int.tmod n 10).natAbs = n.natAbs % 10 := by rw [Int.natAbs_tmod]; rfl
      have hd : (if Int.tmod n 10 < 0 then w64 (0 - Int.tmod n 10) else Int.tmod n 10) = ((n.natAbs % 10 : Nat) : Int) := by
        split
        · rw [w64_id (by omega) (by omega)]; omega
        · omega
      have h48 : IntKind.wrap .u8 (w64 (48 + ((n.natAbs % 10 : Nat) : Int))) = ((48 + n.natAbs % 10 : Nat) : Int) := by
        rw [w64_id (by omega) (by omega), wrap8 (by omega) (by omega)]; omega
      have := ih f (Int.tdiv n 10) (UInt8.ofNat (48 + n.natAbs % 10) :: out) neg (by rw [hq]; rw [Nat.pow_succ] at h; omega) (by omega) (by omega) (by omega) (by omega) (by simp; omega)
      rw [hq] at this
      rw [digs_div (by omega), List.append_assoc]
      have e2 : (if Int.tmod n 10 < 0 then some (n, lb out, neg, w64 (0 - Int.tmod n 10), ()) else some (n, lb out, neg, Int.tmod n 10, ())) = some (n, lb out, neg, ((n.natAbs % 10 : Nat) : Int), ()) := by
        rw [← hd]; split <;> rfl
      have g : (bstr [((48 + n.natAbs % 10 : Nat) : Int)]).size + (lb out).size ≤ lim := by
        rw [bstr_one, lb_size, lb_size]; simp; omega
      simp only [lsl9Dec_0, hne, cond_true, h10, decide_false, cond_false, bif_dec, e2, Option.bind_some, h48, hdiv]
      rw [if_pos g, bstr_one, lb_append]
      exact this
theorem sl9Dec_ok {n : Int} (h1 : -9223372036854775808 ≤ n) (h2 : n < 9223372036854775808) : Fsl9Dec N (n, ()) = some (lb (Lib.itoa n), ()) := by
  have hlim : lim = 2147483648 := rfl
  by_cases h0 : n = 0
  · subst h0
    simp only [Fsl9Dec, beq_self_eq_true, cond_true]
    have : Lib.itoa 0 = [48] := by unfold Lib.itoa; rw [if_neg (by omega), Lib.decDigits, dif_pos (by decide)]; rfl
    rw [this]; rfl
  · have hb : (n == 0) = false := beq_eq_false_iff_ne.2 h0
    have h19 : n.natAbs < 10 ^ 19 := by have : (10 : Nat) ^ 19 = 10000000000000000000 := by decide
                                        omega
    have e := lsl9Dec_ok (N := N) 19 N n [] (decide (n < 0)) h19 (by omega) (by omega) h1 h2 (by simp)
    have e0 : lb [] = ByteArray.mk #[] := rfl
    rw [e0, List.append_nil] at e
    have hd : digs n.natAbs = Lib.decDigits n.natAbs := by unfold digs; rw [if_neg (by omega)]
    have hl := digs_len 19 n.natAbs h19
    simp only [Fsl9Dec, hb, cond_false, e, Option.bind_some]
    by_cases hn : n < 0
    · have g : (ByteArray.mk #[45]).size + (lb (digs n.natAbs)).size ≤ lim := by
        rw [lb_size, show (ByteArray.mk #[45]).size = 1 from rfl]; omega
      simp only [hn, decide_true, cond_true, g]
      have e45 : ByteArray.mk #[45] = lb [45] := rfl
      rw [e45, lb_append, hd]
      unfold Lib.itoa
      rw [if_pos hn]; rfl
    · simp only [hn, decide_false, cond_false]
      unfold Lib.itoa
      rw [if_neg hn, hd]
      congr 4; omega
end

theorem join_snoc (c : UInt8) (y : List UInt8) : ∀ xs : List (List UInt8), xs ≠ [] → Lib.join (xs ++ [y]) [c] = Lib.join xs [c] ++ c :: y
  | [], h => absurd rfl h
  | [x], _ => by rw [List.singleton_append, join_cons2, Lib.join_one, Lib.join_one]
  | x :: z :: r, _ => by
    rw [List.cons_append, List.cons_append, join_cons2, ← List.cons_append, join_snoc c y (z :: r) (by simp), join_cons2]
    simp
theorem itoa_len {v : Int} (h1 : -9223372036854775808 ≤ v) (h2 : v < 9223372036854775808) : (Lib.itoa v).length ≤ 21 := by
  have h20 : (10 : Nat) ^ 20 = 100000000000000000000 := by decide
  have key : ∀ n : Nat, n < 10 ^ 20 → (Lib.decDigits n).length ≤ 20 := fun n hn => by
    have := digs_len 20 n hn
    unfold digs at this
    split at this
    · rename_i h; subst h; rw [Lib.decDigits, dif_pos (by decide)]; simp
    · exact this
  unfold Lib.itoa
  split
  · have := key v.natAbs (by omega); simp; omega
  · have := key v.toNat (by omega); omega
theorem piece_len {x : Int × Nat} (h1 : -9223372036854775808 ≤ x.1) (h2 : x.1 < 9223372036854775808) (h3 : x.2 < 9223372036854775808) : (piece x).length ≤ 43 := by
  have a := itoa_len h1 h2
  have b := itoa_len (v := x.2) (by omega) (by omega)
  unfold piece
  split
  · simp; omega
  · omega
/-- What a run of picks is; what comes to the run's end. -/
theorem run_loop {ρ : Type} {p : List Int} {i : Nat} (hi : i < p.length) (hl : p.length ≤ 4000) {L : Nat → Nat → Option ρ} {fin : Nat → ρ}
    (h1 : ∀ n k, i + k < p.length → p.getD (i + k) 0 = p[i] → w64 ((i : Int) + k) = ((i + k : Nat) : Int) → w64 ((k : Int) + 1) = ((k + 1 : Nat) : Int) → L (n + 1) k = L n (k + 1))
    (h2 : ∀ n k, i + k < p.length → p.getD (i + k) 0 ≠ p[i] → w64 ((i : Int) + k) = ((i + k : Nat) : Int) → L (n + 1) k = some (fin k))
    (h3 : ∀ n k, i + k = p.length → w64 ((i : Int) + k) = ((i + k : Nat) : Int) → L (n + 1) k = some (fin k)) :
    ∀ n k, 1 ≤ k → i + k ≤ p.length → p.length - (i + k) < n → (∀ j (h : j < p.length), i ≤ j → j < i + k → p[j] = p[i]) → ∃ m, 1 ≤ m ∧ i + m ≤ p.length ∧ L n k = some (fin m) ∧ rl (p.drop i) = (p[i], m) :: rl (p.drop (i + m)) := by
  intro n
  induction n with
  | zero => intro k _ _ h; exact absurd h (Nat.not_lt_zero _)
  | succ n ih =>
    intro k hk hkl hn hall
    have w : w64 ((i : Int) + k) = ((i + k : Nat) : Int) := by rw [w64_id (by omega) (by omega)]; omega
    by_cases h : i + k < p.length
    · by_cases he : p.getD (i + k) 0 = p[i]
      · have w2 : w64 ((k : Int) + 1) = ((k + 1 : Nat) : Int) := w64_succ (by omega)
        obtain ⟨m, m1, m2, m3, m4⟩ := ih (k + 1) (by omega) (by omega) (by omega) (fun j hj h1 h2 => by
          by_cases e : j < i + k
          · exact hall j hj h1 e
          · have : j = i + k := by omega
            subst this
            rw [getD_lt hj] at he; exact he)
        exact ⟨m, m1, m2, by rw [h1 n k h he w w2]; exact m3, m4⟩
      · refine ⟨k, hk, hkl, h2 n k h he w, rl_split hk hkl hall (fun h' => ?_)⟩
        rw [getD_lt h] at he; exact he
    · have e : i + k = p.length := by omega
      exact ⟨k, hk, hkl, h3 n k e w, rl_split hk hkl hall (fun h' => absurd h' (by omega))⟩
theorem sizedB_iff {n : Int} : sizedB n = true ↔ -999999999 ≤ n ∧ n ≤ 999999999 := by simp [sizedB]
theorem join_len {K : Nat} : ∀ ps : List (List UInt8), (∀ x ∈ ps, x.length ≤ K) → (Lib.join ps [32]).length ≤ ps.length * (K + 1)
  | [], _ => by simp [Lib.join_nil]
  | [x], h => by rw [Lib.join_one]; have := h x (by simp); simp; omega
  | x :: y :: r, h => by
    rw [join_cons2]
    have h1 := h x (by simp)
    have h2 := join_len (y :: r) (fun z hz => h z (List.mem_cons_of_mem _ hz))
    simp only [List.length_append, List.length_cons, Nat.add_mul, Nat.one_mul] at h2 ⊢
    omega
def Sized (r : Int × Nat) : Prop := -999999999 ≤ r.1 ∧ r.1 ≤ 999999999 ∧ r.2 ≤ 4000
theorem piecesLen {done : List (Int × Nat)} (h : ∀ r ∈ done, Sized r) : (Lib.join (done.map piece) [32]).length ≤ done.length * 44 := by
  have := join_len (K := 43) (done.map piece) (fun x hx => by
    obtain ⟨r, hr, rfl⟩ := List.mem_map.1 hx
    have := h r hr
    unfold Sized at this
    exact piece_len (by omega) (by omega) (by omega))
  simpa using this
theorem join_next {done : List (Int × Nat)} {r : Int × Nat} : Lib.join ((done ++ [r]).map piece) [32] = if done = [] then piece r else Lib.join (done.map piece) [32] ++ 32 :: piece r := by
  rw [List.map_append]
  split
  · rename_i h; subst h; simp [Lib.join_one]
  · rename_i h; exact join_snoc 32 _ _ (by simpa using h)
theorem rl_len (p : List Int) : (rl p).length ≤ p.length := by
  induction p with
  | nil => simp [rl]
  | cons x p ih =>
    unfold rl
    split
    · simp
    · rename_i e
      rw [e] at ih
      split <;> simp at ih ⊢ <;> omega
theorem rl_sized {p : List Int} (hl : p.length ≤ 4000) (h : (rl p).all (fun r => sizedB r.1) = true) : ∀ r ∈ rl p, Sized r := by
  have key : ∀ p : List Int, ∀ r ∈ rl p, r.2 ≤ p.length := by
    intro p
    induction p with
    | nil => simp [rl]
    | cons x p ih =>
      intro r hr
      unfold rl at hr
      split at hr
      · simp at hr; simp [hr]
      · rename_i y n t e
        rw [e] at ih
        have h1 := ih (y, n) (by simp)
        split at hr
        · rcases List.mem_cons.1 hr with rfl | hr
          · simpa using h1
          · have := ih r (List.mem_cons_of_mem _ hr); simp; omega
        · rcases List.mem_cons.1 hr with rfl | hr
          · simp
          · have := ih r hr; simp; omega
  intro r hr
  have h1 := sizedB_iff.1 (List.all_eq_true.1 h r hr)
  have := key p r hr
  exact ⟨h1.1, h1.2, by omega⟩
section
variable {N : Nat} (hN : lim < N)
include hN
theorem sPicks_loop {p : List Int} (hbig : p.length ≤ 4000) : ∀ n i (done : List (Int × Nat)), i ≤ p.length → p.length - i < n → done.length ≤ i → (i = 0 ↔ done = []) → (∀ r ∈ done, Sized r) →
    lsPicksText_0 N n (p, lb (Lib.join (done.map piece) [32]), (i : Int), ()) = if (rl (p.drop i)).all (fun r => sizedB r.1) = true then some (.inl (lb (Lib.join ((done ++ rl (p.drop i)).map piece) [32]), ())) else some (.inr (lb [], ())) := by
  have hlim : lim = 2147483648 := rfl
  have e0 : ByteArray.mk #[] = lb [] := rfl
  have e32 : ByteArray.mk #[32] = lb [32] := rfl
  have e42 : ByteArray.mk #[42] = lb [42] := rfl
  intro n
  induction n with
  | zero => intro i done _ h; exact absurd h (Nat.not_lt_zero _)
  | succ n ih =>
    intro i done hi hn hdl hd0 hds
    by_cases h : i < p.length
    · have g1 : (i : Int) < (p.length : Int) := by omega
      obtain ⟨m, m1, m2, m3, m4⟩ := run_loop h hbig (L := fun n k => lsPicksText_2 N n (p, lb (Lib.join (done.map piece) [32]), (i : Int), (k : Int), ())) (fin := fun m => (p, lb (Lib.join (done.map piece) [32]), (i : Int), (m : Int), ()))
        (fun n k hk he w w2 => by
          have g1 : ((i + k : Nat) : Int) < (p.length : Int) := by omega
          simp only [lsPicksText_2, w, g1, decide_true, cond_true, Int.natCast_nonneg, Int.toNat_natCast, hk, he, h, getD_lt h, beq_self_eq_true, w2])
        (fun n k hk he w => by
          have g1 : ((i + k : Nat) : Int) < (p.length : Int) := by omega
          have hb : (p.getD (i + k) 0 == p[i]) = false := beq_eq_false_iff_ne.2 he
          simp only [lsPicksText_2, w, g1, decide_true, cond_true, Int.natCast_nonneg, Int.toNat_natCast, hk, h, getD_lt h, hb, cond_false])
        (fun n k hk w => by
          have g1 : ¬ (((i + k : Nat) : Int) < (p.length : Int)) := by omega
          simp only [lsPicksText_2, w, g1, decide_false, cond_false])
        N 1 (Nat.le_refl _) (by omega) (by omega) (fun j hj h1 h2 => by
          have : j = i := by omega
          subst this; rfl)
      simp only [Int.natCast_one] at m3
      rw [m4, List.all_cons]
      by_cases hz : sizedB p[i] = true
      · have hz' := sizedB_iff.1 hz
        have g2 : ¬ (p[i] < -999999999) := by omega
        have g3 : ¬ (p[i] > 999999999) := by omega
        have hd1 := sl9Dec_ok hN (n := p[i]) (by omega) (by omega)
        have hd2 := sl9Dec_ok hN (n := (m : Int)) (by omega) (by omega)
        have w3 : w64 ((i : Int) + (m : Int)) = ((i + m : Nat) : Int) := by rw [w64_id (by omega) (by omega)]; omega
        have l1 := itoa_len (v := p[i]) (by omega) (by omega)
        have l2 := itoa_len (v := (m : Int)) (by omega) (by omega)
        have hs : ∀ r ∈ done ++ [(p[i], m)], Sized r := fun r hr => by
          rcases List.mem_append.1 hr with hr | hr
          · exact hds r hr
          · have : r = (p[i], m) := by simpa using hr
            subst this; exact ⟨hz'.1, hz'.2, by omega⟩
        have hl := piecesLen hds
        have hnx := ih (i + m) (done ++ [(p[i], m)]) m2 (by omega) (by simp; omega) (by simp; omega) hs
        rw [List.append_assoc, List.singleton_append] at hnx
        rw [hz, Bool.true_and, ← hnx, join_next]
        have e1 : (bif decide ((i : Int) > 0) then bif decide ((lb (Lib.join (done.map piece) [32])).size + (lb [32]).size ≤ lim) then some (p, lb (Lib.join (done.map piece) [32]) ++ lb [32], (i : Int), (m : Int), ()) else none else some (p, lb (Lib.join (done.map piece) [32]), (i : Int), (m : Int), ())) = some (p, lb (if done = [] then [] else Lib.join (done.map piece) [32] ++ [32]), (i : Int), (m : Int), ()) := by
          by_cases hz0 : i = 0
          · have : done = [] := hd0.1 hz0
            subst this
            have : ¬ ((i : Int) > 0) := by omega
            simp only [this, decide_false, cond_false, List.map_nil, Lib.join_nil, if_true]
          · have hdn : done ≠ [] := fun e => hz0 (hd0.2 e)
            have c1 : (i : Int) > 0 := by omega
            have c2 : (lb (Lib.join (done.map piece) [32])).size + (lb [32]).size ≤ lim := by rw [lb_size, lb_size]; simp; omega
            simp only [c1, c2, decide_true, cond_true, hdn, if_false, lb_append]
        rw [lb_append] at e1
        have lout : (if done = [] then ([] : List UInt8) else Lib.join (done.map piece) [32] ++ [32]).length ≤ 4000 * 44 + 1 := by
          split
          · simp
          · simp; omega
        generalize hQ : (if done = [] then ([] : List UInt8) else Lib.join (done.map piece) [32] ++ [32]) = Q at e1 lout
        have c3 : (lb Q).size + (lb (Lib.itoa p[i])).size ≤ lim := by rw [lb_size, lb_size]; omega
        have hfin : (if done = [] then piece (p[i], m) else Lib.join (done.map piece) [32] ++ 32 :: piece (p[i], m)) = Q ++ piece (p[i], m) := by
          rw [← hQ]; split
          · rfl
          · simp
        rw [hfin]
        by_cases hm1 : (m : Int) > 1
        · have c4 : (lb (Q ++ Lib.itoa p[i])).size + (lb [42]).size ≤ lim := by rw [lb_size, lb_size]; simp; omega
          have c5 : (lb (Q ++ Lib.itoa p[i] ++ [42])).size + (lb (Lib.itoa (m : Int))).size ≤ lim := by rw [lb_size, lb_size]; simp; omega
          have hp : piece (p[i], m) = Lib.itoa p[i] ++ 42 :: Lib.itoa (m : Int) := by unfold piece; rw [if_pos (by simp; omega)]
          simp only [lsPicksText_0, g1, decide_true, cond_true, Int.natCast_nonneg, Int.toNat_natCast, h, getD_lt h, g2, g3, decide_false, cond_false, Option.bind_some, Sum.elim_inl, e0, e32, e42, m3, e1, hd1, c3, hm1, hd2, lb_append, c4, c5, w3]
          rw [hp]; simp
        · have hp : piece (p[i], m) = Lib.itoa p[i] := by unfold piece; rw [if_neg (by simp; omega)]
          simp only [lsPicksText_0, g1, decide_true, cond_true, Int.natCast_nonneg, Int.toNat_natCast, h, getD_lt h, g2, g3, decide_false, cond_false, Option.bind_some, Sum.elim_inl, e0, e32, e42, m3, e1, hd1, c3, hm1, lb_append, w3]
          rw [hp]
      · have hz' : ¬ (-999999999 ≤ p[i] ∧ p[i] ≤ 999999999) := fun h => hz (sizedB_iff.2 h)
        rw [if_neg (by simp [hz])]
        by_cases g2 : p[i] < -999999999
        · simp only [lsPicksText_0, g1, decide_true, cond_true, Int.natCast_nonneg, Int.toNat_natCast, h, getD_lt h, g2, Option.bind_some, Sum.elim_inr, e0]
        · have g3 : p[i] > 999999999 := by omega
          simp only [lsPicksText_0, g1, decide_true, cond_true, Int.natCast_nonneg, Int.toNat_natCast, h, getD_lt h, g2, g3, decide_false, cond_false, Option.bind_some, Sum.elim_inr, e0]
    · have : i = p.length := by omega
      subst this
      have g1 : ¬ ((p.length : Int) < (p.length : Int)) := by omega
      simp [lsPicksText_0, rl]
theorem sPicksText_ok {p : List Int} : FsPicksText N (p, ()) = some (lb (picksT p), ()) := by
  have hlim : lim = 2147483648 := rfl
  have e0 : ByteArray.mk #[] = lb [] := rfl
  unfold picksT
  by_cases hbig : p.length ≤ 4000
  · have g0 : ¬ ((p.length : Int) > 4000) := by omega
    have := sPicks_loop hN hbig N 0 [] (by omega) (by omega) (by simp) (by simp) (by simp)
    simp only [List.map_nil, Lib.join_nil, Int.natCast_zero, List.drop_zero, List.nil_append] at this
    simp only [FsPicksText, g0, decide_false, cond_false, e0, this, hbig, true_and]
    split <;> rfl
  · have g0 : ((p.length : Int) > 4000) := by omega
    simp only [FsPicksText, g0, decide_true, cond_true, hbig, false_and, if_false, e0]
end

section
variable {N : Nat}
theorem FhItoa_ok {n : Int} (h1 : -9223372036854775808 ≤ n) (h2 : n < 9223372036854775808) : FhItoa N (n, ()) = some (lb (Lib.itoa n), ()) := by
  have h3 : n ≤ 9223372036854775807 := by omega
  simp only [FkItoa, h1, h3, decide_true, Bool.and_self, cond_true]; rfl
theorem Fhfigure_ok {s : ByteArray} (h : s.size ≤ lim) : Fhfigure N (s, ()) = some ((numL (bl s)).getD 0, (numL (bl s)).isSome, ()) := by
  have hlim : lim = 2147483648 := rfl
  have e := num_atoi (bl s)
  have hf : figF s = ((numL (bl s)).getD 0, (numL (bl s)).isSome) := by
    rw [← e]; unfold figF bl
    cases Lib.atoiAll s.data.toList <;> rfl
  have : s.size ≤ 281474976710656 := by omega
  simp only [Fifigure, this, decide_true, cond_true, hf]
theorem cut_spl {c : UInt8} (l : List UInt8) : Lib.cut l [c] = match spl c l with
    | [] => (l, [], false)
    | [_] => (l, [], false)
    | a :: b :: r => (a, Lib.join (b :: r) [c], true) := by
  unfold Lib.cut
  rcases spl_split c l with ⟨h, e⟩ | ⟨a, b, rfl, ha, e⟩
  · rw [e]
    have hm : Lib.index l [c] = -1 := by
      rcases Lib.index_spec l [c] with ⟨h1, _⟩ | ⟨i, h1, h2, h3, _⟩
      · exact h1
      · exfalso
        apply h
        have := h3
        simp only [Lib.occAt, List.isPrefixOf_iff_prefix] at this
        obtain ⟨t, ht⟩ := this
        have : c ∈ l.drop i := by rw [← ht]; simp
        exact List.mem_of_mem_drop this
    rw [if_neg (by omega)]
  · rw [e]
    have key : ∀ a : List UInt8, c ∉ a → Lib.index (a ++ c :: b) [c] = a.length := by
      intro a
      induction a with
      | nil => intro _; rw [List.nil_append, Lib.index]; simp [List.isPrefixOf]
      | cons x a ih =>
        intro hx
        have hne : c ≠ x := fun e => hx (by simp [e])
        have hp : ([c] : List UInt8).isPrefixOf (x :: (a ++ c :: b)) = false := by simp [List.isPrefixOf, hne]
        have := ih (fun h => hx (by simp [h]))
        rw [List.cons_append, Lib.index, hp, this]
        simp
    have hi := key a ha
    rw [if_pos (by omega), hi]
    rw [spl_cons]
    have hj := join_spl c b
    rw [spl_cons] at hj
    simp only [hj]
    simp
theorem FhCut_ok {s : ByteArray} {c : UInt8} (h : s.size ≤ lim) : FhCut N (s, ⟨#[c]⟩, ()) = some (match spl c (bl s) with
    | [] => (s, lb [], false, ())
    | [_] => (s, lb [], false, ())
    | a :: b :: r => (lb a, lb (Lib.join (b :: r) [c]), true, ())) := by
  have hlim : lim = 2147483648 := rfl
  have h' : s.size < 4294967281 := by omega
  have e : (⟨#[c]⟩ : ByteArray).data.toList = [c] := rfl
  have ec := cut_spl (c := c) (bl s)
  simp only [FkCut, h', decide_true, cond_true, e]
  rw [show s.data.toList = bl s from rfl, ec]
  cases hs : spl c (bl s) with
  | nil => exact absurd hs (spl_ne c _)
  | cons a r =>
    cases r with
    | nil => simp only []; rw [show (⟨(bl s).toArray⟩ : ByteArray) = s from lb_bl s]; rfl
    | cons b r => rfl
theorem FhSplit_ok {s : ByteArray} {c : UInt8} (h : s.size ≤ lim) : FhSplit N (s, ⟨#[c]⟩, ()) = some ((spl c (bl s)).map lb, ()) := by
  have hlim : lim = 2147483648 := rfl
  have h' : s.size < 4294967281 := by omega
  have e : 1 ≤ (⟨#[c]⟩ : ByteArray).size := Nat.le_refl 1
  simp only [FkSplit, h', e, decide_true, Bool.and_self, cond_true, splitB_spl]
theorem FhJoin_ok {xs : List ByteArray} {c : UInt8} (h1 : xs.length ≤ lim) (h2 : (Lib.join (xs.map bl) [c]).length ≤ lim) : FhJoin N (xs, ⟨#[c]⟩, ()) = some (lb (Lib.join (xs.map bl) [c]), ()) := by
  have hlim : lim = 2147483648 := rfl
  have e : joinF xs ⟨#[c]⟩ = lb (Lib.join (xs.map bl) [c]) := rfl
  have g1 : xs.length ≤ 140737488355328 := by omega
  have g2 : (lb (Lib.join (xs.map bl) [c])).size ≤ 140737488355328 := by rw [lb_size]; omega
  simp only [FkJoin, e, g1, g2, decide_true, Bool.and_self, cond_true]
end

section
variable {N : Nat} (hN : lim < N)
include hN
omit hN in
theorem isized_ok (n : Int) : Fisized N (n, ()) = some (sizedB n, ()) := by
  unfold sizedB
  by_cases h : -999999999 ≤ n
  · have : n ≥ -999999999 := h
    simp only [Fisized, this, h, decide_true, cond_true, Bool.true_and]
  · have : ¬ n ≥ -999999999 := h
    simp only [Fisized, this, h, decide_false, cond_false, Bool.false_and]
theorem iPicks_loop {p : List Int} (hbig : p.length ≤ 4000) : ∀ n i (done : List (Int × Nat)), i ≤ p.length → p.length - i < n → done.length ≤ i →
    liPicksText_0 N n (p, (i : Int), done.map (lb ∘ piece), ()) = if (rl (p.drop i)).all (fun r => sizedB r.1) = true then some (.inl ((done ++ rl (p.drop i)).map (lb ∘ piece), ())) else some (.inr (lb [], ())) := by
  have hlim : lim = 2147483648 := rfl
  have e0 : ByteArray.mk #[] = lb [] := rfl
  have e42 : ByteArray.mk #[42] = lb [42] := rfl
  intro n
  induction n with
  | zero => intro i done _ h; exact absurd h (Nat.not_lt_zero _)
  | succ n ih =>
    intro i done hi hn hdl
    by_cases h : i < p.length
    · have g1 : (i : Int) < (p.length : Int) := by omega
      obtain ⟨m, m1, m2, m3, m4⟩ := run_loop h hbig (L := fun n k => liPicksText_2 N n (p, (i : Int), (k : Int), done.map (lb ∘ piece), ())) (fin := fun m => (p, (i : Int), (m : Int), done.map (lb ∘ piece), ()))
        (fun n k hk he w w2 => by
          have g1 : ((i + k : Nat) : Int) < (p.length : Int) := by omega
          simp only [liPicksText_2, w, g1, decide_true, cond_true, Int.natCast_nonneg, Int.toNat_natCast, hk, he, h, getD_lt h, beq_self_eq_true, w2])
        (fun n k hk he w => by
          have g1 : ((i + k : Nat) : Int) < (p.length : Int) := by omega
          have hb : (p.getD (i + k) 0 == p[i]) = false := beq_eq_false_iff_ne.2 he
          simp only [liPicksText_2, w, g1, decide_true, cond_true, Int.natCast_nonneg, Int.toNat_natCast, hk, h, getD_lt h, hb, cond_false])
        (fun n k hk w => by
          have g1 : ¬ (((i + k : Nat) : Int) < (p.length : Int)) := by omega
          simp only [liPicksText_2, w, g1, decide_false, cond_false])
        N 1 (Nat.le_refl _) (by omega) (by omega) (fun j hj h1 h2 => by
          have : j = i := by omega
          subst this; rfl)
      simp only [Int.natCast_one] at m3
      rw [m4, List.all_cons]
      by_cases hz : sizedB p[i] = true
      · have hz' := sizedB_iff.1 hz
        have hd1 := FhItoa_ok (N := N) (n := p[i]) (by omega) (by omega)
        have hd2 := FhItoa_ok (N := N) (n := (m : Int)) (by omega) (by omega)
        have w3 : w64 ((i : Int) + (m : Int)) = ((i + m : Nat) : Int) := by rw [w64_id (by omega) (by omega)]; omega
        have l1 := itoa_len (v := p[i]) (by omega) (by omega)
        have l2 := itoa_len (v := (m : Int)) (by omega) (by omega)
        have hsz := isized_ok (N := N) p[i]
        have hnx := ih (i + m) (done ++ [(p[i], m)]) m2 (by omega) (by simp; omega)
        rw [List.append_assoc, List.singleton_append, List.map_append] at hnx
        rw [hz, Bool.true_and, ← hnx]
        have c6 : (done.map (lb ∘ piece)).length + 1 ≤ lim := by simp; omega
        by_cases hm1 : (m : Int) > 1
        · have c4 : (lb [42]).size + (lb (Lib.itoa (m : Int))).size ≤ lim := by rw [lb_size, lb_size]; simp; omega
          have c5 : (lb (Lib.itoa p[i])).size + (lb ([42] ++ Lib.itoa (m : Int))).size ≤ lim := by rw [lb_size, lb_size]; simp; omega
          have hp : piece (p[i], m) = Lib.itoa p[i] ++ ([42] ++ Lib.itoa (m : Int)) := by unfold piece; rw [if_pos (by simp; omega)]; rfl
          simp only [liPicksText_0, g1, decide_true, cond_true, Int.natCast_nonneg, Int.toNat_natCast, h, getD_lt h, hsz, hz, Bool.not_true, cond_false, Option.bind_some, e42, m3, hd1, hm1, hd2, lb_append, c4, c5, w3, List.length_cons, List.length_nil, Nat.zero_add, c6]
          rw [← hp]; rfl
        · have hp : piece (p[i], m) = Lib.itoa p[i] := by unfold piece; rw [if_neg (by simp; omega)]
          simp only [liPicksText_0, g1, decide_true, cond_true, Int.natCast_nonneg, Int.toNat_natCast, h, getD_lt h, hsz, hz, Bool.not_true, cond_false, Option.bind_some, m3, hd1, hm1, decide_false, w3, List.length_cons, List.length_nil, Nat.zero_add, c6]
          rw [← hp]; rfl
      · have hz' : sizedB p[i] = false := by simpa using hz
        have hsz := isized_ok (N := N) p[i]
        rw [if_neg (by simp [hz])]
        simp only [liPicksText_0, g1, decide_true, cond_true, Int.natCast_nonneg, Int.toNat_natCast, h, getD_lt h, m3, hsz, hz', Bool.not_false, Option.bind_some, e0]
    · have : i = p.length := by omega
      subst this
      have g1 : ¬ ((p.length : Int) < (p.length : Int)) := by omega
      simp [liPicksText_0, rl]
theorem iPicksText_ok {p : List Int} : FiPicksText N (p, ()) = some (lb (picksT p), ()) := by
  have hlim : lim = 2147483648 := rfl
  have e0 : ByteArray.mk #[] = lb [] := rfl
  unfold picksT
  by_cases hbig : p.length ≤ 4000
  · have g0 : ¬ ((p.length : Int) > 4000) := by omega
    have := iPicks_loop hN hbig N 0 [] (by omega) (by omega) (by simp)
    simp only [List.map_nil, Int.natCast_zero, List.drop_zero, List.nil_append] at this
    simp only [FiPicksText, g0, decide_false, cond_false, this, hbig, true_and]
    by_cases ha : (rl p).all (fun r => sizedB r.1) = true
    · have hln := rl_len p
      have hpl := piecesLen (rl_sized hbig ha)
      have hm : ((rl p).map (lb ∘ piece)).map bl = (rl p).map piece := by rw [List.map_map]; rfl
      have hj := FhJoin_ok (N := N) (xs := (rl p).map (lb ∘ piece)) (c := 32) (by simp; omega) (by rw [hm]; omega)
      rw [hm] at hj
      rw [if_pos ha, if_pos ha]
      simp only [Option.bind_some, Sum.elim_inl, hj]
    · rw [if_neg ha, if_neg ha]; rfl
  · have g0 : ((p.length : Int) > 4000) := by omega
    simp only [FiPicksText, g0, decide_true, cond_true, hbig, false_and, if_false, e0]
end

section
variable {N : Nat} (hN : lim < N)
include hN

omit hN in
theorem spl_at {c : UInt8} {l : List UInt8} {a i : Nat} (hai : a ≤ i) (hi : i < l.length) (hc : l[i] = c) (hfree : c ∉ (l.drop a).take (i - a)) : spl c (l.drop a) = (l.drop a).take (i - a) :: spl c (l.drop (i + 1)) := by
  have e : l.drop a = (l.drop a).take (i - a) ++ c :: l.drop (i + 1) := by
    conv => lhs; rw [← List.take_append_drop (i - a) (l.drop a)]
    rw [List.drop_drop, show a + (i - a) = i by omega, drop_at hi, hc]
  conv => lhs; rw [e]
  exact spl_sep _ hfree
omit hN in
theorem free_succ {c : UInt8} {l : List UInt8} {a i : Nat} (hai : a ≤ i) (hi : i < l.length) (hc : l[i] ≠ c) (hfree : c ∉ (l.drop a).take (i - a)) : c ∉ (l.drop a).take (i + 1 - a) := by
  rw [show i + 1 - a = (i - a) + 1 by omega, List.take_add_one]
  have : (l.drop a)[i - a]? = some l[i] := by rw [List.getElem?_drop, show a + (i - a) = i by omega, List.getElem?_eq_getElem hi]
  rw [this]
  intro h
  rcases List.mem_append.1 h with h | h
  · exact hfree h
  · simp at h; exact hc h.symm

theorem sl9Split_ok {s : ByteArray} {c : UInt8} {k : Int} (hk : k = (c.toNat : Int)) (hs : s.size < lim) : Fsl9Split N (s, k, ()) = some ((spl c (bl s)).map lb, ()) := by
  subst hk
  have hlim : lim = 2147483648 := rfl
  have hlen := bl_len s
  have key : ∀ n i a (out : List ByteArray), a ≤ i → i ≤ s.size → out.length ≤ a → s.size - i < n → c ∉ ((bl s).drop a).take (i - a) →
      ∃ (a' : Nat) (out' : List ByteArray), lsl9Split_0 N n (s, (c.toNat : Int), (a : Int), (i : Int), out, ()) = some (s, (a' : Int), out', ()) ∧ a' ≤ s.size ∧ out'.length ≤ s.size ∧ out' ++ [s.extract a' s.size] = out ++ (spl c ((bl s).drop a)).map lb := by
    intro n
    induction n with
    | zero => intro i a out _ _ _ h; exact absurd h (Nat.not_lt_zero _)
    | succ n ih =>
      intro i a out hai hi hout hn hfree
      have hw : w64 ((i : Int) + 1) = ((i + 1 : Nat) : Int) := w64_succ (by omega)
      by_cases h : i < s.size
      · have hi' : i < (bl s).length := by omega
        have hb : s.data.getD i 0 = (bl s)[i] := by rw [bl_getD, getD_lt hi']
        by_cases hc : (bl s)[i] = c
        · obtain ⟨a', out', h1, h2, h3, h4⟩ := ih (i + 1) (i + 1) (out ++ [s.extract a i]) (Nat.le_refl _) (by omega) (by simp; omega) (by omega) (by simp)
          refine ⟨a', out', ?_, h2, h3, ?_⟩
          · have g1 : (i : Int) < (s.size : Int) := by omega
            have g2 : (i : Int) ≤ (s.size : Int) := by omega
            have g3 : (a : Int) ≤ (i : Int) := by omega
            have g4 : out.length + 1 ≤ lim := by omega
            simp only [lsl9Split_0, g1, g2, g3, decide_true, cond_true, Int.natCast_nonneg, Int.toNat_natCast, h, hb, hc, beq_self_eq_true, List.length_singleton, List.length_cons, List.length_nil, Nat.zero_add, g4, hw]
            exact h1
          · rw [h4, spl_at hai hi' hc hfree, List.map_cons, List.append_assoc]
            congr 1
            have : s.extract a i = lb (((bl s).drop a).take (i - a)) := bl_inj (by rw [bl_extract]; rfl)
            rw [this]; rfl
        · obtain ⟨a', out', h1, h2, h3, h4⟩ := ih (i + 1) a out (by omega) (by omega) hout (by omega) (free_succ hai hi' hc hfree)
          refine ⟨a', out', ?_, h2, h3, h4⟩
          have g1 : (i : Int) < (s.size : Int) := by omega
          have g2 : (((bl s)[i].toNat : Int) == (c.toNat : Int)) = false := by
            rw [beq_eq_false_iff_ne]
            intro e
            exact hc (UInt8.toNat_inj.1 (by omega))
          simp only [lsl9Split_0, g1, g2, decide_true, cond_true, cond_false, Int.natCast_nonneg, Int.toNat_natCast, h, hb, hw]
          exact h1
      · have : i = s.size := by omega
        subst this
        refine ⟨a, out, ?_, by omega, by omega, ?_⟩
        · have g1 : ¬ ((s.size : Int) < (s.size : Int)) := by omega
          simp only [lsl9Split_0, g1, decide_false, cond_false]
        · have hf : c ∉ (bl s).drop a := by
            rwa [List.take_of_length_le (by simp; omega)] at hfree
          rw [spl_word hf]
          congr 2
          apply bl_inj
          rw [bl_extract, List.take_of_length_le (by simp; omega)]; rfl
  obtain ⟨a', out', h1, h2, h3, h4⟩ := key N 0 0 [] (Nat.le_refl _) (by omega) (by simp) (by omega) (by simp)
  simp only [Int.natCast_zero] at h1
  have g1 : (a' : Int) ≤ (s.size : Int) := by omega
  have g2 : out'.length + 1 ≤ lim := by omega
  simp only [List.nil_append, List.drop_zero] at h4
  simp only [Fsl9Split, h1, Option.bind_some, Int.natCast_nonneg, decide_true, cond_true, Int.le_refl, g1, Int.toNat_natCast, List.length_singleton, List.length_cons, List.length_nil, Nat.zero_add, g2, h4]
end

/-- What is done when the sign is off. -/
noncomputable def numRest (N : Nat) (o4 : ByteArray × ByteArray × Unit) : Option (Int × Bool × Unit) :=
  Option.bind (
   let y5 := decide ((o4.2.1.size : Int) < (1 : Int))
   bif y5 then
    some (.inr (((0 : Int), false, ())))
   else
   let y6 := decide ((o4.2.1.size : Int) > (9 : Int))
   bif y6 then
    some (.inr (((0 : Int), false, ())))
   else
   bif decide (0 ≤ (0 : Int)) then
   bif decide ((0 : Int).toNat < o4.2.1.size) then
   let y7 := ((o4.2.1.data.getD (0 : Int).toNat 0).toNat : Int)
   bif y7 == (48 : Int) then
    let y8 := !(o4.1.toList == (ByteArray.mk #[48]).toList)
    bif y8 then
     some (.inr (((0 : Int), false, ())))
    else
    some (.inl (o4.1, o4.2.1, ()))
   else
   some (.inl (o4.1, o4.2.1, ()))
   else none
   else none) fun o9 =>
  Sum.elim (fun o10 =>
   (lsl9Num_0 N N (o10.1, o10.2.1, (0 : Int), (0 : Int), ())).bind fun o20 =>
   Sum.elim (fun o21 =>
    let y22 := decide ((o21.2.1.size : Int) < (o21.1.size : Int))
    bif y22 then
     some (w64 (0 - o21.2.2.1), true, ())
    else
    some (o21.2.2.1, true, ())) (fun o23 =>
    some (o23.1, o23.2.1, ())) o20) (fun o24 =>
   some (o24.1, o24.2.1, ())) o9
section
variable {N : Nat} (hN : lim < N)
include hN
theorem lsl9Num_ok {s d : ByteArray} (hd : d.size ≤ 9) : ∀ (n i : Nat) (v : Nat), i ≤ d.size → d.size - i < n → v < 10 ^ i → (∀ c ∈ (bl d).take i, isDig c = true) → v = valD ((bl d).take i) →
    lsl9Num_0 N n (s, d, (v : Int), (i : Int), ()) = if ∀ c ∈ bl d, isDig c = true then some (.inl (s, d, (valD (bl d) : Int), ())) else some (.inr (0, false, ())) := by
  intro n
  induction n with
  | zero => intro i v _ h; exact absurd h (Nat.not_lt_zero _)
  | succ n ih =>
    intro i v hi hn hv hf hval
    have hlen := bl_len d
    have hp : 10 ^ i ≤ 10 ^ 9 := Nat.pow_le_pow_right (by omega) (by omega)
    have hp9 : (10 : Nat) ^ 9 = 1000000000 := by decide
    by_cases h : i < d.size
    · have hi' : i < (bl d).length := by omega
      have hb : d.data.getD i 0 = (bl d)[i] := by rw [bl_getD, getD_lt hi']
      have hmem : (bl d)[i] ∈ bl d := List.getElem_mem hi'
      have hlt : ((bl d)[i]).toNat < 256 := UInt8.toNat_lt _
      have g1 : (i : Int) < (d.size : Int) := by omega
      by_cases hdig : isDig (bl d)[i] = true
      · have hdig' := hdig
        simp only [isDig, Bool.and_eq_true, decide_eq_true_eq] at hdig'
        have g2 : ¬ (((bl d)[i].toNat : Int) < 48) := by omega
        have g3 : ¬ (((bl d)[i].toNat : Int) > 57) := by omega
        have hw := ih (i + 1) (10 * v + ((bl d)[i].toNat - 48)) (by omega) (by omega) (by rw [Nat.pow_succ]; omega)
          (fun c hc => by
            rw [List.take_add_one, List.getElem?_eq_getElem hi'] at hc
            rcases List.mem_append.1 hc with hc | hc
            · exact hf c hc
            · simp at hc; rw [hc]; exact hdig)
          (by rw [List.take_add_one, List.getElem?_eq_getElem hi']; simp only [valD] at hval ⊢; rw [Option.toList_some, List.foldl_append, ← hval]; rfl)
        have w1 : w64 ((w64 (10 * (v : Int))) + w64 (IntKind.wrap .u8 (((bl d)[i].toNat : Int) - 48))) = ((10 * v + ((bl d)[i].toNat - 48) : Nat) : Int) := by
          rw [wrap8 (by omega) (by omega), w64_id (x := 10 * (v : Int)) (by omega) (by omega), w64_id (x := ((bl d)[i].toNat : Int) - 48) (by omega) (by omega), w64_id (by omega) (by omega)]; omega
        have w2 : w64 ((i : Int) + 1) = ((i + 1 : Nat) : Int) := w64_succ (by omega)
        simp only [lsl9Num_0, g1, decide_true, cond_true, Int.natCast_nonneg, Int.toNat_natCast, h, hb, g2, g3, decide_false, cond_false, Option.bind_some, Sum.elim_inl, w1, w2]
        exact hw
      · rw [if_neg (fun hall => hdig (hall _ hmem))]
        have hdig' : ¬ (48 ≤ ((bl d)[i]).toNat ∧ ((bl d)[i]).toNat ≤ 57) := by
          simpa [isDig] using hdig
        by_cases g2 : (((bl d)[i].toNat : Int) < 48)
        · simp only [lsl9Num_0, g1, decide_true, cond_true, Int.natCast_nonneg, Int.toNat_natCast, h, hb, g2, Option.bind_some, Sum.elim_inr]
        · have g3 : (((bl d)[i].toNat : Int) > 57) := by omega
          simp only [lsl9Num_0, g1, decide_true, cond_true, Int.natCast_nonneg, Int.toNat_natCast, h, hb, g2, g3, decide_false, cond_false, Option.bind_some, Sum.elim_inr]
    · have : i = d.size := by omega
      subst this
      have e : (bl d).take d.size = bl d := List.take_of_length_le (by omega)
      rw [e] at hf hval
      rw [if_pos hf]
      have g1 : ¬ ((d.size : Int) < (d.size : Int)) := by omega
      simp only [lsl9Num_0, g1, decide_false, cond_false, hval]
theorem numRest_ok {s d : ByteArray} {neg : Bool} (hneg : neg = decide (d.size < s.size)) (hds : d.size ≤ s.size) : numRest N (s, d, ()) = if numOk (bl s) (bl d) = true then some (bif neg then -(valD (bl d) : Int) else (valD (bl d) : Int), true, ()) else some (0, false, ()) := by
  have hlim : lim = 2147483648 := rfl
  have hlen := bl_len d
  have z0 : (0 : Int).toNat = 0 := rfl
  have c48 : bl (ByteArray.mk #[48]) = [48] := rfl
  by_cases h1 : (d.size : Int) < 1
  · have : bl d = [] := List.length_eq_zero_iff.1 (by omega)
    rw [if_neg (fun h => (numOk_iff.1 h).1 this)]
    simp only [numRest, h1, decide_true, cond_true, Option.bind_some, Sum.elim_inr]
  · by_cases h2 : (d.size : Int) > 9
    · rw [if_neg (fun h => by have := (numOk_iff.1 h).2.1; omega)]
      simp only [numRest, h1, h2, decide_true, decide_false, cond_true, cond_false, Option.bind_some, Sum.elim_inr]
    · have h0 : 0 < d.size := by omega
      obtain ⟨c, r, hd⟩ : ∃ c r, bl d = c :: r := by
        cases hb : bl d with
        | nil => rw [hb] at hlen; simp at hlen; omega
        | cons c r => exact ⟨c, r, rfl⟩
      have hb : d.data.getD 0 0 = c := by rw [bl_getD, hd]; rfl
      by_cases h3 : c = 48 ∧ bl s ≠ [48]
      · rw [if_neg (fun h => h3.2 ((numOk_iff.1 h).2.2.1 (by rw [hd, h3.1]; rfl)))]
        have e1 : ((c.toNat : Int) == 48) = true := by rw [h3.1]; rfl
        have e2 : (s.toList == (ByteArray.mk #[48]).toList) = false := by rw [ba_beq, c48]; simpa using h3.2
        simp only [numRest, h1, h2, h0, z0, hb, e1, e2, Int.le_refl, decide_true, decide_false, cond_true, cond_false, Bool.not_false, Option.bind_some, Sum.elim_inr]
      · have hst : (Option.bind (bif ((c.toNat : Int) == 48) then (bif !(s.toList == (ByteArray.mk #[48]).toList) then some (.inr ((0 : Int), false, ())) else some (.inl (s, d, ()))) else some (.inl (s, d, ()))) (fun o => some o) : Option ((ByteArray × ByteArray × Unit) ⊕ (Int × Bool × Unit))) = some (.inl (s, d, ())) := by
          by_cases hc : c = 48
          · have hs : bl s = [48] := Decidable.byContradiction fun h => h3 ⟨hc, h⟩
            have e1 : ((c.toNat : Int) == 48) = true := by rw [hc]; rfl
            have e2 : (s.toList == (ByteArray.mk #[48]).toList) = true := by rw [ba_beq, c48]; simpa using hs
            simp only [e1, e2, cond_true, Bool.not_true, cond_false, Option.bind_some]
          · have e1 : ((c.toNat : Int) == 48) = false := by
              rw [beq_eq_false_iff_ne]; intro e; exact hc (UInt8.toNat_inj.1 (by rw [show (48 : UInt8).toNat = 48 from rfl]; omega))
            simp only [e1, cond_false, Option.bind_some]
        have hst' : (bif ((c.toNat : Int) == 48) then (bif !(s.toList == (ByteArray.mk #[48]).toList) then some (.inr ((0 : Int), false, ())) else some (.inl (s, d, ()))) else some (.inl (s, d, ())) : Option ((ByteArray × ByteArray × Unit) ⊕ (Int × Bool × Unit))) = some (.inl (s, d, ())) := by
          simpa only [Option.bind_fun_some] using hst
        have hloop := lsl9Num_ok hN (s := s) (d := d) (by omega) N 0 0 (by omega) (by omega) (by simp) (by simp) (by simp [valD])
        simp only [Int.natCast_zero] at hloop
        simp only [numRest, h1, h2, h0, z0, hb, Int.le_refl, decide_true, decide_false, cond_true, cond_false, hst', Option.bind_some, Sum.elim_inl, hloop]
        by_cases hall : ∀ c ∈ bl d, isDig c = true
        · rw [if_pos hall, if_pos (numOk_iff.2 ⟨by rw [hd]; simp, by omega, fun h => by
            rw [hd] at h
            exact Decidable.byContradiction fun h' => h3 ⟨by simpa using h, h'⟩, hall⟩)]
          have hv := val_lt hall (by omega)
          have hw : w64 (0 - (valD (bl d) : Int)) = -(valD (bl d) : Int) := by rw [w64_id (by omega) (by omega)]; omega
          have hn : decide ((d.size : Int) < (s.size : Int)) = neg := by rw [hneg]; congr 1; simp
          simp only [Option.bind_some, Sum.elim_inl, hw, hn]
          cases neg <;> rfl
        · rw [if_neg hall, if_neg (fun h => hall (numOk_iff.1 h).2.2.2)]
          simp only [Option.bind_some, Sum.elim_inr]
theorem sl9Num_ok (s : ByteArray) : Fsl9Num N (s, ()) = some ((numL (bl s)).getD 0, (numL (bl s)).isSome, ()) := by
  have hlen := bl_len s
  have z0 : (0 : Int).toNat = 0 := rfl
  have z1 : (1 : Int).toNat = 1 := rfl
  have hdef : Fsl9Num N (s, ()) = Option.bind (bif decide ((s.size : Int) > 0) then
      bif decide ((0 : Int) ≤ 0) then bif decide ((0 : Int).toNat < s.size) then
      bif ((s.data.getD (0 : Int).toNat 0).toNat : Int) == 45 then
       bif decide ((0 : Int) ≤ (s.size : Int)) then bif decide ((s.size : Int) ≤ (s.size : Int)) then bif decide ((0 : Int) ≤ 1) then bif decide ((1 : Int) ≤ (s.size : Int)) then
       some (s, s.extract (1 : Int).toNat (s.size : Int).toNat, ()) else none else none else none else none
      else some (s, s, ()) else none else none else some (s, s, ())) (numRest N) := rfl
  have fin : ∀ (o : Option Int) (b : Bool), (if b = true then some ((o.getD 0), true, ()) else some ((0 : Int), false, ())) = some (((if b = true then some (o.getD 0) else none).getD 0), (if b = true then some (o.getD 0) else none).isSome, ()) := by
    intro o b; cases b <;> rfl
  rw [hdef]
  cases hs : bl s with
  | nil =>
    rw [hs] at hlen
    have h0 : s.size = 0 := by simpa using hlen.symm
    have h1 : ¬ ((s.size : Int) > 0) := by omega
    simp only [h1, decide_false, cond_false, Option.bind_some]
    rw [numRest_ok hN (neg := false) (by simp) (Nat.le_refl _), hs]
    rfl
  | cons c r =>
    rw [hs] at hlen
    have h0 : 0 < s.size := by simp at hlen; omega
    have h1 : (s.size : Int) > 0 := by omega
    have h2 : (1 : Int) ≤ (s.size : Int) := by omega
    have hb : s.data.getD 0 0 = c := by rw [bl_getD, hs]; rfl
    by_cases hc : c = 45
    · subst hc
      have e45 : (((45 : UInt8).toNat : Int) == 45) = true := rfl
      have hx : bl (s.extract 1 s.size) = r := by
        rw [bl_extract, hs, List.take_of_length_le (by simp; simp at hlen; omega)]; rfl
      have hxs : (s.extract 1 s.size).size = r.length := by rw [← bl_len, hx]
      simp only [h1, h0, z0, z1, hb, h2, e45, decide_true, cond_true, Int.le_refl, Int.natCast_nonneg, Int.toNat_natCast, show (0 : Int) ≤ 1 by omega, Option.bind_some]
      rw [numRest_ok hN (neg := true) (by rw [hxs, ← hlen]; simp) (by rw [hxs, ← hlen]; simp), hs, hx]
      unfold numL
      rw [if_pos (show (45 :: r).head? = some 45 from rfl), List.tail_cons]
      cases numOk (45 :: r) r <;> rfl
    · have hne : ((c.toNat : Int) == 45) = false := by
        rw [beq_eq_false_iff_ne]; intro e; exact hc (UInt8.toNat_inj.1 (by rw [show (45 : UInt8).toNat = 45 from rfl]; omega))
      simp only [h1, h0, z0, hb, hne, decide_true, cond_true, cond_false, Int.le_refl, Option.bind_some]
      rw [numRest_ok hN (neg := false) (by simp) (Nat.le_refl _), hs]
      unfold numL
      rw [if_neg (show ¬ (c :: r).head? = some 45 by simpa using hc)]
      cases numOk (c :: r) (c :: r) <;> rfl
/-- All are numbers. -/
def numsL : List (List UInt8) → Option (List Int)
  | [] => some []
  | s :: r => (numL s).bind fun v => (numsL r).map (v :: ·)
theorem sl9Nums_loop {w : List ByteArray} (hw : w.length ≤ lim) : ∀ n i (out : List Int), i ≤ w.length → w.length - i < n → out.length = i →
    lsl9Nums_0 N n (w, (i : Int), out, ()) = match numsL ((w.drop i).map bl) with
      | some vs => some (.inl (out ++ vs, ()))
      | none => some (.inr (false, [], ())) := by
  intro n
  induction n with
  | zero => intro i out _ h; exact absurd h (Nat.not_lt_zero _)
  | succ n ih =>
    intro i out hi hn ho
    have hlim : lim = 2147483648 := rfl
    by_cases h : i < w.length
    · have g1 : (i : Int) < (w.length : Int) := by omega
      have w1 : w64 ((i : Int) + 1) = ((i + 1 : Nat) : Int) := w64_succ (by omega)
      have hnum := sl9Num_ok hN w[i]
      rw [drop_at h, List.map_cons, numsL]
      cases hv : numL (bl w[i]) with
      | none =>
        rw [hv] at hnum
        simp only [lsl9Nums_0, g1, decide_true, cond_true, Int.natCast_nonneg, Int.toNat_natCast, h, getD_lt h, hnum, Option.bind_some, Option.isSome_none, Bool.not_false, Option.bind_none]
      | some v =>
        rw [hv] at hnum
        have := ih (i + 1) (out ++ [v]) (by omega) (by omega) (by simp [ho])
        have g2 : out.length + 1 ≤ lim := by omega
        simp only [lsl9Nums_0, g1, decide_true, cond_true, Int.natCast_nonneg, Int.toNat_natCast, h, getD_lt h, hnum, Option.bind_some, Option.isSome_some, Bool.not_true, cond_false, Option.getD_some, List.length_cons, List.length_nil, Nat.zero_add, g2, w1]
        rw [this]
        cases numsL ((w.drop (i + 1)).map bl) with
        | none => rfl
        | some vs => simp
    · have : i = w.length := by omega
      subst this
      have g1 : ¬ ((w.length : Int) < (w.length : Int)) := by omega
      simp [lsl9Nums_0, numsL]
theorem sl9Nums_ok {w : List ByteArray} (hw : w.length ≤ lim) : Fsl9Nums N (w, ()) = some ((numsL (w.map bl)).isSome, (numsL (w.map bl)).getD [], ()) := by
  have := sl9Nums_loop hN hw N 0 [] (by omega) (by omega) rfl
  simp only [Int.natCast_zero, List.drop_zero, List.nil_append] at this
  simp only [Fsl9Nums, this]
  cases numsL (w.map bl) with
  | none => rfl
  | some vs => rfl
end

/-- A word of the text of picks. -/
def wordP (w : List UInt8) : Option (Int × Int) := match numsL (spl 42 w) with
  | some [a] => some (a, 1)
  | some [a, k] => some (a, k)
  | _ => none
def picksW : List (List UInt8) → List Int → Option (List Int)
  | [], out => some out
  | w :: r, out => (wordP w).bind fun x => if 1 ≤ x.2 ∧ x.2 ≤ 4000 - (out.length : Int) then picksW r (out ++ List.replicate x.2.toNat x.1) else none
/-- The picks of a text. -/
def picksR (t : List UInt8) : Option (List Int) :=
  if 4000 < t.length then none else if t = [] then some [] else (picksW (spl 32 t) []).bind fun out => if picksT out = t then some out else none
theorem picksW_len : ∀ (ws : List (List UInt8)) (out r : List Int), out.length ≤ 4000 → picksW ws out = some r → r.length ≤ 4000
  | [], out, r, h, e => by simp [picksW] at e; subst e; exact h
  | w :: ws, out, r, h, e => by
    simp only [picksW, Option.bind_eq_some_iff] at e
    obtain ⟨x, _, e⟩ := e
    split at e
    · rename_i hx
      exact picksW_len ws _ r (by simp; omega) e
    · cases e
theorem picksR_len {t : List UInt8} {r : List Int} (h : picksR t = some r) : r.length ≤ 4000 := by
  unfold picksR at h
  split at h
  · cases h
  · split at h
    · cases h; simp
    · simp only [Option.bind_eq_some_iff] at h
      obtain ⟨o, h1, h2⟩ := h
      split at h2
      · cases h2; exact picksW_len _ _ _ (by simp) h1
      · cases h2
section
variable {N : Nat} (hN : lim < N)
include hN
omit hN in
theorem lsPicksRead2_ok {s : ByteArray} {i k : Int} {w : List ByteArray} {nl : List Int} {a : Int} (hk : k ≤ 4000) (hnl : nl[0]? = some a) : ∀ (f j : Nat) (out : List Int), (j : Int) ≤ k → k.toNat - j < f → out.length + (k.toNat - j) ≤ 4000 →
    lsPicksRead_2 N f (s, i, k, (j : Int), w, out, nl, ()) = some (s, i, w, out ++ List.replicate (k.toNat - j) a, ()) := by
  have hlim : lim = 2147483648 := rfl
  obtain ⟨h0, he⟩ := List.getElem?_eq_some_iff.1 hnl
  have z0 : (0 : Int).toNat = 0 := rfl
  intro f
  induction f with
  | zero => intro j out _ h; exact absurd h (Nat.not_lt_zero _)
  | succ f ih =>
    intro j out hj hf ho
    by_cases h : (j : Int) < k
    · have w1 : w64 ((j : Int) + 1) = ((j + 1 : Nat) : Int) := w64_succ (by omega)
      have := ih (j + 1) (out ++ [a]) (by omega) (by omega) (by simp; omega)
      have g1 : out.length + 1 ≤ lim := by omega
      simp only [lsPicksRead_2, h, decide_true, cond_true, Int.le_refl, z0, h0, getD_lt h0, he, List.length_cons, List.length_nil, Nat.zero_add, g1, w1]
      rw [this, List.append_assoc]
      congr 4
      rw [show k.toNat - j = (k.toNat - (j + 1)) + 1 by omega, List.replicate_succ]; rfl
    · have : k.toNat - j = 0 := by omega
      simp [lsPicksRead_2, h, this]
theorem sPicksR_loop {s : ByteArray} {ws : List (List UInt8)} (hl : ws.length ≤ 5000) (hw : ∀ x ∈ ws, x.length ≤ 4000) : ∀ n i (out : List Int), i ≤ ws.length → ws.length - i < n → out.length ≤ 4000 →
    lsPicksRead_0 N n (s, (i : Int), ws.map lb, out, ()) = match picksW (ws.drop i) out with
      | some r => some (.inl (s, r, ()))
      | none => some (.inr (false, [], ())) := by
  have hlim : lim = 2147483648 := rfl
  intro n
  induction n with
  | zero => intro i out _ h; exact absurd h (Nat.not_lt_zero _)
  | succ n ih =>
    intro i out hi hn ho
    by_cases h : i < ws.length
    · have hlen : (ws.map lb).length = ws.length := by simp
      have g1 : (i : Int) < ((ws.map lb).length : Int) := by rw [hlen]; omega
      have g2 : i < (ws.map lb).length := by rw [hlen]; exact h
      have hx := hw _ (List.getElem_mem h)
      have e1 : (ws.map lb).getD i ByteArray.empty = lb ws[i] := by rw [getD_lt g2]; simp
      have hsp := sl9Split_ok hN (s := lb ws[i]) (c := 42) (k := 42) rfl (by rw [lb_size]; omega)
      rw [bl_lb] at hsp
      have hls := spl_len 42 ws[i]
      have hnu := sl9Nums_ok hN (w := (spl 42 ws[i]).map lb) (by simp; omega)
      have hmm : ((spl 42 ws[i]).map lb).map bl = spl 42 ws[i] := by
        rw [List.map_map]
        have : (bl ∘ lb) = id := by funext x; rfl
        rw [this, List.map_id]
      rw [hmm] at hnu
      have w1 : w64 ((i : Int) + 1) = ((i + 1 : Nat) : Int) := w64_succ (by omega)
      have w2 : w64 ((4000 : Int) - (out.length : Int)) = 4000 - (out.length : Int) := w64_id (by omega) (by omega)
      have z1 : (1 : Int).toNat = 1 := rfl
      rw [drop_at h, picksW]
      have fin : ∀ (nl : List Int) (a k : Int), nl[0]? = some a → wordP ws[i] = some (a, k) →
          (Option.bind (bif decide (k < 1) then some (.inr (false, [], ())) else (bif decide (k > 4000 - (out.length : Int)) then some (.inr (false, [], ())) else some (.inl (s, (i : Int), k, ws.map lb, out, nl, ()))) : Option ((ByteArray × Int × Int × List ByteArray × List Int × List Int × Unit) ⊕ (Bool × List Int × Unit))) fun o15 =>
            Sum.elim (fun o16 => (lsPicksRead_2 N N (o16.1, o16.2.1, o16.2.2.1, 0, o16.2.2.2.1, o16.2.2.2.2.1, o16.2.2.2.2.2.1, ())).bind fun o18 =>
              lsPicksRead_0 N n (o18.1, w64 (o18.2.1 + 1), o18.2.2.1, o18.2.2.2.1, ())) (fun o19 => some (.inr (o19.1, o19.2.1, ()))) o15) =
          match (wordP ws[i]).bind (fun x => if 1 ≤ x.2 ∧ x.2 ≤ 4000 - (out.length : Int) then picksW (ws.drop (i + 1)) (out ++ List.replicate x.2.toNat x.1) else none) with
            | some r => some (.inl (s, r, ()))
            | none => some (.inr (false, [], ())) := by
        intro nl a k hnl hwp
        rw [hwp, Option.bind_some]
        by_cases k1 : k < 1
        · rw [if_neg (by simp only []; omega)]
          simp only [k1, decide_true, cond_true, Option.bind_some, Sum.elim_inr]
        · by_cases k2 : k > 4000 - (out.length : Int)
          · rw [if_neg (by simp only []; omega)]
            simp only [k1, k2, decide_false, decide_true, cond_true, cond_false, Option.bind_some, Sum.elim_inr]
          · rw [if_pos (by simp only []; omega)]
            have h2 := lsPicksRead2_ok (N := N) (s := s) (i := (i : Int)) (k := k) (w := ws.map lb) (nl := nl) (a := a) (by omega) hnl N 0 out (by omega) (by omega) (by omega)
            simp only [Int.natCast_zero, Nat.sub_zero] at h2
            simp only [k1, k2, decide_false, cond_false, Option.bind_some, Sum.elim_inl, h2, w1]
            exact ih (i + 1) _ (by omega) (by omega) (by simp; omega)
      cases hv : numsL (spl 42 ws[i]) with
      | none =>
        rw [hv] at hnu
        have hwp : wordP ws[i] = none := by unfold wordP; rw [hv]
        rw [hwp]
        simp only [lsPicksRead_0, g1, decide_true, cond_true, Int.natCast_nonneg, Int.toNat_natCast, g2, e1, hsp, hnu, Option.bind_some, Option.isSome_none, Bool.not_false, Sum.elim_inr, Option.bind_none]
      | some nl =>
        rw [hv] at hnu
        simp only [Option.isSome_some, Option.getD_some] at hnu
        match nl, hnu, hv with
        | [], hnu, hv =>
          exfalso
          have := spl_cons 42 ws[i]
          rw [this] at hv
          simp only [numsL, Option.bind_eq_some_iff, Option.map_eq_some_iff] at hv
          obtain ⟨_, _, _, _, h⟩ := hv
          cases h
        | [a], hnu, hv =>
          have hwp : wordP ws[i] = some (a, 1) := by unfold wordP; rw [hv]
          have := fin [a] a 1 rfl hwp
          simp only [lsPicksRead_0, g1, decide_true, cond_true, Int.natCast_nonneg, Int.toNat_natCast, g2, e1, hsp, hnu, Option.bind_some, Bool.not_true, cond_false, List.length_cons, List.length_nil, Nat.zero_add, Int.natCast_one, show ¬ ((1 : Int) > 2) by omega, decide_false, Sum.elim_inl, show ((1 : Int) == 2) = false from rfl, w2]
          exact this
        | [a, k], hnu, hv =>
          have hwp : wordP ws[i] = some (a, k) := by unfold wordP; rw [hv]
          have := fin [a, k] a k rfl hwp
          simp only [lsPicksRead_0, g1, decide_true, cond_true, Int.natCast_nonneg, Int.toNat_natCast, g2, e1, hsp, hnu, Option.bind_some, Bool.not_true, cond_false, List.length_cons, List.length_nil, Nat.zero_add, Nat.reduceAdd, show ¬ (((2 : Nat) : Int) > 2) by omega, decide_false, Sum.elim_inl, show (((2 : Nat) : Int) == 2) = true from rfl, show (0 : Int) ≤ 1 by omega, z1, show 1 < 2 by omega, getD_lt (show 1 < [a, k].length by simp), w2]
          exact this
        | a :: b :: c :: r, hnu, hv =>
          have hwp : wordP ws[i] = none := by unfold wordP; rw [hv]
          have g3 : (((r.length + 1 + 1 + 1 : Nat) : Int)) > 2 := by omega
          rw [hwp]
          simp only [lsPicksRead_0, g1, decide_true, cond_true, Int.natCast_nonneg, Int.toNat_natCast, g2, e1, hsp, hnu, Option.bind_some, Bool.not_true, cond_false, List.length_cons, g3, Sum.elim_inr, Option.bind_none]
    · have : i = ws.length := by omega
      subst this
      have g1 : ¬ ((ws.length : Int) < ((ws.map lb).length : Int)) := by simp
      simp only [lsPicksRead_0, g1, decide_false, cond_false, List.drop_length, picksW]
theorem sPicksRead_ok {s : ByteArray} : FsPicksRead N (s, ()) = some ((picksR (bl s)).isSome, (picksR (bl s)).getD [], ()) := by
  have hlim : lim = 2147483648 := rfl
  have hlen := bl_len s
  unfold picksR
  have ce : bl (ByteArray.mk #[]) = [] := rfl
  by_cases h1 : (s.size : Int) > 4000
  · rw [if_pos (by omega)]
    simp only [FsPicksRead, h1, decide_true, cond_true]; rfl
  · rw [if_neg (by omega)]
    by_cases h2 : bl s = []
    · rw [if_pos h2]
      simp only [FsPicksRead, h1, decide_false, cond_false, ba_beq, ce, h2, decide_true, cond_true]; rfl
    · rw [if_neg h2]
      have hsp := sl9Split_ok hN (s := s) (c := 32) (k := 32) rfl (by omega)
      have hl := spl_len 32 (bl s)
      have := sPicksR_loop hN (s := s) (ws := spl 32 (bl s)) (by omega) (fun x hx => by have := spl_each 32 (bl s) x hx; omega) N 0 [] (by omega) (by omega) (by simp)
      simp only [Int.natCast_zero, List.drop_zero] at this
      simp only [FsPicksRead, h1, decide_false, cond_false, ba_beq, ce, h2, hsp, Option.bind_some, this]
      cases picksW (spl 32 (bl s)) [] with
      | none => rfl
      | some out =>
        simp only [Option.bind_some, Sum.elim_inl, sPicksText_ok hN, ba_beq, bl_lb]
        by_cases h3 : picksT out = bl s
        · simp only [h3, decide_true, Bool.not_true, cond_false, if_true]; rfl
        · simp only [h3, decide_false, Bool.not_false, cond_true, if_false]; rfl
end

theorem mul1_fin : ∀ n : Fin 4001, Fmath_bits_Mul64 0 (1, ((n.val : Nat) : Int), ()) = some (0, ((n.val : Nat) : Int), ()) := by decide +kernel
theorem mul1_ok {N n : Nat} (h : n ≤ 4000) : Fmath_bits_Mul N (1, (n : Int), ()) = some (0, (n : Int), ()) := by
  have := mul1_fin ⟨n, by omega⟩
  have e : Fmath_bits_Mul64 N (1, (n : Int), ()) = Fmath_bits_Mul64 0 (1, (n : Int), ()) := rfl
  simp only [Fmath_bits_Mul, e, this, Option.bind_some]
section
variable {N : Nat} (hN : lim < N)
include hN
omit hN in
theorem lkRepeat_ok {a : Int} : ∀ (f m : Nat) (xs : List Int), 1 ≤ m → m ≤ xs.length → xs.length ≤ 4000 → xs.length - m < f → xs.take m = List.replicate m a →
    lkRepeat_Sint_int_0 N f ((m : Int), xs, ()) = some (List.replicate xs.length a, ()) := by
  intro f
  induction f with
  | zero => intro m xs _ _ _ h; exact absurd h (Nat.not_lt_zero _)
  | succ f ih =>
    intro m xs h1 h2 h3 hf ht
    have z0 : (0 : Int).toNat = 0 := rfl
    by_cases h : m < xs.length
    · have g1 : (m : Int) < (xs.length : Int) := by omega
      have g2 : (m : Int) ≤ (xs.length : Int) := by omega
      have e1 : (xs.drop 0).take (m - 0) = List.replicate m a := by rw [List.drop_zero, Nat.sub_zero, ht]
      have e2 : (List.replicate m a).take (xs.length - m) = List.replicate (min (xs.length - m) m) a := by rw [List.take_replicate]
      have hl : m + (List.replicate (min (xs.length - m) m) a).length ≤ xs.length := by simp; omega
      have hlen : (lay xs m (List.replicate (min (xs.length - m) m) a)).length = xs.length := lay_len hl
      have hw : w64 ((m : Int) + ((min m (xs.length - m) : Nat) : Int)) = ((m + min (xs.length - m) m : Nat) : Int) := by
        rw [w64_id (by omega) (by omega)]; omega
      have htk : (lay xs m (List.replicate (min (xs.length - m) m) a)).take (m + min (xs.length - m) m) = List.replicate (m + min (xs.length - m) m) a := by
        have hq : (xs.take m ++ List.replicate (min (xs.length - m) m) a).length = m + min (xs.length - m) m := by simp; omega
        unfold lay
        rw [← hq, List.take_left, hq, ht, List.replicate_append_replicate]
      have := ih (m + min (xs.length - m) m) (lay xs m (List.replicate (min (xs.length - m) m) a)) (by omega) (by rw [hlen]; omega) (by rw [hlen]; exact h3) (by rw [hlen]; omega) htk
      rw [hlen] at this
      simp only [lkRepeat_Sint_int_0, g1, g2, decide_true, cond_true, Int.natCast_nonneg, Int.le_refl, Int.toNat_natCast, z0, e1, e2, List.length_replicate, hw]
      exact this
    · have : m = xs.length := by omega
      subst this
      have g1 : ¬ ((xs.length : Int) < (xs.length : Int)) := by omega
      simp only [lkRepeat_Sint_int_0, g1, decide_false, cond_false]
      rw [List.take_length] at ht
      rw [← ht]
theorem kRepeat_ok {a : Int} {k : Int} (h1 : 1 ≤ k) (h2 : k ≤ 4000) : FkRepeat_Sint_int N ([a], k, ()) = some (List.replicate k.toNat a, ()) := by
  have hlim : lim = 2147483648 := rfl
  obtain ⟨m, rfl⟩ : ∃ m : Nat, k = m := ⟨k.toNat, by omega⟩
  have hw : IntKind.wrap .u64 (1 : Int) = 1 := rfl
  have hu : IntKind.wrap .u64 (m : Int) = m := by
    have e1 : (2 : Int) ^ 64 = 18446744073709551616 := rfl
    simp only [IntKind.wrap, IntKind.signed, IntKind.bits, Bool.false_and, e1]
    simp only [Bool.false_eq_true, if_false]; omega
  have hs : w64 (m : Int) = m := w64_id (by omega) (by omega)
  have hn : ¬ (m : Int) < 0 := by omega
  have hm := mul1_ok (N := N) (n := m) (by omega)
  have hb : ¬ (m : Int) > 9223372036854775807 := by omega
  have hl : m ≤ lim := by omega
  have hmin : min 1 m = 1 := by omega
  have ht : [a].take m = [a] := List.take_of_length_le (by simp; omega)
  have hlay : (lay (List.replicate m (0 : Int)) 0 [a]).length = m := by
    rw [lay_len (by simp; omega)]; simp
  have hloop := lkRepeat_ok (N := N) (a := a) N 1 (lay (List.replicate m (0 : Int)) 0 [a]) (Nat.le_refl _) (by rw [hlay]; omega) (by rw [hlay]; omega) (by rw [hlay]; omega) (by simp [lay])
  rw [hlay] at hloop
  simp only [Int.natCast_one] at hloop
  simp only [FkRepeat_Sint_int, hn, decide_false, cond_false, Option.bind_some, List.length_singleton, Int.natCast_one, hw, hu, hm, hb, hs, Int.natCast_nonneg, Int.toNat_natCast, decide_true, cond_true, hl, show ¬ (0 : Int) > 0 by omega, List.length_replicate, List.length_cons, List.length_nil, Nat.zero_add, hmin, ht, hloop]
end

section
variable {N : Nat} (hN : lim < N)
include hN
omit hN in
theorem numL_free {s : List UInt8} {c : UInt8} (h1 : c ≠ 45) (h2 : isDig c = false) (h : c ∈ s) : numL s = none := by
  have key : ∀ d : List UInt8, c ∈ d → numOk s d ≠ true := fun d hd hk => by
    have := (numOk_iff.1 hk).2.2.2 c hd
    rw [h2] at this; cases this
  unfold numL
  split
  · rename_i hh
    rw [if_neg]
    apply key
    cases s with
    | nil => simp at h
    | cons x r =>
      simp at hh
      rcases List.mem_cons.1 h with e | e
      · exact absurd (e.trans hh) h1
      · exact e
  · rw [if_neg (key s h)]
omit hN in
/-- What a word is, by the cut at the star. -/
theorem wordP_cut (w : List UInt8) : wordP w = match spl 42 w with
    | [] => none
    | [_] => (numL w).map fun a => (a, 1)
    | a :: b :: r => (numL a).bind fun x => (numL (Lib.join (b :: r) [42])).map fun k => (x, k) := by
  unfold wordP
  cases h : spl 42 w with
  | nil => exact absurd h (spl_ne 42 w)
  | cons a r =>
    cases r with
    | nil =>
      have : a = w := by
        have := join_spl 42 w
        rw [h, Lib.join_one] at this; exact this
      subst this
      simp only [numsL]
      cases numL a <;> rfl
    | cons b r =>
      cases r with
      | nil =>
        simp only [numsL, Lib.join_one]
        cases numL a with
        | none => rfl
        | some x => cases numL b <;> rfl
      | cons c r =>
        have hb : numL (Lib.join (b :: c :: r) [42]) = none := numL_free (c := 42) (by decide) (by decide) (by rw [join_cons2]; simp)
        simp only [hb, numsL]
        cases numL a with
        | none => rfl
        | some x =>
          cases numL b with
          | none => rfl
          | some y =>
            cases numL c with
            | none => rfl
            | some z => cases numsL r <;> rfl
theorem iPicksR_loop {s : ByteArray} {ws : List (List UInt8)} (hl : ws.length ≤ 5000) (hw : ∀ x ∈ ws, x.length ≤ 4000) : ∀ n i (out : List Int), i ≤ ws.length → ws.length - i < n → out.length ≤ 4000 →
    liPicksRead_0 N n (s, (ws.length : Int), (i : Int), out, ws.map lb, ()) = match picksW (ws.drop i) out with
      | some r => some (.inl (s, r, ()))
      | none => some (.inr (false, [], ())) := by
  have hlim : lim = 2147483648 := rfl
  have e42 : ByteArray.mk #[42] = ⟨#[42]⟩ := rfl
  intro n
  induction n with
  | zero => intro i out _ h; exact absurd h (Nat.not_lt_zero _)
  | succ n ih =>
    intro i out hi hn ho
    by_cases h : i < ws.length
    · have hlen : (ws.map lb).length = ws.length := by simp
      have g1 : (i : Int) < (ws.length : Int) := by omega
      have g2 : i < (ws.map lb).length := by rw [hlen]; exact h
      have hx := hw _ (List.getElem_mem h)
      have e1 : (ws.map lb).getD i ByteArray.empty = lb ws[i] := by rw [getD_lt g2]; simp
      have hcut := FhCut_ok (N := N) (s := lb ws[i]) (c := 42) (by rw [lb_size]; omega)
      rw [bl_lb] at hcut
      have w1 : w64 ((i : Int) + 1) = ((i + 1 : Nat) : Int) := w64_succ (by omega)
      have w2 : w64 ((4000 : Int) - (out.length : Int)) = 4000 - (out.length : Int) := w64_id (by omega) (by omega)
      rw [drop_at h, picksW]
      have fin : ∀ (a k : Int), wordP ws[i] = some (a, k) →
          (Option.bind (bif decide (k < 1) then some (.inr (false, [], ())) else (bif decide (k > 4000 - (out.length : Int)) then some (.inr (false, [], ())) else some (.inl (s, a, k, (ws.length : Int), (i : Int), out, ws.map lb, ()))) : Option ((ByteArray × Int × Int × Int × Int × List Int × List ByteArray × Unit) ⊕ (Bool × List Int × Unit))) fun o10 =>
            Sum.elim (fun o11 => (FkRepeat_Sint_int N ([o11.2.1], o11.2.2.1, ())).bind fun r12 => bif decide (o11.2.2.2.2.2.1.length + r12.1.length ≤ lim) then
              liPicksRead_0 N n (o11.1, o11.2.2.2.1, w64 (o11.2.2.2.2.1 + 1), o11.2.2.2.2.2.1 ++ r12.1, o11.2.2.2.2.2.2.1, ()) else none) (fun o13 => some (.inr (o13.1, o13.2.1, ()))) o10) =
          match (wordP ws[i]).bind (fun x => if 1 ≤ x.2 ∧ x.2 ≤ 4000 - (out.length : Int) then picksW (ws.drop (i + 1)) (out ++ List.replicate x.2.toNat x.1) else none) with
            | some r => some (.inl (s, r, ()))
            | none => some (.inr (false, [], ())) := by
        intro a k hwp
        rw [hwp, Option.bind_some]
        by_cases k1 : k < 1
        · rw [if_neg (by simp only []; omega)]
          simp only [k1, decide_true, cond_true, Option.bind_some, Sum.elim_inr]
        · by_cases k2 : k > 4000 - (out.length : Int)
          · rw [if_neg (by simp only []; omega)]
            simp only [k1, k2, decide_false, decide_true, cond_true, cond_false, Option.bind_some, Sum.elim_inr]
          · rw [if_pos (by simp only []; omega)]
            have h2 := kRepeat_ok hN (a := a) (k := k) (by omega) (by omega)
            have g3 : out.length + (List.replicate k.toNat a).length ≤ lim := by simp; omega
            simp only [k1, k2, decide_false, cond_false, Option.bind_some, Sum.elim_inl, h2, g3, decide_true, cond_true, w1]
            exact ih (i + 1) _ (by omega) (by omega) (by simp; omega)
      have hwp := wordP_cut ws[i]
      cases hs : spl 42 ws[i] with
      | nil => exact absurd hs (spl_ne 42 _)
      | cons a r =>
        cases r with
        | nil =>
          rw [hs] at hcut hwp
          have hf := Fhfigure_ok (N := N) (s := lb ws[i]) (by rw [lb_size]; omega)
          rw [bl_lb] at hf
          cases hv : numL ws[i] with
          | none =>
            rw [hv] at hf hwp
            rw [hwp]
            simp only [liPicksRead_0, g1, decide_true, cond_true, Int.natCast_nonneg, Int.toNat_natCast, g2, e1, hcut, hf, Option.bind_some, Option.isSome_none, cond_false, Bool.not_false, Sum.elim_inr, Option.map_none, Option.bind_none]
          | some v =>
            rw [hv] at hf hwp
            have := fin v 1 hwp
            simp only [liPicksRead_0, g1, decide_true, cond_true, Int.natCast_nonneg, Int.toNat_natCast, g2, e1, hcut, hf, Option.bind_some, Option.isSome_some, Option.getD_some, cond_false, Bool.not_true, w2]
            exact this
        | cons b r =>
          rw [hs] at hcut hwp
          simp only [] at hcut hwp
          have ha : a.length ≤ ws[i].length := spl_each 42 ws[i] a (by rw [hs]; simp)
          have hb : (Lib.join (b :: r) [42]).length ≤ ws[i].length := by
            have := join_spl 42 ws[i]
            rw [hs, join_cons2] at this
            rw [← this]; simp; omega
          have hf1 := Fhfigure_ok (N := N) (s := lb a) (by rw [lb_size]; omega)
          have hf2 := Fhfigure_ok (N := N) (s := lb (Lib.join (b :: r) [42])) (by rw [lb_size]; omega)
          rw [bl_lb] at hf1 hf2
          cases hv : numL a with
          | none =>
            rw [hv] at hf1 hwp
            rw [hwp]
            simp only [liPicksRead_0, g1, decide_true, cond_true, Int.natCast_nonneg, Int.toNat_natCast, g2, e1, hcut, hf1, Option.bind_some, Option.isSome_none, cond_false, Bool.not_false, Sum.elim_inr, Option.bind_none]
          | some v =>
            rw [hv] at hf1 hwp
            cases hv2 : numL (Lib.join (b :: r) [42]) with
            | none =>
              rw [hv2] at hf2 hwp
              rw [hwp]
              simp only [liPicksRead_0, g1, decide_true, cond_true, Int.natCast_nonneg, Int.toNat_natCast, g2, e1, hcut, hf1, hf2, Option.bind_some, Option.isSome_some, Option.isSome_none, cond_false, Bool.not_false, Sum.elim_inr, Option.bind_none, Option.map_none]
            | some k =>
              rw [hv2] at hf2 hwp
              have := fin v k hwp
              simp only [liPicksRead_0, g1, decide_true, cond_true, Int.natCast_nonneg, Int.toNat_natCast, g2, e1, hcut, hf1, hf2, Option.bind_some, Option.isSome_some, Option.getD_some, cond_false, Bool.not_true, w2]
              exact this
    · have : i = ws.length := by omega
      subst this
      have g1 : ¬ ((ws.length : Int) < (ws.length : Int)) := by simp
      simp only [liPicksRead_0, g1, decide_false, cond_false, List.drop_length, picksW]
theorem iPicksRead_ok {s : ByteArray} : FiPicksRead N (s, ()) = some ((picksR (bl s)).isSome, (picksR (bl s)).getD [], ()) := by
  have hlim : lim = 2147483648 := rfl
  have hlen := bl_len s
  unfold picksR
  have ce : bl (ByteArray.mk #[]) = [] := rfl
  by_cases h2 : bl s = []
  · rw [if_neg (by rw [h2]; simp), if_pos h2]
    simp only [FiPicksRead, ba_beq, ce, h2, decide_true, cond_true]; rfl
  · by_cases h1 : (s.size : Int) > 4000
    · rw [if_pos (by omega)]
      simp only [FiPicksRead, ba_beq, ce, h2, decide_false, cond_false, h1, decide_true, cond_true]; rfl
    · rw [if_neg (by omega), if_neg h2]
      have hsp := FhSplit_ok (N := N) (s := s) (c := 32) (by omega)
      have hl := spl_len 32 (bl s)
      have := iPicksR_loop hN (s := s) (ws := spl 32 (bl s)) (by omega) (fun x hx => by have := spl_each 32 (bl s) x hx; omega) N 0 [] (by omega) (by omega) (by simp)
      simp only [Int.natCast_zero, List.drop_zero] at this
      have hm : ((spl 32 (bl s)).map lb).length = (spl 32 (bl s)).length := by simp
      simp only [FiPicksRead, h1, decide_false, cond_false, ba_beq, ce, h2, hsp, Option.bind_some, hm, this]
      cases picksW (spl 32 (bl s)) [] with
      | none => rfl
      | some out =>
        simp only [Option.bind_some, Sum.elim_inl, iPicksText_ok hN, ba_beq, bl_lb]
        by_cases h3 : picksT out = bl s
        · simp only [h3, decide_true, Bool.not_true, cond_false, if_true]; rfl
        · simp only [h3, decide_false, Bool.not_false, cond_true, if_false]; rfl
end

/-- What a code is: bytes. -/
def byteL (b : List Int) : Prop := b.length ≤ 2000 ∧ ∀ x ∈ b, 0 ≤ x ∧ x < 256

theorem xor_rng {x y : Int} (hx : 0 ≤ x) (hx' : x < 9223372036854775808) (hy : 0 ≤ y) (hy' : y < 9223372036854775808) :
    0 ≤ w64 (((bitsOf .i64 x ^^^ bitsOf .i64 y).toNat : Int)) := by
  have h1 : (bitsOf .i64 x).toNat < 2 ^ 63 := by
    simp only [bitsOf, IntKind.bits, BitVec.toNat_ofInt]; omega
  have h2 : (bitsOf .i64 y).toNat < 2 ^ 63 := by
    simp only [bitsOf, IntKind.bits, BitVec.toNat_ofInt]; omega
  have h3 : (bitsOf .i64 x ^^^ bitsOf .i64 y).toNat < 2 ^ 63 := by
    rw [BitVec.toNat_xor]
    exact Nat.xor_lt_two_pow h1 h2
  rw [w64_id (by omega) (by omega)]
  omega

theorem tmod_rng {x n : Int} (hx : 0 ≤ x) (hn : 1 ≤ n) : 0 ≤ Int.tmod x n ∧ Int.tmod x n < n := by
  rw [Int.tmod_eq_emod_of_nonneg hx]
  exact ⟨Int.emod_nonneg _ (by omega), Int.emod_lt_of_pos _ (by omega)⟩

section
variable {N : Nat}

theorem pick_ok {b : List Int} {p n : Int} (hb : byteL b) (hp : 0 ≤ p) (hp' : p < 1099511627776) :
    ∃ v, Fsl1Rd_pick N (n, b, p, ()) = some (v, b, p + 1, ()) ∧ 0 ≤ v ∧ (v < n ∨ v = 0) := by
  obtain ⟨hl, hx⟩ := hb
  have e1 : w64 (p + 1) = p + 1 := w64_id (by omega) (by omega)
  have e2 : w64 (p + 1 - 1) = p := by rw [w64_id (by omega) (by omega)]; omega
  simp only [Fsl1Rd_pick, e1]
  by_cases hn : n < 1
  · exact ⟨0, by simp [hn], by omega, .inr rfl⟩
  · have hn' : ¬ n = 0 := by omega
    by_cases h0 : b.length = 0
    · have : (b.length : Int) = 0 := by omega
      exact ⟨0, by simp [hn, this], by omega, .inr rfl⟩
    · have h0' : ¬ (b.length : Int) = 0 := by omega
      simp only [hn, decide_false, cond_false, bif_beq, h0', if_false, Option.bind_some, Sum.elim_inl, e2]
      by_cases hk : p < (b.length : Int)
      · have hk' : p.toNat < b.length := by omega
        have := hx _ (List.getElem_mem hk')
        simp only [hk, decide_true, cond_true, hp, hk', getD_lt hk', hn', decide_false, cond_false]
        rw [w64_id (by omega) (by omega)]
        exact ⟨_, rfl, (tmod_rng this.1 (by omega)).1, .inl (tmod_rng this.1 (by omega)).2⟩
      · obtain ⟨a1, a2⟩ := tmod_rng hp (n := (b.length : Int)) (by omega)
        have a3 : (Int.tmod p b.length).toNat < b.length := by omega
        have a4 := hx _ (List.getElem_mem a3)
        have e3 : w64 (p * 7) = p * 7 := w64_id (by omega) (by omega)
        have e4 : w64 (p * 7 + 3) = p * 7 + 3 := w64_id (by omega) (by omega)
        obtain ⟨c1, c2⟩ := tmod_rng (x := p * 7 + 3) (by omega) (n := (b.length : Int)) (by omega)
        have c3 : (Int.tmod (p * 7 + 3) b.length).toNat < b.length := by omega
        have c4 := hx _ (List.getElem_mem c3)
        have e5 : w64 (p * 29) = p * 29 := w64_id (by omega) (by omega)
        have d0 : 0 ≤ Int.tdiv p b.length ∧ Int.tdiv p b.length ≤ p := by
          rw [Int.tdiv_eq_ediv_of_nonneg hp]
          exact ⟨Int.ediv_nonneg hp (by omega), Int.ediv_le_self _ hp⟩
        have e6 : w64 (Int.tdiv p b.length) = Int.tdiv p b.length := w64_id (by omega) (by omega)
        simp only [hk, decide_false, cond_false, h0', a1, a3, decide_true, cond_true, getD_lt a3, e3, e4, c1, c3, getD_lt c3, e5, e6]
        generalize b[(Int.tmod p b.length).toNat] = u at a4 ⊢
        generalize b[(Int.tmod (p * 7 + 3) b.length).toNat] = v at c4 ⊢
        generalize Int.tdiv p b.length = q at d0 ⊢
        have f1 : w64 u = u := w64_id (by omega) (by omega)
        have f2 : w64 v = v := w64_id (by omega) (by omega)
        have f3 : w64 (u * 131) = u * 131 := w64_id (by omega) (by omega)
        have f4 : w64 (v * 1117) = v * 1117 := w64_id (by omega) (by omega)
        have f5 : w64 (u * 131 + v * 1117) = u * 131 + v * 1117 := w64_id (by omega) (by omega)
        have f6 : w64 (u * 131 + v * 1117 + p * 29) = u * 131 + v * 1117 + p * 29 := w64_id (by omega) (by omega)
        have f7 : w64 (q * 53) = q * 53 := w64_id (by omega) (by omega)
        have f8 : w64 (u * 131 + v * 1117 + p * 29 + q * 53) = u * 131 + v * 1117 + p * 29 + q * 53 := w64_id (by omega) (by omega)
        simp only [f1, f2, f3, f4, f5, f6, f7, f8]
        generalize hz : u * 131 + v * 1117 + p * 29 + q * 53 = z
        have z0 : 0 ≤ z ∧ z < 9223372036854775808 := by omega
        have g0 : 0 ≤ Int.tdiv z 64 ∧ Int.tdiv z 64 ≤ z := by
          rw [Int.tdiv_eq_ediv_of_nonneg z0.1]
          exact ⟨Int.ediv_nonneg z0.1 (by omega), Int.ediv_le_self _ z0.1⟩
        have g1 : w64 (Int.tdiv z 64) = Int.tdiv z 64 := w64_id (by omega) (by omega)
        have hxr := xor_rng z0.1 z0.2 g0.1 (by omega : Int.tdiv z 64 < 9223372036854775808)
        rw [g1]
        have h64 : ¬ (64 : Int) = 0 := by omega
        simp only [h64, decide_false, cond_false, hn']
        exact ⟨_, rfl, (tmod_rng hxr (by omega)).1, .inl (tmod_rng hxr (by omega)).2⟩

theorem pick_bind {β : Type} {b : List Int} {p n : Int} {k : Int × List Int × Int × Unit → Option β} {P : β → Prop} (hb : byteL b) (hp : 0 ≤ p) (hp' : p < 1099511627776)
    (hk : ∀ v, 0 ≤ v → (v < n ∨ v = 0) → Ret (k (v, b, p + 1, ())) P) : Ret ((Fsl1Rd_pick N (n, b, p, ())).bind k) P := by
  obtain ⟨v, e, h1, h2⟩ := pick_ok (N := N) (n := n) hb hp hp'
  exact Ret.bindE e (hk v h1 h2)
end

section
variable {N : Nat}
theorem l1Open_ok2 {code : List Int} (hb : ∀ x ∈ code, 0 ≤ x ∧ x < 256) : ∃ b, Fsl1Open_o_ N (code, ()) = some (b, 0, ()) ∧ byteL b := by
  by_cases h1 : (code.length : Int) > 2000
  · have h2 : (2000 : Int) ≤ (code.length : Int) := by omega
    refine ⟨(code.drop 0).take (2000 - 0), by simp only [Fsl1Open_o_, h1, h2]; rfl, by simp; omega, fun x hx => hb x ?_⟩
    exact List.mem_of_mem_drop (List.mem_of_mem_take hx)
  · exact ⟨code, by simp only [Fsl1Open_o_, h1]; rfl, by omega, hb⟩
end

section
variable {N : Nat} (hN : lim < N)
include hN
omit hN in
theorem l20Config_ok {b : List Int} {p : Int} (hb : byteL b) (hp : 0 ≤ p) (hp' : p < 1099511627000) :
    Ret (Fsl20Config N (b, p, ())) (fun r => 4 ≤ r.1 ∧ r.1 ≤ 9 ∧ 1 ≤ r.2.1 ∧ r.2.1 ≤ 3 ∧ 0 ≤ r.2.2.1 ∧ r.2.2.1 ≤ 100 ∧ r.2.2.2.1 = b ∧ p ≤ r.2.2.2.2.1 ∧ r.2.2.2.2.1 ≤ p + 3) := by
  unfold Fsl20Config
  refine pick_bind hb (by first | omega | (dsimp only; omega)) (by first | omega | (dsimp only; omega)) (fun v1 a1 c1 => ?_)
  dsimp only
  refine pick_bind hb (by first | omega | (dsimp only; omega)) (by first | omega | (dsimp only; omega)) (fun v2 a2 c2 => ?_)
  dsimp only
  refine pick_bind hb (by first | omega | (dsimp only; omega)) (by first | omega | (dsimp only; omega)) (fun v3 a3 c3 => ?_)
  dsimp only
  refine Ret.guard (by omega) ?_
  refine Ret.guard (by simp; omega) ?_
  refine Ret.pure ?_
  have w1 : w64 (4 + v1) = 4 + v1 := w64_id (by omega) (by omega)
  have w2 : w64 (1 + v2) = 1 + v2 := w64_id (by omega) (by omega)
  simp only [w1, w2]
  refine ⟨by omega, by omega, by omega, by omega, ?_, ?_, by trivial, by omega, by omega⟩
  all_goals
    have : v3.toNat = 0 ∨ v3.toNat = 1 ∨ v3.toNat = 2 ∨ v3.toNat = 3 ∨ v3.toNat = 4 := by omega
    rcases this with h | h | h | h | h <;> rw [h] <;> decide
omit hN in
theorem l20Picks2_ok {n t k : Int} {c : Int × Int × Int × Unit} {b : List Int} (hb : byteL b) (hc : c.2.1 = t) (ht : 0 ≤ t ∧ t ≤ 8) (hk : 0 ≤ k ∧ k ≤ 100) : ∀ (f j : Nat) (p : Int) (out : List Int), (j : Int) ≤ 2 * k → (2 * k).toNat - j < f → 0 ≤ p → p + (2 * k - j) < 1099511600100 → (out.length : Int) + (2 * k - j) ≤ 100000 →
    (∀ x ∈ out, 0 ≤ x ∧ x ≤ 9) → Ret (lsl20Picks_2 N f (n, c, k, (j : Int), b, p, out, ())) (fun r => r.1 = n ∧ r.2.1 = c ∧ r.2.2.1 = b ∧ p ≤ r.2.2.2.1 ∧ r.2.2.2.1 ≤ p + 2 * k - j ∧ (r.2.2.2.2.1.length : Int) = out.length + (2 * k - j) ∧ ∀ x ∈ r.2.2.2.2.1, 0 ≤ x ∧ x ≤ 9) := by
  have hlim : lim = 2147483648 := rfl
  intro f
  induction f with
  | zero => intro j p out _ h; exact absurd h (Nat.not_lt_zero _)
  | succ f ih =>
    intro j p out hj hf hp hp' ho hx
    have w1 : w64 (2 * k) = 2 * k := w64_id (by omega) (by omega)
    have w2 : w64 ((j : Int) + 1) = ((j + 1 : Nat) : Int) := w64_succ (by omega)
    simp only [lsl20Picks_2, w1]
    refine Ret.dec (fun h => ?_) (fun h => ?_)
    · refine pick_bind hb hp (by omega) (fun v a cc => ?_)
      have wt : w64 (c.2.1 + 1) = t + 1 := by rw [hc]; exact w64_id (by omega) (by omega)
      rw [wt] at cc
      refine Ret.guard (by simp; omega) ?_
      rw [w2]
      refine (ih (j + 1) (p + 1) (out ++ [v]) (by omega) (by omega) (by omega) (by omega) (by simp; omega) (fun x hm => ?_)).mono (fun r hr => ?_)
      · rcases List.mem_append.1 hm with hm | hm
        · exact hx x hm
        · have : x = v := by simpa using hm
          subst this; omega
      · obtain ⟨h1, h2, h3, h4, h5, h6, h7⟩ := hr
        refine ⟨h1, h2, h3, by omega, by omega, ?_, h7⟩
        rw [h6]; simp; omega
    · refine Ret.pure ⟨rfl, rfl, rfl, by simp only []; omega, by simp only []; omega, by simp only []; omega, hx⟩
omit hN in
theorem l20Picks4_ok {n k q : Int} {c : Int × Int × Int × Unit} {b : List Int} {p : Int} (hk : 0 ≤ k ∧ k ≤ 100) (hq : 0 ≤ q ∧ q ≤ 9) : ∀ (f j : Nat) (out : List Int), (j : Int) ≤ k → k.toNat - j < f → (out.length : Int) + (k - j) ≤ 100000 →
    (∀ x ∈ out, 0 ≤ x ∧ x ≤ 9) → Ret (lsl20Picks_4 N f (n, c, k, q, (j : Int), b, p, out, ())) (fun r => r.1 = n ∧ r.2.1 = c ∧ r.2.2.1 = b ∧ r.2.2.2.1 = p ∧ (r.2.2.2.2.1.length : Int) = out.length + (k - j) ∧ ∀ x ∈ r.2.2.2.2.1, 0 ≤ x ∧ x ≤ 9) := by
  have hlim : lim = 2147483648 := rfl
  intro f
  induction f with
  | zero => intro j out _ h; exact absurd h (Nat.not_lt_zero _)
  | succ f ih =>
    intro j out hj hf ho hx
    have w2 : w64 ((j : Int) + 1) = ((j + 1 : Nat) : Int) := w64_succ (by omega)
    simp only [lsl20Picks_4]
    refine Ret.dec (fun h => ?_) (fun h => ?_)
    · refine Ret.guard (by simp; omega) ?_
      rw [w2]
      refine (ih (j + 1) (out ++ [q]) (by omega) (by omega) (by simp; omega) (fun x hm => ?_)).mono (fun r hr => ?_)
      · rcases List.mem_append.1 hm with hm | hm
        · exact hx x hm
        · have : x = q := by simpa using hm
          subst this; omega
      · obtain ⟨h1, h2, h3, h4, h6, h7⟩ := hr
        refine ⟨h1, h2, h3, h4, ?_, h7⟩
        rw [h6]; simp; omega
    · refine Ret.pure ⟨rfl, rfl, rfl, rfl, by simp only []; omega, hx⟩
theorem l20Picks0_ok {n t : Int} {c : Int × Int × Int × Unit} {b : List Int} (hb : byteL b) (hc : c.2.1 = t) (ht : 0 ≤ t ∧ t ≤ 8) (hn : 0 ≤ n ∧ n ≤ 5000) : ∀ (f : Nat) (p : Int) (out : List Int), (n.toNat - out.length) < f → 0 ≤ p → p + 200 * (n.toNat - out.length : Nat) < 1099511600000 → out.length ≤ 6000 →
    (∀ x ∈ out, 0 ≤ x ∧ x ≤ 9) → Ret (lsl20Picks_0 N f (n, c, b, p, out, ())) (fun r => r.1 = n ∧ n ≤ (r.2.1.length : Int) ∧ r.2.2.1 = b ∧ p ≤ r.2.2.2.1 ∧ r.2.2.2.1 ≤ p + 200 * (n.toNat - out.length : Nat) ∧ ∀ x ∈ r.2.1, 0 ≤ x ∧ x ≤ 9) := by
  have hlim : lim = 2147483648 := rfl
  intro f
  induction f with
  | zero => intro p out h; exact absurd h (Nat.not_lt_zero _)
  | succ f ih =>
    intro p out hf hp hp' ho hx
    simp only [lsl20Picks_0]
    refine Ret.dec (fun h => ?_) (fun h => ?_)
    · have wt : w64 (c.2.1 + 1) = t + 1 := by rw [hc]; exact w64_id (by omega) (by omega)
      refine pick_bind hb hp (by omega) (fun v2 a2 c2 => ?_)
      dsimp only
      refine pick_bind hb (by first | omega | (dsimp only; omega)) (by first | omega | (dsimp only; omega)) (fun v3 a3 c3 => ?_)
      rw [wt] at c3
      dsimp only
      have w12 : w64 (1 + v2) = 1 + v2 := w64_id (by omega) (by omega)
      have w13 : w64 ((1 + v2) * 3) = (1 + v2) * 3 := w64_id (by omega) (by omega)
      rw [w12, w13]
      refine Ret.bind (fun o => o.1 = n ∧ o.2.1 = c ∧ 1 ≤ o.2.2.1 ∧ o.2.2.1 ≤ 36 ∧ 0 ≤ o.2.2.2.1 ∧ o.2.2.2.1 ≤ 9 ∧ o.2.2.2.2.1 = b ∧ o.2.2.2.2.2.1 = p + 3 ∧ o.2.2.2.2.2.2.1 = out) ?_ (fun o ho => ?_)
      · refine pick_bind hb (by first | omega | (dsimp only; omega)) (by first | omega | (dsimp only; omega)) (fun v4 a4 c4 => ?_)
        refine Ret.beq (fun e => ?_) (fun e => ?_)
        · refine Ret.pure ⟨rfl, rfl, by simp only []; omega, by simp only []; omega, by simp only []; omega, by simp only []; omega, rfl, by simp only []; omega, rfl⟩
        · refine Ret.pure ⟨rfl, rfl, by simp only []; omega, by simp only []; omega, by simp only []; omega, by simp only []; omega, rfl, by simp only []; omega, rfl⟩
      obtain ⟨o1, o2, k, q, o5, o6, o7, ⟨⟩⟩ := o
      simp only at ho
      obtain ⟨rfl, rfl, k1, k2, q1, q2, rfl, rfl, rfl⟩ := ho
      refine Ret.bind (fun o => o.1 = o1 ∧ o.2.1 = o2 ∧ o.2.2.1 = k ∧ o.2.2.2.1 = q ∧ o.2.2.2.2.1 = o5 ∧ o.2.2.2.2.2.1 = p + 4 ∧ o7.length ≤ o.2.2.2.2.2.2.1.length ∧ o.2.2.2.2.2.2.1.length ≤ o7.length + 1 ∧ ∀ x ∈ o.2.2.2.2.2.2.1, 0 ≤ x ∧ x ≤ 9) ?_ (fun o ho => ?_)
      · refine pick_bind hb (by first | omega | (dsimp only; omega)) (by first | omega | (dsimp only; omega)) (fun v4 a4 c4 => ?_)
        refine Ret.beq (fun e => ?_) (fun e => ?_)
        · refine Ret.guard (by simp; omega) ?_
          refine Ret.pure ⟨rfl, rfl, rfl, rfl, rfl, by simp only []; omega, by simp, by simp, fun x hm => ?_⟩
          rcases List.mem_append.1 hm with hm | hm
          · exact hx x hm
          · have : x = t + 1 := by simpa [wt] using hm
            subst this; omega
        · exact Ret.pure ⟨rfl, rfl, rfl, rfl, rfl, by simp only []; omega, by simp, by simp, hx⟩
      obtain ⟨u1, u2, u3, u4, u5, u6, u7, ⟨⟩⟩ := o
      simp only at ho
      obtain ⟨rfl, rfl, rfl, rfl, rfl, rfl, l1, l2, hx2⟩ := ho
      dsimp only
      refine pick_bind hb (by first | omega | (dsimp only; omega)) (by first | omega | (dsimp only; omega)) (fun v5 a5 c5 => ?_)
      refine Ret.beq (fun e => ?_) (fun e => ?_)
      · refine Ret.bind _ (l20Picks2_ok hb hc ht (by omega) N 0 (p + 4 + 1) u7 (by omega) (by omega) (by omega) (by omega) (by omega) hx2) (fun r hr => ?_)
        obtain ⟨r1, r2, r3, r4, r5, ⟨⟩⟩ := r
        simp only at hr
        obtain ⟨rfl, rfl, rfl, h4, h5, h6, h7⟩ := hr
        refine (ih r4 r5 (by omega) (by omega) (by omega) (by omega) h7).mono (fun r hr => ?_)
        obtain ⟨g1, g2, g3, g4, g5, g6⟩ := hr
        exact ⟨g1, g2, g3, by omega, by omega, g6⟩
      · refine Ret.bind _ (l20Picks4_ok (p := p + 4 + 1) (b := u5) (n := u1) (c := u2) (k := u3) (q := u4) (by omega) (by omega) N 0 u7 (by omega) (by omega) (by omega) hx2) (fun r hr => ?_)
        obtain ⟨r1, r2, r3, r4, r5, ⟨⟩⟩ := r
        simp only at hr
        obtain ⟨rfl, rfl, rfl, rfl, h6, h7⟩ := hr
        refine (ih (p + 4 + 1) r5 (by omega) (by omega) (by omega) (by omega) h7).mono (fun r hr => ?_)
        obtain ⟨g1, g2, g3, g4, g5, g6⟩ := hr
        exact ⟨g1, g2, g3, by omega, by omega, g6⟩
    · exact Ret.pure ⟨rfl, by simp only []; omega, rfl, by simp, by simp only []; omega, hx⟩
theorem l20Picks_ok {n t : Int} {c : Int × Int × Int × Unit} {b : List Int} {p : Int} (hb : byteL b) (hc : c.2.1 = t) (ht : 0 ≤ t ∧ t ≤ 8) (hn : 0 ≤ n ∧ n ≤ 5000) (hp : 0 ≤ p) (hp' : p < 1099500000000) :
    Ret (Fsl20Picks N (c, n, b, p, ())) (fun r => (r.1.length : Int) = n ∧ r.2.1 = b ∧ p ≤ r.2.2.1 ∧ r.2.2.1 ≤ p + 1000000 ∧ ∀ x ∈ r.1, 0 ≤ x ∧ x ≤ 9) := by
  have hlim : lim = 2147483648 := rfl
  unfold Fsl20Picks
  refine Ret.bind _ (l20Picks0_ok hN hb hc ht hn N p [] (by simp; omega) hp (by simp; omega) (by simp) (by simp)) (fun r hr => ?_)
  obtain ⟨r1, r2, r3, r4, ⟨⟩⟩ := r
  simp only [List.length_nil, Nat.sub_zero] at hr
  obtain ⟨rfl, h2, rfl, h4, h5, h6⟩ := hr
  dsimp only
  refine Ret.guard (by omega) ?_
  refine Ret.guard (by omega) ?_
  refine Ret.guard (by omega) ?_
  refine Ret.guard (by omega) ?_
  refine Ret.pure ⟨?_, rfl, h4, by simp only []; omega, fun x hx => h6 x (List.mem_of_mem_drop (List.mem_of_mem_take hx))⟩
  simp; omega
theorem l20Bend_ok {s : ByteArray} {b : List Int} {p : Int} (hb : byteL b) (hs : s.size ≤ 1000000) (hp : 0 ≤ p) (hp' : p < 1099511600000) :
    Ret (Fsl20Bend N (s, b, p, ())) (fun r => r.1.size ≤ s.size + 1) := by
  have hlim : lim = 2147483648 := rfl
  have z0 : (0 : Int).toNat = 0 := rfl
  unfold Fsl20Bend
  refine Ret.bind (fun o => match o with
    | .inl x => x.1 = s ∧ x.2.1 = b ∧ x.2.2.1 = p + 1 ∧ 1 ≤ s.size
    | .inr x => x.1 = s) ?_ (fun o ho => ?_)
  · refine pick_bind hb (by first | omega | (dsimp only; omega)) (by first | omega | (dsimp only; omega)) (fun v a c => ?_)
    refine Ret.dec (fun e => ?_) (fun e => ?_)
    · exact Ret.pure rfl
    · refine Ret.beq (fun e => ?_) (fun e => ?_)
      · exact Ret.pure rfl
      · refine Ret.pure ⟨rfl, rfl, rfl, ?_⟩
        simp only [] at e; omega
  · cases o with
    | inr x =>
      obtain ⟨x1, x2⟩ := x
      simp only at ho
      subst ho
      exact Ret.pure (by simp only []; omega)
    | inl x =>
      obtain ⟨x1, x2, x3, ⟨⟩⟩ := x
      simp only at ho
      obtain ⟨rfl, rfl, rfl, h1⟩ := ho
      simp only [Sum.elim_inl]
      refine pick_bind hb (by first | omega | (dsimp only; omega)) (by first | omega | (dsimp only; omega)) (fun v a c => ?_)
      dsimp only
      refine Ret.guard (by omega) ?_
      refine Ret.guard (by omega) ?_
      refine Ret.guard (by omega) ?_
      refine Ret.guard (by omega) ?_
      refine pick_bind hb (by first | omega | (dsimp only; omega)) (by first | omega | (dsimp only; omega)) (fun v7 a7 c7 => ?_)
      dsimp only
      refine Ret.guard (by omega) ?_
      refine Ret.guard (by simp; omega) ?_
      have hv : ∀ k : Nat, k < 8 → ([ByteArray.mk #[], ByteArray.mk #[32], ByteArray.mk #[48], ByteArray.mk #[45], ByteArray.mk #[42], ByteArray.mk #[10], ByteArray.mk #[97], ByteArray.mk #[49]].getD k ByteArray.empty).size ≤ 1 := by decide
      have hv7 := hv v7.toNat (by omega)
      generalize [ByteArray.mk #[], ByteArray.mk #[32], ByteArray.mk #[48], ByteArray.mk #[45], ByteArray.mk #[42], ByteArray.mk #[10], ByteArray.mk #[97], ByteArray.mk #[49]].getD v7.toNat ByteArray.empty = g at hv7 ⊢
      have hx1 : (x1.extract (Int.toNat 0) v.toNat).size = v.toNat := by rw [ByteArray.size_extract]; omega
      refine Ret.guard (by rw [hx1]; omega) ?_
      refine pick_bind hb (by first | omega | (dsimp only; omega)) (by first | omega | (dsimp only; omega)) (fun v9 a9 c9 => ?_)
      dsimp only
      have w9 : w64 (v + v9) = v + v9 := w64_id (by omega) (by omega)
      rw [w9]
      refine Ret.guard (by omega) ?_
      refine Ret.guard (by omega) ?_
      refine Ret.guard (by omega) ?_
      refine Ret.guard (by omega) ?_
      have hx2 : (x1.extract (v + v9).toNat (x1.size : Int).toNat).size ≤ x1.size - v.toNat := by rw [ByteArray.size_extract]; omega
      have hx3 : (x1.extract (Int.toNat 0) v.toNat ++ g).size ≤ v.toNat + 1 := by rw [ByteArray.size_append, hx1]; omega
      refine Ret.guard (by omega) ?_
      refine Ret.pure ?_
      simp only [ByteArray.size_append] at hx3 ⊢
      omega
theorem DrawPicksRead_ok {code : List Int} (hb : ∀ x ∈ code, 0 ≤ x ∧ x < 256) : Ret (FsDrawPicksRead N (code, ())) (fun r => r.1.size ≤ 300000) := by
  obtain ⟨b, e, hb'⟩ := l1Open_ok2 (N := N) hb
  unfold FsDrawPicksRead
  refine Ret.bindE e ?_
  dsimp only
  refine Ret.bind _ (l20Config_ok hb' (by omega) (by omega)) (fun r hr => ?_)
  obtain ⟨r1, r2, r3, r4, r5, ⟨⟩⟩ := r
  simp only at hr
  obtain ⟨h1, h2, h3, h4, h5, h6, rfl, h8, h9⟩ := hr
  dsimp only
  refine pick_bind hb' (by first | omega | (dsimp only; omega)) (by first | omega | (dsimp only; omega)) (fun v a c => ?_)
  dsimp only
  refine Ret.bind _ (l20Picks_ok hN (t := r2) hb' rfl (by omega) (by omega) (by omega) (by omega)) (fun r hr => ?_)
  obtain ⟨q1, q2, q3, ⟨⟩⟩ := r
  simp only at hr
  obtain ⟨g1, rfl, g3, g4, g5⟩ := hr
  dsimp only
  refine Ret.bindE (sPicksText_ok hN) ?_
  have hsz : (lb (picksT q1)).size ≤ 200000 := by
    rw [lb_size]
    unfold picksT
    split
    · rename_i hh
      have := piecesLen (rl_sized hh.1 hh.2)
      have := rl_len q1
      omega
    · simp
  generalize lb (picksT q1) = t at hsz ⊢
  dsimp only
  refine pick_bind hb' (by first | omega | (dsimp only; omega)) (by first | omega | (dsimp only; omega)) (fun v6 a6 c6 => ?_)
  dsimp only
  have fin : ∀ (z : ByteArray), z.size ≤ 200000 → Ret ((Fsl20Bend N (z, q2, q3 + 1, ())).bind fun r => some (r.1, ())) (fun r => r.1.size ≤ 300000) := fun z hz => by
    refine Ret.bind _ (l20Bend_ok hN hb' (by omega) (by omega) (by omega)) (fun r hr => ?_)
    exact Ret.pure (by simp only []; omega)
  repeat' (first
    | refine Ret.beq (fun e => ?_) (fun e => ?_)
    | exact fin _ (by first | exact hsz | decide))
end

section
variable {N : Nat} (hN : lim < N)
include hN

theorem vflInts_ok {xs ys : List Int} (hl : xs.length ≤ lim) : FvflInts N (xs, ys, ()) = some (decide (xs = ys), ()) := by
  by_cases hlen : xs.length = ys.length
  · have hL := eq_loop (xs := xs) (ys := ys) (n := N) (L := fun n i => lvflInts_0 N n (xs, ys, (i : Int), ())) (yes := .inl ()) (no := .inr (false, ())) hl hlen
      (fun n i h1 h2 hw hq => by simp [lvflInts_0, h1, h2, hw, hq])
      (fun n i h1 h2 hq => by simp [lvflInts_0, h1, h2, hq])
      (fun n => by simp [lvflInts_0, hlen]) (by omega)
    simp only [Int.natCast_zero] at hL
    rcases Decidable.em (xs = ys) with rfl | h
    · simp [FvflInts, hL]
    · simp [FvflInts, hL, h, hlen]
  · have h : xs ≠ ys := fun h => hlen (by rw [h])
    have h2 : (xs.length : Int) ≠ ys.length := by omega
    simp [FvflInts, h, h2]
end

theorem wf_u8 {n : Int} (h : (Lit.int .u8 n).wf = true) : 0 ≤ n ∧ n < 256 := by
  simp only [Lit.wf, IntKind.min, IntKind.max, IntKind.signed, IntKind.bits] at h
  simp at h
  omega
theorem wf_i64 {n : Int} (h : (Lit.int .i64 n).wf = true) : -9223372036854775808 ≤ n ∧ n < 9223372036854775808 := by
  simp only [Lit.wf, IntKind.min, IntKind.max, IntKind.signed, IntKind.bits] at h
  simp at h
  omega

/-- How many picks are other than the one before. -/
def bd : Option Int → List Int → Nat
  | _, [] => 0
  | o, x :: l => (if o = some x then 0 else 1) + bd (some x) l
theorem bd_some : ∀ (l : List Int) (y : Int), bd (some y) l + (if l.head? = some y then 1 else 0) = (rl l).length
  | [], y => by simp [bd, rl]
  | x :: l, y => by
    have ih := bd_some l x
    by_cases h : l.head? = some x
    · rw [if_pos h] at ih
      cases l with
      | nil => simp at h
      | cons z l =>
        have : z = x := by simpa using h
        subst this
        obtain ⟨n, r, e, _⟩ := rl_head z l
        rw [rl_same e]
        rw [e] at ih
        by_cases hy : y = z
        · subst hy; simp [bd] at ih ⊢; omega
        · have : ¬ z = y := fun e => hy e.symm
          simp [bd, hy, this] at ih ⊢; omega
    · rw [if_neg h] at ih
      rw [rl_diff h]
      by_cases hy : y = x
      · subst hy; simp [bd]; omega
      · have : ¬ x = y := fun e => hy e.symm
        simp [bd, hy, this]; omega
theorem bd_none (l : List Int) : bd none l = (rl l).length := by
  cases l with
  | nil => rfl
  | cons x l =>
    have := bd_some (x :: l) (x + 1)
    have h1 : ¬ x = x + 1 := by omega
    have h2 : ¬ x + 1 = x := by omega
    simp [bd, h1, h2] at this ⊢
    omega
theorem count_join : ∀ ps : List (List UInt8), ps ≠ [] → (∀ x ∈ ps, (32 : UInt8) ∉ x) → (Lib.join ps [32]).count 32 + 1 = ps.length
  | [], h, _ => absurd rfl h
  | [x], _, h => by rw [Lib.join_one, List.count_eq_zero.2 (h x (by simp))]; rfl
  | x :: y :: r, _, h => by
    rw [join_cons2, List.count_append, List.count_eq_zero.2 (h x (by simp)), List.count_cons_self]
    have := count_join (y :: r) (by simp) (fun z hz => h z (List.mem_cons_of_mem _ hz))
    simp at this ⊢; omega
section
variable {N : Nat} (hN : lim < N)
include hN
omit hN in
theorem words_loop {t : ByteArray} {p : List Int} (hl : p.length ≤ 4000) : ∀ n i (w : Nat), i ≤ p.length → p.length - i < n → w ≤ i →
    lvFnPicksRuns_0 N n (t, (w : Int), (i : Int), p, ()) = some (t, ((w + bd (if i = 0 then none else p[i - 1]?) (p.drop i) : Nat) : Int), p, ()) := by
  intro n
  induction n with
  | zero => intro i w _ h; exact absurd h (Nat.not_lt_zero _)
  | succ n ih =>
    intro i w hi hn hw
    have hlim : lim = 2147483648 := rfl
    by_cases h : i < p.length
    · have g1 : (i : Int) < (p.length : Int) := by omega
      have w1 : w64 ((i : Int) + 1) = ((i + 1 : Nat) : Int) := w64_succ (by omega)
      have w2 : w64 ((w : Int) + 1) = ((w + 1 : Nat) : Int) := w64_succ (by omega)
      rw [drop_at h]
      have hs : (if i + 1 = 0 then none else p[i + 1 - 1]?) = some p[i] := by
        rw [if_neg (by omega), Nat.add_sub_cancel, List.getElem?_eq_getElem h]
      by_cases h0 : i = 0
      · subst h0
        have := ih 1 (w + 1) (by omega) (by omega) (by omega)
        rw [hs] at this
        have e0 : (((0 : Nat) : Int) == 0) = true := rfl
        simp only [lvFnPicksRuns_0, g1, decide_true, cond_true, e0, w1, w2]
        rw [this]
        simp [bd]; omega
      · have e0 : ((i : Int) == 0) = false := beq_eq_false_iff_ne.2 (by omega)
        have hi1 : i - 1 < p.length := by omega
        have w3 : w64 ((i : Int) - 1) = ((i - 1 : Nat) : Int) := by rw [w64_id (by omega) (by omega)]; omega
        rw [if_neg h0, List.getElem?_eq_getElem hi1]
        by_cases he : p[i] = p[i - 1]
        · have := ih (i + 1) w (by omega) (by omega) (by omega)
          rw [hs] at this
          have eb : (p[i] != p[i - 1]) = false := by simpa using he
          simp only [lvFnPicksRuns_0, g1, decide_true, cond_true, cond_false, e0, Int.natCast_nonneg, Int.toNat_natCast, h, getD_lt h, w3, hi1, getD_lt hi1, eb, w1]
          rw [this]
          simp [bd, he]
        · have := ih (i + 1) (w + 1) (by omega) (by omega) (by omega)
          rw [hs] at this
          have eb : (p[i] != p[i - 1]) = true := by simpa using he
          have he' : ¬ p[i - 1] = p[i] := fun e => he e.symm
          simp only [lvFnPicksRuns_0, g1, decide_true, cond_true, cond_false, e0, Int.natCast_nonneg, Int.toNat_natCast, h, getD_lt h, w3, hi1, getD_lt hi1, eb, w1, w2]
          rw [this]
          simp [bd, he']; omega
    · have : i = p.length := by omega
      subst this
      have g1 : ¬ ((p.length : Int) < (p.length : Int)) := by omega
      simp [lvFnPicksRuns_0, bd]
omit hN in
theorem blanks_loop {t : ByteArray} {p : List Int} {w : Int} (hl : t.size ≤ 300000) : ∀ n i (k : Nat), i ≤ t.size → t.size - i < n → k ≤ i →
    lvFnPicksRuns_2 N n (t, w, (k : Int), (i : Int), p, ()) = some (t, w, ((k + ((bl t).drop i).count 32 : Nat) : Int), p, ()) := by
  intro n
  induction n with
  | zero => intro i k _ h; exact absurd h (Nat.not_lt_zero _)
  | succ n ih =>
    intro i k hi hn hw
    have hlen := bl_len t
    by_cases h : i < t.size
    · have h' : i < (bl t).length := by omega
      have g1 : (i : Int) < (t.size : Int) := by omega
      have w1 : w64 ((i : Int) + 1) = ((i + 1 : Nat) : Int) := w64_succ (by omega)
      have w2 : w64 ((k : Int) + 1) = ((k + 1 : Nat) : Int) := w64_succ (by omega)
      have hb : t.data.getD i 0 = (bl t)[i] := by rw [bl_getD, getD_lt h']
      rw [drop_at h']
      by_cases he : (bl t)[i] = 32
      · have eb : (((bl t)[i].toNat : Int) == 32) = true := by rw [he]; rfl
        have := ih (i + 1) (k + 1) (by omega) (by omega) (by omega)
        simp only [lvFnPicksRuns_2, g1, decide_true, cond_true, Int.natCast_nonneg, Int.toNat_natCast, h, hb, eb, w1, w2]
        rw [this, he, List.count_cons_self]
        congr 4; omega
      · have eb : (((bl t)[i].toNat : Int) == 32) = false := by
          rw [beq_eq_false_iff_ne]; intro e; exact he (UInt8.toNat_inj.1 (by rw [show (32 : UInt8).toNat = 32 from rfl]; omega))
        have := ih (i + 1) k (by omega) (by omega) (by omega)
        simp only [lvFnPicksRuns_2, g1, decide_true, cond_true, cond_false, Int.natCast_nonneg, Int.toNat_natCast, h, hb, eb, w1]
        rw [this, List.count_cons_of_ne (by simpa using he)]
    · have : i = t.size := by omega
      subst this
      have g1 : ¬ ((t.size : Int) < (t.size : Int)) := by omega
      have e : (bl t).drop t.size = [] := List.drop_eq_nil_of_le (by omega)
      simp [lvFnPicksRuns_2, e]
theorem FnPicksRuns_ok {code : List Int} (hb : ∀ x ∈ code, 0 ≤ x ∧ x < 256) : FvFnPicksRuns N (code, ()) = some (true, ()) := by
  have hlim : lim = 2147483648 := rfl
  by_cases h : (code.length : Int) > 1048576
  · simp only [FvFnPicksRuns, h, decide_true, cond_true]
  · obtain ⟨⟨t, ⟨⟩⟩, e, ht⟩ := DrawPicksRead_ok hN hb
    simp only at ht
    have h1 := sPicksRead_ok hN (s := t)
    have h2 := iPicksRead_ok hN (s := t)
    cases hp : picksR (bl t) with
    | none =>
      rw [hp] at h1 h2
      have h3 := vflInts_ok hN (xs := []) (ys := []) (by simp)
      simp only [FvFnPicksRuns, h, decide_false, cond_false, e, h1, h2, Option.bind_some, Option.isSome_none, Option.getD_none, beq_self_eq_true, Bool.not_true, h3, decide_true, Sum.elim_inl, Bool.not_false, cond_true]
      rfl
    | some p =>
      rw [hp] at h1 h2
      have hl := picksR_len hp
      have h3 := vflInts_ok hN (xs := p) (ys := p) (by omega)
      have hpt : picksT p = bl t := by
        unfold picksR at hp
        split at hp
        · cases hp
        · split at hp
          · rename_i ht; cases hp; rw [ht]; simp [picksT, rl, Lib.join_nil]
          · simp only [Option.bind_eq_some_iff] at hp
            obtain ⟨o, _, h2⟩ := hp
            split at h2
            · rename_i h3; cases h2; exact h3
            · cases h2
      have hw := words_loop (N := N) (t := t) (p := p) hl N 0 0 (by omega) (by omega) (by omega)
      simp only [Int.natCast_zero, if_true, List.drop_zero, Nat.zero_add, bd_none] at hw
      have hbk := blanks_loop (N := N) (t := t) (p := p) (w := ((rl p).length : Int)) ht N 0 0 (by omega) (by omega) (by omega)
      simp only [Int.natCast_zero, List.drop_zero, Nat.zero_add] at hbk
      have hrl := rl_len p
      have hfin : (bif ((rl p).length : Int) == 0 then some (true, ()) else some ((((bl t).count 32 : Nat) : Int) == w64 (((rl p).length : Int) - 1), ())) = some (true, ()) := by
        by_cases h0 : (rl p).length = 0
        · have : (((rl p).length : Int) == 0) = true := by simp [h0]
          simp only [this, cond_true]
        · have e0 : (((rl p).length : Int) == 0) = false := beq_eq_false_iff_ne.2 (by omega)
          have hne : (rl p).map piece ≠ [] := by
            intro e
            have := congrArg List.length e
            simp at this; simp [this] at h0
          have hc := count_join ((rl p).map piece) hne (fun x hx => by
            obtain ⟨r, _, rfl⟩ := List.mem_map.1 hx
            exact piece_free r (by decide) (by decide) (by decide))
          have hj : Lib.join ((rl p).map piece) [32] = bl t := by
            unfold picksT at hpt
            split at hpt
            · exact hpt
            · rename_i hcond
              exfalso
              -- then the text is empty, and so are the picks
              have hbt : bl t = [] := hpt.symm
              unfold picksR at hp
              rw [hbt] at hp
              simp at hp
              subst hp
              simp [rl] at h0
          rw [hj] at hc
          simp only [List.length_map] at hc
          have w1 : w64 (((rl p).length : Int) - 1) = ((rl p).length : Int) - 1 := w64_id (by omega) (by omega)
          simp only [e0, cond_false, w1]
          have : ((((bl t).count 32 : Nat) : Int) == ((rl p).length : Int) - 1) = true := beq_iff_eq.2 (by omega)
          rw [this]
      simp only [FvFnPicksRuns, h, decide_false, cond_false, e, h1, h2, Option.bind_some, Option.isSome_some, Option.getD_some, beq_self_eq_true, Bool.not_true, h3, decide_true, Sum.elim_inl, hw, hbk, iPicksText_ok hN, ba_beq, bl_lb, hpt, cond_true]
      exact hfin
end
end Go.Fl

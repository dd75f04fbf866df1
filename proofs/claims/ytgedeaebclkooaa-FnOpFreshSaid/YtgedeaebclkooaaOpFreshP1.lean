/- Proved: for every input the law FnOpFresh returns true and leaves its arguments as they were. Part 1: the functions that the law reaches, as plain functions, and plain laws about them; no conditions. -/
import Derived.Test.YtgedeaebclkooaaK3
import Derived.Test.YtgedeaebclkooaaProg
set_option linter.all false
set_option maxRecDepth 100000
set_option linter.all false
namespace Go.Fl
open Go Go.Proofs
noncomputable def TE : List (Nat × Ty) := [(3, (.int .i64)),
  (4, .bool),
  (5, (.int .u8)),
  (22, (.sl (.int .u8))),
  (23, (.sl (.pair (.sl (.int .i64)) (.pair (.sl (.int .i64)) .unit)))),
  (24, (.sl (.sl (.int .i64)))),
  (25, (.sl (.int .i64))),
  (27, (.pair (.sl (.pair (.sl (.int .i64)) (.pair (.sl (.int .i64)) .unit))) (.pair (.sl (.sl (.int .i64))) (.pair (.sl (.int .i64)) .unit)))),
  (29, (.pair (.int .i64) (.pair (.int .i64) .unit))),
  (31, (.pair (.int .i64) (.pair (.int .i64) (.pair (.int .i64) (.pair (.int .i64) (.pair (.int .i64) (.pair (.int .i64) (.pair (.pair (.int .i64) (.pair (.int .i64) .unit)) .unit)))))))),
  (40, (.pair (.sl (.int .i64)) (.pair (.sl (.int .i64)) .unit))),
  (112, (.pair (.sl (.int .u8)) (.pair (.int .i64) .unit))),
  (129, (.int .u64)),
  (139, (.int .u64))]
theorem TE_ok : TyOk Try.prog TE := tysB_spec (by kernel_rfl)
theorem mixed : Try.prog.follows .mixedOrders = true := by kernel_rfl

/-! ### 38: spec.l1Open -/

noncomputable def dinsl1Open_a : Desc := { n := 1, regs := [.one (.val (.sl (.int .u8)))], bx := [], pins := [] }
noncomputable def outsl1Open_a : Outs := [(.ret, { n := 1, regs := [.one (.lit (.ptr 1038528 0))], bx := [(1038528, .var [.val (.sl (.int .u8)), .val (.int .i64)])], pins := [] })]
noncomputable def Hsl1Open_a : Hints := []
noncomputable def Esl1Open_a (_N : Nat) : Env := { te := TE, cs := [] }
noncomputable def Fsl1Open_a (N : Nat) (x : ((List Int) × Unit)) : Option ((List Int) × (Int × Unit)) :=
  let y1 := decide ((x.1.length : Int) > (2000 : Int))
  bif y1 then
   bif decide (0 ≤ (2000 : Int)) then
   bif decide ((2000 : Int) ≤ (x.1.length : Int)) then
   bif decide (0 ≤ (0 : Int)) then
   bif decide ((0 : Int) ≤ (2000 : Int)) then
   let y2 := (x.1.drop (0 : Int).toNat).take ((2000 : Int).toNat - (0 : Int).toNat)
   some (y2, (0 : Int), ())
   else none
   else none
   else none
   else none
  else
  some (x.1, (0 : Int), ())
noncomputable def consl1Open_a (N : Nat) : Con := { f := 38, din := dinsl1Open_a, outs := outsl1Open_a, F := Fsl1Open_a N }
noncomputable def Xsl1Open_a (N : Nat) : Ctx := { E := Esl1Open_a N, H := Hsl1Open_a, lp := [], jn := [] }
theorem Fsl1Open_a_eq (N : Nat) (x : ((List Int) × Unit)) : evFn (Xsl1Open_a N) Try.f38 dinsl1Open_a outsl1Open_a x = Fsl1Open_a N x := by kernel_rfl
theorem cxsl1Open_a (N : Nat) : CtxOk Try.prog (Xsl1Open_a N) := ⟨⟨TE_ok, fun k hk => absurd hk List.not_mem_nil⟩, mixed⟩
theorem specsl1Open_a (N : Nat) : Spec Try.prog (consl1Open_a N) :=
  Spec.of_eq (fn_spec (cxsl1Open_a N) (f := 38) (fn := Try.f38) (c := codeOf Try.f38) (by kernel_rfl) (by kernel_rfl) (by kernel_rfl) (loops_at (ids := []) (by kernel_rfl) (trivial)) (by kernel_rfl)) (fun x r h => (Fsl1Open_a_eq N x).trans h)

/-! ### 40: spec.l1Rd).pick -/

noncomputable def dinsl1Rd_pick : Desc := { n := 2, regs := [.one (.lit (.ptr 0 0)), .one (.val (.int .i64))], bx := [(0, .var [.val (.sl (.int .u8)), .val (.int .i64)])], pins := [] }
noncomputable def outsl1Rd_pick : Outs := [(.ret, { n := 1, regs := [.one (.val (.int .i64))], bx := [(0, .var [.val (.sl (.int .u8)), .val (.int .i64)])], pins := [.one (.lit (.ptr 0 0))] })]
noncomputable def Hsl1Rd_pick : Hints := []
noncomputable def Esl1Rd_pick (_N : Nat) : Env := { te := TE, cs := [] }
noncomputable def jsl1Rd_pick_4 : Outs := [(.normal, { n := 99, regs := [.one (.lit (.ptr 0 0)), .one (.val (.int .i64))], bx := [(0, .var [.val (.sl (.int .u8)), .val (.int .i64)])], pins := [.one (.lit (.ptr 0 0))] }), (.ret, { n := 99, regs := [u, u, u, u, .one (.val (.int .i64))], bx := [(0, .var [.val (.sl (.int .u8)), .val (.int .i64)])], pins := [.one (.lit (.ptr 0 0))] })]
noncomputable def Fsl1Rd_pick (N : Nat) (x : (Int × ((List Int) × (Int × Unit)))) : Option (Int × ((List Int) × (Int × Unit))) :=
  Option.bind (
   bif decide (x.1 < (1 : Int)) then
    some (.inr (((0 : Int), x.2.1, w64 (x.2.2.1 + (1 : Int)), ())))
   else
   bif (x.2.1.length : Int) == (0 : Int) then
    some (.inr (((0 : Int), x.2.1, w64 (x.2.2.1 + (1 : Int)), ())))
   else
   some (.inl (x.1, x.2.1, w64 (x.2.2.1 + (1 : Int)), ()))) fun o1 =>
  Sum.elim (fun o2 =>
   let y3 := decide ((w64 (o2.2.2.1 - (1 : Int))) < (o2.2.1.length : Int))
   bif y3 then
    bif decide (0 ≤ (w64 (o2.2.2.1 - (1 : Int)))) then
    bif decide ((w64 (o2.2.2.1 - (1 : Int))).toNat < o2.2.1.length) then
    let y4 := o2.2.1.getD ((w64 (o2.2.2.1 - (1 : Int))).toNat) (0 : Int)
    bif decide (o2.1 = 0) then
     none
    else
    some (Int.tmod (w64 (y4)) o2.1, o2.2.1, o2.2.2.1, ())
    else none
    else none
   else
   bif decide ((o2.2.1.length : Int) = 0) then
    none
   else
   let y5 := Int.tmod (w64 (o2.2.2.1 - (1 : Int))) (o2.2.1.length : Int)
   bif decide (0 ≤ y5) then
   bif decide (y5.toNat < o2.2.1.length) then
   let y6 := w64 ((w64 (o2.2.1.getD y5.toNat (0 : Int))) * (131 : Int))
   let y7 := w64 ((w64 (o2.2.2.1 - (1 : Int))) * (7 : Int))
   bif decide ((o2.2.1.length : Int) = 0) then
    none
   else
   let y8 := Int.tmod (w64 (y7 + (3 : Int))) (o2.2.1.length : Int)
   bif decide (0 ≤ y8) then
   bif decide (y8.toNat < o2.2.1.length) then
   let y9 := w64 ((w64 (o2.2.1.getD y8.toNat (0 : Int))) * (1117 : Int))
   let y10 := w64 ((w64 (o2.2.2.1 - (1 : Int))) * (29 : Int))
   bif decide ((o2.2.1.length : Int) = 0) then
    none
   else
   let y11 := w64 (Int.tdiv (w64 (o2.2.2.1 - (1 : Int))) (o2.2.1.length : Int))
   let y12 := w64 ((w64 ((w64 (y6 + y9)) + y10)) + (w64 (y11 * (53 : Int))))
   bif decide ((64 : Int) = 0) then
    none
   else
   let y13 := w64 (((bitsOf .i64 y12 ^^^ bitsOf .i64 (w64 (Int.tdiv y12 (64 : Int)))).toNat : Int))
   bif decide (o2.1 = 0) then
    none
   else
   some (Int.tmod y13 o2.1, o2.2.1, o2.2.2.1, ())
   else none
   else none
   else none
   else none) (fun o14 =>
   some (o14.1, o14.2.1, o14.2.2.1, ())) o1
noncomputable def consl1Rd_pick (N : Nat) : Con := { f := 40, din := dinsl1Rd_pick, outs := outsl1Rd_pick, F := Fsl1Rd_pick N }
noncomputable def Xsl1Rd_pick (N : Nat) : Ctx := { E := Esl1Rd_pick N, H := Hsl1Rd_pick, lp := [], jn := [(4, jsl1Rd_pick_4)] }
theorem Fsl1Rd_pick_eq (N : Nat) (x : (Int × ((List Int) × (Int × Unit)))) : evFn (Xsl1Rd_pick N) Try.f40 dinsl1Rd_pick outsl1Rd_pick x = Fsl1Rd_pick N x := by kernel_rfl
theorem cxsl1Rd_pick (N : Nat) : CtxOk Try.prog (Xsl1Rd_pick N) := ⟨⟨TE_ok, fun k hk => absurd hk List.not_mem_nil⟩, mixed⟩
theorem specsl1Rd_pick (N : Nat) : Spec Try.prog (consl1Rd_pick N) :=
  Spec.of_eq (fn_spec (cxsl1Rd_pick N) (f := 40) (fn := Try.f40) (c := codeOf Try.f40) (by kernel_rfl) (by kernel_rfl) (by kernel_rfl) (loops_at (ids := []) (by kernel_rfl) (trivial)) (by kernel_rfl)) (fun x r h => (Fsl1Rd_pick_eq N x).trans h)

/-! ### 69: spec.GraphNew -/

noncomputable def dinsGraphNew : Desc := { n := 1, regs := [.one (.val (.int .i64))], bx := [], pins := [] }
noncomputable def outsGraphNew : Outs := [(.ret, { n := 2, regs := [.agg [.lit (.row 1102464), .lit (.row 1102530), .lit .nil], .one (.val .bool)], bx := [(1102464, .row (.pair (.sl (.int .i64)) (.pair (.sl (.int .i64)) .unit))), (1102530, .row (.sl (.int .i64)))], pins := [] })]
noncomputable def HsGraphNew : Hints := [(2, [(0, { nl := [(0, (.pair (.sl (.int .i64)) (.pair (.sl (.int .i64)) .unit))), (1, (.sl (.int .i64)))] })]),
  (3, [(1, { nl := [(0, (.int .i64))] })]),
  (8, [(1, { dp := true }), (2, { nl := [(1, (.sl (.int .i64)))] })]),
  (12, [(3, { dp := true }), (4, { dp := true })])]
noncomputable def EsGraphNew (_N : Nat) : Env := { te := TE, cs := [] }
noncomputable def dsGraphNew_0 : Desc := { n := 41, regs := [.one (.val (.int .i64)), u, .one (.lit (.ptr 1000000 0)), u, .one (.lit (.ptr 1038528 0)), .one (.val (.int .i64))], bx := [(1000000, .var [.lit .nil, .lit .nil, .lit .nil]), (1038528, .var [.lit (.row 1038465), .lit (.row 1038400)]), (1038465, .row (.int .i64)), (1038400, .row (.int .i64))], pins := [] }
noncomputable def osGraphNew_0 : Outs := [(.exit 0, { n := 41, regs := [.one (.val (.int .i64)), u, .one (.lit (.ptr 1000000 0)), u, .one (.lit (.ptr 1038528 0))], bx := [(1000000, .var [.lit .nil, .lit .nil, .lit .nil]), (1038528, .var [.lit (.row 1038465), .lit (.row 1038400)]), (1038465, .row (.int .i64)), (1038400, .row (.int .i64))], pins := [] })]
noncomputable def dsGraphNew_2 : Desc := { n := 41, regs := [.one (.val (.int .i64)), u, .one (.lit (.ptr 1000000 0)), u, u, u, .one (.lit (.ptr 1102592 0)), .one (.val (.int .i64))], bx := [(1000000, .var [.lit .nil, .lit .nil, .lit .nil]), (1102592, .var [.lit (.row 1102464), .lit (.row 1102530), .lit .nil]), (1102464, .row (.pair (.sl (.int .i64)) (.pair (.sl (.int .i64)) .unit))), (1102530, .row (.sl (.int .i64)))], pins := [] }
noncomputable def osGraphNew_2 : Outs := [(.exit 2, { n := 41, regs := [u, u, .one (.lit (.ptr 1000000 0)), u, u, u, .one (.lit (.ptr 1102592 0))], bx := [(1000000, .var [.lit .nil, .lit .nil, .lit .nil]), (1102592, .var [.lit (.row 1102464), .lit (.row 1102530), .lit .nil]), (1102464, .row (.pair (.sl (.int .i64)) (.pair (.sl (.int .i64)) .unit))), (1102530, .row (.sl (.int .i64)))], pins := [] })]
noncomputable def jsGraphNew_3 : Outs := [(.normal, { n := 41, regs := [.one (.val (.int .i64)), u, .one (.lit (.ptr 1000000 0))], bx := [(1000000, .var [.lit .nil, .lit .nil, .lit .nil])], pins := [] }), (.ret, { n := 41, regs := [u, u, .one (.lit (.ptr 1000000 0)), .one (.val .bool)], bx := [(1000000, .var [.lit (.row 1025601), .lit (.row 1025602), .lit .nil]), (1025601, .row (.pair (.sl (.int .i64)) (.pair (.sl (.int .i64)) .unit))), (1025602, .row (.sl (.int .i64)))], pins := [] })]
noncomputable def lsGraphNew_0 (N : Nat) : Nat → (Int × (Int × ((List Int) × ((List Int) × Unit)))) → Option (Int × ((List Int) × ((List Int) × Unit)))
  | 0, _ => none
  | n + 1, v =>
    bif decide (v.2.1 < (4 : Int)) then
     bif decide (v.2.2.1.length + [(-1 : Int)].length ≤ lim) then
     lsGraphNew_0 N n (v.1, w64 (v.2.1 + (1 : Int)), v.2.2.1 ++ [(-1 : Int)], v.2.2.2.1, ())
     else none
    else
    some (v.1, v.2.2.1, v.2.2.2.1, ())
noncomputable def lsGraphNew_2 (N : Nat) : Nat → (Int × (Int × ((List ((List Int) × ((List Int) × Unit))) × ((List (List Int)) × Unit)))) → Option ((List ((List Int) × ((List Int) × Unit))) × ((List (List Int)) × Unit))
  | 0, _ => none
  | n + 1, v =>
    bif decide (v.2.1 < v.1) then
     bif decide (v.2.2.2.1.length + [[(0 : Int)]].length ≤ lim) then
     lsGraphNew_2 N n (v.1, w64 (v.2.1 + (1 : Int)), v.2.2.1, v.2.2.2.1 ++ [[(0 : Int)]], ())
     else none
    else
    some (v.2.2.1, v.2.2.2.1, ())
noncomputable def FsGraphNew (N : Nat) (x : (Int × Unit)) : Option (Bool × ((List ((List Int) × ((List Int) × Unit))) × ((List (List Int)) × Unit))) :=
  Option.bind (
   bif decide (x.1 < (1 : Int)) then
    let y1 := ([] : (List ((List Int) × ((List Int) × Unit))))
    some (.inr ((false, y1, ([] : (List (List Int))), ())))
   else
   bif decide (x.1 > (3 : Int)) then
    let y2 := ([] : (List ((List Int) × ((List Int) × Unit))))
    some (.inr ((false, y2, ([] : (List (List Int))), ())))
   else
   some (.inl (x.1, ()))) fun o3 =>
  Sum.elim (fun o4 =>
   bif decide (0 ≤ (2 : Int)) then
   bif decide ((2 : Int).toNat ≤ lim) then
   let y5 := List.replicate (2 : Int).toNat (0 : Int)
   (lsGraphNew_0 N N (o4.1, (0 : Int), ([] : (List Int)), y5, ())).bind fun o6 =>
   (lsGraphNew_2 N N (o6.1, (0 : Int), [(o6.2.1, o6.2.2.1, ())], ([] : (List (List Int))), ())).bind fun o7 =>
   some (true, o7.1, o7.2.1, ())
   else none
   else none) (fun o8 =>
   some (o8.1, o8.2.1, o8.2.2.1, ())) o3
noncomputable def consGraphNew (N : Nat) : Con := { f := 69, din := dinsGraphNew, outs := outsGraphNew, F := FsGraphNew N }
noncomputable def XsGraphNew (N : Nat) : Ctx := { E := EsGraphNew N, H := HsGraphNew, lp := [(0, { hd := dsGraphNew_0, outs := osGraphNew_0, run := fun v => lsGraphNew_0 N N v }), (2, { hd := dsGraphNew_2, outs := osGraphNew_2, run := fun v => lsGraphNew_2 N N v })], jn := [(3, jsGraphNew_3)] }
noncomputable def bsGraphNew_2 : Code := loopBody (codeOf Try.f69) 1
noncomputable def bsGraphNew_0 : Code := loopBody (codeOf Try.f69) 0
theorem FsGraphNew_eq (N : Nat) (x : (Int × Unit)) : evFn (XsGraphNew N) Try.f69 dinsGraphNew outsGraphNew x = FsGraphNew N x := by kernel_rfl
theorem lsGraphNew_0_eq (N n : Nat) (v : (Int × (Int × ((List Int) × ((List Int) × Unit))))) : lsGraphNew_0 N (n + 1) v = ev (XsGraphNew N) bsGraphNew_0 (roundK dsGraphNew_0 osGraphNew_0 (lsGraphNew_0 N n)) (dsGraphNew_0.mk' v) := by kernel_rfl
theorem lsGraphNew_2_eq (N n : Nat) (v : (Int × (Int × ((List ((List Int) × ((List Int) × Unit))) × ((List (List Int)) × Unit))))) : lsGraphNew_2 N (n + 1) v = ev (XsGraphNew N) bsGraphNew_2 (roundK dsGraphNew_2 osGraphNew_2 (lsGraphNew_2 N n)) (dsGraphNew_2.mk' v) := by kernel_rfl
theorem cxsGraphNew (N : Nat) : CtxOk Try.prog (XsGraphNew N) := ⟨⟨TE_ok, fun k hk => absurd hk List.not_mem_nil⟩, mixed⟩
theorem lpsGraphNew_0 (N : Nat) : LoopOk Try.prog { hd := dsGraphNew_0, outs := osGraphNew_0, run := fun v => lsGraphNew_0 N N v } bsGraphNew_0 :=
  loop_fuel (d := dsGraphNew_0) (os := osGraphNew_0) (cxsGraphNew N) (loops_at (ids := []) (by kernel_rfl) (trivial)) (lsGraphNew_0 N) (fun _ => rfl) (fun n v => lsGraphNew_0_eq N n v) (fun _ => N)
theorem lpsGraphNew_2 (N : Nat) : LoopOk Try.prog { hd := dsGraphNew_2, outs := osGraphNew_2, run := fun v => lsGraphNew_2 N N v } bsGraphNew_2 :=
  loop_fuel (d := dsGraphNew_2) (os := osGraphNew_2) (cxsGraphNew N) (loops_at (ids := []) (by kernel_rfl) (trivial)) (lsGraphNew_2 N) (fun _ => rfl) (fun n v => lsGraphNew_2_eq N n v) (fun _ => N)
theorem specsGraphNew (N : Nat) : Spec Try.prog (consGraphNew N) :=
  Spec.of_eq (fn_spec (cxsGraphNew N) (f := 69) (fn := Try.f69) (c := codeOf Try.f69) (by kernel_rfl) (by kernel_rfl) (by kernel_rfl) (loops_at (ids := [0, 2]) (by kernel_rfl) ⟨lp_of (lpsGraphNew_0 N), ⟨lp_of (lpsGraphNew_2 N), trivial⟩⟩) (by kernel_rfl)) (fun x r h => (FsGraphNew_eq N x).trans h)

/-! ### 86: spec.l20Shape -/

noncomputable def dinsl20Shape : Desc := { n := 1, regs := [.one (.lit (.ptr 0 0))], bx := [(0, .var [.val (.sl (.int .u8)), .val (.int .i64)])], pins := [] }
noncomputable def outsl20Shape : Outs := [(.ret, { n := 1, regs := [.agg [.val (.int .i64), .val (.int .i64)]], bx := [(0, .var [.val (.sl (.int .u8)), .val (.int .i64)])], pins := [.one (.lit (.ptr 0 0))] })]
noncomputable def Hsl20Shape : Hints := []
noncomputable def Esl20Shape (N : Nat) : Env := { te := TE, cs := [consl1Rd_pick N] }
noncomputable def Fsl20Shape (N : Nat) (x : ((List Int) × (Int × Unit))) : Option (Int × (Int × ((List Int) × (Int × Unit)))) :=
  (Fsl1Rd_pick N ((20 : Int), x.1, x.2.1, ())).bind fun r1 =>
  bif r1.1 == (0 : Int) then
   let y2 := [(4 : Int), (5 : Int), (-1 : Int), (0 : Int)]
   (Fsl1Rd_pick N ((4 : Int), r1.2.1, r1.2.2.1, ())).bind fun r3 =>
   bif decide (0 ≤ r3.1) then
   bif decide (r3.1.toNat < y2.length) then
   let y4 := [(4 : Int), (5 : Int), (-1 : Int), (0 : Int)]
   (Fsl1Rd_pick N ((4 : Int), r3.2.1, r3.2.2.1, ())).bind fun r5 =>
   bif decide (0 ≤ r5.1) then
   bif decide (r5.1.toNat < y4.length) then
   some (y2.getD r3.1.toNat (0 : Int), y4.getD r5.1.toNat (0 : Int), r5.2.1, r5.2.2.1, ())
   else none
   else none
   else none
   else none
  else
  (Fsl1Rd_pick N ((4 : Int), r1.2.1, r1.2.2.1, ())).bind fun r6 =>
  (Fsl1Rd_pick N ((3 : Int), r6.2.1, r6.2.2.1, ())).bind fun r7 =>
  some (r6.1, r7.1, r7.2.1, r7.2.2.1, ())
noncomputable def consl20Shape (N : Nat) : Con := { f := 86, din := dinsl20Shape, outs := outsl20Shape, F := Fsl20Shape N }
noncomputable def Xsl20Shape (N : Nat) : Ctx := { E := Esl20Shape N, H := Hsl20Shape, lp := [], jn := [] }
theorem Fsl20Shape_eq (N : Nat) (x : ((List Int) × (Int × Unit))) : evFn (Xsl20Shape N) Try.f86 dinsl20Shape outsl20Shape x = Fsl20Shape N x := by kernel_rfl
theorem cxsl20Shape (N : Nat) : CtxOk Try.prog (Xsl20Shape N) := ⟨⟨TE_ok, List.forall_mem_cons.2 ⟨specsl1Rd_pick N, fun k hk => absurd hk List.not_mem_nil⟩⟩, mixed⟩
theorem specsl20Shape (N : Nat) : Spec Try.prog (consl20Shape N) :=
  Spec.of_eq (fn_spec (cxsl20Shape N) (f := 86) (fn := Try.f86) (c := codeOf Try.f86) (by kernel_rfl) (by kernel_rfl) (by kernel_rfl) (loops_at (ids := []) (by kernel_rfl) (trivial)) (by kernel_rfl)) (fun x r h => (Fsl20Shape_eq N x).trans h)

/-! ### 41: spec.l20Op -/

noncomputable def dinsl20Op : Desc := { n := 2, regs := [.one (.lit (.ptr 0 0)), .one (.val (.int .i64))], bx := [(0, .var [.val (.sl (.int .u8)), .val (.int .i64)])], pins := [] }
noncomputable def outsl20Op : Outs := [(.ret, { n := 1, regs := [.agg [.val (.int .i64), .val (.int .i64), .val (.int .i64), .val (.int .i64), .val (.int .i64), .val (.int .i64), .val (.int .i64), .val (.int .i64)]], bx := [(0, .var [.val (.sl (.int .u8)), .val (.int .i64)])], pins := [.one (.lit (.ptr 0 0))] })]
noncomputable def Hsl20Op : Hints := [(10, [(1, { con := 1 })])]
noncomputable def Esl20Op (N : Nat) : Env := { te := TE, cs := [consl1Rd_pick N, consl20Shape N] }
noncomputable def jsl20Op_6 : Outs := [(.normal, { n := 124, regs := [.one (.lit (.ptr 0 0)), u, u, u, .one (.lit (.ptr 1000000 0)), .one (.lit (.ptr 1013952 0))], bx := [(0, .var [.val (.sl (.int .u8)), .val (.int .i64)]), (1000000, .var [.val (.int .i64), .val (.int .i64), .val (.int .i64), .val (.int .i64), .val (.int .i64), .val (.int .i64), .val (.int .i64), .val (.int .i64)]), (1013952, .var [.val (.int .i64), .val (.int .i64), .val (.int .i64), .val (.int .i64), .val (.int .i64), .val (.int .i64), .val (.int .i64), .val (.int .i64)])], pins := [.one (.lit (.ptr 0 0))] })]
noncomputable def jsl20Op_27 : Outs := [(.normal, { n := 124, regs := [.one (.lit (.ptr 0 0)), u, u, u, .one (.lit (.ptr 1000000 0)), .one (.lit (.ptr 1013952 0))], bx := [(0, .var [.val (.sl (.int .u8)), .val (.int .i64)]), (1000000, .var [.val (.int .i64), .val (.int .i64), .val (.int .i64), .val (.int .i64), .val (.int .i64), .val (.int .i64), .val (.int .i64), .val (.int .i64)]), (1013952, .var [.val (.int .i64), .val (.int .i64), .val (.int .i64), .val (.int .i64), .val (.int .i64), .val (.int .i64), .val (.int .i64), .val (.int .i64)])], pins := [.one (.lit (.ptr 0 0))] })]
noncomputable def jsl20Op_29 : Outs := [(.normal, { n := 124, regs := [.one (.lit (.ptr 0 0)), u, u, u, .one (.lit (.ptr 1000000 0)), .one (.lit (.ptr 1013952 0))], bx := [(0, .var [.val (.sl (.int .u8)), .val (.int .i64)]), (1000000, .var [.val (.int .i64), .val (.int .i64), .val (.int .i64), .val (.int .i64), .val (.int .i64), .val (.int .i64), .val (.int .i64), .val (.int .i64)]), (1013952, .var [.val (.int .i64), .val (.int .i64), .val (.int .i64), .val (.int .i64), .val (.int .i64), .val (.int .i64), .val (.int .i64), .val (.int .i64)])], pins := [.one (.lit (.ptr 0 0))] })]
noncomputable def Fsl20Op (N : Nat) (x : (Int × ((List Int) × (Int × Unit)))) : Option (Int × (Int × (Int × (Int × (Int × (Int × (Int × (Int × ((List Int) × (Int × Unit)))))))))) :=
  (Fsl1Rd_pick N (w64 (x.1 + (1 : Int)), x.2.1, x.2.2.1, ())).bind fun r1 =>
  (Fsl1Rd_pick N (w64 (x.1 + (1 : Int)), r1.2.1, r1.2.2.1, ())).bind fun r2 =>
  (Fsl1Rd_pick N (w64 (x.1 + (1 : Int)), r2.2.1, r2.2.2.1, ())).bind fun r3 =>
  (Fsl1Rd_pick N ((4 : Int), r3.2.1, r3.2.2.1, ())).bind fun r4 =>
  (Fsl1Rd_pick N ((19 : Int), r4.2.1, r4.2.2.1, ())).bind fun r5 =>
  Option.bind (
   (Fsl1Rd_pick N ((12 : Int), r5.2.1, r5.2.2.1, ())).bind fun r6 =>
   bif decide (r6.1 > (0 : Int)) then
    bif decide (x.1 > (0 : Int)) then
     (Fsl1Rd_pick N (x.1, r6.2.1, r6.2.2.1, ())).bind fun r7 =>
     (Fsl1Rd_pick N (x.1, r7.2.1, r7.2.2.1, ())).bind fun r8 =>
     (Fsl1Rd_pick N (x.1, r8.2.1, r8.2.2.1, ())).bind fun r9 =>
     some (r9.2.1, r9.2.2.1, (0 : Int), (0 : Int), (0 : Int), (0 : Int), (0 : Int), (0 : Int), (0 : Int), (0 : Int), (0 : Int), r7.1, r8.1, r9.1, r4.1, w64 (r5.1 - (6 : Int)), (0 : Int), (0 : Int), ())
    else
    some (r6.2.1, r6.2.2.1, (0 : Int), (0 : Int), (0 : Int), (0 : Int), (0 : Int), (0 : Int), (0 : Int), (0 : Int), (0 : Int), r1.1, r2.1, r3.1, r4.1, w64 (r5.1 - (6 : Int)), (0 : Int), (0 : Int), ())
   else
   some (r6.2.1, r6.2.2.1, (0 : Int), (0 : Int), (0 : Int), (0 : Int), (0 : Int), (0 : Int), (0 : Int), (0 : Int), (0 : Int), r1.1, r2.1, r3.1, r4.1, w64 (r5.1 - (6 : Int)), (0 : Int), (0 : Int), ())) fun o10 =>
  (Fsl1Rd_pick N ((24 : Int), o10.1, o10.2.1, ())).bind fun r11 =>
  Option.bind (
   bif decide (r11.1 < (6 : Int)) then
    let y12 := o10.2.2.2.2.2.2.2.2.2.2.2.2.2.2.2.2.1
    let y13 := o10.2.2.2.2.2.2.2.2.2.2.2.2.2.2.2.2.2.1
    (Fsl20Shape N (r11.2.1, r11.2.2.1, ())).bind fun r14 =>
    some (r14.2.2.1, r14.2.2.2.1, o10.2.2.1, o10.2.2.2.1, o10.2.2.2.2.1, o10.2.2.2.2.2.1, o10.2.2.2.2.2.2.1, o10.2.2.2.2.2.2.2.1, o10.2.2.2.2.2.2.2.2.1, o10.2.2.2.2.2.2.2.2.2.1, (1 : Int), o10.2.2.2.2.2.2.2.2.2.2.2.1, o10.2.2.2.2.2.2.2.2.2.2.2.2.1, o10.2.2.2.2.2.2.2.2.2.2.2.2.2.1, o10.2.2.2.2.2.2.2.2.2.2.2.2.2.2.1, o10.2.2.2.2.2.2.2.2.2.2.2.2.2.2.2.1, r14.1, r14.2.1, ())
   else
   bif decide (r11.1 < (9 : Int)) then
    let y15 := o10.2.2.2.2.2.2.2.2.2.2.2.2.2.2.2.2.1
    let y16 := o10.2.2.2.2.2.2.2.2.2.2.2.2.2.2.2.2.2.1
    some (r11.2.1, r11.2.2.1, o10.2.2.1, o10.2.2.2.1, o10.2.2.2.2.1, o10.2.2.2.2.2.1, o10.2.2.2.2.2.2.1, o10.2.2.2.2.2.2.2.1, o10.2.2.2.2.2.2.2.2.1, o10.2.2.2.2.2.2.2.2.2.1, (2 : Int), o10.2.2.2.2.2.2.2.2.2.2.2.1, o10.2.2.2.2.2.2.2.2.2.2.2.2.1, o10.2.2.2.2.2.2.2.2.2.2.2.2.2.1, o10.2.2.2.2.2.2.2.2.2.2.2.2.2.2.1, o10.2.2.2.2.2.2.2.2.2.2.2.2.2.2.2.1, y15, y16, ())
   else
   bif decide (r11.1 < (14 : Int)) then
    let y17 := o10.2.2.2.2.2.2.2.2.2.2.2.2.2.2.2.2.1
    let y18 := o10.2.2.2.2.2.2.2.2.2.2.2.2.2.2.2.2.2.1
    some (r11.2.1, r11.2.2.1, o10.2.2.1, o10.2.2.2.1, o10.2.2.2.2.1, o10.2.2.2.2.2.1, o10.2.2.2.2.2.2.1, o10.2.2.2.2.2.2.2.1, o10.2.2.2.2.2.2.2.2.1, o10.2.2.2.2.2.2.2.2.2.1, (3 : Int), o10.2.2.2.2.2.2.2.2.2.2.2.1, o10.2.2.2.2.2.2.2.2.2.2.2.2.1, o10.2.2.2.2.2.2.2.2.2.2.2.2.2.1, o10.2.2.2.2.2.2.2.2.2.2.2.2.2.2.1, o10.2.2.2.2.2.2.2.2.2.2.2.2.2.2.2.1, y17, y18, ())
   else
   bif r11.1 == (14 : Int) then
    let y19 := o10.2.2.2.2.2.2.2.2.2.2.2.2.2.2.2.2.1
    let y20 := o10.2.2.2.2.2.2.2.2.2.2.2.2.2.2.2.2.2.1
    (Fsl1Rd_pick N ((3 : Int), r11.2.1, r11.2.2.1, ())).bind fun r21 =>
    some (r21.2.1, r21.2.2.1, o10.2.2.1, o10.2.2.2.1, o10.2.2.2.2.1, o10.2.2.2.2.2.1, o10.2.2.2.2.2.2.1, o10.2.2.2.2.2.2.2.1, o10.2.2.2.2.2.2.2.2.1, o10.2.2.2.2.2.2.2.2.2.1, (4 : Int), o10.2.2.2.2.2.2.2.2.2.2.2.1, o10.2.2.2.2.2.2.2.2.2.2.2.2.1, o10.2.2.2.2.2.2.2.2.2.2.2.2.2.1, r21.1, o10.2.2.2.2.2.2.2.2.2.2.2.2.2.2.2.1, y19, y20, ())
   else
   bif r11.1 == (15 : Int) then
    let y22 := o10.2.2.2.2.2.2.2.2.2.2.2.2.2.2.2.2.1
    let y23 := o10.2.2.2.2.2.2.2.2.2.2.2.2.2.2.2.2.2.1
    (Fsl1Rd_pick N ((3 : Int), r11.2.1, r11.2.2.1, ())).bind fun r24 =>
    some (r24.2.1, r24.2.2.1, o10.2.2.1, o10.2.2.2.1, o10.2.2.2.2.1, o10.2.2.2.2.2.1, o10.2.2.2.2.2.2.1, o10.2.2.2.2.2.2.2.1, o10.2.2.2.2.2.2.2.2.1, o10.2.2.2.2.2.2.2.2.2.1, (5 : Int), o10.2.2.2.2.2.2.2.2.2.2.2.1, o10.2.2.2.2.2.2.2.2.2.2.2.2.1, o10.2.2.2.2.2.2.2.2.2.2.2.2.2.1, r24.1, o10.2.2.2.2.2.2.2.2.2.2.2.2.2.2.2.1, y22, y23, ())
   else
   bif r11.1 == (16 : Int) then
    let y25 := o10.2.2.2.2.2.2.2.2.2.2.2.2.2.2.2.2.1
    let y26 := o10.2.2.2.2.2.2.2.2.2.2.2.2.2.2.2.2.2.1
    some (r11.2.1, r11.2.2.1, o10.2.2.1, o10.2.2.2.1, o10.2.2.2.2.1, o10.2.2.2.2.2.1, o10.2.2.2.2.2.2.1, o10.2.2.2.2.2.2.2.1, o10.2.2.2.2.2.2.2.2.1, o10.2.2.2.2.2.2.2.2.2.1, (6 : Int), o10.2.2.2.2.2.2.2.2.2.2.2.1, o10.2.2.2.2.2.2.2.2.2.2.2.2.1, o10.2.2.2.2.2.2.2.2.2.2.2.2.2.1, o10.2.2.2.2.2.2.2.2.2.2.2.2.2.2.1, o10.2.2.2.2.2.2.2.2.2.2.2.2.2.2.2.1, y25, y26, ())
   else
   bif r11.1 == (17 : Int) then
    let y27 := o10.2.2.2.2.2.2.2.2.2.2.2.2.2.2.2.2.1
    let y28 := o10.2.2.2.2.2.2.2.2.2.2.2.2.2.2.2.2.2.1
    some (r11.2.1, r11.2.2.1, o10.2.2.1, o10.2.2.2.1, o10.2.2.2.2.1, o10.2.2.2.2.2.1, o10.2.2.2.2.2.2.1, o10.2.2.2.2.2.2.2.1, o10.2.2.2.2.2.2.2.2.1, o10.2.2.2.2.2.2.2.2.2.1, (7 : Int), o10.2.2.2.2.2.2.2.2.2.2.2.1, o10.2.2.2.2.2.2.2.2.2.2.2.2.1, o10.2.2.2.2.2.2.2.2.2.2.2.2.2.1, o10.2.2.2.2.2.2.2.2.2.2.2.2.2.2.1, o10.2.2.2.2.2.2.2.2.2.2.2.2.2.2.2.1, y27, y28, ())
   else
   bif decide (r11.1 < (22 : Int)) then
    let y29 := o10.2.2.2.2.2.2.2.2.2.2.2.2.2.2.2.2.1
    let y30 := o10.2.2.2.2.2.2.2.2.2.2.2.2.2.2.2.2.2.1
    some (r11.2.1, r11.2.2.1, o10.2.2.1, o10.2.2.2.1, o10.2.2.2.2.1, o10.2.2.2.2.2.1, o10.2.2.2.2.2.2.1, o10.2.2.2.2.2.2.2.1, o10.2.2.2.2.2.2.2.2.1, o10.2.2.2.2.2.2.2.2.2.1, (8 : Int), o10.2.2.2.2.2.2.2.2.2.2.2.1, o10.2.2.2.2.2.2.2.2.2.2.2.2.1, o10.2.2.2.2.2.2.2.2.2.2.2.2.2.1, o10.2.2.2.2.2.2.2.2.2.2.2.2.2.2.1, o10.2.2.2.2.2.2.2.2.2.2.2.2.2.2.2.1, y29, y30, ())
   else
   (Fsl1Rd_pick N ((3 : Int), r11.2.1, r11.2.2.1, ())).bind fun r31 =>
   bif decide (0 ≤ r31.1) then
   bif decide (r31.1.toNat < [(9 : Int), (10 : Int), (11 : Int)].length) then
   let y32 := [(9 : Int), (10 : Int), (11 : Int)].getD r31.1.toNat (0 : Int)
   let y33 := o10.2.2.2.2.2.2.2.2.2.2.2.2.2.2.2.2.1
   let y34 := o10.2.2.2.2.2.2.2.2.2.2.2.2.2.2.2.2.2.1
   some (r31.2.1, r31.2.2.1, o10.2.2.1, o10.2.2.2.1, o10.2.2.2.2.1, o10.2.2.2.2.2.1, o10.2.2.2.2.2.2.1, o10.2.2.2.2.2.2.2.1, o10.2.2.2.2.2.2.2.2.1, o10.2.2.2.2.2.2.2.2.2.1, y32, o10.2.2.2.2.2.2.2.2.2.2.2.1, o10.2.2.2.2.2.2.2.2.2.2.2.2.1, o10.2.2.2.2.2.2.2.2.2.2.2.2.2.1, o10.2.2.2.2.2.2.2.2.2.2.2.2.2.2.1, o10.2.2.2.2.2.2.2.2.2.2.2.2.2.2.2.1, y33, y34, ())
   else none
   else none) fun o35 =>
  Option.bind (
   (Fsl1Rd_pick N ((3 : Int), o35.1, o35.2.1, ())).bind fun r36 =>
   bif r36.1 == (0 : Int) then
    let y37 := o35.2.2.2.2.2.2.2.2.2.2.2.2.2.2.2.2.1
    let y38 := o35.2.2.2.2.2.2.2.2.2.2.2.2.2.2.2.2.2.1
    some (r36.2.1, r36.2.2.1, o35.2.2.1, o35.2.2.2.1, o35.2.2.2.2.1, o35.2.2.2.2.2.1, o35.2.2.2.2.2.2.1, o35.2.2.2.2.2.2.2.1, o35.2.2.2.2.2.2.2.2.1, o35.2.2.2.2.2.2.2.2.2.1, o35.2.2.2.2.2.2.2.2.2.2.1, (0 : Int), o35.2.2.2.2.2.2.2.2.2.2.2.2.1, o35.2.2.2.2.2.2.2.2.2.2.2.2.2.1, o35.2.2.2.2.2.2.2.2.2.2.2.2.2.2.1, o35.2.2.2.2.2.2.2.2.2.2.2.2.2.2.2.1, y37, y38, ())
   else
   some (r36.2.1, r36.2.2.1, o35.2.2.1, o35.2.2.2.1, o35.2.2.2.2.1, o35.2.2.2.2.2.1, o35.2.2.2.2.2.2.1, o35.2.2.2.2.2.2.2.1, o35.2.2.2.2.2.2.2.2.1, o35.2.2.2.2.2.2.2.2.2.1, o35.2.2.2.2.2.2.2.2.2.2.1, o35.2.2.2.2.2.2.2.2.2.2.2.1, o35.2.2.2.2.2.2.2.2.2.2.2.2.1, o35.2.2.2.2.2.2.2.2.2.2.2.2.2.1, o35.2.2.2.2.2.2.2.2.2.2.2.2.2.2.1, o35.2.2.2.2.2.2.2.2.2.2.2.2.2.2.2.1, o35.2.2.2.2.2.2.2.2.2.2.2.2.2.2.2.2.1, o35.2.2.2.2.2.2.2.2.2.2.2.2.2.2.2.2.2.1, ())) fun o39 =>
  (Fsl1Rd_pick N ((60 : Int), o39.1, o39.2.1, ())).bind fun r40 =>
  bif r40.1 == (0 : Int) then
   (Fsl1Rd_pick N ((3 : Int), r40.2.1, r40.2.2.1, ())).bind fun r41 =>
   bif decide (0 ≤ r41.1) then
   bif decide (r41.1.toNat < [(0 : Int), (12 : Int), (-1 : Int)].length) then
   let y42 := [(0 : Int), (12 : Int), (-1 : Int)].getD r41.1.toNat (0 : Int)
   let y43 := o39.2.2.2.2.2.2.2.2.2.2.2.2.2.2.2.2.1
   let y44 := o39.2.2.2.2.2.2.2.2.2.2.2.2.2.2.2.2.2.1
   some (y42, o39.2.2.2.2.2.2.2.2.2.2.2.1, o39.2.2.2.2.2.2.2.2.2.2.2.2.1, o39.2.2.2.2.2.2.2.2.2.2.2.2.2.1, o39.2.2.2.2.2.2.2.2.2.2.2.2.2.2.1, o39.2.2.2.2.2.2.2.2.2.2.2.2.2.2.2.1, y43, y44, r41.2.1, r41.2.2.1, ())
   else none
   else none
  else
  bif r40.1 == (1 : Int) then
   let y45 := [(-1 : Int), (8 : Int), (1099511627776 : Int)]
   (Fsl1Rd_pick N ((3 : Int), r40.2.1, r40.2.2.1, ())).bind fun r46 =>
   bif decide (0 ≤ r46.1) then
   bif decide (r46.1.toNat < y45.length) then
   let y47 := o39.2.2.2.2.2.2.2.2.2.2.2.2.2.2.2.2.1
   let y48 := o39.2.2.2.2.2.2.2.2.2.2.2.2.2.2.2.2.2.1
   some (o39.2.2.2.2.2.2.2.2.2.2.1, y45.getD r46.1.toNat (0 : Int), o39.2.2.2.2.2.2.2.2.2.2.2.2.1, o39.2.2.2.2.2.2.2.2.2.2.2.2.2.1, o39.2.2.2.2.2.2.2.2.2.2.2.2.2.2.1, o39.2.2.2.2.2.2.2.2.2.2.2.2.2.2.2.1, y47, y48, r46.2.1, r46.2.2.1, ())
   else none
   else none
  else
  bif r40.1 == (2 : Int) then
   let y49 := [(-1 : Int), (4 : Int), (1099511627776 : Int)]
   (Fsl1Rd_pick N ((3 : Int), r40.2.1, r40.2.2.1, ())).bind fun r50 =>
   bif decide (0 ≤ r50.1) then
   bif decide (r50.1.toNat < y49.length) then
   let y51 := o39.2.2.2.2.2.2.2.2.2.2.2.2.2.2.2.2.1
   let y52 := o39.2.2.2.2.2.2.2.2.2.2.2.2.2.2.2.2.2.1
   some (o39.2.2.2.2.2.2.2.2.2.2.1, o39.2.2.2.2.2.2.2.2.2.2.2.1, o39.2.2.2.2.2.2.2.2.2.2.2.2.1, o39.2.2.2.2.2.2.2.2.2.2.2.2.2.1, y49.getD r50.1.toNat (0 : Int), o39.2.2.2.2.2.2.2.2.2.2.2.2.2.2.2.1, y51, y52, r50.2.1, r50.2.2.1, ())
   else none
   else none
  else
  let y53 := o39.2.2.2.2.2.2.2.2.2.2.2.2.2.2.2.2.1
  let y54 := o39.2.2.2.2.2.2.2.2.2.2.2.2.2.2.2.2.2.1
  some (o39.2.2.2.2.2.2.2.2.2.2.1, o39.2.2.2.2.2.2.2.2.2.2.2.1, o39.2.2.2.2.2.2.2.2.2.2.2.2.1, o39.2.2.2.2.2.2.2.2.2.2.2.2.2.1, o39.2.2.2.2.2.2.2.2.2.2.2.2.2.2.1, o39.2.2.2.2.2.2.2.2.2.2.2.2.2.2.2.1, y53, y54, r40.2.1, r40.2.2.1, ())
noncomputable def consl20Op (N : Nat) : Con := { f := 41, din := dinsl20Op, outs := outsl20Op, F := Fsl20Op N }
noncomputable def Xsl20Op (N : Nat) : Ctx := { E := Esl20Op N, H := Hsl20Op, lp := [], jn := [(6, jsl20Op_6), (27, jsl20Op_27), (29, jsl20Op_29)] }
theorem Fsl20Op_eq (N : Nat) (x : (Int × ((List Int) × (Int × Unit)))) : evFn (Xsl20Op N) Try.f41 dinsl20Op outsl20Op x = Fsl20Op N x := by kernel_rfl
theorem cxsl20Op (N : Nat) : CtxOk Try.prog (Xsl20Op N) := ⟨⟨TE_ok, List.forall_mem_cons.2 ⟨specsl1Rd_pick N, List.forall_mem_cons.2 ⟨specsl20Shape N, fun k hk => absurd hk List.not_mem_nil⟩⟩⟩, mixed⟩
theorem specsl20Op (N : Nat) : Spec Try.prog (consl20Op N) :=
  Spec.of_eq (fn_spec (cxsl20Op N) (f := 41) (fn := Try.f41) (c := codeOf Try.f41) (by kernel_rfl) (by kernel_rfl) (by kernel_rfl) (loops_at (ids := []) (by kernel_rfl) (trivial)) (by kernel_rfl)) (fun x r h => (Fsl20Op_eq N x).trans h)

/-! ### 59: spec.l5Refs -/

noncomputable def dinsl5Refs : Desc := { n := 2, regs := [.one (.val (.sl (.int .i64))), .one (.val (.int .i64))], bx := [], pins := [] }
noncomputable def outsl5Refs : Outs := [(.ret, { n := 1, regs := [.one (.val .bool)], bx := [], pins := [] })]
noncomputable def Hsl5Refs : Hints := []
noncomputable def Esl5Refs (_N : Nat) : Env := { te := TE, cs := [] }
noncomputable def dsl5Refs_0 : Desc := { n := 25, regs := [.one (.val (.sl (.int .i64))), .one (.val (.int .i64)), u, u, u, .one (.val (.int .i64))], bx := [], pins := [] }
noncomputable def osl5Refs_0 : Outs := [(.exit 0, { n := 25, regs := [], bx := [], pins := [] }), (.ret, { n := 25, regs := [u, u, u, u, .one (.val .bool)], bx := [], pins := [] })]
noncomputable def lsl5Refs_0 (N : Nat) : Nat → ((List Int) × (Int × (Int × Unit))) → Option (Unit ⊕ (Bool × Unit))
  | 0, _ => none
  | n + 1, v =>
    let y1 := decide (v.2.2.1 < (v.1.length : Int))
    bif y1 then
     bif decide (0 ≤ v.2.2.1) then
     bif decide (v.2.2.1.toNat < v.1.length) then
     let y2 := decide ((v.1.getD v.2.2.1.toNat (0 : Int)) < (-1 : Int))
     bif y2 then
      some (.inr ((false, ())))
     else
     bif decide (0 ≤ v.2.2.1) then
     bif decide (v.2.2.1.toNat < v.1.length) then
     let y3 := decide ((v.1.getD v.2.2.1.toNat (0 : Int)) ≥ v.2.1)
     bif y3 then
      some (.inr ((false, ())))
     else
     lsl5Refs_0 N n (v.1, v.2.1, w64 (v.2.2.1 + (1 : Int)), ())
     else none
     else none
     else none
     else none
    else
    some (.inl ())
noncomputable def Fsl5Refs (N : Nat) (x : ((List Int) × (Int × Unit))) : Option (Bool × Unit) :=
  (lsl5Refs_0 N N (x.1, x.2.1, (0 : Int), ())).bind fun o4 =>
  Sum.elim (fun o5 =>
   some (true, ())) (fun o6 =>
   some (o6.1, ())) o4
noncomputable def consl5Refs (N : Nat) : Con := { f := 59, din := dinsl5Refs, outs := outsl5Refs, F := Fsl5Refs N }
noncomputable def Xsl5Refs (N : Nat) : Ctx := { E := Esl5Refs N, H := Hsl5Refs, lp := [(0, { hd := dsl5Refs_0, outs := osl5Refs_0, run := fun v => lsl5Refs_0 N N v })], jn := [] }
noncomputable def bsl5Refs_0 : Code := loopBody (codeOf Try.f59) 0
theorem Fsl5Refs_eq (N : Nat) (x : ((List Int) × (Int × Unit))) : evFn (Xsl5Refs N) Try.f59 dinsl5Refs outsl5Refs x = Fsl5Refs N x := by kernel_rfl
theorem lsl5Refs_0_eq (N n : Nat) (v : ((List Int) × (Int × (Int × Unit)))) : lsl5Refs_0 N (n + 1) v = ev (Xsl5Refs N) bsl5Refs_0 (roundK dsl5Refs_0 osl5Refs_0 (lsl5Refs_0 N n)) (dsl5Refs_0.mk' v) := by kernel_rfl
theorem cxsl5Refs (N : Nat) : CtxOk Try.prog (Xsl5Refs N) := ⟨⟨TE_ok, fun k hk => absurd hk List.not_mem_nil⟩, mixed⟩
theorem lpsl5Refs_0 (N : Nat) : LoopOk Try.prog { hd := dsl5Refs_0, outs := osl5Refs_0, run := fun v => lsl5Refs_0 N N v } bsl5Refs_0 :=
  loop_fuel (d := dsl5Refs_0) (os := osl5Refs_0) (cxsl5Refs N) (loops_at (ids := []) (by kernel_rfl) (trivial)) (lsl5Refs_0 N) (fun _ => rfl) (fun n v => lsl5Refs_0_eq N n v) (fun _ => N)
theorem specsl5Refs (N : Nat) : Spec Try.prog (consl5Refs N) :=
  Spec.of_eq (fn_spec (cxsl5Refs N) (f := 59) (fn := Try.f59) (c := codeOf Try.f59) (by kernel_rfl) (by kernel_rfl) (by kernel_rfl) (loops_at (ids := [0]) (by kernel_rfl) ⟨lp_of (lpsl5Refs_0 N), trivial⟩) (by kernel_rfl)) (fun x r h => (Fsl5Refs_eq N x).trans h)

/-! ### 17: spec.GraphOk -/

noncomputable def dinsGraphOk : Desc := { n := 1, regs := [.one (.val (.pair (.sl (.pair (.sl (.int .i64)) (.pair (.sl (.int .i64)) .unit))) (.pair (.sl (.sl (.int .i64))) (.pair (.sl (.int .i64)) .unit))))], bx := [], pins := [] }
noncomputable def outsGraphOk : Outs := [(.ret, { n := 1, regs := [.one (.val .bool)], bx := [], pins := [] })]
noncomputable def HsGraphOk : Hints := [(0, [(0, { fz := true })])]
noncomputable def EsGraphOk (N : Nat) : Env := { te := TE, cs := [consl5Refs N] }
noncomputable def dsGraphOk_0 : Desc := { n := 105, regs := [u, .one (.fpt (.pair (.sl (.pair (.sl (.int .i64)) (.pair (.sl (.int .i64)) .unit))) (.pair (.sl (.sl (.int .i64))) (.pair (.sl (.int .i64)) .unit)))), u, .one (.val (.int .i64))], bx := [], pins := [] }
noncomputable def osGraphOk_0 : Outs := [(.exit 0, { n := 105, regs := [u, .one (.fpt (.pair (.sl (.pair (.sl (.int .i64)) (.pair (.sl (.int .i64)) .unit))) (.pair (.sl (.sl (.int .i64))) (.pair (.sl (.int .i64)) .unit))))], bx := [], pins := [] }), (.ret, { n := 105, regs := [u, u, .one (.val .bool)], bx := [], pins := [] })]
noncomputable def dsGraphOk_2 : Desc := { n := 105, regs := [u, .one (.fpt (.pair (.sl (.pair (.sl (.int .i64)) (.pair (.sl (.int .i64)) .unit))) (.pair (.sl (.sl (.int .i64))) (.pair (.sl (.int .i64)) .unit)))), u, u, u, .one (.val (.int .i64))], bx := [], pins := [] }
noncomputable def osGraphOk_2 : Outs := [(.exit 2, { n := 105, regs := [u, .one (.fpt (.pair (.sl (.pair (.sl (.int .i64)) (.pair (.sl (.int .i64)) .unit))) (.pair (.sl (.sl (.int .i64))) (.pair (.sl (.int .i64)) .unit))))], bx := [], pins := [] }), (.ret, { n := 105, regs := [u, u, .one (.val .bool)], bx := [], pins := [] })]
noncomputable def dsGraphOk_4 : Desc := { n := 105, regs := [u, .one (.fpt (.pair (.sl (.pair (.sl (.int .i64)) (.pair (.sl (.int .i64)) .unit))) (.pair (.sl (.sl (.int .i64))) (.pair (.sl (.int .i64)) .unit)))), u, u, u, u, .one (.val (.int .i64))], bx := [], pins := [] }
noncomputable def osGraphOk_4 : Outs := [(.exit 4, { n := 105, regs := [u, .one (.fpt (.pair (.sl (.pair (.sl (.int .i64)) (.pair (.sl (.int .i64)) .unit))) (.pair (.sl (.sl (.int .i64))) (.pair (.sl (.int .i64)) .unit))))], bx := [], pins := [] }), (.ret, { n := 105, regs := [u, u, .one (.val .bool)], bx := [], pins := [] })]
noncomputable def jsGraphOk_3 : Outs := [(.normal, { n := 105, regs := [u, .one (.fpt (.pair (.sl (.pair (.sl (.int .i64)) (.pair (.sl (.int .i64)) .unit))) (.pair (.sl (.sl (.int .i64))) (.pair (.sl (.int .i64)) .unit))))], bx := [], pins := [] }), (.ret, { n := 105, regs := [u, u, .one (.val .bool)], bx := [], pins := [] })]
noncomputable def lsGraphOk_0 (N : Nat) : Nat → (((List ((List Int) × ((List Int) × Unit))) × ((List (List Int)) × ((List Int) × Unit))) × (Int × Unit)) → Option ((((List ((List Int) × ((List Int) × Unit))) × ((List (List Int)) × ((List Int) × Unit))) × Unit) ⊕ (Bool × Unit))
  | 0, _ => none
  | n + 1, v =>
    let y6 := decide (v.2.1 < (v.1.1.length : Int))
    bif y6 then
     bif decide (0 ≤ v.2.1) then
     bif decide (v.2.1.toNat < v.1.1.length) then
     let y7 := v.1.1.getD v.2.1.toNat (([] : (List Int)), ([] : (List Int)), ())
     let y8 := decide ((y7.1.length : Int) > (4 : Int))
     bif y8 then
      some (.inr ((false, ())))
     else
     let y9 := decide ((y7.2.1.length : Int) > (4 : Int))
     bif y9 then
      some (.inr ((false, ())))
     else
     (Fsl5Refs N (y7.1, (v.1.1.length : Int), ())).bind fun r10 =>
     bif !r10.1 then
      some (.inr ((false, ())))
     else
     lsGraphOk_0 N n (v.1, w64 (v.2.1 + (1 : Int)), ())
     else none
     else none
    else
    some (.inl (v.1, ()))
noncomputable def lsGraphOk_2 (N : Nat) : Nat → (((List ((List Int) × ((List Int) × Unit))) × ((List (List Int)) × ((List Int) × Unit))) × (Int × Unit)) → Option ((((List ((List Int) × ((List Int) × Unit))) × ((List (List Int)) × ((List Int) × Unit))) × Unit) ⊕ (Bool × Unit))
  | 0, _ => none
  | n + 1, v =>
    let y13 := decide (v.2.1 < (v.1.2.1.length : Int))
    bif y13 then
     bif decide (0 ≤ v.2.1) then
     bif decide (v.2.1.toNat < v.1.2.1.length) then
     let y14 := v.1.2.1.getD v.2.1.toNat ([] : (List Int))
     let y15 := decide ((y14.length : Int) > (8 : Int))
     bif y15 then
      some (.inr ((false, ())))
     else
     bif decide (0 ≤ v.2.1) then
     bif decide (v.2.1.toNat < v.1.2.1.length) then
     let y16 := v.1.2.1.getD v.2.1.toNat ([] : (List Int))
     (Fsl5Refs N (y16, (v.1.1.length : Int), ())).bind fun r17 =>
     bif !r17.1 then
      some (.inr ((false, ())))
     else
     lsGraphOk_2 N n (v.1, w64 (v.2.1 + (1 : Int)), ())
     else none
     else none
     else none
     else none
    else
    some (.inl (v.1, ()))
noncomputable def lsGraphOk_4 (N : Nat) : Nat → (((List ((List Int) × ((List Int) × Unit))) × ((List (List Int)) × ((List Int) × Unit))) × (Int × Unit)) → Option ((((List ((List Int) × ((List Int) × Unit))) × ((List (List Int)) × ((List Int) × Unit))) × Unit) ⊕ (Bool × Unit))
  | 0, _ => none
  | n + 1, v =>
    let y20 := decide (v.2.1 < (v.1.2.2.1.length : Int))
    bif y20 then
     bif decide (0 ≤ v.2.1) then
     bif decide (v.2.1.toNat < v.1.2.2.1.length) then
     let y21 := decide ((v.1.2.2.1.getD v.2.1.toNat (0 : Int)) < (0 : Int))
     bif y21 then
      some (.inr ((false, ())))
     else
     lsGraphOk_4 N n (v.1, w64 (v.2.1 + (1 : Int)), ())
     else none
     else none
    else
    some (.inl (v.1, ()))
noncomputable def FsGraphOk (N : Nat) (x : (((List ((List Int) × ((List Int) × Unit))) × ((List (List Int)) × ((List Int) × Unit))) × Unit)) : Option (Bool × Unit) :=
  Option.bind (
   let y1 := decide ((x.1.1.length : Int) > (200 : Int))
   bif y1 then
    some (.inr ((false, ())))
   else
   let y2 := decide ((x.1.2.1.length : Int) < (1 : Int))
   bif y2 then
    some (.inr ((false, ())))
   else
   let y3 := decide ((x.1.2.1.length : Int) > (3 : Int))
   bif y3 then
    some (.inr ((false, ())))
   else
   some (.inl (x.1, ()))) fun o4 =>
  Sum.elim (fun o5 =>
   (lsGraphOk_0 N N (o5.1, (0 : Int), ())).bind fun o11 =>
   Sum.elim (fun o12 =>
    (lsGraphOk_2 N N (o12.1, (0 : Int), ())).bind fun o18 =>
    Sum.elim (fun o19 =>
     (lsGraphOk_4 N N (o19.1, (0 : Int), ())).bind fun o22 =>
     Sum.elim (fun o23 =>
      let y24 := decide ((o23.1.2.2.1.length : Int) ≤ (8 : Int))
      bif y24 then
       (Fsl5Refs N (o23.1.2.2.1, (o23.1.1.length : Int), ())).bind fun r25 =>
       some (r25.1, ())
      else
      some (false, ())) (fun o26 =>
      some (o26.1, ())) o22) (fun o27 =>
     some (o27.1, ())) o18) (fun o28 =>
    some (o28.1, ())) o11) (fun o29 =>
   some (o29.1, ())) o4
noncomputable def consGraphOk (N : Nat) : Con := { f := 17, din := dinsGraphOk, outs := outsGraphOk, F := FsGraphOk N }
noncomputable def XsGraphOk (N : Nat) : Ctx := { E := EsGraphOk N, H := HsGraphOk, lp := [(0, { hd := dsGraphOk_0, outs := osGraphOk_0, run := fun v => lsGraphOk_0 N N v }), (2, { hd := dsGraphOk_2, outs := osGraphOk_2, run := fun v => lsGraphOk_2 N N v }), (4, { hd := dsGraphOk_4, outs := osGraphOk_4, run := fun v => lsGraphOk_4 N N v })], jn := [(3, jsGraphOk_3)] }
noncomputable def bsGraphOk_4 : Code := loopBody (codeOf Try.f17) 2
noncomputable def bsGraphOk_2 : Code := loopBody (codeOf Try.f17) 1
noncomputable def bsGraphOk_0 : Code := loopBody (codeOf Try.f17) 0
theorem FsGraphOk_eq (N : Nat) (x : (((List ((List Int) × ((List Int) × Unit))) × ((List (List Int)) × ((List Int) × Unit))) × Unit)) : evFn (XsGraphOk N) Try.f17 dinsGraphOk outsGraphOk x = FsGraphOk N x := by kernel_rfl
theorem lsGraphOk_0_eq (N n : Nat) (v : (((List ((List Int) × ((List Int) × Unit))) × ((List (List Int)) × ((List Int) × Unit))) × (Int × Unit))) : lsGraphOk_0 N (n + 1) v = ev (XsGraphOk N) bsGraphOk_0 (roundK dsGraphOk_0 osGraphOk_0 (lsGraphOk_0 N n)) (dsGraphOk_0.mk' v) := by kernel_rfl
theorem lsGraphOk_2_eq (N n : Nat) (v : (((List ((List Int) × ((List Int) × Unit))) × ((List (List Int)) × ((List Int) × Unit))) × (Int × Unit))) : lsGraphOk_2 N (n + 1) v = ev (XsGraphOk N) bsGraphOk_2 (roundK dsGraphOk_2 osGraphOk_2 (lsGraphOk_2 N n)) (dsGraphOk_2.mk' v) := by kernel_rfl
theorem lsGraphOk_4_eq (N n : Nat) (v : (((List ((List Int) × ((List Int) × Unit))) × ((List (List Int)) × ((List Int) × Unit))) × (Int × Unit))) : lsGraphOk_4 N (n + 1) v = ev (XsGraphOk N) bsGraphOk_4 (roundK dsGraphOk_4 osGraphOk_4 (lsGraphOk_4 N n)) (dsGraphOk_4.mk' v) := by kernel_rfl
theorem cxsGraphOk (N : Nat) : CtxOk Try.prog (XsGraphOk N) := ⟨⟨TE_ok, List.forall_mem_cons.2 ⟨specsl5Refs N, fun k hk => absurd hk List.not_mem_nil⟩⟩, mixed⟩
theorem lpsGraphOk_0 (N : Nat) : LoopOk Try.prog { hd := dsGraphOk_0, outs := osGraphOk_0, run := fun v => lsGraphOk_0 N N v } bsGraphOk_0 :=
  loop_fuel (d := dsGraphOk_0) (os := osGraphOk_0) (cxsGraphOk N) (loops_at (ids := []) (by kernel_rfl) (trivial)) (lsGraphOk_0 N) (fun _ => rfl) (fun n v => lsGraphOk_0_eq N n v) (fun _ => N)
theorem lpsGraphOk_2 (N : Nat) : LoopOk Try.prog { hd := dsGraphOk_2, outs := osGraphOk_2, run := fun v => lsGraphOk_2 N N v } bsGraphOk_2 :=
  loop_fuel (d := dsGraphOk_2) (os := osGraphOk_2) (cxsGraphOk N) (loops_at (ids := []) (by kernel_rfl) (trivial)) (lsGraphOk_2 N) (fun _ => rfl) (fun n v => lsGraphOk_2_eq N n v) (fun _ => N)
theorem lpsGraphOk_4 (N : Nat) : LoopOk Try.prog { hd := dsGraphOk_4, outs := osGraphOk_4, run := fun v => lsGraphOk_4 N N v } bsGraphOk_4 :=
  loop_fuel (d := dsGraphOk_4) (os := osGraphOk_4) (cxsGraphOk N) (loops_at (ids := []) (by kernel_rfl) (trivial)) (lsGraphOk_4 N) (fun _ => rfl) (fun n v => lsGraphOk_4_eq N n v) (fun _ => N)
theorem specsGraphOk (N : Nat) : Spec Try.prog (consGraphOk N) :=
  Spec.of_eq (fn_spec (cxsGraphOk N) (f := 17) (fn := Try.f17) (c := codeOf Try.f17) (by kernel_rfl) (by kernel_rfl) (by kernel_rfl) (loops_at (ids := [0, 2, 4]) (by kernel_rfl) ⟨lp_of (lpsGraphOk_0 N), ⟨lp_of (lpsGraphOk_2 N), ⟨lp_of (lpsGraphOk_4 N), trivial⟩⟩⟩) (by kernel_rfl)) (fun x r h => (FsGraphOk_eq N x).trans h)

/-! ### 91: spec.ShapeOk -/

noncomputable def dinsShapeOk : Desc := { n := 1, regs := [.one (.val (.pair (.int .i64) (.pair (.int .i64) .unit)))], bx := [], pins := [] }
noncomputable def outsShapeOk : Outs := [(.ret, { n := 1, regs := [.one (.val .bool)], bx := [], pins := [] })]
noncomputable def HsShapeOk : Hints := [(0, [(0, { fz := true })])]
noncomputable def EsShapeOk (_N : Nat) : Env := { te := TE, cs := [] }
noncomputable def FsShapeOk (N : Nat) (x : ((Int × (Int × Unit)) × Unit)) : Option (Bool × Unit) :=
  bif decide (x.1.1 ≥ (0 : Int)) then
   bif decide (x.1.1 ≤ (4 : Int)) then
    bif decide (x.1.2.1 ≥ (0 : Int)) then
     some (decide (x.1.2.1 ≤ (4 : Int)), ())
    else
    some (false, ())
   else
   some (false, ())
  else
  some (false, ())
noncomputable def consShapeOk (N : Nat) : Con := { f := 91, din := dinsShapeOk, outs := outsShapeOk, F := FsShapeOk N }
noncomputable def XsShapeOk (N : Nat) : Ctx := { E := EsShapeOk N, H := HsShapeOk, lp := [], jn := [] }
theorem FsShapeOk_eq (N : Nat) (x : ((Int × (Int × Unit)) × Unit)) : evFn (XsShapeOk N) Try.f91 dinsShapeOk outsShapeOk x = FsShapeOk N x := by kernel_rfl
theorem cxsShapeOk (N : Nat) : CtxOk Try.prog (XsShapeOk N) := ⟨⟨TE_ok, fun k hk => absurd hk List.not_mem_nil⟩, mixed⟩
theorem specsShapeOk (N : Nat) : Spec Try.prog (consShapeOk N) :=
  Spec.of_eq (fn_spec (cxsShapeOk N) (f := 91) (fn := Try.f91) (c := codeOf Try.f91) (by kernel_rfl) (by kernel_rfl) (by kernel_rfl) (loops_at (ids := []) (by kernel_rfl) (trivial)) (by kernel_rfl)) (fun x r h => (FsShapeOk_eq N x).trans h)

/-! ### 51: spec.OpOk -/

noncomputable def dinsOpOk : Desc := { n := 1, regs := [.one (.val (.pair (.int .i64) (.pair (.int .i64) (.pair (.int .i64) (.pair (.int .i64) (.pair (.int .i64) (.pair (.int .i64) (.pair (.pair (.int .i64) (.pair (.int .i64) .unit)) .unit))))))))], bx := [], pins := [] }
noncomputable def outsOpOk : Outs := [(.ret, { n := 1, regs := [.one (.val .bool)], bx := [], pins := [] })]
noncomputable def HsOpOk : Hints := [(0, [(0, { fz := true })])]
noncomputable def EsOpOk (N : Nat) : Env := { te := TE, cs := [consShapeOk N] }
noncomputable def FsOpOk (N : Nat) (x : ((Int × (Int × (Int × (Int × (Int × (Int × ((Int × (Int × Unit)) × Unit))))))) × Unit)) : Option (Bool × Unit) :=
  bif decide (x.1.1 ≥ (1 : Int)) then
   bif decide (x.1.1 ≤ (11 : Int)) then
    bif x.1.1 != (1 : Int) then
     some (true, ())
    else
    (FsShapeOk N (x.1.2.2.2.2.2.2.1, ())).bind fun r1 =>
    some (r1.1, ())
   else
   some (false, ())
  else
  some (false, ())
noncomputable def consOpOk (N : Nat) : Con := { f := 51, din := dinsOpOk, outs := outsOpOk, F := FsOpOk N }
noncomputable def XsOpOk (N : Nat) : Ctx := { E := EsOpOk N, H := HsOpOk, lp := [], jn := [] }
theorem FsOpOk_eq (N : Nat) (x : ((Int × (Int × (Int × (Int × (Int × (Int × ((Int × (Int × Unit)) × Unit))))))) × Unit)) : evFn (XsOpOk N) Try.f51 dinsOpOk outsOpOk x = FsOpOk N x := by kernel_rfl
theorem cxsOpOk (N : Nat) : CtxOk Try.prog (XsOpOk N) := ⟨⟨TE_ok, List.forall_mem_cons.2 ⟨specsShapeOk N, fun k hk => absurd hk List.not_mem_nil⟩⟩, mixed⟩
theorem specsOpOk (N : Nat) : Spec Try.prog (consOpOk N) :=
  Spec.of_eq (fn_spec (cxsOpOk N) (f := 51) (fn := Try.f51) (c := codeOf Try.f51) (by kernel_rfl) (by kernel_rfl) (by kernel_rfl) (loops_at (ids := []) (by kernel_rfl) (trivial)) (by kernel_rfl)) (fun x r h => (FsOpOk_eq N x).trans h)

/-! ### 66: spec.l5Ints -/

noncomputable def dinsl5Ints : Desc := { n := 1, regs := [.one (.val (.sl (.int .i64)))], bx := [], pins := [] }
noncomputable def outsl5Ints : Outs := [(.ret, { n := 1, regs := [.one (.lit (.row 1012800))], bx := [(1012800, .row (.int .i64))], pins := [] })]
noncomputable def Hsl5Ints : Hints := []
noncomputable def Esl5Ints (_N : Nat) : Env := { te := TE, cs := [] }
noncomputable def Fsl5Ints (N : Nat) (x : ((List Int) × Unit)) : Option ((List Int) × Unit) :=
  bif decide (([] : (List Int)).length + x.1.length ≤ lim) then
  some (([] : (List Int)) ++ x.1, ())
  else none
noncomputable def consl5Ints (N : Nat) : Con := { f := 66, din := dinsl5Ints, outs := outsl5Ints, F := Fsl5Ints N }
noncomputable def Xsl5Ints (N : Nat) : Ctx := { E := Esl5Ints N, H := Hsl5Ints, lp := [], jn := [] }
theorem Fsl5Ints_eq (N : Nat) (x : ((List Int) × Unit)) : evFn (Xsl5Ints N) Try.f66 dinsl5Ints outsl5Ints x = Fsl5Ints N x := by kernel_rfl
theorem cxsl5Ints (N : Nat) : CtxOk Try.prog (Xsl5Ints N) := ⟨⟨TE_ok, fun k hk => absurd hk List.not_mem_nil⟩, mixed⟩
theorem specsl5Ints (N : Nat) : Spec Try.prog (consl5Ints N) :=
  Spec.of_eq (fn_spec (cxsl5Ints N) (f := 66) (fn := Try.f66) (c := codeOf Try.f66) (by kernel_rfl) (by kernel_rfl) (by kernel_rfl) (loops_at (ids := []) (by kernel_rfl) (trivial)) (by kernel_rfl)) (fun x r h => (Fsl5Ints_eq N x).trans h)

/-! ### 52: spec.l5Copy -/

noncomputable def dinsl5Copy : Desc := { n := 1, regs := [.one (.val (.pair (.sl (.pair (.sl (.int .i64)) (.pair (.sl (.int .i64)) .unit))) (.pair (.sl (.sl (.int .i64))) (.pair (.sl (.int .i64)) .unit))))], bx := [], pins := [] }
noncomputable def outsl5Copy : Outs := [(.ret, { n := 1, regs := [.agg [.lit (.row 1012993), .lit (.row 1012994), .lit (.row 1012929)]], bx := [(1012993, .row (.pair (.sl (.int .i64)) (.pair (.sl (.int .i64)) .unit))), (1012994, .row (.sl (.int .i64))), (1012929, .row (.int .i64))], pins := [] })]
noncomputable def Hsl5Copy : Hints := [(0, [(0, { fz := true })]),
  (1, [(3, { nl := [(0, (.pair (.sl (.int .i64)) (.pair (.sl (.int .i64)) .unit))), (1, (.sl (.int .i64)))] })]),
  (5, [(17, { dp := true }), (18, { dp := true })]),
  (9, [(8, { dp := true }), (9, { dp := true })])]
noncomputable def Esl5Copy (N : Nat) : Env := { te := TE, cs := [consl5Ints N] }
noncomputable def dsl5Copy_0 : Desc := { n := 56, regs := [u, .one (.fpt (.pair (.sl (.pair (.sl (.int .i64)) (.pair (.sl (.int .i64)) .unit))) (.pair (.sl (.sl (.int .i64))) (.pair (.sl (.int .i64)) .unit)))), .one (.lit (.ptr 1000064 0)), .one (.lit (.ptr 1013056 0)), .one (.val (.int .i64))], bx := [(1000064, .var [.lit .nil, .lit .nil, .lit .nil]), (1013056, .var [.lit (.row 1012993), .lit (.row 1012994), .lit (.row 1012929)]), (1012993, .row (.pair (.sl (.int .i64)) (.pair (.sl (.int .i64)) .unit))), (1012994, .row (.sl (.int .i64))), (1012929, .row (.int .i64))], pins := [] }
noncomputable def osl5Copy_0 : Outs := [(.exit 0, { n := 56, regs := [u, .one (.fpt (.pair (.sl (.pair (.sl (.int .i64)) (.pair (.sl (.int .i64)) .unit))) (.pair (.sl (.sl (.int .i64))) (.pair (.sl (.int .i64)) .unit)))), .one (.lit (.ptr 1000064 0)), .one (.lit (.ptr 1013056 0))], bx := [(1000064, .var [.lit .nil, .lit .nil, .lit .nil]), (1013056, .var [.lit (.row 1012993), .lit (.row 1012994), .lit (.row 1012929)]), (1012993, .row (.pair (.sl (.int .i64)) (.pair (.sl (.int .i64)) .unit))), (1012994, .row (.sl (.int .i64))), (1012929, .row (.int .i64))], pins := [] })]
noncomputable def dsl5Copy_2 : Desc := { n := 56, regs := [u, .one (.fpt (.pair (.sl (.pair (.sl (.int .i64)) (.pair (.sl (.int .i64)) .unit))) (.pair (.sl (.sl (.int .i64))) (.pair (.sl (.int .i64)) .unit)))), .one (.lit (.ptr 1000064 0)), .one (.lit (.ptr 1013056 0)), u, .one (.val (.int .i64))], bx := [(1000064, .var [.lit .nil, .lit .nil, .lit .nil]), (1013056, .var [.lit (.row 1012993), .lit (.row 1012994), .lit (.row 1012929)]), (1012993, .row (.pair (.sl (.int .i64)) (.pair (.sl (.int .i64)) .unit))), (1012994, .row (.sl (.int .i64))), (1012929, .row (.int .i64))], pins := [] }
noncomputable def osl5Copy_2 : Outs := [(.exit 2, { n := 56, regs := [u, u, .one (.lit (.ptr 1000064 0)), .one (.lit (.ptr 1013056 0))], bx := [(1000064, .var [.lit .nil, .lit .nil, .lit .nil]), (1013056, .var [.lit (.row 1012993), .lit (.row 1012994), .lit (.row 1012929)]), (1012993, .row (.pair (.sl (.int .i64)) (.pair (.sl (.int .i64)) .unit))), (1012994, .row (.sl (.int .i64))), (1012929, .row (.int .i64))], pins := [] })]
noncomputable def lsl5Copy_0 (N : Nat) : Nat → (((List ((List Int) × ((List Int) × Unit))) × ((List (List Int)) × ((List Int) × Unit))) × (Int × ((List ((List Int) × ((List Int) × Unit))) × ((List (List Int)) × ((List Int) × Unit))))) → Option (((List ((List Int) × ((List Int) × Unit))) × ((List (List Int)) × ((List Int) × Unit))) × ((List ((List Int) × ((List Int) × Unit))) × ((List (List Int)) × ((List Int) × Unit))))
  | 0, _ => none
  | n + 1, v =>
    let y3 := decide (v.2.1 < (v.1.1.length : Int))
    bif y3 then
     bif decide (0 ≤ v.2.1) then
     bif decide (v.2.1.toNat < v.1.1.length) then
     let y4 := v.1.1.getD v.2.1.toNat (([] : (List Int)), ([] : (List Int)), ())
     (Fsl5Ints N (y4.1, ())).bind fun r5 =>
     bif decide (0 ≤ v.2.1) then
     bif decide (v.2.1.toNat < v.1.1.length) then
     let y6 := v.1.1.getD v.2.1.toNat (([] : (List Int)), ([] : (List Int)), ())
     (Fsl5Ints N (y6.2.1, ())).bind fun r7 =>
     bif decide (v.2.2.1.length + [(r5.1, r7.1, ())].length ≤ lim) then
     lsl5Copy_0 N n (v.1, w64 (v.2.1 + (1 : Int)), v.2.2.1 ++ [(r5.1, r7.1, ())], v.2.2.2.1, v.2.2.2.2.1, ())
     else none
     else none
     else none
     else none
     else none
    else
    some (v.1, v.2.2.1, v.2.2.2.1, v.2.2.2.2.1, ())
noncomputable def lsl5Copy_2 (N : Nat) : Nat → (((List ((List Int) × ((List Int) × Unit))) × ((List (List Int)) × ((List Int) × Unit))) × (Int × ((List ((List Int) × ((List Int) × Unit))) × ((List (List Int)) × ((List Int) × Unit))))) → Option ((List ((List Int) × ((List Int) × Unit))) × ((List (List Int)) × ((List Int) × Unit)))
  | 0, _ => none
  | n + 1, v =>
    let y9 := decide (v.2.1 < (v.1.2.1.length : Int))
    bif y9 then
     bif decide (0 ≤ v.2.1) then
     bif decide (v.2.1.toNat < v.1.2.1.length) then
     let y10 := v.1.2.1.getD v.2.1.toNat ([] : (List Int))
     (Fsl5Ints N (y10, ())).bind fun r11 =>
     bif decide (v.2.2.2.1.length + [r11.1].length ≤ lim) then
     lsl5Copy_2 N n (v.1, w64 (v.2.1 + (1 : Int)), v.2.2.1, v.2.2.2.1 ++ [r11.1], v.2.2.2.2.1, ())
     else none
     else none
     else none
    else
    some (v.2.2.1, v.2.2.2.1, v.2.2.2.2.1, ())
noncomputable def Fsl5Copy (N : Nat) (x : (((List ((List Int) × ((List Int) × Unit))) × ((List (List Int)) × ((List Int) × Unit))) × Unit)) : Option ((List ((List Int) × ((List Int) × Unit))) × ((List (List Int)) × ((List Int) × Unit))) :=
  (Fsl5Ints N (x.1.2.2.1, ())).bind fun r1 =>
  let y2 := ([] : (List ((List Int) × ((List Int) × Unit))))
  (lsl5Copy_0 N N (x.1, (0 : Int), y2, ([] : (List (List Int))), r1.1, ())).bind fun o8 =>
  (lsl5Copy_2 N N (o8.1, (0 : Int), o8.2.1, o8.2.2.1, o8.2.2.2.1, ())).bind fun o12 =>
  some (o12.1, o12.2.1, o12.2.2.1, ())
noncomputable def consl5Copy (N : Nat) : Con := { f := 52, din := dinsl5Copy, outs := outsl5Copy, F := Fsl5Copy N }
noncomputable def Xsl5Copy (N : Nat) : Ctx := { E := Esl5Copy N, H := Hsl5Copy, lp := [(0, { hd := dsl5Copy_0, outs := osl5Copy_0, run := fun v => lsl5Copy_0 N N v }), (2, { hd := dsl5Copy_2, outs := osl5Copy_2, run := fun v => lsl5Copy_2 N N v })], jn := [] }
noncomputable def bsl5Copy_2 : Code := loopBody (codeOf Try.f52) 1
noncomputable def bsl5Copy_0 : Code := loopBody (codeOf Try.f52) 0
theorem Fsl5Copy_eq (N : Nat) (x : (((List ((List Int) × ((List Int) × Unit))) × ((List (List Int)) × ((List Int) × Unit))) × Unit)) : evFn (Xsl5Copy N) Try.f52 dinsl5Copy outsl5Copy x = Fsl5Copy N x := by kernel_rfl
theorem lsl5Copy_0_eq (N n : Nat) (v : (((List ((List Int) × ((List Int) × Unit))) × ((List (List Int)) × ((List Int) × Unit))) × (Int × ((List ((List Int) × ((List Int) × Unit))) × ((List (List Int)) × ((List Int) × Unit)))))) : lsl5Copy_0 N (n + 1) v = ev (Xsl5Copy N) bsl5Copy_0 (roundK dsl5Copy_0 osl5Copy_0 (lsl5Copy_0 N n)) (dsl5Copy_0.mk' v) := by kernel_rfl
theorem lsl5Copy_2_eq (N n : Nat) (v : (((List ((List Int) × ((List Int) × Unit))) × ((List (List Int)) × ((List Int) × Unit))) × (Int × ((List ((List Int) × ((List Int) × Unit))) × ((List (List Int)) × ((List Int) × Unit)))))) : lsl5Copy_2 N (n + 1) v = ev (Xsl5Copy N) bsl5Copy_2 (roundK dsl5Copy_2 osl5Copy_2 (lsl5Copy_2 N n)) (dsl5Copy_2.mk' v) := by kernel_rfl
theorem cxsl5Copy (N : Nat) : CtxOk Try.prog (Xsl5Copy N) := ⟨⟨TE_ok, List.forall_mem_cons.2 ⟨specsl5Ints N, fun k hk => absurd hk List.not_mem_nil⟩⟩, mixed⟩
theorem lpsl5Copy_0 (N : Nat) : LoopOk Try.prog { hd := dsl5Copy_0, outs := osl5Copy_0, run := fun v => lsl5Copy_0 N N v } bsl5Copy_0 :=
  loop_fuel (d := dsl5Copy_0) (os := osl5Copy_0) (cxsl5Copy N) (loops_at (ids := []) (by kernel_rfl) (trivial)) (lsl5Copy_0 N) (fun _ => rfl) (fun n v => lsl5Copy_0_eq N n v) (fun _ => N)
theorem lpsl5Copy_2 (N : Nat) : LoopOk Try.prog { hd := dsl5Copy_2, outs := osl5Copy_2, run := fun v => lsl5Copy_2 N N v } bsl5Copy_2 :=
  loop_fuel (d := dsl5Copy_2) (os := osl5Copy_2) (cxsl5Copy N) (loops_at (ids := []) (by kernel_rfl) (trivial)) (lsl5Copy_2 N) (fun _ => rfl) (fun n v => lsl5Copy_2_eq N n v) (fun _ => N)
theorem specsl5Copy (N : Nat) : Spec Try.prog (consl5Copy N) :=
  Spec.of_eq (fn_spec (cxsl5Copy N) (f := 52) (fn := Try.f52) (c := codeOf Try.f52) (by kernel_rfl) (by kernel_rfl) (by kernel_rfl) (loops_at (ids := [0, 2]) (by kernel_rfl) ⟨lp_of (lpsl5Copy_0 N), ⟨lp_of (lpsl5Copy_2 N), trivial⟩⟩) (by kernel_rfl)) (fun x r h => (Fsl5Copy_eq N x).trans h)

/-! ### 54: spec.l5Fields -/

noncomputable def dinsl5Fields : Desc := { n := 1, regs := [.one (.val (.int .i64))], bx := [], pins := [] }
noncomputable def outsl5Fields : Outs := [(.ret, { n := 1, regs := [.one (.val .bool)], bx := [], pins := [] })]
noncomputable def Hsl5Fields : Hints := []
noncomputable def Esl5Fields (_N : Nat) : Env := { te := TE, cs := [] }
noncomputable def Fsl5Fields (N : Nat) (x : (Int × Unit)) : Option (Bool × Unit) :=
  bif x.1 == (2 : Int) then
   some (true, ())
  else
  bif x.1 == (3 : Int) then
   some (true, ())
  else
  bif x.1 == (4 : Int) then
   some (true, ())
  else
  bif x.1 == (5 : Int) then
   some (true, ())
  else
  some (x.1 == (7 : Int), ())
noncomputable def consl5Fields (N : Nat) : Con := { f := 54, din := dinsl5Fields, outs := outsl5Fields, F := Fsl5Fields N }
noncomputable def Xsl5Fields (N : Nat) : Ctx := { E := Esl5Fields N, H := Hsl5Fields, lp := [], jn := [] }
theorem Fsl5Fields_eq (N : Nat) (x : (Int × Unit)) : evFn (Xsl5Fields N) Try.f54 dinsl5Fields outsl5Fields x = Fsl5Fields N x := by kernel_rfl
theorem cxsl5Fields (N : Nat) : CtxOk Try.prog (Xsl5Fields N) := ⟨⟨TE_ok, fun k hk => absurd hk List.not_mem_nil⟩, mixed⟩
theorem specsl5Fields (N : Nat) : Spec Try.prog (consl5Fields N) :=
  Spec.of_eq (fn_spec (cxsl5Fields N) (f := 54) (fn := Try.f54) (c := codeOf Try.f54) (by kernel_rfl) (by kernel_rfl) (by kernel_rfl) (loops_at (ids := []) (by kernel_rfl) (trivial)) (by kernel_rfl)) (fun x r h => (Fsl5Fields_eq N x).trans h)

/-! ### 53: spec.l5Begin -/

noncomputable def dinsl5Begin : Desc := { n := 3, regs := [.one (.val (.pair (.int .i64) (.pair (.int .i64) (.pair (.int .i64) (.pair (.int .i64) (.pair (.int .i64) (.pair (.int .i64) (.pair (.pair (.int .i64) (.pair (.int .i64) .unit)) .unit)))))))), .one (.val (.sl (.int .i64))), .one (.val (.int .i64))], bx := [], pins := [] }
noncomputable def outsl5Begin : Outs := [(.ret, { n := 1, regs := [.one (.val (.int .i64))], bx := [], pins := [] })]
noncomputable def Hsl5Begin : Hints := [(0, [(0, { fz := true })])]
noncomputable def Esl5Begin (N : Nat) : Env := { te := TE, cs := [consl5Fields N] }
noncomputable def jsl5Begin_3 : Outs := [(.normal, { n := 107, regs := [u, .one (.val (.sl (.int .i64))), .one (.val (.int .i64)), .one (.fpt (.pair (.int .i64) (.pair (.int .i64) (.pair (.int .i64) (.pair (.int .i64) (.pair (.int .i64) (.pair (.int .i64) (.pair (.pair (.int .i64) (.pair (.int .i64) .unit)) .unit)))))))), u, u, u, .one (.val (.int .i64)), .one (.val .bool)], bx := [], pins := [] })]
noncomputable def jsl5Begin_4 : Outs := [(.normal, { n := 107, regs := [u, .one (.val (.sl (.int .i64))), .one (.val (.int .i64)), .one (.fpt (.pair (.int .i64) (.pair (.int .i64) (.pair (.int .i64) (.pair (.int .i64) (.pair (.int .i64) (.pair (.int .i64) (.pair (.pair (.int .i64) (.pair (.int .i64) .unit)) .unit)))))))), u, u, u, .one (.val (.int .i64)), .one (.val .bool), .one (.val .bool)], bx := [], pins := [] })]
noncomputable def jsl5Begin_5 : Outs := [(.normal, { n := 107, regs := [u, .one (.val (.sl (.int .i64))), .one (.val (.int .i64)), .one (.fpt (.pair (.int .i64) (.pair (.int .i64) (.pair (.int .i64) (.pair (.int .i64) (.pair (.int .i64) (.pair (.int .i64) (.pair (.pair (.int .i64) (.pair (.int .i64) .unit)) .unit)))))))), u, u, u, .one (.val (.int .i64)), .one (.val .bool), .one (.val .bool), .one (.val .bool)], bx := [], pins := [] })]
noncomputable def jsl5Begin_25 : Outs := [(.normal, { n := 107, regs := [u, .one (.val (.sl (.int .i64))), .one (.val (.int .i64)), .one (.fpt (.pair (.int .i64) (.pair (.int .i64) (.pair (.int .i64) (.pair (.int .i64) (.pair (.int .i64) (.pair (.int .i64) (.pair (.pair (.int .i64) (.pair (.int .i64) .unit)) .unit)))))))), u, u, u, .one (.val (.int .i64)), .one (.val .bool), .one (.val .bool), .one (.val .bool)], bx := [], pins := [] })]
noncomputable def jsl5Begin_27 : Outs := [(.normal, { n := 107, regs := [u, .one (.val (.sl (.int .i64))), .one (.val (.int .i64)), .one (.fpt (.pair (.int .i64) (.pair (.int .i64) (.pair (.int .i64) (.pair (.int .i64) (.pair (.int .i64) (.pair (.int .i64) (.pair (.pair (.int .i64) (.pair (.int .i64) .unit)) .unit)))))))), u, u, u, .one (.val (.int .i64))], bx := [], pins := [] }), (.ret, { n := 107, regs := [u, u, u, u, u, u, .one (.val (.int .i64))], bx := [], pins := [] })]
noncomputable def jsl5Begin_29 : Outs := [(.normal, { n := 107, regs := [u, u, u, .one (.fpt (.pair (.int .i64) (.pair (.int .i64) (.pair (.int .i64) (.pair (.int .i64) (.pair (.int .i64) (.pair (.int .i64) (.pair (.pair (.int .i64) (.pair (.int .i64) .unit)) .unit)))))))), u, u, u, .one (.val (.int .i64))], bx := [], pins := [] }), (.ret, { n := 107, regs := [u, u, u, u, u, u, .one (.val (.int .i64))], bx := [], pins := [] })]
noncomputable def Fsl5Begin (N : Nat) (x : ((Int × (Int × (Int × (Int × (Int × (Int × ((Int × (Int × Unit)) × Unit))))))) × ((List Int) × (Int × Unit)))) : Option (Int × Unit) :=
  Option.bind (
   bif decide (x.1.2.1 ≥ (0 : Int)) then
    let y1 := decide (x.1.2.1 < (x.2.1.length : Int))
    some (x.2.1, x.2.2.1, x.1, (x.2.1.length : Int), y1, ())
   else
   some (x.2.1, x.2.2.1, x.1, (x.2.1.length : Int), false, ())) fun o2 =>
  Option.bind (
   bif decide (o2.2.2.1.2.2.1 ≥ (0 : Int)) then
    some (o2.1, o2.2.1, o2.2.2.1, o2.2.2.2.1, o2.2.2.2.2.1, decide (o2.2.2.1.2.2.1 < o2.2.2.2.1), ())
   else
   some (o2.1, o2.2.1, o2.2.2.1, o2.2.2.2.1, o2.2.2.2.2.1, false, ())) fun o3 =>
  Option.bind (
   let y4 := decide (o3.2.2.1.2.2.2.1 ≥ (0 : Int))
   bif y4 then
    let y5 := decide (o3.2.2.1.2.2.2.1 < o3.2.2.2.1)
    some (o3.1, o3.2.1, o3.2.2.1, o3.2.2.2.1, o3.2.2.2.2.1, o3.2.2.2.2.2.1, y5, ())
   else
   some (o3.1, o3.2.1, o3.2.2.1, o3.2.2.2.1, o3.2.2.2.2.1, o3.2.2.2.2.2.1, false, ())) fun o6 =>
  Option.bind (
   bif o6.2.2.1.1 == (1 : Int) then
    some (o6.1, o6.2.1, o6.2.2.1, o6.2.2.2.1, true, true, true, ())
   else
   bif o6.2.2.1.1 == (8 : Int) then
    some (o6.1, o6.2.1, o6.2.2.1, o6.2.2.2.1, decide (o6.2.2.2.1 > (0 : Int)), true, true, ())
   else
   bif o6.2.2.1.1 == (2 : Int) then
    some (o6.1, o6.2.1, o6.2.2.1, o6.2.2.2.1, o6.2.2.2.2.1, true, true, ())
   else
   bif o6.2.2.1.1 == (4 : Int) then
    some (o6.1, o6.2.1, o6.2.2.1, o6.2.2.2.1, o6.2.2.2.2.1, true, true, ())
   else
   bif o6.2.2.1.1 == (5 : Int) then
    some (o6.1, o6.2.1, o6.2.2.1, o6.2.2.2.1, o6.2.2.2.2.1, true, true, ())
   else
   bif o6.2.2.1.1 == (9 : Int) then
    some (o6.1, o6.2.1, o6.2.2.1, o6.2.2.2.1, o6.2.2.2.2.1, true, true, ())
   else
   bif o6.2.2.1.1 == (10 : Int) then
    some (o6.1, o6.2.1, o6.2.2.1, o6.2.2.2.1, o6.2.2.2.2.1, true, true, ())
   else
   bif o6.2.2.1.1 == (11 : Int) then
    some (o6.1, o6.2.1, o6.2.2.1, o6.2.2.2.1, o6.2.2.2.2.1, true, true, ())
   else
   bif o6.2.2.1.1 == (3 : Int) then
    some (o6.1, o6.2.1, o6.2.2.1, o6.2.2.2.1, o6.2.2.2.2.1, o6.2.2.2.2.2.1, true, ())
   else
   bif o6.2.2.1.1 == (6 : Int) then
    some (o6.1, o6.2.1, o6.2.2.1, o6.2.2.2.1, o6.2.2.2.2.1, o6.2.2.2.2.2.1, true, ())
   else
   some (o6.1, o6.2.1, o6.2.2.1, o6.2.2.2.1, o6.2.2.2.2.1, o6.2.2.2.2.2.1, o6.2.2.2.2.2.2.1, ())) fun o7 =>
  Option.bind (
   bif !o7.2.2.2.2.1 then
    some (.inr (((2 : Int), ())))
   else
   bif !o7.2.2.2.2.2.1 then
    some (.inr (((2 : Int), ())))
   else
   bif !o7.2.2.2.2.2.2.1 then
    some (.inr (((2 : Int), ())))
   else
   some (.inl (o7.1, o7.2.1, o7.2.2.1, o7.2.2.2.1, ()))) fun o8 =>
  Sum.elim (fun o9 =>
   Option.bind (
    (Fsl5Fields N (o9.2.2.1.1, ())).bind fun r10 =>
    bif r10.1 then
     bif decide (0 ≤ o9.2.2.1.2.1) then
     bif decide (o9.2.2.1.2.1.toNat < o9.1.length) then
     let y11 := o9.1.getD o9.2.2.1.2.1.toNat (0 : Int)
     bif y11 == o9.2.1 then
      some (.inr (((3 : Int), ())))
     else
     some (.inl (o9.2.2.1, o9.2.2.2.1, ()))
     else none
     else none
    else
    bif o9.2.2.1.1 == (10 : Int) then
     bif decide (0 ≤ o9.2.2.1.2.1) then
     bif decide (o9.2.2.1.2.1.toNat < o9.1.length) then
     let y12 := o9.1.getD o9.2.2.1.2.1.toNat (0 : Int)
     bif y12 == o9.2.1 then
      some (.inr (((3 : Int), ())))
     else
     some (.inl (o9.2.2.1, o9.2.2.2.1, ()))
     else none
     else none
    else
    bif o9.2.2.1.1 == (11 : Int) then
     bif decide (0 ≤ o9.2.2.1.2.1) then
     bif decide (o9.2.2.1.2.1.toNat < o9.1.length) then
     let y13 := o9.1.getD o9.2.2.1.2.1.toNat (0 : Int)
     bif y13 == o9.2.1 then
      some (.inr (((3 : Int), ())))
     else
     some (.inl (o9.2.2.1, o9.2.2.2.1, ()))
     else none
     else none
    else
    some (.inl (o9.2.2.1, o9.2.2.2.1, ()))) fun o14 =>
   Sum.elim (fun o15 =>
    bif o15.1.1 == (1 : Int) then
     bif o15.2.1 == (8 : Int) then
      some ((5 : Int), ())
     else
     some ((0 : Int), ())
    else
    bif o15.1.1 == (2 : Int) then
     bif o15.2.1 == (8 : Int) then
      some ((5 : Int), ())
     else
     some ((0 : Int), ())
    else
    bif o15.1.1 == (9 : Int) then
     bif o15.2.1 == (8 : Int) then
      some ((5 : Int), ())
     else
     some ((0 : Int), ())
    else
    some ((0 : Int), ())) (fun o16 =>
    some (o16.1, ())) o14) (fun o17 =>
   some (o17.1, ())) o8
noncomputable def consl5Begin (N : Nat) : Con := { f := 53, din := dinsl5Begin, outs := outsl5Begin, F := Fsl5Begin N }
noncomputable def Xsl5Begin (N : Nat) : Ctx := { E := Esl5Begin N, H := Hsl5Begin, lp := [], jn := [(3, jsl5Begin_3), (4, jsl5Begin_4), (5, jsl5Begin_5), (25, jsl5Begin_25), (27, jsl5Begin_27), (29, jsl5Begin_29)] }
theorem Fsl5Begin_eq (N : Nat) (x : ((Int × (Int × (Int × (Int × (Int × (Int × ((Int × (Int × Unit)) × Unit))))))) × ((List Int) × (Int × Unit)))) : evFn (Xsl5Begin N) Try.f53 dinsl5Begin outsl5Begin x = Fsl5Begin N x := by kernel_rfl
theorem cxsl5Begin (N : Nat) : CtxOk Try.prog (Xsl5Begin N) := ⟨⟨TE_ok, List.forall_mem_cons.2 ⟨specsl5Fields N, fun k hk => absurd hk List.not_mem_nil⟩⟩, mixed⟩
theorem specsl5Begin (N : Nat) : Spec Try.prog (consl5Begin N) :=
  Spec.of_eq (fn_spec (cxsl5Begin N) (f := 53) (fn := Try.f53) (c := codeOf Try.f53) (by kernel_rfl) (by kernel_rfl) (by kernel_rfl) (loops_at (ids := []) (by kernel_rfl) (trivial)) (by kernel_rfl)) (fun x r h => (Fsl5Begin_eq N x).trans h)

/-! ### 55: spec.l5Field -/

noncomputable def dinsl5Field : Desc := { n := 3, regs := [.one (.val (.pair (.int .i64) (.pair (.int .i64) (.pair (.int .i64) (.pair (.int .i64) (.pair (.int .i64) (.pair (.int .i64) (.pair (.pair (.int .i64) (.pair (.int .i64) .unit)) .unit)))))))), .one (.val (.int .i64)), .one (.val (.int .i64))], bx := [], pins := [] }
noncomputable def outsl5Field : Outs := [(.ret, { n := 1, regs := [.one (.val .bool)], bx := [], pins := [] })]
noncomputable def Hsl5Field : Hints := [(0, [(0, { fz := true })])]
noncomputable def Esl5Field (_N : Nat) : Env := { te := TE, cs := [] }
noncomputable def jsl5Field_3 : Outs := [(.normal, { n := 33, regs := [u, .one (.val (.int .i64)), u, .one (.fpt (.pair (.int .i64) (.pair (.int .i64) (.pair (.int .i64) (.pair (.int .i64) (.pair (.int .i64) (.pair (.int .i64) (.pair (.pair (.int .i64) (.pair (.int .i64) .unit)) .unit))))))))], bx := [], pins := [] }), (.ret, { n := 33, regs := [u, u, u, u, u, u, .one (.val .bool)], bx := [], pins := [] })]
noncomputable def Fsl5Field (N : Nat) (x : ((Int × (Int × (Int × (Int × (Int × (Int × ((Int × (Int × Unit)) × Unit))))))) × (Int × (Int × Unit)))) : Option (Bool × Unit) :=
  Option.bind (
   bif x.1.1 == (4 : Int) then
    bif decide (x.1.2.2.2.2.1 ≥ (0 : Int)) then
     some (.inr ((decide (x.1.2.2.2.2.1 < x.2.2.1), ())))
    else
    some (.inr ((false, ())))
   else
   bif x.1.1 == (5 : Int) then
    bif decide (x.1.2.2.2.2.1 ≥ (0 : Int)) then
     some (.inr ((decide (x.1.2.2.2.2.1 < x.2.2.1), ())))
    else
    some (.inr ((false, ())))
   else
   some (.inl (x.2.1, x.1, ()))) fun o1 =>
  Sum.elim (fun o2 =>
   let y3 := decide (o2.2.1.2.2.2.2.1 ≥ (0 : Int))
   bif y3 then
    some (decide (o2.2.1.2.2.2.2.1 < o2.1), ())
   else
   some (false, ())) (fun o4 =>
   some (o4.1, ())) o1
noncomputable def consl5Field (N : Nat) : Con := { f := 55, din := dinsl5Field, outs := outsl5Field, F := Fsl5Field N }
noncomputable def Xsl5Field (N : Nat) : Ctx := { E := Esl5Field N, H := Hsl5Field, lp := [], jn := [(3, jsl5Field_3)] }
theorem Fsl5Field_eq (N : Nat) (x : ((Int × (Int × (Int × (Int × (Int × (Int × ((Int × (Int × Unit)) × Unit))))))) × (Int × (Int × Unit)))) : evFn (Xsl5Field N) Try.f55 dinsl5Field outsl5Field x = Fsl5Field N x := by kernel_rfl
theorem cxsl5Field (N : Nat) : CtxOk Try.prog (Xsl5Field N) := ⟨⟨TE_ok, fun k hk => absurd hk List.not_mem_nil⟩, mixed⟩
theorem specsl5Field (N : Nat) : Spec Try.prog (consl5Field N) :=
  Spec.of_eq (fn_spec (cxsl5Field N) (f := 55) (fn := Try.f55) (c := codeOf Try.f55) (by kernel_rfl) (by kernel_rfl) (by kernel_rfl) (loops_at (ids := []) (by kernel_rfl) (trivial)) (by kernel_rfl)) (fun x r h => (Fsl5Field_eq N x).trans h)

/-! ### 56: spec.l5Pins -/

noncomputable def dinsl5Pins : Desc := { n := 3, regs := [.one (.val (.sl (.int .i64))), .one (.val (.int .i64)), .one (.val (.int .i64))], bx := [], pins := [] }
noncomputable def outsl5Pins : Outs := [(.ret, { n := 2, regs := [.one (.lit (.row 1038400)), .one (.val .bool)], bx := [(1038400, .row (.int .i64))], pins := [] })]
noncomputable def Hsl5Pins : Hints := [(3, [(0, { nl := [(0, (.int .i64))] })]),
  (12, [(0, { nl := [(0, (.int .i64))] })])]
noncomputable def Esl5Pins (N : Nat) : Env := { te := TE, cs := [consl5Ints N] }
noncomputable def dsl5Pins_0 : Desc := { n := 44, regs := [.one (.val (.sl (.int .i64))), u, .one (.val (.int .i64)), u, u, u, u, u, .one (.val (.int .i64)), .one (.val (.int .i64))], bx := [], pins := [] }
noncomputable def osl5Pins_0 : Outs := [(.exit 0, { n := 44, regs := [.one (.val (.sl (.int .i64))), u, u, u, u, u, u, u, .one (.val (.int .i64))], bx := [], pins := [] })]
noncomputable def lsl5Pins_0 (N : Nat) : Nat → ((List Int) × (Int × (Int × (Int × Unit)))) → Option ((List Int) × (Int × Unit))
  | 0, _ => none
  | n + 1, v =>
    let y2 := decide (v.2.2.2.1 < (v.1.length : Int))
    bif y2 then
     bif decide (0 ≤ v.2.2.2.1) then
     bif decide (v.2.2.2.1.toNat < v.1.length) then
     let y3 := (v.1.getD v.2.2.2.1.toNat (0 : Int)) == v.2.1
     bif y3 then
      lsl5Pins_0 N n (v.1, v.2.1, v.2.2.2.1, w64 (v.2.2.2.1 + (1 : Int)), ())
     else
     lsl5Pins_0 N n (v.1, v.2.1, v.2.2.1, w64 (v.2.2.2.1 + (1 : Int)), ())
     else none
     else none
    else
    some (v.1, v.2.2.1, ())
noncomputable def Fsl5Pins (N : Nat) (x : ((List Int) × (Int × (Int × Unit)))) : Option (Bool × ((List Int) × Unit)) :=
  bif x.2.1 == (10 : Int) then
   bif (x.1.length : Int) == (8 : Int) then
    some (false, ([] : (List Int)), ())
   else
   (Fsl5Ints N (x.1, ())).bind fun r1 =>
   bif decide (r1.1.length + [x.2.2.1].length ≤ lim) then
   some (true, r1.1 ++ [x.2.2.1], ())
   else none
  else
  (lsl5Pins_0 N N (x.1, x.2.2.1, (-1 : Int), (0 : Int), ())).bind fun o4 =>
  bif decide (o4.2.1 < (0 : Int)) then
   some (false, ([] : (List Int)), ())
  else
  bif decide (0 ≤ o4.2.1) then
  bif decide (o4.2.1 ≤ (o4.1.length : Int)) then
  bif decide (0 ≤ (0 : Int)) then
  bif decide ((0 : Int) ≤ o4.2.1) then
  let y5 := (o4.1.drop (0 : Int).toNat).take (o4.2.1.toNat - (0 : Int).toNat)
  (Fsl5Ints N (y5, ())).bind fun r6 =>
  bif decide (0 ≤ (o4.1.length : Int)) then
  bif decide ((o4.1.length : Int) ≤ (o4.1.length : Int)) then
  bif decide (0 ≤ (w64 (o4.2.1 + (1 : Int)))) then
  bif decide ((w64 (o4.2.1 + (1 : Int))) ≤ (o4.1.length : Int)) then
  let y7 := (o4.1.drop (w64 (o4.2.1 + (1 : Int))).toNat).take ((o4.1.length : Int).toNat - (w64 (o4.2.1 + (1 : Int))).toNat)
  bif decide (r6.1.length + y7.length ≤ lim) then
  some (true, r6.1 ++ y7, ())
  else none
  else none
  else none
  else none
  else none
  else none
  else none
  else none
  else none
noncomputable def consl5Pins (N : Nat) : Con := { f := 56, din := dinsl5Pins, outs := outsl5Pins, F := Fsl5Pins N }
noncomputable def Xsl5Pins (N : Nat) : Ctx := { E := Esl5Pins N, H := Hsl5Pins, lp := [(0, { hd := dsl5Pins_0, outs := osl5Pins_0, run := fun v => lsl5Pins_0 N N v })], jn := [] }
noncomputable def bsl5Pins_0 : Code := loopBody (codeOf Try.f56) 0
theorem Fsl5Pins_eq (N : Nat) (x : ((List Int) × (Int × (Int × Unit)))) : evFn (Xsl5Pins N) Try.f56 dinsl5Pins outsl5Pins x = Fsl5Pins N x := by kernel_rfl
theorem lsl5Pins_0_eq (N n : Nat) (v : ((List Int) × (Int × (Int × (Int × Unit))))) : lsl5Pins_0 N (n + 1) v = ev (Xsl5Pins N) bsl5Pins_0 (roundK dsl5Pins_0 osl5Pins_0 (lsl5Pins_0 N n)) (dsl5Pins_0.mk' v) := by kernel_rfl
theorem cxsl5Pins (N : Nat) : CtxOk Try.prog (Xsl5Pins N) := ⟨⟨TE_ok, List.forall_mem_cons.2 ⟨specsl5Ints N, fun k hk => absurd hk List.not_mem_nil⟩⟩, mixed⟩
theorem lpsl5Pins_0 (N : Nat) : LoopOk Try.prog { hd := dsl5Pins_0, outs := osl5Pins_0, run := fun v => lsl5Pins_0 N N v } bsl5Pins_0 :=
  loop_fuel (d := dsl5Pins_0) (os := osl5Pins_0) (cxsl5Pins N) (loops_at (ids := []) (by kernel_rfl) (trivial)) (lsl5Pins_0 N) (fun _ => rfl) (fun n v => lsl5Pins_0_eq N n v) (fun _ => N)
theorem specsl5Pins (N : Nat) : Spec Try.prog (consl5Pins N) :=
  Spec.of_eq (fn_spec (cxsl5Pins N) (f := 56) (fn := Try.f56) (c := codeOf Try.f56) (by kernel_rfl) (by kernel_rfl) (by kernel_rfl) (loops_at (ids := [0]) (by kernel_rfl) ⟨lp_of (lpsl5Pins_0 N), trivial⟩) (by kernel_rfl)) (fun x r h => (Fsl5Pins_eq N x).trans h)

/-! ### 57: spec.l5One -/

noncomputable def dinsl5One : Desc := { n := 1, regs := [.one (.val .bool)], bx := [], pins := [] }
noncomputable def outsl5One : Outs := [(.ret, { n := 1, regs := [.one (.val (.int .i64))], bx := [], pins := [] })]
noncomputable def Hsl5One : Hints := []
noncomputable def Esl5One (_N : Nat) : Env := { te := TE, cs := [] }
noncomputable def Fsl5One (N : Nat) (x : (Bool × Unit)) : Option (Int × Unit) :=
  bif x.1 then
   some ((1 : Int), ())
  else
  some ((0 : Int), ())
noncomputable def consl5One (N : Nat) : Con := { f := 57, din := dinsl5One, outs := outsl5One, F := Fsl5One N }
noncomputable def Xsl5One (N : Nat) : Ctx := { E := Esl5One N, H := Hsl5One, lp := [], jn := [] }
theorem Fsl5One_eq (N : Nat) (x : (Bool × Unit)) : evFn (Xsl5One N) Try.f57 dinsl5One outsl5One x = Fsl5One N x := by kernel_rfl
theorem cxsl5One (N : Nat) : CtxOk Try.prog (Xsl5One N) := ⟨⟨TE_ok, fun k hk => absurd hk List.not_mem_nil⟩, mixed⟩
theorem specsl5One (N : Nat) : Spec Try.prog (consl5One N) :=
  Spec.of_eq (fn_spec (cxsl5One N) (f := 57) (fn := Try.f57) (c := codeOf Try.f57) (by kernel_rfl) (by kernel_rfl) (by kernel_rfl) (loops_at (ids := []) (by kernel_rfl) (trivial)) (by kernel_rfl)) (fun x r h => (Fsl5One_eq N x).trans h)

/-! ### 14: spec.GraphDo -/

noncomputable def dinsGraphDo : Desc := { n := 3, regs := [.one (.val (.pair (.sl (.pair (.sl (.int .i64)) (.pair (.sl (.int .i64)) .unit))) (.pair (.sl (.sl (.int .i64))) (.pair (.sl (.int .i64)) .unit)))), .one (.val (.int .i64)), .one (.val (.pair (.int .i64) (.pair (.int .i64) (.pair (.int .i64) (.pair (.int .i64) (.pair (.int .i64) (.pair (.int .i64) (.pair (.pair (.int .i64) (.pair (.int .i64) .unit)) .unit))))))))], bx := [], pins := [] }
noncomputable def outsGraphDo : Outs := [(.ret, { n := 3, regs := [.agg [.lit (.row 1038465), .lit (.row 1038466), .lit (.row 1141377)], .one (.val (.int .i64)), .one (.val (.int .i64))], bx := [(1038465, .row (.pair (.sl (.int .i64)) (.pair (.sl (.int .i64)) .unit))), (1038466, .row (.sl (.int .i64))), (1141377, .row (.int .i64))], pins := [] })]
noncomputable def HsGraphDo : Hints := [(0, [(0, { fz := true }), (1, { fz := true })]),
  (1, [(16, { con := 1 })]),
  (2, [(0, { nl := [(0, (.pair (.sl (.int .i64)) (.pair (.sl (.int .i64)) .unit))), (1, (.sl (.int .i64))), (2, (.int .i64))] })]),
  (3, [(1, { con := 2 })]),
  (5, [(2, { con := 3 })]),
  (6, [(5, { con := 4 }), (31, { con := 5 })]),
  (11, [(9, { con := 6 })]),
  (20, [(4, { nl := [(0, (.int .i64))] })]),
  (25, [(3, { dp := true }), (4, { dp := true })]),
  (36, [(11, { con := 7 })])]
noncomputable def EsGraphDo (N : Nat) : Env := { te := TE, cs := [consGraphOk N, consOpOk N, consl5Copy N, consl5Begin N, consl5Fields N, consl5Field N, consl5Pins N, consl5One N] }
noncomputable def dsGraphDo_1 : Desc := { n := 323, regs := [u, .one (.val (.int .i64)), u, u, u, .one (.fpt (.pair (.int .i64) (.pair (.int .i64) (.pair (.int .i64) (.pair (.int .i64) (.pair (.int .i64) (.pair (.int .i64) (.pair (.pair (.int .i64) (.pair (.int .i64) .unit)) .unit)))))))), .one (.lit (.ptr 1000128 0)), u, u, .one (.lit (.ptr 1038528 0)), .one (.nrow 1038466 0), u, u, u, .one (.val (.int .i64)), .one (.lit (.ptr 1256320 0)), .one (.val (.int .i64))], bx := [(1000128, .var [.lit .nil, .lit .nil, .lit .nil]), (1038528, .var [.lit (.row 1038465), .lit (.row 1038466), .lit (.row 1141377)]), (1038465, .row (.pair (.sl (.int .i64)) (.pair (.sl (.int .i64)) .unit))), (1038466, .row (.sl (.int .i64))), (1141377, .row (.int .i64)), (1256320, .var [.lit (.row 1256257), .lit (.row 1256192)]), (1256257, .row (.int .i64)), (1256192, .row (.int .i64))], pins := [] }
noncomputable def osGraphDo_1 : Outs := [(.exit 1, { n := 323, regs := [u, .one (.val (.int .i64)), u, u, u, u, .one (.lit (.ptr 1000128 0)), u, u, .one (.lit (.ptr 1038528 0)), .one (.nrow 1038466 0), u, u, u, .one (.val (.int .i64)), .one (.lit (.ptr 1256320 0))], bx := [(1000128, .var [.lit .nil, .lit .nil, .lit .nil]), (1038528, .var [.lit (.row 1038465), .lit (.row 1038466), .lit (.row 1141377)]), (1038465, .row (.pair (.sl (.int .i64)) (.pair (.sl (.int .i64)) .unit))), (1038466, .row (.sl (.int .i64))), (1141377, .row (.int .i64)), (1256320, .var [.lit (.row 1256257), .lit (.row 1256192)]), (1256257, .row (.int .i64)), (1256192, .row (.int .i64))], pins := [] })]
noncomputable def jsGraphDo_3 : Outs := [(.normal, { n := 323, regs := [u, .one (.val (.int .i64)), u, .one (.fpt (.pair (.sl (.pair (.sl (.int .i64)) (.pair (.sl (.int .i64)) .unit))) (.pair (.sl (.sl (.int .i64))) (.pair (.sl (.int .i64)) .unit)))), u, .one (.fpt (.pair (.int .i64) (.pair (.int .i64) (.pair (.int .i64) (.pair (.int .i64) (.pair (.int .i64) (.pair (.int .i64) (.pair (.pair (.int .i64) (.pair (.int .i64) .unit)) .unit)))))))), .one (.lit (.ptr 1000128 0))], bx := [(1000128, .var [.lit .nil, .lit .nil, .lit .nil])], pins := [] }), (.ret, { n := 323, regs := [u, u, u, u, u, u, .one (.lit (.ptr 1000128 0)), .one (.val (.int .i64)), .one (.val (.int .i64))], bx := [(1000128, .var [.lit (.row 1025601), .lit (.row 1025602), .lit (.row 1025603)]), (1025601, .row (.pair (.sl (.int .i64)) (.pair (.sl (.int .i64)) .unit))), (1025602, .row (.sl (.int .i64))), (1025603, .row (.int .i64))], pins := [] })]
noncomputable def jsGraphDo_8 : Outs := [(.normal, { n := 323, regs := [u, .one (.val (.int .i64)), u, u, u, .one (.fpt (.pair (.int .i64) (.pair (.int .i64) (.pair (.int .i64) (.pair (.int .i64) (.pair (.int .i64) (.pair (.int .i64) (.pair (.pair (.int .i64) (.pair (.int .i64) .unit)) .unit)))))))), .one (.lit (.ptr 1000128 0)), u, u, .one (.lit (.ptr 1038528 0)), .one (.nrow 1038466 0), .one (.val (.int .i64))], bx := [(1000128, .var [.lit .nil, .lit .nil, .lit .nil]), (1038528, .var [.lit (.row 1038465), .lit (.row 1038466), .lit (.row 1038467)]), (1038465, .row (.pair (.sl (.int .i64)) (.pair (.sl (.int .i64)) .unit))), (1038466, .row (.sl (.int .i64))), (1038467, .row (.int .i64))], pins := [] })]
noncomputable def jsGraphDo_10 : Outs := [(.normal, { n := 323, regs := [u, .one (.val (.int .i64)), u, u, u, .one (.fpt (.pair (.int .i64) (.pair (.int .i64) (.pair (.int .i64) (.pair (.int .i64) (.pair (.int .i64) (.pair (.int .i64) (.pair (.pair (.int .i64) (.pair (.int .i64) .unit)) .unit)))))))), .one (.lit (.ptr 1000128 0)), u, u, .one (.lit (.ptr 1038528 0)), .one (.nrow 1038466 0), .one (.val (.int .i64))], bx := [(1000128, .var [.lit .nil, .lit .nil, .lit .nil]), (1038528, .var [.lit (.row 1038465), .lit (.row 1038466), .lit (.row 1038467)]), (1038465, .row (.pair (.sl (.int .i64)) (.pair (.sl (.int .i64)) .unit))), (1038466, .row (.sl (.int .i64))), (1038467, .row (.int .i64))], pins := [] })]
noncomputable def jsGraphDo_15 : Outs := [(.normal, { n := 323, regs := [u, .one (.val (.int .i64)), u, u, u, .one (.fpt (.pair (.int .i64) (.pair (.int .i64) (.pair (.int .i64) (.pair (.int .i64) (.pair (.int .i64) (.pair (.int .i64) (.pair (.pair (.int .i64) (.pair (.int .i64) .unit)) .unit)))))))), .one (.lit (.ptr 1000128 0)), u, u, .one (.lit (.ptr 1038528 0)), .one (.nrow 1038466 0), .one (.val (.int .i64))], bx := [(1000128, .var [.lit .nil, .lit .nil, .lit .nil]), (1038528, .var [.lit (.row 1038465), .lit (.row 1038466), .lit (.row 1141377)]), (1038465, .row (.pair (.sl (.int .i64)) (.pair (.sl (.int .i64)) .unit))), (1038466, .row (.sl (.int .i64))), (1141377, .row (.int .i64))], pins := [] }), (.ret, { n := 323, regs := [u, u, u, u, u, u, .one (.lit (.ptr 1000128 0)), .one (.val (.int .i64)), .one (.val (.int .i64))], bx := [(1000128, .var [.lit (.row 1038465), .lit (.row 1038466), .lit (.row 1038467)]), (1038465, .row (.pair (.sl (.int .i64)) (.pair (.sl (.int .i64)) .unit))), (1038466, .row (.sl (.int .i64))), (1038467, .row (.int .i64))], pins := [] })]
noncomputable def jsGraphDo_45 : Outs := [(.normal, { n := 323, regs := [u, u, u, u, u, u, .one (.lit (.ptr 1000128 0)), u, u, .one (.lit (.ptr 1038528 0)), u, u, u, u, .one (.val (.int .i64))], bx := [(1000128, .var [.lit .nil, .lit .nil, .lit .nil]), (1038528, .var [.lit (.row 1038465), .lit (.row 1038466), .lit (.row 1141377)]), (1038465, .row (.pair (.sl (.int .i64)) (.pair (.sl (.int .i64)) .unit))), (1038466, .row (.sl (.int .i64))), (1141377, .row (.int .i64))], pins := [] })]
noncomputable def lsGraphDo_1 (N : Nat) : Nat → (Int × ((Int × (Int × (Int × (Int × (Int × (Int × ((Int × (Int × Unit)) × Unit))))))) × (Int × (Int × (Int × ((List ((List Int) × ((List Int) × Unit))) × ((List (List Int)) × ((List Int) × ((List Int) × ((List Int) × Unit)))))))))) → Option (Int × (Int × (Int × ((List ((List Int) × ((List Int) × Unit))) × ((List (List Int)) × ((List Int) × ((List Int) × ((List Int) × Unit))))))))
  | 0, _ => none
  | n + 1, v =>
    let y28 := decide (v.2.2.2.2.1 < v.2.1.2.2.2.2.2.2.1.1)
    bif y28 then
     bif decide (v.2.2.2.2.2.2.2.2.1.length + [(-1 : Int)].length ≤ lim) then
     lsGraphDo_1 N n (v.1, v.2.1, Int.ofNat v.2.2.1.toNat, v.2.2.2.1, w64 (v.2.2.2.2.1 + (1 : Int)), v.2.2.2.2.2.1, v.2.2.2.2.2.2.1, v.2.2.2.2.2.2.2.1, v.2.2.2.2.2.2.2.2.1 ++ [(-1 : Int)], v.2.2.2.2.2.2.2.2.2.1, ())
     else none
    else
    some (v.1, Int.ofNat v.2.2.1.toNat, v.2.2.2.1, v.2.2.2.2.2.1, v.2.2.2.2.2.2.1, v.2.2.2.2.2.2.2.1, v.2.2.2.2.2.2.2.2.1, v.2.2.2.2.2.2.2.2.2.1, ())
noncomputable def FsGraphDo (N : Nat) (x : (((List ((List Int) × ((List Int) × Unit))) × ((List (List Int)) × ((List Int) × Unit))) × (Int × ((Int × (Int × (Int × (Int × (Int × (Int × ((Int × (Int × Unit)) × Unit))))))) × Unit)))) : Option (Int × (Int × ((List ((List Int) × ((List Int) × Unit))) × ((List (List Int)) × ((List Int) × Unit))))) :=
  Option.bind (
   (FsGraphOk N (x.1, ())).bind fun r1 =>
   bif !r1.1 then
    let y2 := ([] : (List ((List Int) × ((List Int) × Unit))))
    some (.inr (((0 : Int), (1 : Int), y2, ([] : (List (List Int))), ([] : (List Int)), ())))
   else
   bif decide (x.2.1 < (0 : Int)) then
    let y3 := ([] : (List ((List Int) × ((List Int) × Unit))))
    some (.inr (((0 : Int), (1 : Int), y3, ([] : (List (List Int))), ([] : (List Int)), ())))
   else
   let y4 := decide (x.2.1 ≥ (x.1.2.1.length : Int))
   bif y4 then
    let y5 := ([] : (List ((List Int) × ((List Int) × Unit))))
    some (.inr (((0 : Int), (1 : Int), y5, ([] : (List (List Int))), ([] : (List Int)), ())))
   else
   (FsOpOk N (x.2.2.1, ())).bind fun r6 =>
   bif !r6.1 then
    let y7 := ([] : (List ((List Int) × ((List Int) × Unit))))
    some (.inr (((0 : Int), (1 : Int), y7, ([] : (List (List Int))), ([] : (List Int)), ())))
   else
   some (.inl (x.2.1, x.1, x.2.2.1, ()))) fun o8 =>
  Sum.elim (fun o9 =>
   (Fsl5Copy N (o9.2.1, ())).bind fun r10 =>
   bif decide (0 ≤ o9.1) then
   bif decide (o9.1.toNat < r10.2.1.length) then
   (Fsl5Begin N (o9.2.2.1, r10.2.1.getD o9.1.toNat ([] : (List Int)), (-1 : Int), ())).bind fun r11 =>
   Option.bind (
    bif r11.1 == (0 : Int) then
     (Fsl5Fields N (o9.2.2.1.1, ())).bind fun r12 =>
     bif r12.1 then
      bif decide (0 ≤ o9.2.2.1.2.1) then
      bif decide (o9.2.2.1.2.1.toNat < (r10.2.1.getD o9.1.toNat ([] : (List Int))).length) then
      let y13 := (r10.2.1.getD o9.1.toNat ([] : (List Int))).getD o9.2.2.1.2.1.toNat (0 : Int)
      bif decide (0 ≤ y13) then
      bif decide (y13.toNat < r10.1.length) then
      let y14 := (((r10.1.getD y13.toNat (([] : (List Int)), ([] : (List Int)), ())).1).length : Int)
      bif decide (0 ≤ o9.2.2.1.2.1) then
      bif decide (o9.2.2.1.2.1.toNat < (r10.2.1.getD o9.1.toNat ([] : (List Int))).length) then
      let y15 := (r10.2.1.getD o9.1.toNat ([] : (List Int))).getD o9.2.2.1.2.1.toNat (0 : Int)
      bif decide (0 ≤ y15) then
      bif decide (y15.toNat < r10.1.length) then
      let y16 := ((((r10.1.getD y15.toNat (([] : (List Int)), ([] : (List Int)), ())).2).1).length : Int)
      (Fsl5Field N (o9.2.2.1, y14, y16, ())).bind fun r17 =>
      bif !r17.1 then
       some (o9.1, o9.2.2.1, Int.ofNat o9.1.toNat, (4 : Int), r10.1, r10.2.1, r10.2.2.1, ())
      else
      some (o9.1, o9.2.2.1, Int.ofNat o9.1.toNat, r11.1, r10.1, r10.2.1, r10.2.2.1, ())
      else none
      else none
      else none
      else none
      else none
      else none
      else none
      else none
     else
     some (o9.1, o9.2.2.1, Int.ofNat o9.1.toNat, r11.1, r10.1, r10.2.1, r10.2.2.1, ())
    else
    some (o9.1, o9.2.2.1, Int.ofNat o9.1.toNat, r11.1, r10.1, r10.2.1, r10.2.2.1, ())) fun o18 =>
   Option.bind (
    bif o18.2.2.2.1 == (0 : Int) then
     bif o18.2.1.1 == (1 : Int) then
      let y19 := (o18.2.2.2.2.1.length : Int) == (200 : Int)
      bif y19 then
       some (o18.1, o18.2.1, Int.ofNat o18.2.2.1.toNat, (6 : Int), o18.2.2.2.2.1, o18.2.2.2.2.2.1, o18.2.2.2.2.2.2.1, ())
      else
      some (o18.1, o18.2.1, Int.ofNat o18.2.2.1.toNat, o18.2.2.2.1, o18.2.2.2.2.1, o18.2.2.2.2.2.1, o18.2.2.2.2.2.2.1, ())
     else
     some (o18.1, o18.2.1, Int.ofNat o18.2.2.1.toNat, o18.2.2.2.1, o18.2.2.2.2.1, o18.2.2.2.2.2.1, o18.2.2.2.2.2.2.1, ())
    else
    some (o18.1, o18.2.1, Int.ofNat o18.2.2.1.toNat, o18.2.2.2.1, o18.2.2.2.2.1, o18.2.2.2.2.2.1, o18.2.2.2.2.2.2.1, ())) fun o20 =>
   Option.bind (
    bif o20.2.2.2.1 == (0 : Int) then
     bif o20.2.1.1 == (10 : Int) then
      bif decide (0 ≤ o20.2.1.2.1) then
      bif decide (o20.2.1.2.1.toNat < (o20.2.2.2.2.2.1.getD o20.2.2.1.toNat ([] : (List Int))).length) then
      let y21 := (o20.2.2.2.2.2.1.getD o20.2.2.1.toNat ([] : (List Int))).getD o20.2.1.2.1.toNat (0 : Int)
      (Fsl5Pins N (o20.2.2.2.2.2.2.1, o20.2.1.1, y21, ())).bind fun r22 =>
      bif !r22.1 then
       some (.inr (((0 : Int), (7 : Int), o20.2.2.2.2.1, o20.2.2.2.2.2.1, o20.2.2.2.2.2.2.1, ())))
      else
      some (.inl (o20.1, o20.2.1, Int.ofNat o20.2.2.1.toNat, o20.2.2.2.1, o20.2.2.2.2.1, o20.2.2.2.2.2.1, r22.2.1, ()))
      else none
      else none
     else
     bif o20.2.1.1 == (11 : Int) then
      bif decide (0 ≤ o20.2.1.2.1) then
      bif decide (o20.2.1.2.1.toNat < (o20.2.2.2.2.2.1.getD o20.2.2.1.toNat ([] : (List Int))).length) then
      let y23 := (o20.2.2.2.2.2.1.getD o20.2.2.1.toNat ([] : (List Int))).getD o20.2.1.2.1.toNat (0 : Int)
      (Fsl5Pins N (o20.2.2.2.2.2.2.1, o20.2.1.1, y23, ())).bind fun r24 =>
      bif !r24.1 then
       some (.inr (((0 : Int), (7 : Int), o20.2.2.2.2.1, o20.2.2.2.2.2.1, o20.2.2.2.2.2.2.1, ())))
      else
      some (.inl (o20.1, o20.2.1, Int.ofNat o20.2.2.1.toNat, o20.2.2.2.1, o20.2.2.2.2.1, o20.2.2.2.2.2.1, r24.2.1, ()))
      else none
      else none
     else
     some (.inl (o20.1, o20.2.1, Int.ofNat o20.2.2.1.toNat, o20.2.2.2.1, o20.2.2.2.2.1, o20.2.2.2.2.2.1, o20.2.2.2.2.2.2.1, ()))
    else
    some (.inl (o20.1, o20.2.1, Int.ofNat o20.2.2.1.toNat, o20.2.2.2.1, o20.2.2.2.2.1, o20.2.2.2.2.2.1, o20.2.2.2.2.2.2.1, ()))) fun o25 =>
   Sum.elim (fun o26 =>
    bif o26.2.2.2.1 != (0 : Int) then
     some ((0 : Int), o26.2.2.2.1, o26.2.2.2.2.1, o26.2.2.2.2.2.1, o26.2.2.2.2.2.2.1, ())
    else
    Option.bind (
     bif o26.2.1.1 == (1 : Int) then
      bif decide (0 ≤ o26.2.1.2.2.2.2.2.2.1.2.1) then
      bif decide (o26.2.1.2.2.2.2.2.2.1.2.1.toNat ≤ lim) then
      let y27 := List.replicate o26.2.1.2.2.2.2.2.2.1.2.1.toNat (0 : Int)
      (lsGraphDo_1 N N (o26.1, o26.2.1, Int.ofNat o26.2.2.1.toNat, (0 : Int), (0 : Int), o26.2.2.2.2.1, o26.2.2.2.2.2.1, o26.2.2.2.2.2.2.1, ([] : (List Int)), y27, ())).bind fun o29 =>
      let y30 := [(o29.2.2.2.2.2.2.1, o29.2.2.2.2.2.2.2.1, ())]
      bif decide (o29.2.2.2.1.length + y30.length ≤ lim) then
      let y31 := w64 (((o29.2.2.2.1 ++ y30).length : Int) - (1 : Int))
      bif decide ((o29.2.2.2.2.1.getD o29.2.1.toNat ([] : (List Int))).length + [y31].length ≤ lim) then
      let y32 := (o29.2.2.2.2.1.getD o29.2.1.toNat ([] : (List Int))) ++ [y31]
      bif decide (0 ≤ o29.1) then
      bif decide (o29.1.toNat < o29.2.2.2.2.1.length) then
      bif decide (o29.2.1.toNat = o29.1.toNat) then
      some (o29.2.2.1, o29.2.2.2.1 ++ y30, o29.2.2.2.2.1.set o29.1.toNat y32, o29.2.2.2.2.2.1, ())
      else none
      else none
      else none
      else none
      else none
      else none
      else none
     else
     bif o26.2.1.1 == (2 : Int) then
      bif decide (0 ≤ o26.2.1.2.1) then
      bif decide (o26.2.1.2.1.toNat < (o26.2.2.2.2.2.1.getD o26.2.2.1.toNat ([] : (List Int))).length) then
      let y33 := (o26.2.2.2.2.2.1.getD o26.2.2.1.toNat ([] : (List Int))).getD o26.2.1.2.1.toNat (0 : Int)
      bif decide (0 ≤ y33) then
      bif decide (y33.toNat < o26.2.2.2.2.1.length) then
      bif decide (0 ≤ o26.2.1.2.2.2.2.1) then
      bif decide (o26.2.1.2.2.2.2.1.toNat < ((o26.2.2.2.2.1.getD y33.toNat (([] : (List Int)), ([] : (List Int)), ())).1).length) then
      let y34 := ((o26.2.2.2.2.1.getD y33.toNat (([] : (List Int)), ([] : (List Int)), ())).1).getD o26.2.1.2.2.2.2.1.toNat (0 : Int)
      bif decide ((o26.2.2.2.2.2.1.getD o26.2.2.1.toNat ([] : (List Int))).length + [y34].length ≤ lim) then
      let y35 := (o26.2.2.2.2.2.1.getD o26.2.2.1.toNat ([] : (List Int))) ++ [y34]
      bif decide (0 ≤ o26.1) then
      bif decide (o26.1.toNat < o26.2.2.2.2.2.1.length) then
      bif decide (o26.2.2.1.toNat = o26.1.toNat) then
      some ((0 : Int), o26.2.2.2.2.1, o26.2.2.2.2.2.1.set o26.1.toNat y35, o26.2.2.2.2.2.2.1, ())
      else none
      else none
      else none
      else none
      else none
      else none
      else none
      else none
      else none
      else none
     else
     bif o26.2.1.1 == (3 : Int) then
      bif decide (0 ≤ o26.2.1.2.1) then
      bif decide (o26.2.1.2.1.toNat < (o26.2.2.2.2.2.1.getD o26.2.2.1.toNat ([] : (List Int))).length) then
      let y36 := (o26.2.2.2.2.2.1.getD o26.2.2.1.toNat ([] : (List Int))).getD o26.2.1.2.1.toNat (0 : Int)
      bif decide (0 ≤ y36) then
      bif decide (y36.toNat < o26.2.2.2.2.1.length) then
      bif decide (0 ≤ o26.2.1.2.2.1) then
      bif decide (o26.2.1.2.2.1.toNat < (o26.2.2.2.2.2.1.getD o26.2.2.1.toNat ([] : (List Int))).length) then
      let y37 := (o26.2.2.2.2.2.1.getD o26.2.2.1.toNat ([] : (List Int))).getD o26.2.1.2.2.1.toNat (0 : Int)
      bif decide (0 ≤ o26.2.1.2.2.2.2.1) then
      bif decide (o26.2.1.2.2.2.2.1.toNat < ((o26.2.2.2.2.1.getD y36.toNat (([] : (List Int)), ([] : (List Int)), ())).1).length) then
      let y38 := o26.2.2.2.2.1.set y36.toNat (((o26.2.2.2.2.1.getD y36.toNat (([] : (List Int)), ([] : (List Int)), ())).1).set o26.2.1.2.2.2.2.1.toNat y37, (o26.2.2.2.2.1.getD y36.toNat (([] : (List Int)), ([] : (List Int)), ())).2)
      some ((0 : Int), y38, o26.2.2.2.2.2.1, o26.2.2.2.2.2.2.1, ())
      else none
      else none
      else none
      else none
      else none
      else none
      else none
      else none
     else
     bif o26.2.1.1 == (4 : Int) then
      bif decide (0 ≤ o26.2.1.2.1) then
      bif decide (o26.2.1.2.1.toNat < (o26.2.2.2.2.2.1.getD o26.2.2.1.toNat ([] : (List Int))).length) then
      let y39 := (o26.2.2.2.2.2.1.getD o26.2.2.1.toNat ([] : (List Int))).getD o26.2.1.2.1.toNat (0 : Int)
      bif decide (0 ≤ y39) then
      bif decide (y39.toNat < o26.2.2.2.2.1.length) then
      bif decide (0 ≤ o26.2.1.2.2.2.2.1) then
      bif decide (o26.2.1.2.2.2.2.1.toNat < (((o26.2.2.2.2.1.getD y39.toNat (([] : (List Int)), ([] : (List Int)), ())).2).1).length) then
      let y40 := o26.2.2.2.2.1.set y39.toNat ((o26.2.2.2.2.1.getD y39.toNat (([] : (List Int)), ([] : (List Int)), ())).1, (((o26.2.2.2.2.1.getD y39.toNat (([] : (List Int)), ([] : (List Int)), ())).2).1).set o26.2.1.2.2.2.2.1.toNat o26.2.1.2.2.2.2.2.1, ((o26.2.2.2.2.1.getD y39.toNat (([] : (List Int)), ([] : (List Int)), ())).2).2)
      some ((0 : Int), y40, o26.2.2.2.2.2.1, o26.2.2.2.2.2.2.1, ())
      else none
      else none
      else none
      else none
      else none
      else none
     else
     bif o26.2.1.1 == (5 : Int) then
      bif decide (0 ≤ o26.2.1.2.1) then
      bif decide (o26.2.1.2.1.toNat < (o26.2.2.2.2.2.1.getD o26.2.2.1.toNat ([] : (List Int))).length) then
      let y41 := (o26.2.2.2.2.2.1.getD o26.2.2.1.toNat ([] : (List Int))).getD o26.2.1.2.1.toNat (0 : Int)
      bif decide (0 ≤ y41) then
      bif decide (y41.toNat < o26.2.2.2.2.1.length) then
      bif decide (0 ≤ o26.2.1.2.2.2.2.1) then
      bif decide (o26.2.1.2.2.2.2.1.toNat < (((o26.2.2.2.2.1.getD y41.toNat (([] : (List Int)), ([] : (List Int)), ())).2).1).length) then
      let y42 := (((o26.2.2.2.2.1.getD y41.toNat (([] : (List Int)), ([] : (List Int)), ())).2).1).getD o26.2.1.2.2.2.2.1.toNat (0 : Int)
      some (y42, o26.2.2.2.2.1, o26.2.2.2.2.2.1, o26.2.2.2.2.2.2.1, ())
      else none
      else none
      else none
      else none
      else none
      else none
     else
     bif o26.2.1.1 == (6 : Int) then
      bif decide (0 ≤ o26.2.1.2.1) then
      bif decide (o26.2.1.2.1.toNat < (o26.2.2.2.2.2.1.getD o26.2.2.1.toNat ([] : (List Int))).length) then
      let y43 := (o26.2.2.2.2.2.1.getD o26.2.2.1.toNat ([] : (List Int))).getD o26.2.1.2.1.toNat (0 : Int)
      bif decide (0 ≤ o26.2.1.2.2.1) then
      bif decide (o26.2.1.2.2.1.toNat < (o26.2.2.2.2.2.1.getD o26.2.2.1.toNat ([] : (List Int))).length) then
      let y44 := (o26.2.2.2.2.2.1.getD o26.2.2.1.toNat ([] : (List Int))).getD o26.2.1.2.2.1.toNat (0 : Int)
      (Fsl5One N (y43 == y44, ())).bind fun r45 =>
      some (r45.1, o26.2.2.2.2.1, o26.2.2.2.2.2.1, o26.2.2.2.2.2.2.1, ())
      else none
      else none
      else none
      else none
     else
     bif o26.2.1.1 == (7 : Int) then
      bif decide (0 ≤ o26.2.1.2.1) then
      bif decide (o26.2.1.2.1.toNat < (o26.2.2.2.2.2.1.getD o26.2.2.1.toNat ([] : (List Int))).length) then
      let y46 := (o26.2.2.2.2.2.1.getD o26.2.2.1.toNat ([] : (List Int))).getD o26.2.1.2.1.toNat (0 : Int)
      bif decide (0 ≤ y46) then
      bif decide (y46.toNat < o26.2.2.2.2.1.length) then
      bif decide (0 ≤ o26.2.1.2.2.2.2.1) then
      bif decide (o26.2.1.2.2.2.2.1.toNat < ((o26.2.2.2.2.1.getD y46.toNat (([] : (List Int)), ([] : (List Int)), ())).1).length) then
      let y47 := ((o26.2.2.2.2.1.getD y46.toNat (([] : (List Int)), ([] : (List Int)), ())).1).getD o26.2.1.2.2.2.2.1.toNat (0 : Int)
      bif decide (0 ≤ o26.2.1.2.2.1) then
      bif decide (o26.2.1.2.2.1.toNat < (o26.2.2.2.2.2.1.getD o26.2.2.1.toNat ([] : (List Int))).length) then
      let y48 := (o26.2.2.2.2.2.1.getD o26.2.2.1.toNat ([] : (List Int))).getD o26.2.1.2.2.1.toNat (0 : Int)
      bif y47 == y48 then
       bif decide (0 ≤ o26.2.1.2.1) then
       bif decide (o26.2.1.2.1.toNat < (o26.2.2.2.2.2.1.getD o26.2.2.1.toNat ([] : (List Int))).length) then
       let y49 := (o26.2.2.2.2.2.1.getD o26.2.2.1.toNat ([] : (List Int))).getD o26.2.1.2.1.toNat (0 : Int)
       bif decide (0 ≤ y49) then
       bif decide (y49.toNat < o26.2.2.2.2.1.length) then
       bif decide (0 ≤ o26.2.1.2.2.2.1) then
       bif decide (o26.2.1.2.2.2.1.toNat < (o26.2.2.2.2.2.1.getD o26.2.2.1.toNat ([] : (List Int))).length) then
       let y50 := (o26.2.2.2.2.2.1.getD o26.2.2.1.toNat ([] : (List Int))).getD o26.2.1.2.2.2.1.toNat (0 : Int)
       bif decide (0 ≤ o26.2.1.2.2.2.2.1) then
       bif decide (o26.2.1.2.2.2.2.1.toNat < ((o26.2.2.2.2.1.getD y49.toNat (([] : (List Int)), ([] : (List Int)), ())).1).length) then
       let y51 := o26.2.2.2.2.1.set y49.toNat (((o26.2.2.2.2.1.getD y49.toNat (([] : (List Int)), ([] : (List Int)), ())).1).set o26.2.1.2.2.2.2.1.toNat y50, (o26.2.2.2.2.1.getD y49.toNat (([] : (List Int)), ([] : (List Int)), ())).2)
       some ((1 : Int), y51, o26.2.2.2.2.2.1, o26.2.2.2.2.2.2.1, ())
       else none
       else none
       else none
       else none
       else none
       else none
       else none
       else none
      else
      some ((0 : Int), o26.2.2.2.2.1, o26.2.2.2.2.2.1, o26.2.2.2.2.2.2.1, ())
      else none
      else none
      else none
      else none
      else none
      else none
      else none
      else none
     else
     bif o26.2.1.1 == (8 : Int) then
      let y52 := ((o26.2.2.2.2.2.1.getD o26.2.2.1.toNat ([] : (List Int))).length : Int)
      bif decide (0 ≤ (w64 (y52 - (1 : Int)))) then
      bif decide ((w64 (y52 - (1 : Int))) ≤ ((o26.2.2.2.2.2.1.getD o26.2.2.1.toNat ([] : (List Int))).length : Int)) then
      bif decide (0 ≤ (0 : Int)) then
      bif decide ((0 : Int) ≤ (w64 (y52 - (1 : Int)))) then
      bif decide (0 ≤ o26.1) then
      bif decide (o26.1.toNat < o26.2.2.2.2.2.1.length) then
      bif decide (o26.2.2.1.toNat = o26.1.toNat) then
      let y53 := o26.2.2.2.2.2.1.set o26.1.toNat ((o26.2.2.2.2.2.1.getD o26.1.toNat ([] : (List Int))).take ((w64 (y52 - (1 : Int))).toNat))
      some ((0 : Int), o26.2.2.2.2.1, y53, o26.2.2.2.2.2.2.1, ())
      else none
      else none
      else none
      else none
      else none
      else none
      else none
     else
     bif o26.2.1.1 == (9 : Int) then
      bif decide (0 ≤ o26.2.1.2.1) then
      bif decide (o26.2.1.2.1.toNat < (o26.2.2.2.2.2.1.getD o26.2.2.1.toNat ([] : (List Int))).length) then
      let y54 := (o26.2.2.2.2.2.1.getD o26.2.2.1.toNat ([] : (List Int))).getD o26.2.1.2.1.toNat (0 : Int)
      bif decide ((o26.2.2.2.2.2.1.getD o26.2.2.1.toNat ([] : (List Int))).length + [y54].length ≤ lim) then
      let y55 := (o26.2.2.2.2.2.1.getD o26.2.2.1.toNat ([] : (List Int))) ++ [y54]
      bif decide (0 ≤ o26.1) then
      bif decide (o26.1.toNat < o26.2.2.2.2.2.1.length) then
      bif decide (o26.2.2.1.toNat = o26.1.toNat) then
      some ((0 : Int), o26.2.2.2.2.1, o26.2.2.2.2.2.1.set o26.1.toNat y55, o26.2.2.2.2.2.2.1, ())
      else none
      else none
      else none
      else none
      else none
      else none
     else
     some ((0 : Int), o26.2.2.2.2.1, o26.2.2.2.2.2.1, o26.2.2.2.2.2.2.1, ())) fun o56 =>
    some (o56.1, (0 : Int), o56.2.1, o56.2.2.1, o56.2.2.2.1, ())) (fun o57 =>
    some (o57.1, o57.2.1, o57.2.2.1, o57.2.2.2.1, o57.2.2.2.2.1, ())) o25
   else none
   else none) (fun o58 =>
   some (o58.1, o58.2.1, o58.2.2.1, o58.2.2.2.1, o58.2.2.2.2.1, ())) o8
noncomputable def consGraphDo (N : Nat) : Con := { f := 14, din := dinsGraphDo, outs := outsGraphDo, F := FsGraphDo N }
noncomputable def XsGraphDo (N : Nat) : Ctx := { E := EsGraphDo N, H := HsGraphDo, lp := [(1, { hd := dsGraphDo_1, outs := osGraphDo_1, run := fun v => lsGraphDo_1 N N v })], jn := [(3, jsGraphDo_3), (8, jsGraphDo_8), (10, jsGraphDo_10), (15, jsGraphDo_15), (45, jsGraphDo_45)] }
noncomputable def bsGraphDo_1 : Code := loopBody (codeOf Try.f14) 0
theorem FsGraphDo_eq (N : Nat) (x : (((List ((List Int) × ((List Int) × Unit))) × ((List (List Int)) × ((List Int) × Unit))) × (Int × ((Int × (Int × (Int × (Int × (Int × (Int × ((Int × (Int × Unit)) × Unit))))))) × Unit)))) : evFn (XsGraphDo N) Try.f14 dinsGraphDo outsGraphDo x = FsGraphDo N x := by kernel_rfl
theorem lsGraphDo_1_eq (N n : Nat) (v : (Int × ((Int × (Int × (Int × (Int × (Int × (Int × ((Int × (Int × Unit)) × Unit))))))) × (Int × (Int × (Int × ((List ((List Int) × ((List Int) × Unit))) × ((List (List Int)) × ((List Int) × ((List Int) × ((List Int) × Unit))))))))))) : lsGraphDo_1 N (n + 1) v = ev (XsGraphDo N) bsGraphDo_1 (roundK dsGraphDo_1 osGraphDo_1 (lsGraphDo_1 N n)) (dsGraphDo_1.mk' v) := by kernel_rfl
theorem cxsGraphDo (N : Nat) : CtxOk Try.prog (XsGraphDo N) := ⟨⟨TE_ok, List.forall_mem_cons.2 ⟨specsGraphOk N, List.forall_mem_cons.2 ⟨specsOpOk N, List.forall_mem_cons.2 ⟨specsl5Copy N, List.forall_mem_cons.2 ⟨specsl5Begin N, List.forall_mem_cons.2 ⟨specsl5Fields N, List.forall_mem_cons.2 ⟨specsl5Field N, List.forall_mem_cons.2 ⟨specsl5Pins N, List.forall_mem_cons.2 ⟨specsl5One N, fun k hk => absurd hk List.not_mem_nil⟩⟩⟩⟩⟩⟩⟩⟩⟩, mixed⟩
theorem lpsGraphDo_1 (N : Nat) : LoopOk Try.prog { hd := dsGraphDo_1, outs := osGraphDo_1, run := fun v => lsGraphDo_1 N N v } bsGraphDo_1 :=
  loop_fuel (d := dsGraphDo_1) (os := osGraphDo_1) (cxsGraphDo N) (loops_at (ids := []) (by kernel_rfl) (trivial)) (lsGraphDo_1 N) (fun _ => rfl) (fun n v => lsGraphDo_1_eq N n v) (fun _ => N)
theorem specsGraphDo (N : Nat) : Spec Try.prog (consGraphDo N) :=
  Spec.of_eq (fn_spec (cxsGraphDo N) (f := 14) (fn := Try.f14) (c := codeOf Try.f14) (by kernel_rfl) (by kernel_rfl) (by kernel_rfl) (loops_at (ids := [1]) (by kernel_rfl) ⟨lp_of (lpsGraphDo_1 N), trivial⟩) (by kernel_rfl)) (fun x r h => (FsGraphDo_eq N x).trans h)

/-! ### 39: spec.l20Graph -/

noncomputable def dinsl20Graph : Desc := { n := 1, regs := [.one (.lit (.ptr 0 0))], bx := [(0, .var [.val (.sl (.int .u8)), .val (.int .i64)])], pins := [] }
noncomputable def outsl20Graph : Outs := [(.ret, { n := 1, regs := [.agg [.lit (.row 1012993), .lit (.row 1012994), .lit (.row 1013123)]], bx := [(1012993, .row (.pair (.sl (.int .i64)) (.pair (.sl (.int .i64)) .unit))), (1012994, .row (.sl (.int .i64))), (1013123, .row (.int .i64)), (0, .var [.val (.sl (.int .u8)), .val (.int .i64)])], pins := [.one (.lit (.ptr 0 0))] })]
noncomputable def Hsl20Graph : Hints := [(1, [(3, { con := 1 }), (5, { nl := [(2, (.int .i64))] })]),
  (7, [(9, { con := 2 }), (10, { con := 3 })]),
  (14, [(6, { con := 4 })]),
  (16, [(2, { dp := true }), (3, { dp := true })]),
  (19, [(3, { dp := true }), (4, { dp := true })])]
noncomputable def Esl20Graph (N : Nat) : Env := { te := TE, cs := [consl1Rd_pick N, consGraphNew N, consl20Op N, consGraphDo N, consl5Ints N] }
noncomputable def dsl20Graph_0 : Desc := { n := 104, regs := [.one (.lit (.ptr 0 0)), u, .one (.lit (.ptr 1000000 0)), .one (.lit (.ptr 1013248 0)), u, .one (.val (.int .i64)), .one (.val (.int .i64))], bx := [(0, .var [.val (.sl (.int .u8)), .val (.int .i64)]), (1000000, .var [.lit .nil, .lit .nil, .lit .nil]), (1013248, .var [.lit (.row 1012993), .lit (.row 1012994), .lit (.row 1013123)]), (1012993, .row (.pair (.sl (.int .i64)) (.pair (.sl (.int .i64)) .unit))), (1012994, .row (.sl (.int .i64))), (1013123, .row (.int .i64))], pins := [.one (.lit (.ptr 0 0))] }
noncomputable def osl20Graph_0 : Outs := [(.exit 0, { n := 104, regs := [.one (.lit (.ptr 0 0)), u, .one (.lit (.ptr 1000000 0)), .one (.lit (.ptr 1013248 0))], bx := [(0, .var [.val (.sl (.int .u8)), .val (.int .i64)]), (1000000, .var [.lit .nil, .lit .nil, .lit .nil]), (1013248, .var [.lit (.row 1012993), .lit (.row 1012994), .lit (.row 1013123)]), (1012993, .row (.pair (.sl (.int .i64)) (.pair (.sl (.int .i64)) .unit))), (1012994, .row (.sl (.int .i64))), (1013123, .row (.int .i64))], pins := [.one (.lit (.ptr 0 0))] })]
noncomputable def dsl20Graph_3 : Desc := { n := 104, regs := [.one (.lit (.ptr 0 0)), u, .one (.lit (.ptr 1000000 0)), .one (.lit (.ptr 1013248 0))], bx := [(0, .var [.val (.sl (.int .u8)), .val (.int .i64)]), (1000000, .var [.lit .nil, .lit .nil, .lit .nil]), (1013248, .var [.lit (.row 1012993), .lit (.row 1012994), .lit (.row 1013123)]), (1012993, .row (.pair (.sl (.int .i64)) (.pair (.sl (.int .i64)) .unit))), (1012994, .row (.sl (.int .i64))), (1013123, .row (.int .i64))], pins := [.one (.lit (.ptr 0 0))] }
noncomputable def osl20Graph_3 : Outs := [(.exit 3, { n := 104, regs := [u, u, .one (.lit (.ptr 1000000 0)), .one (.lit (.ptr 1013248 0))], bx := [(1000000, .var [.lit .nil, .lit .nil, .lit .nil]), (1013248, .var [.lit (.row 1012993), .lit (.row 1012994), .lit (.row 1013123)]), (1012993, .row (.pair (.sl (.int .i64)) (.pair (.sl (.int .i64)) .unit))), (1012994, .row (.sl (.int .i64))), (1013123, .row (.int .i64)), (0, .var [.val (.sl (.int .u8)), .val (.int .i64)])], pins := [.one (.lit (.ptr 0 0))] })]
noncomputable def lsl20Graph_0 (N : Nat) : Nat → (Int × (Int × ((List Int) × (Int × ((List ((List Int) × ((List Int) × Unit))) × ((List (List Int)) × ((List Int) × Unit))))))) → Option ((List Int) × (Int × ((List ((List Int) × ((List Int) × Unit))) × ((List (List Int)) × ((List Int) × Unit)))))
  | 0, _ => none
  | n + 1, v =>
    bif decide (v.2.1 < v.1) then
     (Fsl1Rd_pick N ((v.2.2.2.2.2.1.length : Int), v.2.2.1, v.2.2.2.1, ())).bind fun r4 =>
     bif decide (0 ≤ r4.1) then
     bif decide (r4.1.toNat < v.2.2.2.2.2.1.length) then
     let y5 := ((v.2.2.2.2.2.1.getD r4.1.toNat ([] : (List Int))).length : Int)
     (Fsl20Op N (y5, r4.2.1, r4.2.2.1, ())).bind fun r6 =>
     (FsGraphDo N ((v.2.2.2.2.1, v.2.2.2.2.2.1, v.2.2.2.2.2.2.1, ()), r4.1, (r6.1, r6.2.1, r6.2.2.1, r6.2.2.2.1, r6.2.2.2.2.1, r6.2.2.2.2.2.1, (r6.2.2.2.2.2.2.1, r6.2.2.2.2.2.2.2.1, ()), ()), ())).bind fun r7 =>
     bif r7.2.1 != (1 : Int) then
      lsl20Graph_0 N n (v.1, w64 (v.2.1 + (1 : Int)), r6.2.2.2.2.2.2.2.2.1, r6.2.2.2.2.2.2.2.2.2.1, r7.2.2.1, r7.2.2.2.1, r7.2.2.2.2.1, ())
     else
     lsl20Graph_0 N n (v.1, w64 (v.2.1 + (1 : Int)), r6.2.2.2.2.2.2.2.2.1, r6.2.2.2.2.2.2.2.2.2.1, v.2.2.2.2.1, v.2.2.2.2.2.1, v.2.2.2.2.2.2.1, ())
     else none
     else none
    else
    some (v.2.2.1, v.2.2.2.1, v.2.2.2.2.1, v.2.2.2.2.2.1, v.2.2.2.2.2.2.1, ())
noncomputable def lsl20Graph_3 (N : Nat) : Nat → ((List Int) × (Int × ((List ((List Int) × ((List Int) × Unit))) × ((List (List Int)) × ((List Int) × Unit))))) → Option ((List ((List Int) × ((List Int) × Unit))) × ((List (List Int)) × ((List Int) × ((List Int) × (Int × Unit)))))
  | 0, _ => none
  | n + 1, v =>
    (Fsl1Rd_pick N ((2 : Int), v.1, v.2.1, ())).bind fun r18 =>
    let y19 := decide ((v.2.2.1.length : Int) < (w64 ((200 : Int) + r18.1)))
    bif y19 then
     let y20 := [(([] : (List Int)), ([] : (List Int)), ())]
     bif decide (v.2.2.1.length + y20.length ≤ lim) then
     lsl20Graph_3 N n (r18.2.1, r18.2.2.1, v.2.2.1 ++ y20, v.2.2.2.1, v.2.2.2.2.1, ())
     else none
    else
    some (v.2.2.1, v.2.2.2.1, v.2.2.2.2.1, r18.2.1, r18.2.2.1, ())
noncomputable def Fsl20Graph (N : Nat) (x : ((List Int) × (Int × Unit))) : Option ((List ((List Int) × ((List Int) × Unit))) × ((List (List Int)) × ((List Int) × ((List Int) × (Int × Unit))))) :=
  (Fsl1Rd_pick N ((3 : Int), x.1, x.2.1, ())).bind fun r1 =>
  (FsGraphNew N (w64 ((1 : Int) + r1.1), ())).bind fun r2 =>
  (Fsl1Rd_pick N ((30 : Int), r1.2.1, r1.2.2.1, ())).bind fun r3 =>
  (lsl20Graph_0 N N (r3.1, (0 : Int), r3.2.1, r3.2.2.1, r2.2.1, r2.2.2.1, ([] : (List Int)), ())).bind fun o8 =>
  (Fsl1Rd_pick N ((30 : Int), o8.1, o8.2.1, ())).bind fun r9 =>
  bif r9.1 == (0 : Int) then
   (Fsl1Rd_pick N ((3 : Int), r9.2.1, r9.2.2.1, ())).bind fun r10 =>
   let y11 := [w64 (r10.1 - (2 : Int)), (o8.2.2.1.length : Int)]
   bif decide (0 ≤ (0 : Int)) then
   bif decide ((0 : Int).toNat < o8.2.2.1.length) then
   let y12 := o8.2.2.1.set ((0 : Int).toNat) (y11, (o8.2.2.1.getD ((0 : Int).toNat) (([] : (List Int)), ([] : (List Int)), ())).2)
   some (y12, o8.2.2.2.1, o8.2.2.2.2.1, r10.2.1, r10.2.2.1, ())
   else none
   else none
  else
  bif r9.1 == (1 : Int) then
   bif decide (0 ≤ (0 : Int)) then
   bif decide ((0 : Int).toNat < o8.2.2.2.1.length) then
   (Fsl5Ints N (o8.2.2.2.1.getD ((0 : Int).toNat) ([] : (List Int)), ())).bind fun r13 =>
   (Fsl1Rd_pick N ((2 : Int), r9.2.1, r9.2.2.1, ())).bind fun r14 =>
   let y15 := w64 ((o8.2.2.1.length : Int) - r14.1)
   bif decide (r13.1.length + [y15].length ≤ lim) then
   bif decide (0 ≤ (0 : Int)) then
   bif decide ((0 : Int).toNat < o8.2.2.2.1.length) then
   let y16 := o8.2.2.2.1.set ((0 : Int).toNat) (r13.1 ++ [y15])
   some (o8.2.2.1, y16, o8.2.2.2.2.1, r14.2.1, r14.2.2.1, ())
   else none
   else none
   else none
   else none
   else none
  else
  bif r9.1 == (2 : Int) then
   let y17 := [([] : (List Int)), ([] : (List Int))]
   bif decide (o8.2.2.2.1.length + y17.length ≤ lim) then
   some (o8.2.2.1, o8.2.2.2.1 ++ y17, o8.2.2.2.2.1, r9.2.1, r9.2.2.1, ())
   else none
  else
  bif r9.1 == (3 : Int) then
   (lsl20Graph_3 N N (r9.2.1, r9.2.2.1, o8.2.2.1, o8.2.2.2.1, o8.2.2.2.2.1, ())).bind fun o21 =>
   some (o21.1, o21.2.1, o21.2.2.1, o21.2.2.2.1, o21.2.2.2.2.1, ())
  else
  some (o8.2.2.1, o8.2.2.2.1, o8.2.2.2.2.1, r9.2.1, r9.2.2.1, ())
noncomputable def consl20Graph (N : Nat) : Con := { f := 39, din := dinsl20Graph, outs := outsl20Graph, F := Fsl20Graph N }
noncomputable def Xsl20Graph (N : Nat) : Ctx := { E := Esl20Graph N, H := Hsl20Graph, lp := [(0, { hd := dsl20Graph_0, outs := osl20Graph_0, run := fun v => lsl20Graph_0 N N v }), (3, { hd := dsl20Graph_3, outs := osl20Graph_3, run := fun v => lsl20Graph_3 N N v })], jn := [] }
noncomputable def bsl20Graph_3 : Code := loopBody (codeOf Try.f39) 1
noncomputable def bsl20Graph_0 : Code := loopBody (codeOf Try.f39) 0
theorem Fsl20Graph_eq (N : Nat) (x : ((List Int) × (Int × Unit))) : evFn (Xsl20Graph N) Try.f39 dinsl20Graph outsl20Graph x = Fsl20Graph N x := by kernel_rfl
theorem lsl20Graph_0_eq (N n : Nat) (v : (Int × (Int × ((List Int) × (Int × ((List ((List Int) × ((List Int) × Unit))) × ((List (List Int)) × ((List Int) × Unit)))))))) : lsl20Graph_0 N (n + 1) v = ev (Xsl20Graph N) bsl20Graph_0 (roundK dsl20Graph_0 osl20Graph_0 (lsl20Graph_0 N n)) (dsl20Graph_0.mk' v) := by kernel_rfl
theorem lsl20Graph_3_eq (N n : Nat) (v : ((List Int) × (Int × ((List ((List Int) × ((List Int) × Unit))) × ((List (List Int)) × ((List Int) × Unit)))))) : lsl20Graph_3 N (n + 1) v = ev (Xsl20Graph N) bsl20Graph_3 (roundK dsl20Graph_3 osl20Graph_3 (lsl20Graph_3 N n)) (dsl20Graph_3.mk' v) := by kernel_rfl
theorem cxsl20Graph (N : Nat) : CtxOk Try.prog (Xsl20Graph N) := ⟨⟨TE_ok, List.forall_mem_cons.2 ⟨specsl1Rd_pick N, List.forall_mem_cons.2 ⟨specsGraphNew N, List.forall_mem_cons.2 ⟨specsl20Op N, List.forall_mem_cons.2 ⟨specsGraphDo N, List.forall_mem_cons.2 ⟨specsl5Ints N, fun k hk => absurd hk List.not_mem_nil⟩⟩⟩⟩⟩⟩, mixed⟩
theorem lpsl20Graph_0 (N : Nat) : LoopOk Try.prog { hd := dsl20Graph_0, outs := osl20Graph_0, run := fun v => lsl20Graph_0 N N v } bsl20Graph_0 :=
  loop_fuel (d := dsl20Graph_0) (os := osl20Graph_0) (cxsl20Graph N) (loops_at (ids := []) (by kernel_rfl) (trivial)) (lsl20Graph_0 N) (fun _ => rfl) (fun n v => lsl20Graph_0_eq N n v) (fun _ => N)
theorem lpsl20Graph_3 (N : Nat) : LoopOk Try.prog { hd := dsl20Graph_3, outs := osl20Graph_3, run := fun v => lsl20Graph_3 N N v } bsl20Graph_3 :=
  loop_fuel (d := dsl20Graph_3) (os := osl20Graph_3) (cxsl20Graph N) (loops_at (ids := []) (by kernel_rfl) (trivial)) (lsl20Graph_3 N) (fun _ => rfl) (fun n v => lsl20Graph_3_eq N n v) (fun _ => N)
theorem specsl20Graph (N : Nat) : Spec Try.prog (consl20Graph N) :=
  Spec.of_eq (fn_spec (cxsl20Graph N) (f := 39) (fn := Try.f39) (c := codeOf Try.f39) (by kernel_rfl) (by kernel_rfl) (by kernel_rfl) (loops_at (ids := [0, 3]) (by kernel_rfl) ⟨lp_of (lpsl20Graph_0 N), ⟨lp_of (lpsl20Graph_3 N), trivial⟩⟩) (by kernel_rfl)) (fun x r h => (Fsl20Graph_eq N x).trans h)

/-! ### 12: spec.DrawGraphDo -/

noncomputable def dinsDrawGraphDo : Desc := { n := 1, regs := [.one (.val (.sl (.int .u8)))], bx := [], pins := [] }
noncomputable def outsDrawGraphDo : Outs := [(.ret, { n := 3, regs := [.agg [.lit (.row 1025665), .lit (.row 1025666), .lit (.row 1025667)], .one (.val (.int .i64)), .agg [.val (.int .i64), .val (.int .i64), .val (.int .i64), .val (.int .i64), .val (.int .i64), .val (.int .i64), .val (.int .i64), .val (.int .i64)]], bx := [(1025665, .row (.pair (.sl (.int .i64)) (.pair (.sl (.int .i64)) .unit))), (1025666, .row (.sl (.int .i64))), (1025667, .row (.int .i64))], pins := [] })]
noncomputable def HsDrawGraphDo : Hints := [(2, [(1, { con := 1, sg := [(0, 1012865)] })]),
  (3, [(4, { con := 2, sg := [(0, 1012865)] })]),
  (4, [(7, { con := 3, sg := [(0, 1012865)] })]),
  (5, [(1, { con := 2, sg := [(0, 1012865)] })]),
  (6, [(5, { con := 2, sg := [(0, 1012865)] })])]
noncomputable def EsDrawGraphDo (N : Nat) : Env := { te := TE, cs := [consl1Open_a N, consl20Graph N, consl1Rd_pick N, consl20Op N] }
noncomputable def jsDrawGraphDo_7 : Outs := [(.normal, { n := 40, regs := [u, u, .one (.lit (.ptr 1000000 0)), u, .one (.lit (.ptr 1000128 0)), u, .one (.lit (.ptr 1025728 0)), .one (.val (.int .i64)), .one (.lit (.ptr 1051712 0))], bx := [(1000000, .var [.lit .nil, .lit .nil, .lit .nil]), (1000128, .var [.val (.int .i64), .val (.int .i64), .val (.int .i64), .val (.int .i64), .val (.int .i64), .val (.int .i64), .val (.int .i64), .val (.int .i64)]), (1025728, .var [.lit (.row 1025665), .lit (.row 1025666), .lit (.row 1025667)]), (1025665, .row (.pair (.sl (.int .i64)) (.pair (.sl (.int .i64)) .unit))), (1025666, .row (.sl (.int .i64))), (1025667, .row (.int .i64)), (1051712, .var [.val (.int .i64), .val (.int .i64), .val (.int .i64), .val (.int .i64), .val (.int .i64), .val (.int .i64), .val (.int .i64), .val (.int .i64)])], pins := [] })]
noncomputable def FsDrawGraphDo (N : Nat) (x : ((List Int) × Unit)) : Option (Int × (Int × (Int × (Int × (Int × (Int × (Int × (Int × (Int × ((List ((List Int) × ((List Int) × Unit))) × ((List (List Int)) × ((List Int) × Unit)))))))))))) :=
  (Fsl1Open_a N (x.1, ())).bind fun r1 =>
  (Fsl20Graph N (r1.1, r1.2.1, ())).bind fun r2 =>
  (Fsl1Rd_pick N ((r2.2.1.length : Int), r2.2.2.2.1, r2.2.2.2.2.1, ())).bind fun r3 =>
  bif decide (0 ≤ r3.1) then
  bif decide (r3.1.toNat < r2.2.1.length) then
  let y4 := ((r2.2.1.getD r3.1.toNat ([] : (List Int))).length : Int)
  (Fsl20Op N (y4, r3.2.1, r3.2.2.1, ())).bind fun r5 =>
  Option.bind (
   (Fsl1Rd_pick N ((20 : Int), r5.2.2.2.2.2.2.2.2.1, r5.2.2.2.2.2.2.2.2.2.1, ())).bind fun r6 =>
   bif r6.1 == (0 : Int) then
    (Fsl1Rd_pick N ((2 : Int), r6.2.1, r6.2.2.1, ())).bind fun r7 =>
    bif decide (0 ≤ r7.1) then
    bif decide (r7.1.toNat < [(-1 : Int), (r2.2.1.length : Int)].length) then
    let y8 := [(-1 : Int), (r2.2.1.length : Int)].getD r7.1.toNat (0 : Int)
    some (y8, (0 : Int), (0 : Int), (0 : Int), (0 : Int), (0 : Int), (0 : Int), (0 : Int), (0 : Int), r2.1, r2.2.1, r2.2.2.1, r5.1, r5.2.1, r5.2.2.1, r5.2.2.2.1, r5.2.2.2.2.1, r5.2.2.2.2.2.1, r5.2.2.2.2.2.2.1, r5.2.2.2.2.2.2.2.1, ())
    else none
    else none
   else
   some (r3.1, (0 : Int), (0 : Int), (0 : Int), (0 : Int), (0 : Int), (0 : Int), (0 : Int), (0 : Int), r2.1, r2.2.1, r2.2.2.1, r5.1, r5.2.1, r5.2.2.1, r5.2.2.2.1, r5.2.2.2.2.1, r5.2.2.2.2.2.1, r5.2.2.2.2.2.2.1, r5.2.2.2.2.2.2.2.1, ())) fun o9 =>
  let y10 := o9.2.2.2.2.2.2.2.2.2.2.2.2.2.2.2.2.2.1
  let y11 := o9.2.2.2.2.2.2.2.2.2.2.2.2.2.2.2.2.2.2.1
  let y12 := o9.2.2.2.2.2.2.2.2.2.2.2.2.2.2.2.2.2.2.2.1
  some (o9.1, o9.2.2.2.2.2.2.2.2.2.2.2.2.1, o9.2.2.2.2.2.2.2.2.2.2.2.2.2.1, o9.2.2.2.2.2.2.2.2.2.2.2.2.2.2.1, o9.2.2.2.2.2.2.2.2.2.2.2.2.2.2.2.1, o9.2.2.2.2.2.2.2.2.2.2.2.2.2.2.2.2.1, y10, y11, y12, o9.2.2.2.2.2.2.2.2.2.1, o9.2.2.2.2.2.2.2.2.2.2.1, o9.2.2.2.2.2.2.2.2.2.2.2.1, ())
  else none
  else none
noncomputable def consDrawGraphDo (N : Nat) : Con := { f := 12, din := dinsDrawGraphDo, outs := outsDrawGraphDo, F := FsDrawGraphDo N }
noncomputable def XsDrawGraphDo (N : Nat) : Ctx := { E := EsDrawGraphDo N, H := HsDrawGraphDo, lp := [], jn := [(7, jsDrawGraphDo_7)] }
theorem FsDrawGraphDo_eq (N : Nat) (x : ((List Int) × Unit)) : evFn (XsDrawGraphDo N) Try.f12 dinsDrawGraphDo outsDrawGraphDo x = FsDrawGraphDo N x := by kernel_rfl
theorem cxsDrawGraphDo (N : Nat) : CtxOk Try.prog (XsDrawGraphDo N) := ⟨⟨TE_ok, List.forall_mem_cons.2 ⟨specsl1Open_a N, List.forall_mem_cons.2 ⟨specsl20Graph N, List.forall_mem_cons.2 ⟨specsl1Rd_pick N, List.forall_mem_cons.2 ⟨specsl20Op N, fun k hk => absurd hk List.not_mem_nil⟩⟩⟩⟩⟩, mixed⟩
theorem specsDrawGraphDo (N : Nat) : Spec Try.prog (consDrawGraphDo N) :=
  Spec.of_eq (fn_spec (cxsDrawGraphDo N) (f := 12) (fn := Try.f12) (c := codeOf Try.f12) (by kernel_rfl) (by kernel_rfl) (by kernel_rfl) (loops_at (ids := []) (by kernel_rfl) (trivial)) (by kernel_rfl)) (fun x r h => (FsDrawGraphDo_eq N x).trans h)

/-! ### 106: impl.Graph).leads$1 -/

noncomputable def diniGraph_leads_1 : Desc := { n := 3, regs := [.one (.val (.int .i64)), .one (.fpt (.int .i64)), .one (.fpt (.pair (.sl (.pair (.sl (.int .i64)) (.pair (.sl (.int .i64)) .unit))) (.pair (.sl (.sl (.int .i64))) (.pair (.sl (.int .i64)) .unit))))], bx := [], pins := [] }
noncomputable def outiGraph_leads_1 : Outs := [(.ret, { n := 1, regs := [.one (.val .bool)], bx := [], pins := [] })]
noncomputable def HiGraph_leads_1 : Hints := []
noncomputable def EiGraph_leads_1 (_N : Nat) : Env := { te := TE, cs := [] }
noncomputable def FiGraph_leads_1 (N : Nat) (x : (Int × (Int × (((List ((List Int) × ((List Int) × Unit))) × ((List (List Int)) × ((List Int) × Unit))) × Unit)))) : Option (Bool × Unit) :=
  bif decide (x.1 < x.2.1) then
   some (true, ())
  else
  let y1 := decide (x.1 ≥ (x.2.2.1.1.length : Int))
  some (y1, ())
noncomputable def coniGraph_leads_1 (N : Nat) : Con := { f := 106, din := diniGraph_leads_1, outs := outiGraph_leads_1, F := FiGraph_leads_1 N }
noncomputable def XiGraph_leads_1 (N : Nat) : Ctx := { E := EiGraph_leads_1 N, H := HiGraph_leads_1, lp := [], jn := [] }
theorem FiGraph_leads_1_eq (N : Nat) (x : (Int × (Int × (((List ((List Int) × ((List Int) × Unit))) × ((List (List Int)) × ((List Int) × Unit))) × Unit)))) : evFn (XiGraph_leads_1 N) Try.f106 diniGraph_leads_1 outiGraph_leads_1 x = FiGraph_leads_1 N x := by kernel_rfl
theorem cxiGraph_leads_1 (N : Nat) : CtxOk Try.prog (XiGraph_leads_1 N) := ⟨⟨TE_ok, fun k hk => absurd hk List.not_mem_nil⟩, mixed⟩
theorem speciGraph_leads_1 (N : Nat) : Spec Try.prog (coniGraph_leads_1 N) :=
  Spec.of_eq (fn_spec (cxiGraph_leads_1 N) (f := 106) (fn := Try.f106) (c := codeOf Try.f106) (by kernel_rfl) (by kernel_rfl) (by kernel_rfl) (loops_at (ids := []) (by kernel_rfl) (trivial)) (by kernel_rfl)) (fun x r h => (FiGraph_leads_1_eq N x).trans h)

/-! ### 111: slices.IndexFunc[[]int,int] -/

noncomputable def dinkIndexFunc_Sint_int_iGraph_leads_1 : Desc := { n := 2, regs := [.one (.val (.sl (.int .i64))), .one (.clo 106 [.inr (.int .i64), .inr (.pair (.sl (.pair (.sl (.int .i64)) (.pair (.sl (.int .i64)) .unit))) (.pair (.sl (.sl (.int .i64))) (.pair (.sl (.int .i64)) .unit)))])], bx := [], pins := [] }
noncomputable def outkIndexFunc_Sint_int_iGraph_leads_1 : Outs := [(.ret, { n := 1, regs := [.one (.val (.int .i64))], bx := [], pins := [] })]
noncomputable def HkIndexFunc_Sint_int_iGraph_leads_1 : Hints := []
noncomputable def EkIndexFunc_Sint_int_iGraph_leads_1 (N : Nat) : Env := { te := TE, cs := [coniGraph_leads_1 N] }
noncomputable def dkIndexFunc_Sint_int_iGraph_leads_1_0 : Desc := { n := 19, regs := [.one (.val (.sl (.int .i64))), .one (.clo 106 [.inr (.int .i64), .inr (.pair (.sl (.pair (.sl (.int .i64)) (.pair (.sl (.int .i64)) .unit))) (.pair (.sl (.sl (.int .i64))) (.pair (.sl (.int .i64)) .unit)))]), u, u, u, u, u, .one (.val (.int .i64)), .one (.val (.int .i64))], bx := [], pins := [] }
noncomputable def okIndexFunc_Sint_int_iGraph_leads_1_0 : Outs := [(.exit 0, { n := 19, regs := [], bx := [], pins := [] }), (.ret, { n := 19, regs := [u, u, u, u, .one (.val (.int .i64))], bx := [], pins := [] })]
noncomputable def lkIndexFunc_Sint_int_iGraph_leads_1_0 (N : Nat) : Nat → ((List Int) × (Int × (((List ((List Int) × ((List Int) × Unit))) × ((List (List Int)) × ((List Int) × Unit))) × (Int × (Int × Unit))))) → Option (Unit ⊕ (Int × Unit))
  | 0, _ => none
  | n + 1, v =>
    bif decide (v.2.2.2.2.1 < v.2.2.2.1) then
     bif decide (0 ≤ v.2.2.2.2.1) then
     bif decide (v.2.2.2.2.1.toNat < v.1.length) then
     (FiGraph_leads_1 N (v.1.getD v.2.2.2.2.1.toNat (0 : Int), v.2.1, v.2.2.1, ())).bind fun r1 =>
     bif r1.1 then
      some (.inr ((v.2.2.2.2.1, ())))
     else
     lkIndexFunc_Sint_int_iGraph_leads_1_0 N n (v.1, v.2.1, v.2.2.1, v.2.2.2.1, w64 (v.2.2.2.2.1 + (1 : Int)), ())
     else none
     else none
    else
    some (.inl ())
noncomputable def FkIndexFunc_Sint_int_iGraph_leads_1 (N : Nat) (x : ((List Int) × (Int × (((List ((List Int) × ((List Int) × Unit))) × ((List (List Int)) × ((List Int) × Unit))) × Unit)))) : Option (Int × Unit) :=
  (lkIndexFunc_Sint_int_iGraph_leads_1_0 N N (x.1, x.2.1, x.2.2.1, (x.1.length : Int), (0 : Int), ())).bind fun o2 =>
  Sum.elim (fun o3 =>
   some ((-1 : Int), ())) (fun o4 =>
   some (o4.1, ())) o2
noncomputable def conkIndexFunc_Sint_int_iGraph_leads_1 (N : Nat) : Con := { f := 111, din := dinkIndexFunc_Sint_int_iGraph_leads_1, outs := outkIndexFunc_Sint_int_iGraph_leads_1, F := FkIndexFunc_Sint_int_iGraph_leads_1 N }
noncomputable def XkIndexFunc_Sint_int_iGraph_leads_1 (N : Nat) : Ctx := { E := EkIndexFunc_Sint_int_iGraph_leads_1 N, H := HkIndexFunc_Sint_int_iGraph_leads_1, lp := [(0, { hd := dkIndexFunc_Sint_int_iGraph_leads_1_0, outs := okIndexFunc_Sint_int_iGraph_leads_1_0, run := fun v => lkIndexFunc_Sint_int_iGraph_leads_1_0 N N v })], jn := [] }
noncomputable def bkIndexFunc_Sint_int_iGraph_leads_1_0 : Code := loopBody (codeOf Try.f111) 0
theorem FkIndexFunc_Sint_int_iGraph_leads_1_eq (N : Nat) (x : ((List Int) × (Int × (((List ((List Int) × ((List Int) × Unit))) × ((List (List Int)) × ((List Int) × Unit))) × Unit)))) : evFn (XkIndexFunc_Sint_int_iGraph_leads_1 N) Try.f111 dinkIndexFunc_Sint_int_iGraph_leads_1 outkIndexFunc_Sint_int_iGraph_leads_1 x = FkIndexFunc_Sint_int_iGraph_leads_1 N x := by kernel_rfl
theorem lkIndexFunc_Sint_int_iGraph_leads_1_0_eq (N n : Nat) (v : ((List Int) × (Int × (((List ((List Int) × ((List Int) × Unit))) × ((List (List Int)) × ((List Int) × Unit))) × (Int × (Int × Unit)))))) : lkIndexFunc_Sint_int_iGraph_leads_1_0 N (n + 1) v = ev (XkIndexFunc_Sint_int_iGraph_leads_1 N) bkIndexFunc_Sint_int_iGraph_leads_1_0 (roundK dkIndexFunc_Sint_int_iGraph_leads_1_0 okIndexFunc_Sint_int_iGraph_leads_1_0 (lkIndexFunc_Sint_int_iGraph_leads_1_0 N n)) (dkIndexFunc_Sint_int_iGraph_leads_1_0.mk' v) := by kernel_rfl
theorem cxkIndexFunc_Sint_int_iGraph_leads_1 (N : Nat) : CtxOk Try.prog (XkIndexFunc_Sint_int_iGraph_leads_1 N) := ⟨⟨TE_ok, List.forall_mem_cons.2 ⟨speciGraph_leads_1 N, fun k hk => absurd hk List.not_mem_nil⟩⟩, mixed⟩
theorem lpkIndexFunc_Sint_int_iGraph_leads_1_0 (N : Nat) : LoopOk Try.prog { hd := dkIndexFunc_Sint_int_iGraph_leads_1_0, outs := okIndexFunc_Sint_int_iGraph_leads_1_0, run := fun v => lkIndexFunc_Sint_int_iGraph_leads_1_0 N N v } bkIndexFunc_Sint_int_iGraph_leads_1_0 :=
  loop_fuel (d := dkIndexFunc_Sint_int_iGraph_leads_1_0) (os := okIndexFunc_Sint_int_iGraph_leads_1_0) (cxkIndexFunc_Sint_int_iGraph_leads_1 N) (loops_at (ids := []) (by kernel_rfl) (trivial)) (lkIndexFunc_Sint_int_iGraph_leads_1_0 N) (fun _ => rfl) (fun n v => lkIndexFunc_Sint_int_iGraph_leads_1_0_eq N n v) (fun _ => N)
theorem speckIndexFunc_Sint_int_iGraph_leads_1 (N : Nat) : Spec Try.prog (conkIndexFunc_Sint_int_iGraph_leads_1 N) :=
  Spec.of_eq (fn_spec (cxkIndexFunc_Sint_int_iGraph_leads_1 N) (f := 111) (fn := Try.f111) (c := codeOf Try.f111) (by kernel_rfl) (by kernel_rfl) (by kernel_rfl) (loops_at (ids := [0]) (by kernel_rfl) ⟨lp_of (lpkIndexFunc_Sint_int_iGraph_leads_1_0 N), trivial⟩) (by kernel_rfl)) (fun x r h => (FkIndexFunc_Sint_int_iGraph_leads_1_eq N x).trans h)

/-! ### 105: slices.ContainsFunc[[]int,int] -/

noncomputable def dinkContainsFunc_Sint_int_iGraph_leads_1 : Desc := { n := 2, regs := [.one (.val (.sl (.int .i64))), .one (.clo 106 [.inr (.int .i64), .inr (.pair (.sl (.pair (.sl (.int .i64)) (.pair (.sl (.int .i64)) .unit))) (.pair (.sl (.sl (.int .i64))) (.pair (.sl (.int .i64)) .unit)))])], bx := [], pins := [] }
noncomputable def outkContainsFunc_Sint_int_iGraph_leads_1 : Outs := [(.ret, { n := 1, regs := [.one (.val .bool)], bx := [], pins := [] })]
noncomputable def HkContainsFunc_Sint_int_iGraph_leads_1 : Hints := []
noncomputable def EkContainsFunc_Sint_int_iGraph_leads_1 (N : Nat) : Env := { te := TE, cs := [conkIndexFunc_Sint_int_iGraph_leads_1 N] }
noncomputable def FkContainsFunc_Sint_int_iGraph_leads_1 (N : Nat) (x : ((List Int) × (Int × (((List ((List Int) × ((List Int) × Unit))) × ((List (List Int)) × ((List Int) × Unit))) × Unit)))) : Option (Bool × Unit) :=
  (FkIndexFunc_Sint_int_iGraph_leads_1 N (x.1, x.2.1, x.2.2.1, ())).bind fun r1 =>
  some (decide (r1.1 ≥ (0 : Int)), ())
noncomputable def conkContainsFunc_Sint_int_iGraph_leads_1 (N : Nat) : Con := { f := 105, din := dinkContainsFunc_Sint_int_iGraph_leads_1, outs := outkContainsFunc_Sint_int_iGraph_leads_1, F := FkContainsFunc_Sint_int_iGraph_leads_1 N }
noncomputable def XkContainsFunc_Sint_int_iGraph_leads_1 (N : Nat) : Ctx := { E := EkContainsFunc_Sint_int_iGraph_leads_1 N, H := HkContainsFunc_Sint_int_iGraph_leads_1, lp := [], jn := [] }
theorem FkContainsFunc_Sint_int_iGraph_leads_1_eq (N : Nat) (x : ((List Int) × (Int × (((List ((List Int) × ((List Int) × Unit))) × ((List (List Int)) × ((List Int) × Unit))) × Unit)))) : evFn (XkContainsFunc_Sint_int_iGraph_leads_1 N) Try.f105 dinkContainsFunc_Sint_int_iGraph_leads_1 outkContainsFunc_Sint_int_iGraph_leads_1 x = FkContainsFunc_Sint_int_iGraph_leads_1 N x := by kernel_rfl
theorem cxkContainsFunc_Sint_int_iGraph_leads_1 (N : Nat) : CtxOk Try.prog (XkContainsFunc_Sint_int_iGraph_leads_1 N) := ⟨⟨TE_ok, List.forall_mem_cons.2 ⟨speckIndexFunc_Sint_int_iGraph_leads_1 N, fun k hk => absurd hk List.not_mem_nil⟩⟩, mixed⟩
theorem speckContainsFunc_Sint_int_iGraph_leads_1 (N : Nat) : Spec Try.prog (conkContainsFunc_Sint_int_iGraph_leads_1 N) :=
  Spec.of_eq (fn_spec (cxkContainsFunc_Sint_int_iGraph_leads_1 N) (f := 105) (fn := Try.f105) (c := codeOf Try.f105) (by kernel_rfl) (by kernel_rfl) (by kernel_rfl) (loops_at (ids := []) (by kernel_rfl) (trivial)) (by kernel_rfl)) (fun x r h => (FkContainsFunc_Sint_int_iGraph_leads_1_eq N x).trans h)

/-! ### 87: impl.Graph).leads -/

noncomputable def diniGraph_leads : Desc := { n := 3, regs := [.one (.val (.pair (.sl (.pair (.sl (.int .i64)) (.pair (.sl (.int .i64)) .unit))) (.pair (.sl (.sl (.int .i64))) (.pair (.sl (.int .i64)) .unit)))), .one (.val (.sl (.int .i64))), .one (.val (.int .i64))], bx := [], pins := [] }
noncomputable def outiGraph_leads : Outs := [(.ret, { n := 1, regs := [.one (.val .bool)], bx := [], pins := [] })]
noncomputable def HiGraph_leads : Hints := [(0, [(0, { fz := true }), (1, { fz := true })])]
noncomputable def EiGraph_leads (N : Nat) : Env := { te := TE, cs := [conkContainsFunc_Sint_int_iGraph_leads_1 N] }
noncomputable def FiGraph_leads (N : Nat) (x : (((List ((List Int) × ((List Int) × Unit))) × ((List (List Int)) × ((List Int) × Unit))) × ((List Int) × (Int × Unit)))) : Option (Bool × Unit) :=
  (FkContainsFunc_Sint_int_iGraph_leads_1 N (x.2.1, x.2.2.1, x.1, ())).bind fun r1 =>
  some (!r1.1, ())
noncomputable def coniGraph_leads (N : Nat) : Con := { f := 87, din := diniGraph_leads, outs := outiGraph_leads, F := FiGraph_leads N }
noncomputable def XiGraph_leads (N : Nat) : Ctx := { E := EiGraph_leads N, H := HiGraph_leads, lp := [], jn := [] }
theorem FiGraph_leads_eq (N : Nat) (x : (((List ((List Int) × ((List Int) × Unit))) × ((List (List Int)) × ((List Int) × Unit))) × ((List Int) × (Int × Unit)))) : evFn (XiGraph_leads N) Try.f87 diniGraph_leads outiGraph_leads x = FiGraph_leads N x := by kernel_rfl
theorem cxiGraph_leads (N : Nat) : CtxOk Try.prog (XiGraph_leads N) := ⟨⟨TE_ok, List.forall_mem_cons.2 ⟨speckContainsFunc_Sint_int_iGraph_leads_1 N, fun k hk => absurd hk List.not_mem_nil⟩⟩, mixed⟩
theorem speciGraph_leads (N : Nat) : Spec Try.prog (coniGraph_leads N) :=
  Spec.of_eq (fn_spec (cxiGraph_leads N) (f := 87) (fn := Try.f87) (c := codeOf Try.f87) (by kernel_rfl) (by kernel_rfl) (by kernel_rfl) (loops_at (ids := []) (by kernel_rfl) (trivial)) (by kernel_rfl)) (fun x r h => (FiGraph_leads_eq N x).trans h)

/-! ### 42: impl.GraphOk -/

noncomputable def diniGraphOk : Desc := { n := 1, regs := [.one (.val (.pair (.sl (.pair (.sl (.int .i64)) (.pair (.sl (.int .i64)) .unit))) (.pair (.sl (.sl (.int .i64))) (.pair (.sl (.int .i64)) .unit))))], bx := [], pins := [] }
noncomputable def outiGraphOk : Outs := [(.ret, { n := 1, regs := [.one (.val .bool)], bx := [], pins := [] })]
noncomputable def HiGraphOk : Hints := [(0, [(0, { fz := true })])]
noncomputable def EiGraphOk (N : Nat) : Env := { te := TE, cs := [coniGraph_leads N] }
noncomputable def diGraphOk_0 : Desc := { n := 78, regs := [u, .one (.fpt (.pair (.sl (.pair (.sl (.int .i64)) (.pair (.sl (.int .i64)) .unit))) (.pair (.sl (.sl (.int .i64))) (.pair (.sl (.int .i64)) .unit)))), u, u, u, u, u, u, u, u, u, u, u, u, u, u, u, u, u, u, u, u, u, u, u, u, u, u, u, u, u, u, u, u, u, u, u, .one (.val (.sl (.pair (.sl (.int .i64)) (.pair (.sl (.int .i64)) .unit)))), .one (.val (.int .i64)), .one (.val (.int .i64))], bx := [], pins := [] }
noncomputable def oiGraphOk_0 : Outs := [(.exit 0, { n := 78, regs := [u, .one (.fpt (.pair (.sl (.pair (.sl (.int .i64)) (.pair (.sl (.int .i64)) .unit))) (.pair (.sl (.sl (.int .i64))) (.pair (.sl (.int .i64)) .unit))))], bx := [], pins := [] }), (.ret, { n := 78, regs := [u, u, .one (.val .bool)], bx := [], pins := [] })]
noncomputable def diGraphOk_2 : Desc := { n := 78, regs := [u, .one (.fpt (.pair (.sl (.pair (.sl (.int .i64)) (.pair (.sl (.int .i64)) .unit))) (.pair (.sl (.sl (.int .i64))) (.pair (.sl (.int .i64)) .unit)))), u, u, u, u, u, u, u, u, u, u, u, u, u, u, u, u, u, u, u, u, u, u, u, u, u, u, u, u, u, u, u, u, u, u, u, u, u, u, u, u, u, u, u, u, u, u, u, u, u, u, u, u, u, u, u, u, u, u, u, u, .one (.val (.sl (.sl (.int .i64)))), .one (.val (.int .i64)), .one (.val (.int .i64))], bx := [], pins := [] }
noncomputable def oiGraphOk_2 : Outs := [(.exit 2, { n := 78, regs := [], bx := [], pins := [] }), (.ret, { n := 78, regs := [u, u, .one (.val .bool)], bx := [], pins := [] })]
noncomputable def jiGraphOk_3 : Outs := [(.normal, { n := 78, regs := [u, .one (.fpt (.pair (.sl (.pair (.sl (.int .i64)) (.pair (.sl (.int .i64)) .unit))) (.pair (.sl (.sl (.int .i64))) (.pair (.sl (.int .i64)) .unit))))], bx := [], pins := [] }), (.ret, { n := 78, regs := [u, u, .one (.val .bool)], bx := [], pins := [] })]
noncomputable def liGraphOk_0 (N : Nat) : Nat → (((List ((List Int) × ((List Int) × Unit))) × ((List (List Int)) × ((List Int) × Unit))) × ((List ((List Int) × ((List Int) × Unit))) × (Int × (Int × Unit)))) → Option ((((List ((List Int) × ((List Int) × Unit))) × ((List (List Int)) × ((List Int) × Unit))) × Unit) ⊕ (Bool × Unit))
  | 0, _ => none
  | n + 1, v =>
    bif decide (v.2.2.2.1 < v.2.2.1) then
     bif decide (0 ≤ v.2.2.2.1) then
     bif decide (v.2.2.2.1.toNat < v.2.1.length) then
     let y8 := v.2.1.getD v.2.2.2.1.toNat (([] : (List Int)), ([] : (List Int)), ())
     let y9 := decide ((y8.1.length : Int) > (4 : Int))
     bif y9 then
      some (.inr ((false, ())))
     else
     let y10 := decide ((y8.2.1.length : Int) > (4 : Int))
     bif y10 then
      some (.inr ((false, ())))
     else
     (FiGraph_leads N (v.1, y8.1, (-1 : Int), ())).bind fun r11 =>
     bif !r11.1 then
      some (.inr ((false, ())))
     else
     liGraphOk_0 N n (v.1, v.2.1, v.2.2.1, w64 (v.2.2.2.1 + (1 : Int)), ())
     else none
     else none
    else
    some (.inl (v.1, ()))
noncomputable def liGraphOk_2 (N : Nat) : Nat → (((List ((List Int) × ((List Int) × Unit))) × ((List (List Int)) × ((List Int) × Unit))) × ((List (List Int)) × (Int × (Int × Unit)))) → Option (Unit ⊕ (Bool × Unit))
  | 0, _ => none
  | n + 1, v =>
    bif decide (v.2.2.2.1 < v.2.2.1) then
     bif decide (0 ≤ v.2.2.2.1) then
     bif decide (v.2.2.2.1.toNat < v.2.1.length) then
     let y14 := v.2.1.getD v.2.2.2.1.toNat ([] : (List Int))
     let y15 := decide ((y14.length : Int) > (8 : Int))
     bif y15 then
      some (.inr ((false, ())))
     else
     (FiGraph_leads N (v.1, y14, (-1 : Int), ())).bind fun r16 =>
     bif !r16.1 then
      some (.inr ((false, ())))
     else
     liGraphOk_2 N n (v.1, v.2.1, v.2.2.1, w64 (v.2.2.2.1 + (1 : Int)), ())
     else none
     else none
    else
    some (.inl ())
noncomputable def FiGraphOk (N : Nat) (x : (((List ((List Int) × ((List Int) × Unit))) × ((List (List Int)) × ((List Int) × Unit))) × Unit)) : Option (Bool × Unit) :=
  Option.bind (
   let y1 := decide ((x.1.1.length : Int) > (200 : Int))
   bif y1 then
    some (.inr ((false, ())))
   else
   let y2 := decide ((x.1.2.1.length : Int) < (1 : Int))
   bif y2 then
    some (.inr ((false, ())))
   else
   let y3 := decide ((x.1.2.1.length : Int) > (3 : Int))
   bif y3 then
    some (.inr ((false, ())))
   else
   let y4 := decide ((x.1.2.2.1.length : Int) > (8 : Int))
   bif y4 then
    some (.inr ((false, ())))
   else
   (FiGraph_leads N (x.1, x.1.2.2.1, (0 : Int), ())).bind fun r5 =>
   bif !r5.1 then
    some (.inr ((false, ())))
   else
   some (.inl (x.1, ()))) fun o6 =>
  Sum.elim (fun o7 =>
   (liGraphOk_0 N N (o7.1, o7.1.1, (o7.1.1.length : Int), (0 : Int), ())).bind fun o12 =>
   Sum.elim (fun o13 =>
    (liGraphOk_2 N N (o13.1, o13.1.2.1, (o13.1.2.1.length : Int), (0 : Int), ())).bind fun o17 =>
    Sum.elim (fun o18 =>
     some (true, ())) (fun o19 =>
     some (o19.1, ())) o17) (fun o20 =>
    some (o20.1, ())) o12) (fun o21 =>
   some (o21.1, ())) o6
noncomputable def coniGraphOk (N : Nat) : Con := { f := 42, din := diniGraphOk, outs := outiGraphOk, F := FiGraphOk N }
noncomputable def XiGraphOk (N : Nat) : Ctx := { E := EiGraphOk N, H := HiGraphOk, lp := [(0, { hd := diGraphOk_0, outs := oiGraphOk_0, run := fun v => liGraphOk_0 N N v }), (2, { hd := diGraphOk_2, outs := oiGraphOk_2, run := fun v => liGraphOk_2 N N v })], jn := [(3, jiGraphOk_3)] }
noncomputable def biGraphOk_2 : Code := loopBody (codeOf Try.f42) 1
noncomputable def biGraphOk_0 : Code := loopBody (codeOf Try.f42) 0
theorem FiGraphOk_eq (N : Nat) (x : (((List ((List Int) × ((List Int) × Unit))) × ((List (List Int)) × ((List Int) × Unit))) × Unit)) : evFn (XiGraphOk N) Try.f42 diniGraphOk outiGraphOk x = FiGraphOk N x := by kernel_rfl
theorem liGraphOk_0_eq (N n : Nat) (v : (((List ((List Int) × ((List Int) × Unit))) × ((List (List Int)) × ((List Int) × Unit))) × ((List ((List Int) × ((List Int) × Unit))) × (Int × (Int × Unit))))) : liGraphOk_0 N (n + 1) v = ev (XiGraphOk N) biGraphOk_0 (roundK diGraphOk_0 oiGraphOk_0 (liGraphOk_0 N n)) (diGraphOk_0.mk' v) := by kernel_rfl
theorem liGraphOk_2_eq (N n : Nat) (v : (((List ((List Int) × ((List Int) × Unit))) × ((List (List Int)) × ((List Int) × Unit))) × ((List (List Int)) × (Int × (Int × Unit))))) : liGraphOk_2 N (n + 1) v = ev (XiGraphOk N) biGraphOk_2 (roundK diGraphOk_2 oiGraphOk_2 (liGraphOk_2 N n)) (diGraphOk_2.mk' v) := by kernel_rfl
theorem cxiGraphOk (N : Nat) : CtxOk Try.prog (XiGraphOk N) := ⟨⟨TE_ok, List.forall_mem_cons.2 ⟨speciGraph_leads N, fun k hk => absurd hk List.not_mem_nil⟩⟩, mixed⟩
theorem lpiGraphOk_0 (N : Nat) : LoopOk Try.prog { hd := diGraphOk_0, outs := oiGraphOk_0, run := fun v => liGraphOk_0 N N v } biGraphOk_0 :=
  loop_fuel (d := diGraphOk_0) (os := oiGraphOk_0) (cxiGraphOk N) (loops_at (ids := []) (by kernel_rfl) (trivial)) (liGraphOk_0 N) (fun _ => rfl) (fun n v => liGraphOk_0_eq N n v) (fun _ => N)
theorem lpiGraphOk_2 (N : Nat) : LoopOk Try.prog { hd := diGraphOk_2, outs := oiGraphOk_2, run := fun v => liGraphOk_2 N N v } biGraphOk_2 :=
  loop_fuel (d := diGraphOk_2) (os := oiGraphOk_2) (cxiGraphOk N) (loops_at (ids := []) (by kernel_rfl) (trivial)) (liGraphOk_2 N) (fun _ => rfl) (fun n v => liGraphOk_2_eq N n v) (fun _ => N)
theorem speciGraphOk (N : Nat) : Spec Try.prog (coniGraphOk N) :=
  Spec.of_eq (fn_spec (cxiGraphOk N) (f := 42) (fn := Try.f42) (c := codeOf Try.f42) (by kernel_rfl) (by kernel_rfl) (by kernel_rfl) (loops_at (ids := [0, 2]) (by kernel_rfl) ⟨lp_of (lpiGraphOk_0 N), ⟨lp_of (lpiGraphOk_2 N), trivial⟩⟩) (by kernel_rfl)) (fun x r h => (FiGraphOk_eq N x).trans h)

/-! ### 88: impl.ShapeOk -/

noncomputable def diniShapeOk : Desc := { n := 1, regs := [.one (.val (.pair (.int .i64) (.pair (.int .i64) .unit)))], bx := [], pins := [] }
noncomputable def outiShapeOk : Outs := [(.ret, { n := 1, regs := [.one (.val .bool)], bx := [], pins := [] })]
noncomputable def HiShapeOk : Hints := [(0, [(0, { fz := true })])]
noncomputable def EiShapeOk (_N : Nat) : Env := { te := TE, cs := [] }
noncomputable def FiShapeOk (N : Nat) (x : ((Int × (Int × Unit)) × Unit)) : Option (Bool × Unit) :=
  bif decide (x.1.1 ≥ (0 : Int)) then
   bif decide (x.1.1 ≤ (4 : Int)) then
    bif decide (x.1.2.1 ≥ (0 : Int)) then
     some (decide (x.1.2.1 ≤ (4 : Int)), ())
    else
    some (false, ())
   else
   some (false, ())
  else
  some (false, ())
noncomputable def coniShapeOk (N : Nat) : Con := { f := 88, din := diniShapeOk, outs := outiShapeOk, F := FiShapeOk N }
noncomputable def XiShapeOk (N : Nat) : Ctx := { E := EiShapeOk N, H := HiShapeOk, lp := [], jn := [] }
theorem FiShapeOk_eq (N : Nat) (x : ((Int × (Int × Unit)) × Unit)) : evFn (XiShapeOk N) Try.f88 diniShapeOk outiShapeOk x = FiShapeOk N x := by kernel_rfl
theorem cxiShapeOk (N : Nat) : CtxOk Try.prog (XiShapeOk N) := ⟨⟨TE_ok, fun k hk => absurd hk List.not_mem_nil⟩, mixed⟩
theorem speciShapeOk (N : Nat) : Spec Try.prog (coniShapeOk N) :=
  Spec.of_eq (fn_spec (cxiShapeOk N) (f := 88) (fn := Try.f88) (c := codeOf Try.f88) (by kernel_rfl) (by kernel_rfl) (by kernel_rfl) (loops_at (ids := []) (by kernel_rfl) (trivial)) (by kernel_rfl)) (fun x r h => (FiShapeOk_eq N x).trans h)

/-! ### 43: impl.OpOk -/

noncomputable def diniOpOk : Desc := { n := 1, regs := [.one (.val (.pair (.int .i64) (.pair (.int .i64) (.pair (.int .i64) (.pair (.int .i64) (.pair (.int .i64) (.pair (.int .i64) (.pair (.pair (.int .i64) (.pair (.int .i64) .unit)) .unit))))))))], bx := [], pins := [] }
noncomputable def outiOpOk : Outs := [(.ret, { n := 1, regs := [.one (.val .bool)], bx := [], pins := [] })]
noncomputable def HiOpOk : Hints := [(0, [(0, { fz := true })])]
noncomputable def EiOpOk (N : Nat) : Env := { te := TE, cs := [coniShapeOk N] }
noncomputable def FiOpOk (N : Nat) (x : ((Int × (Int × (Int × (Int × (Int × (Int × ((Int × (Int × Unit)) × Unit))))))) × Unit)) : Option (Bool × Unit) :=
  bif decide (x.1.1 ≥ (1 : Int)) then
   bif decide (x.1.1 ≤ (11 : Int)) then
    bif x.1.1 != (1 : Int) then
     some (true, ())
    else
    (FiShapeOk N (x.1.2.2.2.2.2.2.1, ())).bind fun r1 =>
    some (r1.1, ())
   else
   some (false, ())
  else
  some (false, ())
noncomputable def coniOpOk (N : Nat) : Con := { f := 43, din := diniOpOk, outs := outiOpOk, F := FiOpOk N }
noncomputable def XiOpOk (N : Nat) : Ctx := { E := EiOpOk N, H := HiOpOk, lp := [], jn := [] }
theorem FiOpOk_eq (N : Nat) (x : ((Int × (Int × (Int × (Int × (Int × (Int × ((Int × (Int × Unit)) × Unit))))))) × Unit)) : evFn (XiOpOk N) Try.f43 diniOpOk outiOpOk x = FiOpOk N x := by kernel_rfl
theorem cxiOpOk (N : Nat) : CtxOk Try.prog (XiOpOk N) := ⟨⟨TE_ok, List.forall_mem_cons.2 ⟨speciShapeOk N, fun k hk => absurd hk List.not_mem_nil⟩⟩, mixed⟩
theorem speciOpOk (N : Nat) : Spec Try.prog (coniOpOk N) :=
  Spec.of_eq (fn_spec (cxiOpOk N) (f := 43) (fn := Try.f43) (c := codeOf Try.f43) (by kernel_rfl) (by kernel_rfl) (by kernel_rfl) (loops_at (ids := []) (by kernel_rfl) (trivial)) (by kernel_rfl)) (fun x r h => (FiOpOk_eq N x).trans h)

/-! ### 63: slices.Clone[[]int,int] -/

noncomputable def dinkClone_Sint_int : Desc := { n := 1, regs := [.one (.val (.sl (.int .i64)))], bx := [], pins := [] }
noncomputable def outkClone_Sint_int : Outs := [(.ret, { n := 1, regs := [.one (.lit (.row 1025600))], bx := [(1025600, .row (.int .i64))], pins := [] })]
noncomputable def HkClone_Sint_int : Hints := [(2, [(0, { nl := [(0, (.int .i64))] })])]
noncomputable def EkClone_Sint_int (_N : Nat) : Env := { te := TE, cs := [] }
noncomputable def FkClone_Sint_int (N : Nat) (x : ((List Int) × Unit)) : Option ((List Int) × Unit) :=
  bif x.1.isEmpty then
   anyOf (2) fun i1 =>
    bif bif i1 == 0 then false else true then
     some (([] : (List Int)), ())
    else
    bif decide (([] : (List Int)).length + x.1.length ≤ lim) then
    some (([] : (List Int)) ++ x.1, ())
    else none
  else
  bif decide (([] : (List Int)).length + x.1.length ≤ lim) then
  some (([] : (List Int)) ++ x.1, ())
  else none
noncomputable def conkClone_Sint_int (N : Nat) : Con := { f := 63, din := dinkClone_Sint_int, outs := outkClone_Sint_int, F := FkClone_Sint_int N }
noncomputable def XkClone_Sint_int (N : Nat) : Ctx := { E := EkClone_Sint_int N, H := HkClone_Sint_int, lp := [], jn := [] }
theorem FkClone_Sint_int_eq (N : Nat) (x : ((List Int) × Unit)) : evFn (XkClone_Sint_int N) Try.f63 dinkClone_Sint_int outkClone_Sint_int x = FkClone_Sint_int N x := by kernel_rfl
theorem cxkClone_Sint_int (N : Nat) : CtxOk Try.prog (XkClone_Sint_int N) := ⟨⟨TE_ok, fun k hk => absurd hk List.not_mem_nil⟩, mixed⟩
theorem speckClone_Sint_int (N : Nat) : Spec Try.prog (conkClone_Sint_int N) :=
  Spec.of_eq (fn_spec (cxkClone_Sint_int N) (f := 63) (fn := Try.f63) (c := codeOf Try.f63) (by kernel_rfl) (by kernel_rfl) (by kernel_rfl) (loops_at (ids := []) (by kernel_rfl) (trivial)) (by kernel_rfl)) (fun x r h => (FkClone_Sint_int_eq N x).trans h)

/-! ### 44: impl.Graph).copy -/

noncomputable def diniGraph_copy : Desc := { n := 1, regs := [.one (.val (.pair (.sl (.pair (.sl (.int .i64)) (.pair (.sl (.int .i64)) .unit))) (.pair (.sl (.sl (.int .i64))) (.pair (.sl (.int .i64)) .unit))))], bx := [], pins := [] }
noncomputable def outiGraph_copy : Outs := [(.ret, { n := 1, regs := [.agg [.lit (.row 1012993), .lit (.row 1012994), .lit (.row 1012929)]], bx := [(1012993, .row (.pair (.sl (.int .i64)) (.pair (.sl (.int .i64)) .unit))), (1012994, .row (.sl (.int .i64))), (1012929, .row (.int .i64))], pins := [] })]
noncomputable def HiGraph_copy : Hints := [(0, [(0, { fz := true })]),
  (1, [(3, { nl := [(0, (.pair (.sl (.int .i64)) (.pair (.sl (.int .i64)) .unit))), (1, (.sl (.int .i64)))] })]),
  (5, [(9, { dp := true }), (10, { dp := true })]),
  (10, [(4, { dp := true }), (5, { dp := true })])]
noncomputable def EiGraph_copy (N : Nat) : Env := { te := TE, cs := [conkClone_Sint_int N] }
noncomputable def diGraph_copy_0 : Desc := { n := 48, regs := [u, .one (.fpt (.pair (.sl (.pair (.sl (.int .i64)) (.pair (.sl (.int .i64)) .unit))) (.pair (.sl (.sl (.int .i64))) (.pair (.sl (.int .i64)) .unit)))), .one (.lit (.ptr 1000064 0)), .one (.lit (.ptr 1013056 0)), u, u, u, u, u, u, u, u, u, .one (.val (.sl (.pair (.sl (.int .i64)) (.pair (.sl (.int .i64)) .unit)))), .one (.val (.int .i64)), .one (.val (.int .i64))], bx := [(1000064, .var [.lit .nil, .lit .nil, .lit .nil]), (1013056, .var [.lit (.row 1012993), .lit (.row 1012994), .lit (.row 1012929)]), (1012993, .row (.pair (.sl (.int .i64)) (.pair (.sl (.int .i64)) .unit))), (1012994, .row (.sl (.int .i64))), (1012929, .row (.int .i64))], pins := [] }
noncomputable def oiGraph_copy_0 : Outs := [(.exit 0, { n := 48, regs := [u, .one (.fpt (.pair (.sl (.pair (.sl (.int .i64)) (.pair (.sl (.int .i64)) .unit))) (.pair (.sl (.sl (.int .i64))) (.pair (.sl (.int .i64)) .unit)))), .one (.lit (.ptr 1000064 0)), .one (.lit (.ptr 1013056 0))], bx := [(1000064, .var [.lit .nil, .lit .nil, .lit .nil]), (1013056, .var [.lit (.row 1012993), .lit (.row 1012994), .lit (.row 1012929)]), (1012993, .row (.pair (.sl (.int .i64)) (.pair (.sl (.int .i64)) .unit))), (1012994, .row (.sl (.int .i64))), (1012929, .row (.int .i64))], pins := [] })]
noncomputable def diGraph_copy_2 : Desc := { n := 48, regs := [u, u, .one (.lit (.ptr 1000064 0)), .one (.lit (.ptr 1013056 0)), u, u, u, u, u, u, u, u, u, u, u, u, u, u, u, u, u, u, u, u, u, u, u, u, u, u, u, u, u, .one (.val (.sl (.sl (.int .i64)))), .one (.val (.int .i64)), .one (.val (.int .i64))], bx := [(1000064, .var [.lit .nil, .lit .nil, .lit .nil]), (1013056, .var [.lit (.row 1012993), .lit (.row 1012994), .lit (.row 1012929)]), (1012993, .row (.pair (.sl (.int .i64)) (.pair (.sl (.int .i64)) .unit))), (1012994, .row (.sl (.int .i64))), (1012929, .row (.int .i64))], pins := [] }
noncomputable def oiGraph_copy_2 : Outs := [(.exit 2, { n := 48, regs := [u, u, .one (.lit (.ptr 1000064 0)), .one (.lit (.ptr 1013056 0))], bx := [(1000064, .var [.lit .nil, .lit .nil, .lit .nil]), (1013056, .var [.lit (.row 1012993), .lit (.row 1012994), .lit (.row 1012929)]), (1012993, .row (.pair (.sl (.int .i64)) (.pair (.sl (.int .i64)) .unit))), (1012994, .row (.sl (.int .i64))), (1012929, .row (.int .i64))], pins := [] })]
noncomputable def liGraph_copy_0 (N : Nat) : Nat → (((List ((List Int) × ((List Int) × Unit))) × ((List (List Int)) × ((List Int) × Unit))) × ((List ((List Int) × ((List Int) × Unit))) × (Int × (Int × ((List ((List Int) × ((List Int) × Unit))) × ((List (List Int)) × ((List Int) × Unit))))))) → Option (((List ((List Int) × ((List Int) × Unit))) × ((List (List Int)) × ((List Int) × Unit))) × ((List ((List Int) × ((List Int) × Unit))) × ((List (List Int)) × ((List Int) × Unit))))
  | 0, _ => none
  | n + 1, v =>
    bif decide (v.2.2.2.1 < v.2.2.1) then
     bif decide (0 ≤ v.2.2.2.1) then
     bif decide (v.2.2.2.1.toNat < v.2.1.length) then
     let y3 := v.2.1.getD v.2.2.2.1.toNat (([] : (List Int)), ([] : (List Int)), ())
     (FkClone_Sint_int N (y3.1, ())).bind fun r4 =>
     (FkClone_Sint_int N (y3.2.1, ())).bind fun r5 =>
     bif decide (v.2.2.2.2.1.length + [(r4.1, r5.1, ())].length ≤ lim) then
     liGraph_copy_0 N n (v.1, v.2.1, v.2.2.1, w64 (v.2.2.2.1 + (1 : Int)), v.2.2.2.2.1 ++ [(r4.1, r5.1, ())], v.2.2.2.2.2.1, v.2.2.2.2.2.2.1, ())
     else none
     else none
     else none
    else
    some (v.1, v.2.2.2.2.1, v.2.2.2.2.2.1, v.2.2.2.2.2.2.1, ())
noncomputable def liGraph_copy_2 (N : Nat) : Nat → ((List (List Int)) × (Int × (Int × ((List ((List Int) × ((List Int) × Unit))) × ((List (List Int)) × ((List Int) × Unit)))))) → Option ((List ((List Int) × ((List Int) × Unit))) × ((List (List Int)) × ((List Int) × Unit)))
  | 0, _ => none
  | n + 1, v =>
    bif decide (v.2.2.1 < v.2.1) then
     bif decide (0 ≤ v.2.2.1) then
     bif decide (v.2.2.1.toNat < v.1.length) then
     let y7 := v.1.getD v.2.2.1.toNat ([] : (List Int))
     (FkClone_Sint_int N (y7, ())).bind fun r8 =>
     bif decide (v.2.2.2.2.1.length + [r8.1].length ≤ lim) then
     liGraph_copy_2 N n (v.1, v.2.1, w64 (v.2.2.1 + (1 : Int)), v.2.2.2.1, v.2.2.2.2.1 ++ [r8.1], v.2.2.2.2.2.1, ())
     else none
     else none
     else none
    else
    some (v.2.2.2.1, v.2.2.2.2.1, v.2.2.2.2.2.1, ())
noncomputable def FiGraph_copy (N : Nat) (x : (((List ((List Int) × ((List Int) × Unit))) × ((List (List Int)) × ((List Int) × Unit))) × Unit)) : Option ((List ((List Int) × ((List Int) × Unit))) × ((List (List Int)) × ((List Int) × Unit))) :=
  (FkClone_Sint_int N (x.1.2.2.1, ())).bind fun r1 =>
  let y2 := ([] : (List ((List Int) × ((List Int) × Unit))))
  (liGraph_copy_0 N N (x.1, x.1.1, (x.1.1.length : Int), (0 : Int), y2, ([] : (List (List Int))), r1.1, ())).bind fun o6 =>
  (liGraph_copy_2 N N (o6.1.2.1, (o6.1.2.1.length : Int), (0 : Int), o6.2.1, o6.2.2.1, o6.2.2.2.1, ())).bind fun o9 =>
  some (o9.1, o9.2.1, o9.2.2.1, ())
noncomputable def coniGraph_copy (N : Nat) : Con := { f := 44, din := diniGraph_copy, outs := outiGraph_copy, F := FiGraph_copy N }
noncomputable def XiGraph_copy (N : Nat) : Ctx := { E := EiGraph_copy N, H := HiGraph_copy, lp := [(0, { hd := diGraph_copy_0, outs := oiGraph_copy_0, run := fun v => liGraph_copy_0 N N v }), (2, { hd := diGraph_copy_2, outs := oiGraph_copy_2, run := fun v => liGraph_copy_2 N N v })], jn := [] }
noncomputable def biGraph_copy_2 : Code := loopBody (codeOf Try.f44) 1
noncomputable def biGraph_copy_0 : Code := loopBody (codeOf Try.f44) 0
theorem FiGraph_copy_eq (N : Nat) (x : (((List ((List Int) × ((List Int) × Unit))) × ((List (List Int)) × ((List Int) × Unit))) × Unit)) : evFn (XiGraph_copy N) Try.f44 diniGraph_copy outiGraph_copy x = FiGraph_copy N x := by kernel_rfl
theorem liGraph_copy_0_eq (N n : Nat) (v : (((List ((List Int) × ((List Int) × Unit))) × ((List (List Int)) × ((List Int) × Unit))) × ((List ((List Int) × ((List Int) × Unit))) × (Int × (Int × ((List ((List Int) × ((List Int) × Unit))) × ((List (List Int)) × ((List Int) × Unit)))))))) : liGraph_copy_0 N (n + 1) v = ev (XiGraph_copy N) biGraph_copy_0 (roundK diGraph_copy_0 oiGraph_copy_0 (liGraph_copy_0 N n)) (diGraph_copy_0.mk' v) := by kernel_rfl
theorem liGraph_copy_2_eq (N n : Nat) (v : ((List (List Int)) × (Int × (Int × ((List ((List Int) × ((List Int) × Unit))) × ((List (List Int)) × ((List Int) × Unit))))))) : liGraph_copy_2 N (n + 1) v = ev (XiGraph_copy N) biGraph_copy_2 (roundK diGraph_copy_2 oiGraph_copy_2 (liGraph_copy_2 N n)) (diGraph_copy_2.mk' v) := by kernel_rfl
theorem cxiGraph_copy (N : Nat) : CtxOk Try.prog (XiGraph_copy N) := ⟨⟨TE_ok, List.forall_mem_cons.2 ⟨speckClone_Sint_int N, fun k hk => absurd hk List.not_mem_nil⟩⟩, mixed⟩
theorem lpiGraph_copy_0 (N : Nat) : LoopOk Try.prog { hd := diGraph_copy_0, outs := oiGraph_copy_0, run := fun v => liGraph_copy_0 N N v } biGraph_copy_0 :=
  loop_fuel (d := diGraph_copy_0) (os := oiGraph_copy_0) (cxiGraph_copy N) (loops_at (ids := []) (by kernel_rfl) (trivial)) (liGraph_copy_0 N) (fun _ => rfl) (fun n v => liGraph_copy_0_eq N n v) (fun _ => N)
theorem lpiGraph_copy_2 (N : Nat) : LoopOk Try.prog { hd := diGraph_copy_2, outs := oiGraph_copy_2, run := fun v => liGraph_copy_2 N N v } biGraph_copy_2 :=
  loop_fuel (d := diGraph_copy_2) (os := oiGraph_copy_2) (cxiGraph_copy N) (loops_at (ids := []) (by kernel_rfl) (trivial)) (liGraph_copy_2 N) (fun _ => rfl) (fun n v => liGraph_copy_2_eq N n v) (fun _ => N)
theorem speciGraph_copy (N : Nat) : Spec Try.prog (coniGraph_copy N) :=
  Spec.of_eq (fn_spec (cxiGraph_copy N) (f := 44) (fn := Try.f44) (c := codeOf Try.f44) (by kernel_rfl) (by kernel_rfl) (by kernel_rfl) (loops_at (ids := [0, 2]) (by kernel_rfl) ⟨lp_of (lpiGraph_copy_0 N), ⟨lp_of (lpiGraph_copy_2 N), trivial⟩⟩) (by kernel_rfl)) (fun x r h => (FiGraph_copy_eq N x).trans h)

/-! ### 89: impl.Op).handles -/

noncomputable def diniOp_handles : Desc := { n := 1, regs := [.one (.val (.pair (.int .i64) (.pair (.int .i64) (.pair (.int .i64) (.pair (.int .i64) (.pair (.int .i64) (.pair (.int .i64) (.pair (.pair (.int .i64) (.pair (.int .i64) .unit)) .unit))))))))], bx := [], pins := [] }
noncomputable def outiOp_handles : Outs := [(.ret, { n := 1, regs := [.one (.lit (.row 1051200))], bx := [(1051200, .row (.int .i64))], pins := [] })]
noncomputable def HiOp_handles : Hints := [(0, [(0, { fz := true })]),
  (4, [(0, { nl := [(0, (.int .i64))] })])]
noncomputable def EiOp_handles (_N : Nat) : Env := { te := TE, cs := [] }
noncomputable def FiOp_handles (N : Nat) (x : ((Int × (Int × (Int × (Int × (Int × (Int × ((Int × (Int × Unit)) × Unit))))))) × Unit)) : Option ((List Int) × Unit) :=
  bif x.1.1 == (1 : Int) then
   some (([] : (List Int)), ())
  else
  bif x.1.1 == (8 : Int) then
   some (([] : (List Int)), ())
  else
  bif x.1.1 == (3 : Int) then
   some ([x.1.2.1, x.1.2.2.1], ())
  else
  bif x.1.1 == (6 : Int) then
   some ([x.1.2.1, x.1.2.2.1], ())
  else
  bif x.1.1 == (7 : Int) then
   some ([x.1.2.1, x.1.2.2.1, x.1.2.2.2.1], ())
  else
  some ([x.1.2.1], ())
noncomputable def coniOp_handles (N : Nat) : Con := { f := 89, din := diniOp_handles, outs := outiOp_handles, F := FiOp_handles N }
noncomputable def XiOp_handles (N : Nat) : Ctx := { E := EiOp_handles N, H := HiOp_handles, lp := [], jn := [] }
theorem FiOp_handles_eq (N : Nat) (x : ((Int × (Int × (Int × (Int × (Int × (Int × ((Int × (Int × Unit)) × Unit))))))) × Unit)) : evFn (XiOp_handles N) Try.f89 diniOp_handles outiOp_handles x = FiOp_handles N x := by kernel_rfl
theorem cxiOp_handles (N : Nat) : CtxOk Try.prog (XiOp_handles N) := ⟨⟨TE_ok, fun k hk => absurd hk List.not_mem_nil⟩, mixed⟩
theorem speciOp_handles (N : Nat) : Spec Try.prog (coniOp_handles N) :=
  Spec.of_eq (fn_spec (cxiOp_handles N) (f := 89) (fn := Try.f89) (c := codeOf Try.f89) (by kernel_rfl) (by kernel_rfl) (by kernel_rfl) (loops_at (ids := []) (by kernel_rfl) (trivial)) (by kernel_rfl)) (fun x r h => (FiOp_handles_eq N x).trans h)

/-! ### 45: impl.Op).early -/

noncomputable def diniOp_early : Desc := { n := 3, regs := [.one (.val (.pair (.int .i64) (.pair (.int .i64) (.pair (.int .i64) (.pair (.int .i64) (.pair (.int .i64) (.pair (.int .i64) (.pair (.pair (.int .i64) (.pair (.int .i64) .unit)) .unit)))))))), .one (.val (.sl (.int .i64))), .one (.val (.int .i64))], bx := [], pins := [] }
noncomputable def outiOp_early : Outs := [(.ret, { n := 1, regs := [.one (.val (.int .i64))], bx := [], pins := [] })]
noncomputable def HiOp_early : Hints := [(0, [(0, { fz := true })])]
noncomputable def EiOp_early (N : Nat) : Env := { te := TE, cs := [coniOp_handles N] }
noncomputable def diOp_early_0 : Desc := { n := 61, regs := [u, .one (.val (.sl (.int .i64))), .one (.val (.int .i64)), .one (.fpt (.pair (.int .i64) (.pair (.int .i64) (.pair (.int .i64) (.pair (.int .i64) (.pair (.int .i64) (.pair (.int .i64) (.pair (.pair (.int .i64) (.pair (.int .i64) .unit)) .unit)))))))), u, u, u, u, u, u, .one (.lit (.row 1012865)), .one (.val (.int .i64)), .one (.val (.int .i64))], bx := [(1012865, .row (.int .i64))], pins := [] }
noncomputable def oiOp_early_0 : Outs := [(.exit 0, { n := 61, regs := [u, .one (.val (.sl (.int .i64))), .one (.val (.int .i64)), .one (.fpt (.pair (.int .i64) (.pair (.int .i64) (.pair (.int .i64) (.pair (.int .i64) (.pair (.int .i64) (.pair (.int .i64) (.pair (.pair (.int .i64) (.pair (.int .i64) .unit)) .unit))))))))], bx := [], pins := [] }), (.ret, { n := 61, regs := [u, u, u, u, u, u, .one (.val (.int .i64))], bx := [], pins := [] })]
noncomputable def jiOp_early_16 : Outs := [(.normal, { n := 61, regs := [u, .one (.val (.sl (.int .i64))), u, .one (.fpt (.pair (.int .i64) (.pair (.int .i64) (.pair (.int .i64) (.pair (.int .i64) (.pair (.int .i64) (.pair (.int .i64) (.pair (.pair (.int .i64) (.pair (.int .i64) .unit)) .unit))))))))], bx := [], pins := [] }), (.ret, { n := 61, regs := [u, u, u, u, u, u, .one (.val (.int .i64))], bx := [], pins := [] })]
noncomputable def liOp_early_0 (N : Nat) : Nat → ((List Int) × (Int × ((Int × (Int × (Int × (Int × (Int × (Int × ((Int × (Int × Unit)) × Unit))))))) × (Int × (Int × ((List Int) × Unit)))))) → Option (((List Int) × (Int × ((Int × (Int × (Int × (Int × (Int × (Int × ((Int × (Int × Unit)) × Unit))))))) × Unit))) ⊕ (Int × Unit))
  | 0, _ => none
  | n + 1, v =>
    bif decide (v.2.2.2.2.1 < v.2.2.2.1) then
     bif decide (0 ≤ v.2.2.2.2.1) then
     bif decide (v.2.2.2.2.1.toNat < v.2.2.2.2.2.1.length) then
     let y2 := v.2.2.2.2.2.1.getD v.2.2.2.2.1.toNat (0 : Int)
     bif decide (y2 < (0 : Int)) then
      some (.inr (((2 : Int), ())))
     else
     bif decide (y2 ≥ (v.1.length : Int)) then
      some (.inr (((2 : Int), ())))
     else
     liOp_early_0 N n (v.1, v.2.1, v.2.2.1, v.2.2.2.1, w64 (v.2.2.2.2.1 + (1 : Int)), v.2.2.2.2.2.1, ())
     else none
     else none
    else
    some (.inl (v.1, v.2.1, v.2.2.1, ()))
noncomputable def FiOp_early (N : Nat) (x : ((Int × (Int × (Int × (Int × (Int × (Int × ((Int × (Int × Unit)) × Unit))))))) × ((List Int) × (Int × Unit)))) : Option (Int × Unit) :=
  (FiOp_handles N (x.1, ())).bind fun r1 =>
  (liOp_early_0 N N (x.2.1, x.2.2.1, x.1, (r1.1.length : Int), (0 : Int), r1.1, ())).bind fun o3 =>
  Sum.elim (fun o4 =>
   Option.bind (
    bif o4.2.2.1.1 == (8 : Int) then
     bif (o4.1.length : Int) == (0 : Int) then
      some (.inr (((2 : Int), ())))
     else
     some (.inl (o4.1, o4.2.2.1, ()))
    else
    bif o4.2.2.1.1 == (1 : Int) then
     some (.inl (o4.1, o4.2.2.1, ()))
    else
    bif o4.2.2.1.1 == (6 : Int) then
     some (.inl (o4.1, o4.2.2.1, ()))
    else
    bif o4.2.2.1.1 == (9 : Int) then
     some (.inl (o4.1, o4.2.2.1, ()))
    else
    bif decide (0 ≤ o4.2.2.1.2.1) then
    bif decide (o4.2.2.1.2.1.toNat < o4.1.length) then
    let y5 := o4.1.getD o4.2.2.1.2.1.toNat (0 : Int)
    bif y5 == o4.2.1 then
     some (.inr (((3 : Int), ())))
    else
    some (.inl (o4.1, o4.2.2.1, ()))
    else none
    else none) fun o6 =>
   Sum.elim (fun o7 =>
    bif o7.2.1.1 == (1 : Int) then
     let y8 := decide ((o7.1.length : Int) ≥ (8 : Int))
     bif y8 then
      some ((5 : Int), ())
     else
     some ((0 : Int), ())
    else
    bif o7.2.1.1 == (2 : Int) then
     let y9 := decide ((o7.1.length : Int) ≥ (8 : Int))
     bif y9 then
      some ((5 : Int), ())
     else
     some ((0 : Int), ())
    else
    bif o7.2.1.1 == (9 : Int) then
     let y10 := decide ((o7.1.length : Int) ≥ (8 : Int))
     bif y10 then
      some ((5 : Int), ())
     else
     some ((0 : Int), ())
    else
    some ((0 : Int), ())) (fun o11 =>
    some (o11.1, ())) o6) (fun o12 =>
   some (o12.1, ())) o3
noncomputable def coniOp_early (N : Nat) : Con := { f := 45, din := diniOp_early, outs := outiOp_early, F := FiOp_early N }
noncomputable def XiOp_early (N : Nat) : Ctx := { E := EiOp_early N, H := HiOp_early, lp := [(0, { hd := diOp_early_0, outs := oiOp_early_0, run := fun v => liOp_early_0 N N v })], jn := [(16, jiOp_early_16)] }
noncomputable def biOp_early_0 : Code := loopBody (codeOf Try.f45) 0
theorem FiOp_early_eq (N : Nat) (x : ((Int × (Int × (Int × (Int × (Int × (Int × ((Int × (Int × Unit)) × Unit))))))) × ((List Int) × (Int × Unit)))) : evFn (XiOp_early N) Try.f45 diniOp_early outiOp_early x = FiOp_early N x := by kernel_rfl
theorem liOp_early_0_eq (N n : Nat) (v : ((List Int) × (Int × ((Int × (Int × (Int × (Int × (Int × (Int × ((Int × (Int × Unit)) × Unit))))))) × (Int × (Int × ((List Int) × Unit))))))) : liOp_early_0 N (n + 1) v = ev (XiOp_early N) biOp_early_0 (roundK diOp_early_0 oiOp_early_0 (liOp_early_0 N n)) (diOp_early_0.mk' v) := by kernel_rfl
theorem cxiOp_early (N : Nat) : CtxOk Try.prog (XiOp_early N) := ⟨⟨TE_ok, List.forall_mem_cons.2 ⟨speciOp_handles N, fun k hk => absurd hk List.not_mem_nil⟩⟩, mixed⟩
theorem lpiOp_early_0 (N : Nat) : LoopOk Try.prog { hd := diOp_early_0, outs := oiOp_early_0, run := fun v => liOp_early_0 N N v } biOp_early_0 :=
  loop_fuel (d := diOp_early_0) (os := oiOp_early_0) (cxiOp_early N) (loops_at (ids := []) (by kernel_rfl) (trivial)) (liOp_early_0 N) (fun _ => rfl) (fun n v => liOp_early_0_eq N n v) (fun _ => N)
theorem speciOp_early (N : Nat) : Spec Try.prog (coniOp_early N) :=
  Spec.of_eq (fn_spec (cxiOp_early N) (f := 45) (fn := Try.f45) (c := codeOf Try.f45) (by kernel_rfl) (by kernel_rfl) (by kernel_rfl) (loops_at (ids := [0]) (by kernel_rfl) ⟨lp_of (lpiOp_early_0 N), trivial⟩) (by kernel_rfl)) (fun x r h => (FiOp_early_eq N x).trans h)

/-! ### 46: impl.Op).field -/

noncomputable def diniOp_field : Desc := { n := 3, regs := [.one (.val (.pair (.int .i64) (.pair (.int .i64) (.pair (.int .i64) (.pair (.int .i64) (.pair (.int .i64) (.pair (.int .i64) (.pair (.pair (.int .i64) (.pair (.int .i64) .unit)) .unit)))))))), .one (.val (.int .i64)), .one (.val (.int .i64))], bx := [], pins := [] }
noncomputable def outiOp_field : Outs := [(.ret, { n := 1, regs := [.one (.val .bool)], bx := [], pins := [] })]
noncomputable def HiOp_field : Hints := [(0, [(0, { fz := true })])]
noncomputable def EiOp_field (_N : Nat) : Env := { te := TE, cs := [] }
noncomputable def FiOp_field (N : Nat) (x : ((Int × (Int × (Int × (Int × (Int × (Int × ((Int × (Int × Unit)) × Unit))))))) × (Int × (Int × Unit)))) : Option (Bool × Unit) :=
  bif x.1.1 == (2 : Int) then
   bif decide (x.1.2.2.2.2.1 ≥ (0 : Int)) then
    some (decide (x.1.2.2.2.2.1 < x.2.1), ())
   else
   some (false, ())
  else
  bif x.1.1 == (3 : Int) then
   bif decide (x.1.2.2.2.2.1 ≥ (0 : Int)) then
    some (decide (x.1.2.2.2.2.1 < x.2.1), ())
   else
   some (false, ())
  else
  bif x.1.1 == (7 : Int) then
   bif decide (x.1.2.2.2.2.1 ≥ (0 : Int)) then
    some (decide (x.1.2.2.2.2.1 < x.2.1), ())
   else
   some (false, ())
  else
  bif x.1.1 == (4 : Int) then
   bif decide (x.1.2.2.2.2.1 ≥ (0 : Int)) then
    some (decide (x.1.2.2.2.2.1 < x.2.2.1), ())
   else
   some (false, ())
  else
  bif x.1.1 == (5 : Int) then
   bif decide (x.1.2.2.2.2.1 ≥ (0 : Int)) then
    some (decide (x.1.2.2.2.2.1 < x.2.2.1), ())
   else
   some (false, ())
  else
  some (true, ())
noncomputable def coniOp_field (N : Nat) : Con := { f := 46, din := diniOp_field, outs := outiOp_field, F := FiOp_field N }
noncomputable def XiOp_field (N : Nat) : Ctx := { E := EiOp_field N, H := HiOp_field, lp := [], jn := [] }
theorem FiOp_field_eq (N : Nat) (x : ((Int × (Int × (Int × (Int × (Int × (Int × ((Int × (Int × Unit)) × Unit))))))) × (Int × (Int × Unit)))) : evFn (XiOp_field N) Try.f46 diniOp_field outiOp_field x = FiOp_field N x := by kernel_rfl
theorem cxiOp_field (N : Nat) : CtxOk Try.prog (XiOp_field N) := ⟨⟨TE_ok, fun k hk => absurd hk List.not_mem_nil⟩, mixed⟩
theorem speciOp_field (N : Nat) : Spec Try.prog (coniOp_field N) :=
  Spec.of_eq (fn_spec (cxiOp_field N) (f := 46) (fn := Try.f46) (c := codeOf Try.f46) (by kernel_rfl) (by kernel_rfl) (by kernel_rfl) (loops_at (ids := []) (by kernel_rfl) (trivial)) (by kernel_rfl)) (fun x r h => (FiOp_field_eq N x).trans h)

/-! ### 113: bits.Mul64 -/

noncomputable def dinmath_bits_Mul64 : Desc := { n := 2, regs := [.one (.val (.int .u64)), .one (.val (.int .u64))], bx := [], pins := [] }
noncomputable def outmath_bits_Mul64 : Outs := [(.ret, { n := 2, regs := [.one (.val (.int .u64)), .one (.val (.int .u64))], bx := [], pins := [] })]
noncomputable def Hmath_bits_Mul64 : Hints := []
noncomputable def Emath_bits_Mul64 (_N : Nat) : Env := { te := TE, cs := [] }
noncomputable def Fmath_bits_Mul64 (N : Nat) (x : (Int × (Int × Unit))) : Option (Int × (Int × Unit)) :=
  let y1 := IntKind.wrap .u64 (((bitsOf .u64 x.1 &&& bitsOf .u64 (4294967295 : Int)).toNat : Int))
  bif decide (0 ≤ (32 : Int)) then
  let y2 := Int.fdiv x.1 (2 ^ min (32 : Int).toNat 64)
  let y3 := IntKind.wrap .u64 (((bitsOf .u64 x.2.1 &&& bitsOf .u64 (4294967295 : Int)).toNat : Int))
  bif decide (0 ≤ (32 : Int)) then
  let y4 := Int.fdiv x.2.1 (2 ^ min (32 : Int).toNat 64)
  bif decide (0 ≤ (32 : Int)) then
  let y5 := Int.fdiv (IntKind.wrap .u64 (y1 * y3)) (2 ^ min (32 : Int).toNat 64)
  let y6 := IntKind.wrap .u64 ((IntKind.wrap .u64 (y2 * y3)) + y5)
  let y7 := IntKind.wrap .u64 (((bitsOf .u64 y6 &&& bitsOf .u64 (4294967295 : Int)).toNat : Int))
  bif decide (0 ≤ (32 : Int)) then
  let y8 := Int.fdiv y6 (2 ^ min (32 : Int).toNat 64)
  let y9 := IntKind.wrap .u64 (y7 + (IntKind.wrap .u64 (y1 * y4)))
  let y10 := IntKind.wrap .u64 ((IntKind.wrap .u64 (y2 * y4)) + y8)
  bif decide (0 ≤ (32 : Int)) then
  let y11 := Int.fdiv y9 (2 ^ min (32 : Int).toNat 64)
  some (IntKind.wrap .u64 (y10 + y11), IntKind.wrap .u64 (x.1 * x.2.1), ())
  else none
  else none
  else none
  else none
  else none
noncomputable def conmath_bits_Mul64 (N : Nat) : Con := { f := 113, din := dinmath_bits_Mul64, outs := outmath_bits_Mul64, F := Fmath_bits_Mul64 N }
noncomputable def Xmath_bits_Mul64 (N : Nat) : Ctx := { E := Emath_bits_Mul64 N, H := Hmath_bits_Mul64, lp := [], jn := [] }
theorem Fmath_bits_Mul64_eq (N : Nat) (x : (Int × (Int × Unit))) : evFn (Xmath_bits_Mul64 N) Try.f113 dinmath_bits_Mul64 outmath_bits_Mul64 x = Fmath_bits_Mul64 N x := by kernel_rfl
theorem cxmath_bits_Mul64 (N : Nat) : CtxOk Try.prog (Xmath_bits_Mul64 N) := ⟨⟨TE_ok, fun k hk => absurd hk List.not_mem_nil⟩, mixed⟩
theorem specmath_bits_Mul64 (N : Nat) : Spec Try.prog (conmath_bits_Mul64 N) :=
  Spec.of_eq (fn_spec (cxmath_bits_Mul64 N) (f := 113) (fn := Try.f113) (c := codeOf Try.f113) (by kernel_rfl) (by kernel_rfl) (by kernel_rfl) (loops_at (ids := []) (by kernel_rfl) (trivial)) (by kernel_rfl)) (fun x r h => (Fmath_bits_Mul64_eq N x).trans h)

/-! ### 107: bits.Mul -/

noncomputable def dinmath_bits_Mul : Desc := { n := 2, regs := [.one (.val (.int .u64)), .one (.val (.int .u64))], bx := [], pins := [] }
noncomputable def outmath_bits_Mul : Outs := [(.ret, { n := 2, regs := [.one (.val (.int .u64)), .one (.val (.int .u64))], bx := [], pins := [] })]
noncomputable def Hmath_bits_Mul : Hints := []
noncomputable def Emath_bits_Mul (N : Nat) : Env := { te := TE, cs := [conmath_bits_Mul64 N] }
noncomputable def Fmath_bits_Mul (N : Nat) (x : (Int × (Int × Unit))) : Option (Int × (Int × Unit)) :=
  (Fmath_bits_Mul64 N (x.1, x.2.1, ())).bind fun r1 =>
  some (r1.1, r1.2.1, ())
noncomputable def conmath_bits_Mul (N : Nat) : Con := { f := 107, din := dinmath_bits_Mul, outs := outmath_bits_Mul, F := Fmath_bits_Mul N }
noncomputable def Xmath_bits_Mul (N : Nat) : Ctx := { E := Emath_bits_Mul N, H := Hmath_bits_Mul, lp := [], jn := [] }
theorem Fmath_bits_Mul_eq (N : Nat) (x : (Int × (Int × Unit))) : evFn (Xmath_bits_Mul N) Try.f107 dinmath_bits_Mul outmath_bits_Mul x = Fmath_bits_Mul N x := by kernel_rfl
theorem cxmath_bits_Mul (N : Nat) : CtxOk Try.prog (Xmath_bits_Mul N) := ⟨⟨TE_ok, List.forall_mem_cons.2 ⟨specmath_bits_Mul64 N, fun k hk => absurd hk List.not_mem_nil⟩⟩, mixed⟩
theorem specmath_bits_Mul (N : Nat) : Spec Try.prog (conmath_bits_Mul N) :=
  Spec.of_eq (fn_spec (cxmath_bits_Mul N) (f := 107) (fn := Try.f107) (c := codeOf Try.f107) (by kernel_rfl) (by kernel_rfl) (by kernel_rfl) (loops_at (ids := []) (by kernel_rfl) (trivial)) (by kernel_rfl)) (fun x r h => (Fmath_bits_Mul_eq N x).trans h)

/-! ### 90: slices.Repeat[[]int,int] -/

noncomputable def dinkRepeat_Sint_int : Desc := { n := 2, regs := [.one (.val (.sl (.int .i64))), .one (.val (.int .i64))], bx := [], pins := [] }
noncomputable def outkRepeat_Sint_int : Outs := [(.ret, { n := 1, regs := [.one (.lit (.row 1076928))], bx := [(1076928, .row (.int .i64))], pins := [] })]
noncomputable def HkRepeat_Sint_int : Hints := []
noncomputable def EkRepeat_Sint_int (N : Nat) : Env := { te := TE, cs := [conmath_bits_Mul N] }
noncomputable def dkRepeat_Sint_int_0 : Desc := { n := 48, regs := [u, u, u, u, u, u, u, .one (.lit (.row 1076928)), .one (.val (.int .i64))], bx := [(1076928, .row (.int .i64))], pins := [] }
noncomputable def okRepeat_Sint_int_0 : Outs := [(.exit 0, { n := 48, regs := [u, u, u, u, u, u, u, .one (.lit (.row 1076928))], bx := [(1076928, .row (.int .i64))], pins := [] })]
noncomputable def jkRepeat_Sint_int_3 : Outs := [(.normal, { n := 48, regs := [.one (.val (.sl (.int .i64))), .one (.val (.int .i64))], bx := [], pins := [] })]
noncomputable def jkRepeat_Sint_int_6 : Outs := [(.normal, { n := 48, regs := [.one (.val (.sl (.int .i64))), u, u, u, u, u, .one (.val (.int .u64))], bx := [], pins := [] })]
noncomputable def lkRepeat_Sint_int_0 (N : Nat) : Nat → (Int × ((List Int) × Unit)) → Option ((List Int) × Unit)
  | 0, _ => none
  | n + 1, v =>
    bif decide (v.1 < (v.2.1.length : Int)) then
     bif decide (0 ≤ (v.2.1.length : Int)) then
     bif decide ((v.2.1.length : Int) ≤ (v.2.1.length : Int)) then
     bif decide (0 ≤ v.1) then
     bif decide (v.1 ≤ (v.2.1.length : Int)) then
     bif decide (0 ≤ v.1) then
     bif decide (v.1 ≤ (v.2.1.length : Int)) then
     bif decide (0 ≤ (0 : Int)) then
     bif decide ((0 : Int) ≤ v.1) then
     let y8 := lay v.2.1 v.1.toNat (((v.2.1.drop ((0 : Int).toNat)).take (v.1.toNat - (0 : Int).toNat)).take ((v.2.1.length : Int).toNat - v.1.toNat))
     let y9 := ((min ((v.2.1.drop ((0 : Int).toNat)).take (v.1.toNat - (0 : Int).toNat)).length ((v.2.1.length : Int).toNat - v.1.toNat) : Nat) : Int)
     lkRepeat_Sint_int_0 N n (w64 (v.1 + y9), y8, ())
     else none
     else none
     else none
     else none
     else none
     else none
     else none
     else none
    else
    some (v.2.1, ())
noncomputable def FkRepeat_Sint_int (N : Nat) (x : ((List Int) × (Int × Unit))) : Option ((List Int) × Unit) :=
  Option.bind (
   bif decide (x.2.1 < (0 : Int)) then
    none
   else
   some (x.1, x.2.1, ())) fun o1 =>
  let y2 := IntKind.wrap .u64 ((o1.1.length : Int))
  (Fmath_bits_Mul N (y2, IntKind.wrap .u64 (o1.2.1), ())).bind fun r3 =>
  Option.bind (
   bif decide (r3.1 > (0 : Int)) then
    none
   else
   let y4 := decide (r3.2.1 > (9223372036854775807 : Int))
   bif y4 then
    none
   else
   some (o1.1, r3.2.1, ())) fun o5 =>
  bif decide (0 ≤ (w64 (o5.2.1))) then
  bif decide ((w64 (o5.2.1)).toNat ≤ lim) then
  let y6 := List.replicate (w64 (o5.2.1)).toNat (0 : Int)
  let y7 := ((min o5.1.length y6.length : Nat) : Int)
  (lkRepeat_Sint_int_0 N N (y7, lay y6 0 (o5.1.take y6.length), ())).bind fun o10 =>
  some (o10.1, ())
  else none
  else none
noncomputable def conkRepeat_Sint_int (N : Nat) : Con := { f := 90, din := dinkRepeat_Sint_int, outs := outkRepeat_Sint_int, F := FkRepeat_Sint_int N }
noncomputable def XkRepeat_Sint_int (N : Nat) : Ctx := { E := EkRepeat_Sint_int N, H := HkRepeat_Sint_int, lp := [(0, { hd := dkRepeat_Sint_int_0, outs := okRepeat_Sint_int_0, run := fun v => lkRepeat_Sint_int_0 N N v })], jn := [(3, jkRepeat_Sint_int_3), (6, jkRepeat_Sint_int_6)] }
noncomputable def bkRepeat_Sint_int_0 : Code := loopBody (codeOf Try.f90) 0
theorem FkRepeat_Sint_int_eq (N : Nat) (x : ((List Int) × (Int × Unit))) : evFn (XkRepeat_Sint_int N) Try.f90 dinkRepeat_Sint_int outkRepeat_Sint_int x = FkRepeat_Sint_int N x := by kernel_rfl
theorem lkRepeat_Sint_int_0_eq (N n : Nat) (v : (Int × ((List Int) × Unit))) : lkRepeat_Sint_int_0 N (n + 1) v = ev (XkRepeat_Sint_int N) bkRepeat_Sint_int_0 (roundK dkRepeat_Sint_int_0 okRepeat_Sint_int_0 (lkRepeat_Sint_int_0 N n)) (dkRepeat_Sint_int_0.mk' v) := by kernel_rfl
theorem cxkRepeat_Sint_int (N : Nat) : CtxOk Try.prog (XkRepeat_Sint_int N) := ⟨⟨TE_ok, List.forall_mem_cons.2 ⟨specmath_bits_Mul N, fun k hk => absurd hk List.not_mem_nil⟩⟩, mixed⟩
theorem lpkRepeat_Sint_int_0 (N : Nat) : LoopOk Try.prog { hd := dkRepeat_Sint_int_0, outs := okRepeat_Sint_int_0, run := fun v => lkRepeat_Sint_int_0 N N v } bkRepeat_Sint_int_0 :=
  loop_fuel (d := dkRepeat_Sint_int_0) (os := okRepeat_Sint_int_0) (cxkRepeat_Sint_int N) (loops_at (ids := []) (by kernel_rfl) (trivial)) (lkRepeat_Sint_int_0 N) (fun _ => rfl) (fun n v => lkRepeat_Sint_int_0_eq N n v) (fun _ => N)
theorem speckRepeat_Sint_int (N : Nat) : Spec Try.prog (conkRepeat_Sint_int N) :=
  Spec.of_eq (fn_spec (cxkRepeat_Sint_int N) (f := 90) (fn := Try.f90) (c := codeOf Try.f90) (by kernel_rfl) (by kernel_rfl) (by kernel_rfl) (loops_at (ids := [0]) (by kernel_rfl) ⟨lp_of (lpkRepeat_Sint_int_0 N), trivial⟩) (by kernel_rfl)) (fun x r h => (FkRepeat_Sint_int_eq N x).trans h)

/-! ### 47: impl.none -/

noncomputable def dininone : Desc := { n := 1, regs := [.one (.val (.int .i64))], bx := [], pins := [] }
noncomputable def outinone : Outs := [(.ret, { n := 1, regs := [.one (.lit (.row 1012929))], bx := [(1012929, .row (.int .i64))], pins := [] })]
noncomputable def Hinone : Hints := []
noncomputable def Einone (N : Nat) : Env := { te := TE, cs := [conkRepeat_Sint_int N] }
noncomputable def Finone (N : Nat) (x : (Int × Unit)) : Option ((List Int) × Unit) :=
  (FkRepeat_Sint_int N ([(-1 : Int)], x.1, ())).bind fun r1 =>
  some (r1.1, ())
noncomputable def coninone (N : Nat) : Con := { f := 47, din := dininone, outs := outinone, F := Finone N }
noncomputable def Xinone (N : Nat) : Ctx := { E := Einone N, H := Hinone, lp := [], jn := [] }
theorem Finone_eq (N : Nat) (x : (Int × Unit)) : evFn (Xinone N) Try.f47 dininone outinone x = Finone N x := by kernel_rfl
theorem cxinone (N : Nat) : CtxOk Try.prog (Xinone N) := ⟨⟨TE_ok, List.forall_mem_cons.2 ⟨speckRepeat_Sint_int N, fun k hk => absurd hk List.not_mem_nil⟩⟩, mixed⟩
theorem specinone (N : Nat) : Spec Try.prog (coninone N) :=
  Spec.of_eq (fn_spec (cxinone N) (f := 47) (fn := Try.f47) (c := codeOf Try.f47) (by kernel_rfl) (by kernel_rfl) (by kernel_rfl) (loops_at (ids := []) (by kernel_rfl) (trivial)) (by kernel_rfl)) (fun x r h => (Finone_eq N x).trans h)

/-! ### 48: impl.truth -/

noncomputable def dinitruth : Desc := { n := 1, regs := [.one (.val .bool)], bx := [], pins := [] }
noncomputable def outitruth : Outs := [(.ret, { n := 1, regs := [.one (.val (.int .i64))], bx := [], pins := [] })]
noncomputable def Hitruth : Hints := []
noncomputable def Eitruth (_N : Nat) : Env := { te := TE, cs := [] }
noncomputable def Fitruth (N : Nat) (x : (Bool × Unit)) : Option (Int × Unit) :=
  bif x.1 then
   some ((1 : Int), ())
  else
  some ((0 : Int), ())
noncomputable def conitruth (N : Nat) : Con := { f := 48, din := dinitruth, outs := outitruth, F := Fitruth N }
noncomputable def Xitruth (N : Nat) : Ctx := { E := Eitruth N, H := Hitruth, lp := [], jn := [] }
theorem Fitruth_eq (N : Nat) (x : (Bool × Unit)) : evFn (Xitruth N) Try.f48 dinitruth outitruth x = Fitruth N x := by kernel_rfl
theorem cxitruth (N : Nat) : CtxOk Try.prog (Xitruth N) := ⟨⟨TE_ok, fun k hk => absurd hk List.not_mem_nil⟩, mixed⟩
theorem specitruth (N : Nat) : Spec Try.prog (conitruth N) :=
  Spec.of_eq (fn_spec (cxitruth N) (f := 48) (fn := Try.f48) (c := codeOf Try.f48) (by kernel_rfl) (by kernel_rfl) (by kernel_rfl) (loops_at (ids := []) (by kernel_rfl) (trivial)) (by kernel_rfl)) (fun x r h => (Fitruth_eq N x).trans h)

/-! ### 49: impl.lastOf -/

noncomputable def dinilastOf : Desc := { n := 2, regs := [.one (.val (.sl (.int .i64))), .one (.val (.int .i64))], bx := [], pins := [] }
noncomputable def outilastOf : Outs := [(.ret, { n := 1, regs := [.one (.val (.int .i64))], bx := [], pins := [] })]
noncomputable def HilastOf : Hints := []
noncomputable def EilastOf (_N : Nat) : Env := { te := TE, cs := [] }
noncomputable def dilastOf_0 : Desc := { n := 20, regs := [.one (.val (.sl (.int .i64))), .one (.val (.int .i64)), u, u, u, .one (.val (.int .i64))], bx := [], pins := [] }
noncomputable def oilastOf_0 : Outs := [(.exit 0, { n := 20, regs := [], bx := [], pins := [] }), (.ret, { n := 20, regs := [u, u, u, u, .one (.val (.int .i64))], bx := [], pins := [] })]
noncomputable def lilastOf_0 (N : Nat) : Nat → ((List Int) × (Int × (Int × Unit))) → Option (Unit ⊕ (Int × Unit))
  | 0, _ => none
  | n + 1, v =>
    bif decide (v.2.2.1 ≥ (0 : Int)) then
     bif decide (0 ≤ v.2.2.1) then
     bif decide (v.2.2.1.toNat < v.1.length) then
     let y1 := (v.1.getD v.2.2.1.toNat (0 : Int)) == v.2.1
     bif y1 then
      some (.inr ((v.2.2.1, ())))
     else
     lilastOf_0 N n (v.1, v.2.1, w64 (v.2.2.1 - (1 : Int)), ())
     else none
     else none
    else
    some (.inl ())
noncomputable def FilastOf (N : Nat) (x : ((List Int) × (Int × Unit))) : Option (Int × Unit) :=
  (lilastOf_0 N N (x.1, x.2.1, w64 ((x.1.length : Int) - (1 : Int)), ())).bind fun o2 =>
  Sum.elim (fun o3 =>
   some ((-1 : Int), ())) (fun o4 =>
   some (o4.1, ())) o2
noncomputable def conilastOf (N : Nat) : Con := { f := 49, din := dinilastOf, outs := outilastOf, F := FilastOf N }
noncomputable def XilastOf (N : Nat) : Ctx := { E := EilastOf N, H := HilastOf, lp := [(0, { hd := dilastOf_0, outs := oilastOf_0, run := fun v => lilastOf_0 N N v })], jn := [] }
noncomputable def bilastOf_0 : Code := loopBody (codeOf Try.f49) 0
theorem FilastOf_eq (N : Nat) (x : ((List Int) × (Int × Unit))) : evFn (XilastOf N) Try.f49 dinilastOf outilastOf x = FilastOf N x := by kernel_rfl
theorem lilastOf_0_eq (N n : Nat) (v : ((List Int) × (Int × (Int × Unit)))) : lilastOf_0 N (n + 1) v = ev (XilastOf N) bilastOf_0 (roundK dilastOf_0 oilastOf_0 (lilastOf_0 N n)) (dilastOf_0.mk' v) := by kernel_rfl
theorem cxilastOf (N : Nat) : CtxOk Try.prog (XilastOf N) := ⟨⟨TE_ok, fun k hk => absurd hk List.not_mem_nil⟩, mixed⟩
theorem lpilastOf_0 (N : Nat) : LoopOk Try.prog { hd := dilastOf_0, outs := oilastOf_0, run := fun v => lilastOf_0 N N v } bilastOf_0 :=
  loop_fuel (d := dilastOf_0) (os := oilastOf_0) (cxilastOf N) (loops_at (ids := []) (by kernel_rfl) (trivial)) (lilastOf_0 N) (fun _ => rfl) (fun n v => lilastOf_0_eq N n v) (fun _ => N)
theorem specilastOf (N : Nat) : Spec Try.prog (conilastOf N) :=
  Spec.of_eq (fn_spec (cxilastOf N) (f := 49) (fn := Try.f49) (c := codeOf Try.f49) (by kernel_rfl) (by kernel_rfl) (by kernel_rfl) (loops_at (ids := [0]) (by kernel_rfl) ⟨lp_of (lpilastOf_0 N), trivial⟩) (by kernel_rfl)) (fun x r h => (FilastOf_eq N x).trans h)

/-! ### 50: slices.Delete[[]int,int] -/

noncomputable def dinkDelete_Sint_int : Desc := { n := 3, regs := [.one (.lit (.row 0)), .one (.val (.int .i64)), .one (.val (.int .i64))], bx := [(0, .row (.int .i64))], pins := [] }
noncomputable def outkDelete_Sint_int : Outs := [(.ret, { n := 1, regs := [.one (.lit (.row 0))], bx := [(0, .row (.int .i64))], pins := [] })]
noncomputable def HkDelete_Sint_int : Hints := [(7, [(1, { dp := true })])]
noncomputable def EkDelete_Sint_int (_N : Nat) : Env := { te := TE, cs := [] }
noncomputable def FkDelete_Sint_int (N : Nat) (x : (Int × (Int × ((List Int) × Unit)))) : Option ((List Int) × Unit) :=
  bif decide (0 ≤ x.1) then
  bif decide (x.1 ≤ x.2.1) then
  bif decide (x.2.1 ≤ (x.2.2.1.length : Int)) then
  bif decide ((x.2.2.1.length : Int) ≤ (x.2.2.1.length : Int)) then
  bif x.1 == x.2.1 then
   some (x.2.2.1, ())
  else
  bif decide (0 ≤ x.1) then
  bif decide (x.1 ≤ (x.2.2.1.length : Int)) then
  bif decide (0 ≤ (0 : Int)) then
  bif decide ((0 : Int) ≤ x.1) then
  bif decide (0 ≤ (x.2.2.1.length : Int)) then
  bif decide ((x.2.2.1.length : Int) ≤ (x.2.2.1.length : Int)) then
  bif decide (0 ≤ x.2.1) then
  bif decide (x.2.1 ≤ (x.2.2.1.length : Int)) then
  bif decide ((x.1.toNat - (0 : Int).toNat) + ((x.2.2.1.drop x.2.1.toNat).take ((x.2.2.1.length : Int).toNat - x.2.1.toNat)).length ≤ x.2.2.1.length) then
  let y1 := lay x.2.2.1 (x.1.toNat - (0 : Int).toNat) ((x.2.2.1.drop x.2.1.toNat).take ((x.2.2.1.length : Int).toNat - x.2.1.toNat))
  let y2 := ((((x.1.toNat - (0 : Int).toNat) + ((x.2.2.1.drop x.2.1.toNat).take ((x.2.2.1.length : Int).toNat - x.2.1.toNat)).length) : Nat) : Int)
  bif decide (0 ≤ (x.2.2.1.length : Int)) then
  bif decide ((x.2.2.1.length : Int) ≤ ((y1.length : Nat) : Int)) then
  bif decide (0 ≤ y2) then
  bif decide (y2 ≤ (x.2.2.1.length : Int)) then
  let y3 := lay y1 y2.toNat (List.replicate ((x.2.2.1.length : Int).toNat - y2.toNat) (0 : Int))
  let y4 := y3.take ((x.1.toNat - (0 : Int).toNat) + ((x.2.2.1.drop x.2.1.toNat).take ((x.2.2.1.length : Int).toNat - x.2.1.toNat)).length)
  some (y4, ())
  else none
  else none
  else none
  else none
  else none
  else none
  else none
  else none
  else none
  else none
  else none
  else none
  else none
  else none
  else none
  else none
  else none
noncomputable def conkDelete_Sint_int (N : Nat) : Con := { f := 50, din := dinkDelete_Sint_int, outs := outkDelete_Sint_int, F := FkDelete_Sint_int N }
noncomputable def XkDelete_Sint_int (N : Nat) : Ctx := { E := EkDelete_Sint_int N, H := HkDelete_Sint_int, lp := [], jn := [] }
theorem FkDelete_Sint_int_eq (N : Nat) (x : (Int × (Int × ((List Int) × Unit)))) : evFn (XkDelete_Sint_int N) Try.f50 dinkDelete_Sint_int outkDelete_Sint_int x = FkDelete_Sint_int N x := by kernel_rfl
theorem cxkDelete_Sint_int (N : Nat) : CtxOk Try.prog (XkDelete_Sint_int N) := ⟨⟨TE_ok, fun k hk => absurd hk List.not_mem_nil⟩, mixed⟩
theorem speckDelete_Sint_int (N : Nat) : Spec Try.prog (conkDelete_Sint_int N) :=
  Spec.of_eq (fn_spec (cxkDelete_Sint_int N) (f := 50) (fn := Try.f50) (c := codeOf Try.f50) (by kernel_rfl) (by kernel_rfl) (by kernel_rfl) (loops_at (ids := []) (by kernel_rfl) (trivial)) (by kernel_rfl)) (fun x r h => (FkDelete_Sint_int_eq N x).trans h)

end Go.Fl
-- FUNCS sl1Open_a sl1Rd_pick sGraphNew sl20Shape sl20Op sl5Refs sGraphOk sShapeOk sOpOk sl5Ints sl5Copy sl5Fields sl5Begin sl5Field sl5Pins sl5One sGraphDo sl20Graph sDrawGraphDo iGraph_leads_1 kIndexFunc_Sint_int_iGraph_leads_1 kContainsFunc_Sint_int_iGraph_leads_1 iGraph_leads iGraphOk iShapeOk iOpOk kClone_Sint_int iGraph_copy iOp_handles iOp_early iOp_field math_bits_Mul64 math_bits_Mul kRepeat_Sint_int inone itruth ilastOf kDelete_Sint_int iGraphDo vflInts vflNode vflGraph vFnOpFresh
set_option maxRecDepth 100000
set_option linter.all false
namespace Go.Fl
open Go Go.Proofs
/-! ### 13: impl.GraphDo -/

noncomputable def diniGraphDo : Desc := { n := 3, regs := [.one (.val (.pair (.sl (.pair (.sl (.int .i64)) (.pair (.sl (.int .i64)) .unit))) (.pair (.sl (.sl (.int .i64))) (.pair (.sl (.int .i64)) .unit)))), .one (.val (.int .i64)), .one (.val (.pair (.int .i64) (.pair (.int .i64) (.pair (.int .i64) (.pair (.int .i64) (.pair (.int .i64) (.pair (.int .i64) (.pair (.pair (.int .i64) (.pair (.int .i64) .unit)) .unit))))))))], bx := [], pins := [] }
noncomputable def outiGraphDo : Outs := [(.ret, { n := 3, regs := [.agg [.lit (.row 1038465), .lit (.row 1038466), .lit (.row 1038467)], .one (.val (.int .i64)), .one (.val (.int .i64))], bx := [(1038465, .row (.pair (.sl (.int .i64)) (.pair (.sl (.int .i64)) .unit))), (1038466, .row (.sl (.int .i64))), (1038467, .row (.int .i64))], pins := [] })]
noncomputable def HiGraphDo : Hints := [(0, [(0, { fz := true }), (1, { fz := true })]),
  (1, [(16, { con := 1 })]),
  (2, [(0, { nl := [(0, (.pair (.sl (.int .i64)) (.pair (.sl (.int .i64)) .unit))), (1, (.sl (.int .i64))), (2, (.int .i64))] })]),
  (3, [(1, { con := 2 })]),
  (5, [(4, { con := 3 })]),
  (14, [(11, { con := 4 })]),
  (21, [(5, { con := 5 }), (11, { dp := true }), (12, { dp := true })]),
  (31, [(10, { con := 6 })]),
  (45, [(3, { con := 7 })]),
  (48, [(5, { con := 8, sg := [(0, 1038467)] })])]
noncomputable def EiGraphDo (N : Nat) : Env := { te := TE, cs := [coniGraphOk N, coniOpOk N, coniGraph_copy N, coniOp_early N, coniOp_field N, coninone N, conitruth N, conilastOf N, conkDelete_Sint_int N] }
noncomputable def jiGraphDo_3 : Outs := [(.normal, { n := 272, regs := [u, .one (.val (.int .i64)), u, .one (.fpt (.pair (.sl (.pair (.sl (.int .i64)) (.pair (.sl (.int .i64)) .unit))) (.pair (.sl (.sl (.int .i64))) (.pair (.sl (.int .i64)) .unit)))), u, .one (.fpt (.pair (.int .i64) (.pair (.int .i64) (.pair (.int .i64) (.pair (.int .i64) (.pair (.int .i64) (.pair (.int .i64) (.pair (.pair (.int .i64) (.pair (.int .i64) .unit)) .unit)))))))), .one (.lit (.ptr 1000128 0))], bx := [(1000128, .var [.lit .nil, .lit .nil, .lit .nil])], pins := [] }), (.ret, { n := 272, regs := [u, u, u, u, u, u, .one (.lit (.ptr 1000128 0)), .one (.val (.int .i64)), .one (.val (.int .i64))], bx := [(1000128, .var [.lit (.row 1025601), .lit (.row 1025602), .lit (.row 1025603)]), (1025601, .row (.pair (.sl (.int .i64)) (.pair (.sl (.int .i64)) .unit))), (1025602, .row (.sl (.int .i64))), (1025603, .row (.int .i64))], pins := [] })]
noncomputable def jiGraphDo_12 : Outs := [(.normal, { n := 272, regs := [u, u, u, u, u, .one (.fpt (.pair (.int .i64) (.pair (.int .i64) (.pair (.int .i64) (.pair (.int .i64) (.pair (.int .i64) (.pair (.int .i64) (.pair (.pair (.int .i64) (.pair (.int .i64) .unit)) .unit)))))))), .one (.lit (.ptr 1000128 0)), u, u, .one (.lit (.ptr 1038528 0)), .one (.ept 1038466 0), u, .one (.lit .pnil), .one (.val (.int .i64))], bx := [(1000128, .var [.lit .nil, .lit .nil, .lit .nil]), (1038528, .var [.lit (.row 1038465), .lit (.row 1038466), .lit (.row 1038467)]), (1038465, .row (.pair (.sl (.int .i64)) (.pair (.sl (.int .i64)) .unit))), (1038466, .row (.sl (.int .i64))), (1038467, .row (.int .i64))], pins := [] })]
noncomputable def FiGraphDo (N : Nat) (x : (((List ((List Int) × ((List Int) × Unit))) × ((List (List Int)) × ((List Int) × Unit))) × (Int × ((Int × (Int × (Int × (Int × (Int × (Int × ((Int × (Int × Unit)) × Unit))))))) × Unit)))) : Option (Int × (Int × ((List ((List Int) × ((List Int) × Unit))) × ((List (List Int)) × ((List Int) × Unit))))) :=
  Option.bind (
   (FiGraphOk N (x.1, ())).bind fun r1 =>
   bif !r1.1 then
    let y2 := ([] : (List ((List Int) × ((List Int) × Unit))))
    some (.inr (((0 : Int), (1 : Int), y2, ([] : (List (List Int))), ([] : (List Int)), ())))
   else
   bif decide (x.2.1 < (0 : Int)) then
    let y3 := ([] : (List ((List Int) × ((List Int) × Unit))))
    some (.inr (((0 : Int), (1 : Int), y3, ([] : (List (List Int))), ([] : (List Int)), ())))
   else
   let y4 := decide (x.2.1 ≥ (x.1.2.1.length : Int))
   bif y4 then
    let y5 := ([] : (List ((List Int) × ((List Int) × Unit))))
    some (.inr (((0 : Int), (1 : Int), y5, ([] : (List (List Int))), ([] : (List Int)), ())))
   else
   (FiOpOk N (x.2.2.1, ())).bind fun r6 =>
   bif !r6.1 then
    let y7 := ([] : (List ((List Int) × ((List Int) × Unit))))
    some (.inr (((0 : Int), (1 : Int), y7, ([] : (List (List Int))), ([] : (List Int)), ())))
   else
   some (.inl (x.2.1, x.1, x.2.2.1, ()))) fun o8 =>
  Sum.elim (fun o9 =>
   (FiGraph_copy N (o9.2.1, ())).bind fun r10 =>
   bif decide (0 ≤ o9.1) then
   bif decide (o9.1.toNat < r10.2.1.length) then
   (FiOp_early N (o9.2.2.1, r10.2.1.getD o9.1.toNat ([] : (List Int)), (-1 : Int), ())).bind fun r11 =>
   bif r11.1 != (0 : Int) then
    some ((0 : Int), r11.1, r10.1, r10.2.1, r10.2.2.1, ())
   else
   Option.bind (
    bif o9.2.2.1.1 != (1 : Int) then
     bif o9.2.2.1.1 != (8 : Int) then
      bif decide (0 ≤ o9.2.2.1.2.1) then
      bif decide (o9.2.2.1.2.1.toNat < (r10.2.1.getD o9.1.toNat ([] : (List Int))).length) then
      let y12 := (r10.2.1.getD o9.1.toNat ([] : (List Int))).getD o9.2.2.1.2.1.toNat (0 : Int)
      some (o9.2.2.1, Int.ofNat o9.1.toNat, y12, r10.1, r10.2.1, r10.2.2.1, ())
      else none
      else none
     else
     some (o9.2.2.1, Int.ofNat o9.1.toNat, (-1 : Int), r10.1, r10.2.1, r10.2.2.1, ())
    else
    some (o9.2.2.1, Int.ofNat o9.1.toNat, (-1 : Int), r10.1, r10.2.1, r10.2.2.1, ())) fun o13 =>
   bif decide (o13.2.2.1 ≥ (0 : Int)) then
    bif decide (0 ≤ o13.2.2.1) then
    bif decide (o13.2.2.1.toNat < o13.2.2.2.1.length) then
    let y14 := (((o13.2.2.2.1.getD o13.2.2.1.toNat (([] : (List Int)), ([] : (List Int)), ())).1).length : Int)
    let y15 := ((((o13.2.2.2.1.getD o13.2.2.1.toNat (([] : (List Int)), ([] : (List Int)), ())).2).1).length : Int)
    (FiOp_field N (o13.1, y14, y15, ())).bind fun r16 =>
    bif !r16.1 then
     some ((0 : Int), (4 : Int), o13.2.2.2.1, o13.2.2.2.2.1, o13.2.2.2.2.2.1, ())
    else
    bif o13.1.1 == (1 : Int) then
     let y17 := (o13.2.2.2.1.length : Int) == (200 : Int)
     bif y17 then
      some ((0 : Int), (6 : Int), o13.2.2.2.1, o13.2.2.2.2.1, o13.2.2.2.2.2.1, ())
     else
     bif decide ((o13.2.2.2.2.1.getD o13.2.1.toNat ([] : (List Int))).length + [(o13.2.2.2.1.length : Int)].length ≤ lim) then
     let y18 := (o13.2.2.2.2.1.getD o13.2.1.toNat ([] : (List Int))) ++ [(o13.2.2.2.1.length : Int)]
     bif decide (o13.2.1.toNat = o13.2.1.toNat) then
     (Finone N (o13.1.2.2.2.2.2.2.1.1, ())).bind fun r19 =>
     bif decide (0 ≤ o13.1.2.2.2.2.2.2.1.2.1) then
     bif decide (o13.1.2.2.2.2.2.2.1.2.1.toNat ≤ lim) then
     let y20 := List.replicate o13.1.2.2.2.2.2.2.1.2.1.toNat (0 : Int)
     bif decide (o13.2.2.2.1.length + [(r19.1, y20, ())].length ≤ lim) then
     some ((0 : Int), (0 : Int), o13.2.2.2.1 ++ [(r19.1, y20, ())], o13.2.2.2.2.1.set o13.2.1.toNat y18, o13.2.2.2.2.2.1, ())
     else none
     else none
     else none
     else none
     else none
    else
    bif o13.1.1 == (2 : Int) then
     bif decide (0 ≤ o13.1.2.2.2.2.1) then
     bif decide (o13.1.2.2.2.2.1.toNat < ((o13.2.2.2.1.getD o13.2.2.1.toNat (([] : (List Int)), ([] : (List Int)), ())).1).length) then
     let y21 := ((o13.2.2.2.1.getD o13.2.2.1.toNat (([] : (List Int)), ([] : (List Int)), ())).1).getD o13.1.2.2.2.2.1.toNat (0 : Int)
     bif decide ((o13.2.2.2.2.1.getD o13.2.1.toNat ([] : (List Int))).length + [y21].length ≤ lim) then
     let y22 := (o13.2.2.2.2.1.getD o13.2.1.toNat ([] : (List Int))) ++ [y21]
     bif decide (o13.2.1.toNat = o13.2.1.toNat) then
     some ((0 : Int), (0 : Int), o13.2.2.2.1, o13.2.2.2.2.1.set o13.2.1.toNat y22, o13.2.2.2.2.2.1, ())
     else none
     else none
     else none
     else none
    else
    bif o13.1.1 == (3 : Int) then
     bif decide (0 ≤ o13.1.2.2.1) then
     bif decide (o13.1.2.2.1.toNat < (o13.2.2.2.2.1.getD o13.2.1.toNat ([] : (List Int))).length) then
     let y23 := (o13.2.2.2.2.1.getD o13.2.1.toNat ([] : (List Int))).getD o13.1.2.2.1.toNat (0 : Int)
     bif decide (0 ≤ o13.1.2.2.2.2.1) then
     bif decide (o13.1.2.2.2.2.1.toNat < ((o13.2.2.2.1.getD o13.2.2.1.toNat (([] : (List Int)), ([] : (List Int)), ())).1).length) then
     let y24 := o13.2.2.2.1.set o13.2.2.1.toNat (((o13.2.2.2.1.getD o13.2.2.1.toNat (([] : (List Int)), ([] : (List Int)), ())).1).set o13.1.2.2.2.2.1.toNat y23, (o13.2.2.2.1.getD o13.2.2.1.toNat (([] : (List Int)), ([] : (List Int)), ())).2)
     some ((0 : Int), (0 : Int), y24, o13.2.2.2.2.1, o13.2.2.2.2.2.1, ())
     else none
     else none
     else none
     else none
    else
    bif o13.1.1 == (4 : Int) then
     bif decide (0 ≤ o13.1.2.2.2.2.1) then
     bif decide (o13.1.2.2.2.2.1.toNat < (((o13.2.2.2.1.getD o13.2.2.1.toNat (([] : (List Int)), ([] : (List Int)), ())).2).1).length) then
     let y25 := o13.2.2.2.1.set o13.2.2.1.toNat ((o13.2.2.2.1.getD o13.2.2.1.toNat (([] : (List Int)), ([] : (List Int)), ())).1, (((o13.2.2.2.1.getD o13.2.2.1.toNat (([] : (List Int)), ([] : (List Int)), ())).2).1).set o13.1.2.2.2.2.1.toNat o13.1.2.2.2.2.2.1, ((o13.2.2.2.1.getD o13.2.2.1.toNat (([] : (List Int)), ([] : (List Int)), ())).2).2)
     some ((0 : Int), (0 : Int), y25, o13.2.2.2.2.1, o13.2.2.2.2.2.1, ())
     else none
     else none
    else
    bif o13.1.1 == (5 : Int) then
     bif decide (0 ≤ o13.1.2.2.2.2.1) then
     bif decide (o13.1.2.2.2.2.1.toNat < (((o13.2.2.2.1.getD o13.2.2.1.toNat (([] : (List Int)), ([] : (List Int)), ())).2).1).length) then
     let y26 := (((o13.2.2.2.1.getD o13.2.2.1.toNat (([] : (List Int)), ([] : (List Int)), ())).2).1).getD o13.1.2.2.2.2.1.toNat (0 : Int)
     some (y26, (0 : Int), o13.2.2.2.1, o13.2.2.2.2.1, o13.2.2.2.2.2.1, ())
     else none
     else none
    else
    bif o13.1.1 == (6 : Int) then
     bif decide (0 ≤ o13.1.2.2.1) then
     bif decide (o13.1.2.2.1.toNat < (o13.2.2.2.2.1.getD o13.2.1.toNat ([] : (List Int))).length) then
     let y27 := (o13.2.2.2.2.1.getD o13.2.1.toNat ([] : (List Int))).getD o13.1.2.2.1.toNat (0 : Int)
     (Fitruth N (o13.2.2.1 == y27, ())).bind fun r28 =>
     some (r28.1, (0 : Int), o13.2.2.2.1, o13.2.2.2.2.1, o13.2.2.2.2.2.1, ())
     else none
     else none
    else
    bif o13.1.1 == (7 : Int) then
     bif decide (0 ≤ o13.1.2.2.2.2.1) then
     bif decide (o13.1.2.2.2.2.1.toNat < ((o13.2.2.2.1.getD o13.2.2.1.toNat (([] : (List Int)), ([] : (List Int)), ())).1).length) then
     let y29 := ((o13.2.2.2.1.getD o13.2.2.1.toNat (([] : (List Int)), ([] : (List Int)), ())).1).getD o13.1.2.2.2.2.1.toNat (0 : Int)
     bif decide (0 ≤ o13.1.2.2.1) then
     bif decide (o13.1.2.2.1.toNat < (o13.2.2.2.2.1.getD o13.2.1.toNat ([] : (List Int))).length) then
     let y30 := (o13.2.2.2.2.1.getD o13.2.1.toNat ([] : (List Int))).getD o13.1.2.2.1.toNat (0 : Int)
     bif y29 != y30 then
      some ((0 : Int), (0 : Int), o13.2.2.2.1, o13.2.2.2.2.1, o13.2.2.2.2.2.1, ())
     else
     bif decide (0 ≤ o13.1.2.2.2.1) then
     bif decide (o13.1.2.2.2.1.toNat < (o13.2.2.2.2.1.getD o13.2.1.toNat ([] : (List Int))).length) then
     let y31 := (o13.2.2.2.2.1.getD o13.2.1.toNat ([] : (List Int))).getD o13.1.2.2.2.1.toNat (0 : Int)
     bif decide (0 ≤ o13.1.2.2.2.2.1) then
     bif decide (o13.1.2.2.2.2.1.toNat < ((o13.2.2.2.1.getD o13.2.2.1.toNat (([] : (List Int)), ([] : (List Int)), ())).1).length) then
     let y32 := o13.2.2.2.1.set o13.2.2.1.toNat (((o13.2.2.2.1.getD o13.2.2.1.toNat (([] : (List Int)), ([] : (List Int)), ())).1).set o13.1.2.2.2.2.1.toNat y31, (o13.2.2.2.1.getD o13.2.2.1.toNat (([] : (List Int)), ([] : (List Int)), ())).2)
     some ((1 : Int), (0 : Int), y32, o13.2.2.2.2.1, o13.2.2.2.2.2.1, ())
     else none
     else none
     else none
     else none
     else none
     else none
     else none
     else none
    else
    bif o13.1.1 == (8 : Int) then
     let y33 := ((o13.2.2.2.2.1.getD o13.2.1.toNat ([] : (List Int))).length : Int)
     bif decide (0 ≤ (w64 (y33 - (1 : Int)))) then
     bif decide ((w64 (y33 - (1 : Int))) ≤ ((o13.2.2.2.2.1.getD o13.2.1.toNat ([] : (List Int))).length : Int)) then
     bif decide (0 ≤ (0 : Int)) then
     bif decide ((0 : Int) ≤ (w64 (y33 - (1 : Int)))) then
     bif decide (o13.2.1.toNat = o13.2.1.toNat) then
     let y34 := o13.2.2.2.2.1.set o13.2.1.toNat ((o13.2.2.2.2.1.getD o13.2.1.toNat ([] : (List Int))).take ((w64 (y33 - (1 : Int))).toNat))
     some ((0 : Int), (0 : Int), o13.2.2.2.1, y34, o13.2.2.2.2.2.1, ())
     else none
     else none
     else none
     else none
     else none
    else
    bif o13.1.1 == (9 : Int) then
     bif decide ((o13.2.2.2.2.1.getD o13.2.1.toNat ([] : (List Int))).length + [o13.2.2.1].length ≤ lim) then
     let y35 := (o13.2.2.2.2.1.getD o13.2.1.toNat ([] : (List Int))) ++ [o13.2.2.1]
     bif decide (o13.2.1.toNat = o13.2.1.toNat) then
     some ((0 : Int), (0 : Int), o13.2.2.2.1, o13.2.2.2.2.1.set o13.2.1.toNat y35, o13.2.2.2.2.2.1, ())
     else none
     else none
    else
    bif o13.1.1 == (10 : Int) then
     let y36 := (o13.2.2.2.2.2.1.length : Int) == (8 : Int)
     bif y36 then
      some ((0 : Int), (7 : Int), o13.2.2.2.1, o13.2.2.2.2.1, o13.2.2.2.2.2.1, ())
     else
     bif decide (o13.2.2.2.2.2.1.length + [o13.2.2.1].length ≤ lim) then
     some ((0 : Int), (0 : Int), o13.2.2.2.1, o13.2.2.2.2.1, o13.2.2.2.2.2.1 ++ [o13.2.2.1], ())
     else none
    else
    bif o13.1.1 == (11 : Int) then
     (FilastOf N (o13.2.2.2.2.2.1, o13.2.2.1, ())).bind fun r37 =>
     bif decide (r37.1 < (0 : Int)) then
      some ((0 : Int), (7 : Int), o13.2.2.2.1, o13.2.2.2.2.1, o13.2.2.2.2.2.1, ())
     else
     (FkDelete_Sint_int N (r37.1, w64 (r37.1 + (1 : Int)), o13.2.2.2.2.2.1, ())).bind fun r38 =>
     some ((0 : Int), (0 : Int), o13.2.2.2.1, o13.2.2.2.2.1, r38.1, ())
    else
    some ((0 : Int), (0 : Int), o13.2.2.2.1, o13.2.2.2.2.1, o13.2.2.2.2.2.1, ())
    else none
    else none
   else
   bif o13.1.1 == (1 : Int) then
    let y39 := (o13.2.2.2.1.length : Int) == (200 : Int)
    bif y39 then
     some ((0 : Int), (6 : Int), o13.2.2.2.1, o13.2.2.2.2.1, o13.2.2.2.2.2.1, ())
    else
    bif decide ((o13.2.2.2.2.1.getD o13.2.1.toNat ([] : (List Int))).length + [(o13.2.2.2.1.length : Int)].length ≤ lim) then
    let y40 := (o13.2.2.2.2.1.getD o13.2.1.toNat ([] : (List Int))) ++ [(o13.2.2.2.1.length : Int)]
    bif decide (o13.2.1.toNat = o13.2.1.toNat) then
    (Finone N (o13.1.2.2.2.2.2.2.1.1, ())).bind fun r41 =>
    bif decide (0 ≤ o13.1.2.2.2.2.2.2.1.2.1) then
    bif decide (o13.1.2.2.2.2.2.2.1.2.1.toNat ≤ lim) then
    let y42 := List.replicate o13.1.2.2.2.2.2.2.1.2.1.toNat (0 : Int)
    bif decide (o13.2.2.2.1.length + [(r41.1, y42, ())].length ≤ lim) then
    some ((0 : Int), (0 : Int), o13.2.2.2.1 ++ [(r41.1, y42, ())], o13.2.2.2.2.1.set o13.2.1.toNat y40, o13.2.2.2.2.2.1, ())
    else none
    else none
    else none
    else none
    else none
   else
   bif o13.1.1 == (2 : Int) then
    none
   else
   bif o13.1.1 == (3 : Int) then
    none
   else
   bif o13.1.1 == (4 : Int) then
    none
   else
   bif o13.1.1 == (5 : Int) then
    none
   else
   bif o13.1.1 == (6 : Int) then
    bif decide (0 ≤ o13.1.2.2.1) then
    bif decide (o13.1.2.2.1.toNat < (o13.2.2.2.2.1.getD o13.2.1.toNat ([] : (List Int))).length) then
    let y43 := (o13.2.2.2.2.1.getD o13.2.1.toNat ([] : (List Int))).getD o13.1.2.2.1.toNat (0 : Int)
    (Fitruth N (o13.2.2.1 == y43, ())).bind fun r44 =>
    some (r44.1, (0 : Int), o13.2.2.2.1, o13.2.2.2.2.1, o13.2.2.2.2.2.1, ())
    else none
    else none
   else
   bif o13.1.1 == (7 : Int) then
    none
   else
   bif o13.1.1 == (8 : Int) then
    let y45 := ((o13.2.2.2.2.1.getD o13.2.1.toNat ([] : (List Int))).length : Int)
    bif decide (0 ≤ (w64 (y45 - (1 : Int)))) then
    bif decide ((w64 (y45 - (1 : Int))) ≤ ((o13.2.2.2.2.1.getD o13.2.1.toNat ([] : (List Int))).length : Int)) then
    bif decide (0 ≤ (0 : Int)) then
    bif decide ((0 : Int) ≤ (w64 (y45 - (1 : Int)))) then
    bif decide (o13.2.1.toNat = o13.2.1.toNat) then
    let y46 := o13.2.2.2.2.1.set o13.2.1.toNat ((o13.2.2.2.2.1.getD o13.2.1.toNat ([] : (List Int))).take ((w64 (y45 - (1 : Int))).toNat))
    some ((0 : Int), (0 : Int), o13.2.2.2.1, y46, o13.2.2.2.2.2.1, ())
    else none
    else none
    else none
    else none
    else none
   else
   bif o13.1.1 == (9 : Int) then
    bif decide ((o13.2.2.2.2.1.getD o13.2.1.toNat ([] : (List Int))).length + [o13.2.2.1].length ≤ lim) then
    let y47 := (o13.2.2.2.2.1.getD o13.2.1.toNat ([] : (List Int))) ++ [o13.2.2.1]
    bif decide (o13.2.1.toNat = o13.2.1.toNat) then
    some ((0 : Int), (0 : Int), o13.2.2.2.1, o13.2.2.2.2.1.set o13.2.1.toNat y47, o13.2.2.2.2.2.1, ())
    else none
    else none
   else
   bif o13.1.1 == (10 : Int) then
    let y48 := (o13.2.2.2.2.2.1.length : Int) == (8 : Int)
    bif y48 then
     some ((0 : Int), (7 : Int), o13.2.2.2.1, o13.2.2.2.2.1, o13.2.2.2.2.2.1, ())
    else
    bif decide (o13.2.2.2.2.2.1.length + [o13.2.2.1].length ≤ lim) then
    some ((0 : Int), (0 : Int), o13.2.2.2.1, o13.2.2.2.2.1, o13.2.2.2.2.2.1 ++ [o13.2.2.1], ())
    else none
   else
   bif o13.1.1 == (11 : Int) then
    (FilastOf N (o13.2.2.2.2.2.1, o13.2.2.1, ())).bind fun r49 =>
    bif decide (r49.1 < (0 : Int)) then
     some ((0 : Int), (7 : Int), o13.2.2.2.1, o13.2.2.2.2.1, o13.2.2.2.2.2.1, ())
    else
    (FkDelete_Sint_int N (r49.1, w64 (r49.1 + (1 : Int)), o13.2.2.2.2.2.1, ())).bind fun r50 =>
    some ((0 : Int), (0 : Int), o13.2.2.2.1, o13.2.2.2.2.1, r50.1, ())
   else
   some ((0 : Int), (0 : Int), o13.2.2.2.1, o13.2.2.2.2.1, o13.2.2.2.2.2.1, ())
   else none
   else none) (fun o51 =>
   some (o51.1, o51.2.1, o51.2.2.1, o51.2.2.2.1, o51.2.2.2.2.1, ())) o8
noncomputable def coniGraphDo (N : Nat) : Con := { f := 13, din := diniGraphDo, outs := outiGraphDo, F := FiGraphDo N }
noncomputable def XiGraphDo (N : Nat) : Ctx := { E := EiGraphDo N, H := HiGraphDo, lp := [], jn := [(3, jiGraphDo_3), (12, jiGraphDo_12)] }
theorem FiGraphDo_eq (N : Nat) (x : (((List ((List Int) × ((List Int) × Unit))) × ((List (List Int)) × ((List Int) × Unit))) × (Int × ((Int × (Int × (Int × (Int × (Int × (Int × ((Int × (Int × Unit)) × Unit))))))) × Unit)))) : evFn (XiGraphDo N) Try.f13 diniGraphDo outiGraphDo x = FiGraphDo N x := by kernel_rfl
theorem cxiGraphDo (N : Nat) : CtxOk Try.prog (XiGraphDo N) := ⟨⟨TE_ok, List.forall_mem_cons.2 ⟨speciGraphOk N, List.forall_mem_cons.2 ⟨speciOpOk N, List.forall_mem_cons.2 ⟨speciGraph_copy N, List.forall_mem_cons.2 ⟨speciOp_early N, List.forall_mem_cons.2 ⟨speciOp_field N, List.forall_mem_cons.2 ⟨specinone N, List.forall_mem_cons.2 ⟨specitruth N, List.forall_mem_cons.2 ⟨specilastOf N, List.forall_mem_cons.2 ⟨speckDelete_Sint_int N, fun k hk => absurd hk List.not_mem_nil⟩⟩⟩⟩⟩⟩⟩⟩⟩⟩, mixed⟩
theorem speciGraphDo (N : Nat) : Spec Try.prog (coniGraphDo N) :=
  Spec.of_eq (fn_spec (cxiGraphDo N) (f := 13) (fn := Try.f13) (c := codeOf Try.f13) (by kernel_rfl) (by kernel_rfl) (by kernel_rfl) (loops_at (ids := []) (by kernel_rfl) (trivial)) (by kernel_rfl)) (fun x r h => (FiGraphDo_eq N x).trans h)

/-! ### 16: laws.flInts -/

noncomputable def dinvflInts : Desc := { n := 2, regs := [.one (.val (.sl (.int .i64))), .one (.val (.sl (.int .i64)))], bx := [], pins := [] }
noncomputable def outvflInts : Outs := [(.ret, { n := 1, regs := [.one (.val .bool)], bx := [], pins := [] })]
noncomputable def HvflInts : Hints := []
noncomputable def EvflInts (_N : Nat) : Env := { te := TE, cs := [] }
noncomputable def dvflInts_0 : Desc := { n := 26, regs := [.one (.val (.sl (.int .i64))), .one (.val (.sl (.int .i64))), u, u, u, .one (.val (.int .i64))], bx := [], pins := [] }
noncomputable def ovflInts_0 : Outs := [(.exit 0, { n := 26, regs := [], bx := [], pins := [] }), (.ret, { n := 26, regs := [u, u, u, u, .one (.val .bool)], bx := [], pins := [] })]
noncomputable def lvflInts_0 (N : Nat) : Nat → ((List Int) × ((List Int) × (Int × Unit))) → Option (Unit ⊕ (Bool × Unit))
  | 0, _ => none
  | n + 1, v =>
    let y2 := decide (v.2.2.1 < (v.1.length : Int))
    bif y2 then
     bif decide (0 ≤ v.2.2.1) then
     bif decide (v.2.2.1.toNat < v.1.length) then
     bif decide (0 ≤ v.2.2.1) then
     bif decide (v.2.2.1.toNat < v.2.1.length) then
     let y3 := (v.1.getD v.2.2.1.toNat (0 : Int)) != (v.2.1.getD v.2.2.1.toNat (0 : Int))
     bif y3 then
      some (.inr ((false, ())))
     else
     lvflInts_0 N n (v.1, v.2.1, w64 (v.2.2.1 + (1 : Int)), ())
     else none
     else none
     else none
     else none
    else
    some (.inl ())
noncomputable def FvflInts (N : Nat) (x : ((List Int) × ((List Int) × Unit))) : Option (Bool × Unit) :=
  let y1 := (x.1.length : Int) != (x.2.1.length : Int)
  bif y1 then
   some (false, ())
  else
  (lvflInts_0 N N (x.1, x.2.1, (0 : Int), ())).bind fun o4 =>
  Sum.elim (fun o5 =>
   some (true, ())) (fun o6 =>
   some (o6.1, ())) o4
noncomputable def convflInts (N : Nat) : Con := { f := 16, din := dinvflInts, outs := outvflInts, F := FvflInts N }
noncomputable def XvflInts (N : Nat) : Ctx := { E := EvflInts N, H := HvflInts, lp := [(0, { hd := dvflInts_0, outs := ovflInts_0, run := fun v => lvflInts_0 N N v })], jn := [] }
noncomputable def bvflInts_0 : Code := loopBody (codeOf Try.f16) 0
theorem FvflInts_eq (N : Nat) (x : ((List Int) × ((List Int) × Unit))) : evFn (XvflInts N) Try.f16 dinvflInts outvflInts x = FvflInts N x := by kernel_rfl
theorem lvflInts_0_eq (N n : Nat) (v : ((List Int) × ((List Int) × (Int × Unit)))) : lvflInts_0 N (n + 1) v = ev (XvflInts N) bvflInts_0 (roundK dvflInts_0 ovflInts_0 (lvflInts_0 N n)) (dvflInts_0.mk' v) := by kernel_rfl
theorem cxvflInts (N : Nat) : CtxOk Try.prog (XvflInts N) := ⟨⟨TE_ok, fun k hk => absurd hk List.not_mem_nil⟩, mixed⟩
theorem lpvflInts_0 (N : Nat) : LoopOk Try.prog { hd := dvflInts_0, outs := ovflInts_0, run := fun v => lvflInts_0 N N v } bvflInts_0 :=
  loop_fuel (d := dvflInts_0) (os := ovflInts_0) (cxvflInts N) (loops_at (ids := []) (by kernel_rfl) (trivial)) (lvflInts_0 N) (fun _ => rfl) (fun n v => lvflInts_0_eq N n v) (fun _ => N)
theorem specvflInts (N : Nat) : Spec Try.prog (convflInts N) :=
  Spec.of_eq (fn_spec (cxvflInts N) (f := 16) (fn := Try.f16) (c := codeOf Try.f16) (by kernel_rfl) (by kernel_rfl) (by kernel_rfl) (loops_at (ids := [0]) (by kernel_rfl) ⟨lp_of (lpvflInts_0 N), trivial⟩) (by kernel_rfl)) (fun x r h => (FvflInts_eq N x).trans h)

/-! ### 58: laws.flNode -/

noncomputable def dinvflNode : Desc := { n := 2, regs := [.one (.val (.pair (.sl (.int .i64)) (.pair (.sl (.int .i64)) .unit))), .one (.val (.pair (.sl (.int .i64)) (.pair (.sl (.int .i64)) .unit)))], bx := [], pins := [] }
noncomputable def outvflNode : Outs := [(.ret, { n := 1, regs := [.one (.val .bool)], bx := [], pins := [] })]
noncomputable def HvflNode : Hints := [(0, [(0, { fz := true }), (1, { fz := true })])]
noncomputable def EvflNode (N : Nat) : Env := { te := TE, cs := [convflInts N] }
noncomputable def FvflNode (N : Nat) (x : (((List Int) × ((List Int) × Unit)) × (((List Int) × ((List Int) × Unit)) × Unit))) : Option (Bool × Unit) :=
  (FvflInts N (x.1.1, x.2.1.1, ())).bind fun r1 =>
  bif r1.1 then
   (FvflInts N (x.1.2.1, x.2.1.2.1, ())).bind fun r2 =>
   some (r2.1, ())
  else
  some (false, ())
noncomputable def convflNode (N : Nat) : Con := { f := 58, din := dinvflNode, outs := outvflNode, F := FvflNode N }
noncomputable def XvflNode (N : Nat) : Ctx := { E := EvflNode N, H := HvflNode, lp := [], jn := [] }
theorem FvflNode_eq (N : Nat) (x : (((List Int) × ((List Int) × Unit)) × (((List Int) × ((List Int) × Unit)) × Unit))) : evFn (XvflNode N) Try.f58 dinvflNode outvflNode x = FvflNode N x := by kernel_rfl
theorem cxvflNode (N : Nat) : CtxOk Try.prog (XvflNode N) := ⟨⟨TE_ok, List.forall_mem_cons.2 ⟨specvflInts N, fun k hk => absurd hk List.not_mem_nil⟩⟩, mixed⟩
theorem specvflNode (N : Nat) : Spec Try.prog (convflNode N) :=
  Spec.of_eq (fn_spec (cxvflNode N) (f := 58) (fn := Try.f58) (c := codeOf Try.f58) (by kernel_rfl) (by kernel_rfl) (by kernel_rfl) (loops_at (ids := []) (by kernel_rfl) (trivial)) (by kernel_rfl)) (fun x r h => (FvflNode_eq N x).trans h)

/-! ### 15: laws.flGraph -/

noncomputable def dinvflGraph : Desc := { n := 2, regs := [.one (.val (.pair (.sl (.pair (.sl (.int .i64)) (.pair (.sl (.int .i64)) .unit))) (.pair (.sl (.sl (.int .i64))) (.pair (.sl (.int .i64)) .unit)))), .one (.val (.pair (.sl (.pair (.sl (.int .i64)) (.pair (.sl (.int .i64)) .unit))) (.pair (.sl (.sl (.int .i64))) (.pair (.sl (.int .i64)) .unit))))], bx := [], pins := [] }
noncomputable def outvflGraph : Outs := [(.ret, { n := 1, regs := [.one (.val .bool)], bx := [], pins := [] })]
noncomputable def HvflGraph : Hints := [(0, [(0, { fz := true }), (1, { fz := true })]),
  (6, [(10, { con := 1 })])]
noncomputable def EvflGraph (N : Nat) : Env := { te := TE, cs := [convflInts N, convflNode N] }
noncomputable def dvflGraph_0 : Desc := { n := 69, regs := [u, u, .one (.fpt (.pair (.sl (.pair (.sl (.int .i64)) (.pair (.sl (.int .i64)) .unit))) (.pair (.sl (.sl (.int .i64))) (.pair (.sl (.int .i64)) .unit)))), .one (.fpt (.pair (.sl (.pair (.sl (.int .i64)) (.pair (.sl (.int .i64)) .unit))) (.pair (.sl (.sl (.int .i64))) (.pair (.sl (.int .i64)) .unit)))), u, .one (.val (.int .i64))], bx := [], pins := [] }
noncomputable def ovflGraph_0 : Outs := [(.exit 0, { n := 69, regs := [u, u, .one (.fpt (.pair (.sl (.pair (.sl (.int .i64)) (.pair (.sl (.int .i64)) .unit))) (.pair (.sl (.sl (.int .i64))) (.pair (.sl (.int .i64)) .unit)))), .one (.fpt (.pair (.sl (.pair (.sl (.int .i64)) (.pair (.sl (.int .i64)) .unit))) (.pair (.sl (.sl (.int .i64))) (.pair (.sl (.int .i64)) .unit))))], bx := [], pins := [] }), (.ret, { n := 69, regs := [u, u, u, u, .one (.val .bool)], bx := [], pins := [] })]
noncomputable def dvflGraph_2 : Desc := { n := 69, regs := [u, u, .one (.fpt (.pair (.sl (.pair (.sl (.int .i64)) (.pair (.sl (.int .i64)) .unit))) (.pair (.sl (.sl (.int .i64))) (.pair (.sl (.int .i64)) .unit)))), .one (.fpt (.pair (.sl (.pair (.sl (.int .i64)) (.pair (.sl (.int .i64)) .unit))) (.pair (.sl (.sl (.int .i64))) (.pair (.sl (.int .i64)) .unit)))), u, u, .one (.val (.int .i64))], bx := [], pins := [] }
noncomputable def ovflGraph_2 : Outs := [(.exit 2, { n := 69, regs := [], bx := [], pins := [] }), (.ret, { n := 69, regs := [u, u, u, u, .one (.val .bool)], bx := [], pins := [] })]
noncomputable def jvflGraph_3 : Outs := [(.normal, { n := 69, regs := [u, u, .one (.fpt (.pair (.sl (.pair (.sl (.int .i64)) (.pair (.sl (.int .i64)) .unit))) (.pair (.sl (.sl (.int .i64))) (.pair (.sl (.int .i64)) .unit)))), .one (.fpt (.pair (.sl (.pair (.sl (.int .i64)) (.pair (.sl (.int .i64)) .unit))) (.pair (.sl (.sl (.int .i64))) (.pair (.sl (.int .i64)) .unit))))], bx := [], pins := [] }), (.ret, { n := 69, regs := [u, u, u, u, .one (.val .bool)], bx := [], pins := [] })]
noncomputable def lvflGraph_0 (N : Nat) : Nat → (((List ((List Int) × ((List Int) × Unit))) × ((List (List Int)) × ((List Int) × Unit))) × (((List ((List Int) × ((List Int) × Unit))) × ((List (List Int)) × ((List Int) × Unit))) × (Int × Unit))) → Option ((((List ((List Int) × ((List Int) × Unit))) × ((List (List Int)) × ((List Int) × Unit))) × (((List ((List Int) × ((List Int) × Unit))) × ((List (List Int)) × ((List Int) × Unit))) × Unit)) ⊕ (Bool × Unit))
  | 0, _ => none
  | n + 1, v =>
    let y6 := decide (v.2.2.1 < (v.1.1.length : Int))
    bif y6 then
     bif decide (0 ≤ v.2.2.1) then
     bif decide (v.2.2.1.toNat < v.1.1.length) then
     let y7 := v.1.1.getD v.2.2.1.toNat (([] : (List Int)), ([] : (List Int)), ())
     bif decide (0 ≤ v.2.2.1) then
     bif decide (v.2.2.1.toNat < v.2.1.1.length) then
     let y8 := v.2.1.1.getD v.2.2.1.toNat (([] : (List Int)), ([] : (List Int)), ())
     (FvflNode N (y7, y8, ())).bind fun r9 =>
     bif !r9.1 then
      some (.inr ((false, ())))
     else
     lvflGraph_0 N n (v.1, v.2.1, w64 (v.2.2.1 + (1 : Int)), ())
     else none
     else none
     else none
     else none
    else
    some (.inl (v.1, v.2.1, ()))
noncomputable def lvflGraph_2 (N : Nat) : Nat → (((List ((List Int) × ((List Int) × Unit))) × ((List (List Int)) × ((List Int) × Unit))) × (((List ((List Int) × ((List Int) × Unit))) × ((List (List Int)) × ((List Int) × Unit))) × (Int × Unit))) → Option (Unit ⊕ (Bool × Unit))
  | 0, _ => none
  | n + 1, v =>
    let y12 := decide (v.2.2.1 < (v.1.2.1.length : Int))
    bif y12 then
     bif decide (0 ≤ v.2.2.1) then
     bif decide (v.2.2.1.toNat < v.1.2.1.length) then
     let y13 := v.1.2.1.getD v.2.2.1.toNat ([] : (List Int))
     bif decide (0 ≤ v.2.2.1) then
     bif decide (v.2.2.1.toNat < v.2.1.2.1.length) then
     let y14 := v.2.1.2.1.getD v.2.2.1.toNat ([] : (List Int))
     (FvflInts N (y13, y14, ())).bind fun r15 =>
     bif !r15.1 then
      some (.inr ((false, ())))
     else
     lvflGraph_2 N n (v.1, v.2.1, w64 (v.2.2.1 + (1 : Int)), ())
     else none
     else none
     else none
     else none
    else
    some (.inl ())
noncomputable def FvflGraph (N : Nat) (x : (((List ((List Int) × ((List Int) × Unit))) × ((List (List Int)) × ((List Int) × Unit))) × (((List ((List Int) × ((List Int) × Unit))) × ((List (List Int)) × ((List Int) × Unit))) × Unit))) : Option (Bool × Unit) :=
  Option.bind (
   let y1 := (x.1.1.length : Int) != (x.2.1.1.length : Int)
   bif y1 then
    some (.inr ((false, ())))
   else
   let y2 := (x.1.2.1.length : Int) != (x.2.1.2.1.length : Int)
   bif y2 then
    some (.inr ((false, ())))
   else
   (FvflInts N (x.1.2.2.1, x.2.1.2.2.1, ())).bind fun r3 =>
   bif !r3.1 then
    some (.inr ((false, ())))
   else
   some (.inl (x.1, x.2.1, ()))) fun o4 =>
  Sum.elim (fun o5 =>
   (lvflGraph_0 N N (o5.1, o5.2.1, (0 : Int), ())).bind fun o10 =>
   Sum.elim (fun o11 =>
    (lvflGraph_2 N N (o11.1, o11.2.1, (0 : Int), ())).bind fun o16 =>
    Sum.elim (fun o17 =>
     some (true, ())) (fun o18 =>
     some (o18.1, ())) o16) (fun o19 =>
    some (o19.1, ())) o10) (fun o20 =>
   some (o20.1, ())) o4
noncomputable def convflGraph (N : Nat) : Con := { f := 15, din := dinvflGraph, outs := outvflGraph, F := FvflGraph N }
noncomputable def XvflGraph (N : Nat) : Ctx := { E := EvflGraph N, H := HvflGraph, lp := [(0, { hd := dvflGraph_0, outs := ovflGraph_0, run := fun v => lvflGraph_0 N N v }), (2, { hd := dvflGraph_2, outs := ovflGraph_2, run := fun v => lvflGraph_2 N N v })], jn := [(3, jvflGraph_3)] }
noncomputable def bvflGraph_2 : Code := loopBody (codeOf Try.f15) 1
noncomputable def bvflGraph_0 : Code := loopBody (codeOf Try.f15) 0
theorem FvflGraph_eq (N : Nat) (x : (((List ((List Int) × ((List Int) × Unit))) × ((List (List Int)) × ((List Int) × Unit))) × (((List ((List Int) × ((List Int) × Unit))) × ((List (List Int)) × ((List Int) × Unit))) × Unit))) : evFn (XvflGraph N) Try.f15 dinvflGraph outvflGraph x = FvflGraph N x := by kernel_rfl
theorem lvflGraph_0_eq (N n : Nat) (v : (((List ((List Int) × ((List Int) × Unit))) × ((List (List Int)) × ((List Int) × Unit))) × (((List ((List Int) × ((List Int) × Unit))) × ((List (List Int)) × ((List Int) × Unit))) × (Int × Unit)))) : lvflGraph_0 N (n + 1) v = ev (XvflGraph N) bvflGraph_0 (roundK dvflGraph_0 ovflGraph_0 (lvflGraph_0 N n)) (dvflGraph_0.mk' v) := by kernel_rfl
theorem lvflGraph_2_eq (N n : Nat) (v : (((List ((List Int) × ((List Int) × Unit))) × ((List (List Int)) × ((List Int) × Unit))) × (((List ((List Int) × ((List Int) × Unit))) × ((List (List Int)) × ((List Int) × Unit))) × (Int × Unit)))) : lvflGraph_2 N (n + 1) v = ev (XvflGraph N) bvflGraph_2 (roundK dvflGraph_2 ovflGraph_2 (lvflGraph_2 N n)) (dvflGraph_2.mk' v) := by kernel_rfl
theorem cxvflGraph (N : Nat) : CtxOk Try.prog (XvflGraph N) := ⟨⟨TE_ok, List.forall_mem_cons.2 ⟨specvflInts N, List.forall_mem_cons.2 ⟨specvflNode N, fun k hk => absurd hk List.not_mem_nil⟩⟩⟩, mixed⟩
theorem lpvflGraph_0 (N : Nat) : LoopOk Try.prog { hd := dvflGraph_0, outs := ovflGraph_0, run := fun v => lvflGraph_0 N N v } bvflGraph_0 :=
  loop_fuel (d := dvflGraph_0) (os := ovflGraph_0) (cxvflGraph N) (loops_at (ids := []) (by kernel_rfl) (trivial)) (lvflGraph_0 N) (fun _ => rfl) (fun n v => lvflGraph_0_eq N n v) (fun _ => N)
theorem lpvflGraph_2 (N : Nat) : LoopOk Try.prog { hd := dvflGraph_2, outs := ovflGraph_2, run := fun v => lvflGraph_2 N N v } bvflGraph_2 :=
  loop_fuel (d := dvflGraph_2) (os := ovflGraph_2) (cxvflGraph N) (loops_at (ids := []) (by kernel_rfl) (trivial)) (lvflGraph_2 N) (fun _ => rfl) (fun n v => lvflGraph_2_eq N n v) (fun _ => N)
theorem specvflGraph (N : Nat) : Spec Try.prog (convflGraph N) :=
  Spec.of_eq (fn_spec (cxvflGraph N) (f := 15) (fn := Try.f15) (c := codeOf Try.f15) (by kernel_rfl) (by kernel_rfl) (by kernel_rfl) (loops_at (ids := [0, 2]) (by kernel_rfl) ⟨lp_of (lpvflGraph_0 N), ⟨lp_of (lpvflGraph_2 N), trivial⟩⟩) (by kernel_rfl)) (fun x r h => (FvflGraph_eq N x).trans h)

/-! ### 4: laws.FnOpFresh -/

noncomputable def dinvFnOpFresh : Desc := { n := 1, regs := [.one (.val (.sl (.int .u8)))], bx := [], pins := [] }
noncomputable def outvFnOpFresh : Outs := [(.ret, { n := 1, regs := [.one (.val .bool)], bx := [], pins := [] })]
noncomputable def HvFnOpFresh : Hints := [(5, [(3, { con := 1 })]),
  (6, [(3, { con := 2 })]),
  (7, [(6, { con := 3 })]),
  (15, [(5, { con := 1 })]),
  (18, [(6, { pre := [.freeze 1064193] })])]
noncomputable def EvFnOpFresh (N : Nat) : Env := { te := TE, cs := [consDrawGraphDo N, coniGraphDo N, consGraphDo N, convflGraph N] }
noncomputable def dvFnOpFresh_0 : Desc := { n := 121, regs := [u, u, u, u, .one (.val (.int .i64)), .one (.lit (.ptr 1038848 0)), .one (.lit (.ptr 1064512 0)), u, u, u, u, u, .one (.val (.int .i64)), .one (.val (.int .i64))], bx := [(1038848, .var [.val (.int .i64), .val (.int .i64), .val (.int .i64), .val (.int .i64), .val (.int .i64), .val (.int .i64), .val (.int .i64), .val (.int .i64)]), (1064512, .var [.lit (.row 1064193), .lit (.row 1064194), .lit (.row 1064195)]), (1064193, .row (.pair (.sl (.int .i64)) (.pair (.sl (.int .i64)) .unit))), (1064194, .row (.sl (.int .i64))), (1064195, .row (.int .i64))], pins := [] }
noncomputable def ovFnOpFresh_0 : Outs := [(.exit 0, { n := 121, regs := [u, u, u, u, u, .one (.lit (.ptr 1038848 0)), .one (.lit (.ptr 1064512 0))], bx := [(1038848, .var [.val (.int .i64), .val (.int .i64), .val (.int .i64), .val (.int .i64), .val (.int .i64), .val (.int .i64), .val (.int .i64), .val (.int .i64)]), (1064512, .var [.lit (.row 1064193), .lit (.row 1064194), .lit (.row 1064195)]), (1064193, .row (.pair (.sl (.int .i64)) (.pair (.sl (.int .i64)) .unit))), (1064194, .row (.sl (.int .i64))), (1064195, .row (.int .i64))], pins := [] }), (.ret, { n := 121, regs := [u, u, .one (.val .bool)], bx := [], pins := [] })]
noncomputable def dvFnOpFresh_2 : Desc := { n := 121, regs := [u, u, u, u, u, .one (.lit (.ptr 1038848 0)), u, u, u, u, u, u, u, u, u, u, u, .one (.lit (.ptr 1230912 0)), .one (.val (.int .i64))], bx := [(1038848, .var [.val (.int .i64), .val (.int .i64), .val (.int .i64), .val (.int .i64), .val (.int .i64), .val (.int .i64), .val (.int .i64), .val (.int .i64)]), (1230912, .var [.val (.sl (.int .i64)), .val (.sl (.int .i64))])], pins := [] }
noncomputable def ovFnOpFresh_2 : Outs := [(.exit 2, { n := 121, regs := [u, u, u, u, u, .one (.lit (.ptr 1038848 0)), u, u, u, u, u, u, u, u, u, u, u, .one (.lit (.ptr 1230912 0))], bx := [(1038848, .var [.val (.int .i64), .val (.int .i64), .val (.int .i64), .val (.int .i64), .val (.int .i64), .val (.int .i64), .val (.int .i64), .val (.int .i64)]), (1230912, .var [.val (.sl (.int .i64)), .val (.sl (.int .i64))])], pins := [] }), (.ret, { n := 121, regs := [u, u, .one (.val .bool)], bx := [], pins := [] })]
noncomputable def jvFnOpFresh_9 : Outs := [(.normal, { n := 121, regs := [u, u, u, u, .one (.val (.int .i64)), .one (.lit (.ptr 1038848 0)), .one (.lit (.ptr 1064512 0)), u, .one (.val (.int .i64))], bx := [(1038848, .var [.val (.int .i64), .val (.int .i64), .val (.int .i64), .val (.int .i64), .val (.int .i64), .val (.int .i64), .val (.int .i64), .val (.int .i64)]), (1064512, .var [.lit (.row 1064193), .lit (.row 1064194), .lit (.row 1064195)]), (1064193, .row (.pair (.sl (.int .i64)) (.pair (.sl (.int .i64)) .unit))), (1064194, .row (.sl (.int .i64))), (1064195, .row (.int .i64))], pins := [] }), (.ret, { n := 121, regs := [u, u, .one (.val .bool)], bx := [], pins := [] })]
noncomputable def lvFnOpFresh_0 (N : Nat) : Nat → (Int × (Int × (Int × (Int × (Int × (Int × (Int × (Int × (Int × (Int × (Int × ((List ((List Int) × ((List Int) × Unit))) × ((List (List Int)) × ((List Int) × Unit)))))))))))))) → Option ((Int × (Int × (Int × (Int × (Int × (Int × (Int × (Int × ((List ((List Int) × ((List Int) × Unit))) × ((List (List Int)) × ((List Int) × Unit))))))))))) ⊕ (Bool × Unit))
  | 0, _ => none
  | n + 1, v =>
    bif decide (v.2.2.1 < v.2.1) then
     (FiGraphDo N ((v.2.2.2.2.2.2.2.2.2.2.2.1, v.2.2.2.2.2.2.2.2.2.2.2.2.1, v.2.2.2.2.2.2.2.2.2.2.2.2.2.1, ()), v.1, ((6 : Int), v.2.2.1, v.2.1, (0 : Int), (0 : Int), (0 : Int), ((0 : Int), (0 : Int), ()), ()), ())).bind fun r9 =>
     bif r9.2.1 != (0 : Int) then
      some (.inr ((false, ())))
     else
     bif r9.1 != (0 : Int) then
      some (.inr ((false, ())))
     else
     lvFnOpFresh_0 N n (v.1, v.2.1, w64 (v.2.2.1 + (1 : Int)), v.2.2.2.1, v.2.2.2.2.1, v.2.2.2.2.2.1, v.2.2.2.2.2.2.1, v.2.2.2.2.2.2.2.1, v.2.2.2.2.2.2.2.2.1, v.2.2.2.2.2.2.2.2.2.1, v.2.2.2.2.2.2.2.2.2.2.1, v.2.2.2.2.2.2.2.2.2.2.2.1, v.2.2.2.2.2.2.2.2.2.2.2.2.1, v.2.2.2.2.2.2.2.2.2.2.2.2.2.1, ())
    else
    some (.inl (v.2.2.2.1, v.2.2.2.2.1, v.2.2.2.2.2.1, v.2.2.2.2.2.2.1, v.2.2.2.2.2.2.2.1, v.2.2.2.2.2.2.2.2.1, v.2.2.2.2.2.2.2.2.2.1, v.2.2.2.2.2.2.2.2.2.2.1, v.2.2.2.2.2.2.2.2.2.2.2.1, v.2.2.2.2.2.2.2.2.2.2.2.2.1, v.2.2.2.2.2.2.2.2.2.2.2.2.2.1, ()))
noncomputable def lvFnOpFresh_2 (N : Nat) : Nat → (Int × (Int × (Int × (Int × (Int × (Int × (Int × (Int × (Int × ((List Int) × ((List Int) × Unit))))))))))) → Option ((Int × (Int × (Int × (Int × (Int × (Int × (Int × (Int × ((List Int) × ((List Int) × Unit)))))))))) ⊕ (Bool × Unit))
  | 0, _ => none
  | n + 1, v =>
    let y14 := decide (v.1 < (v.2.2.2.2.2.2.2.2.2.1.length : Int))
    bif y14 then
     bif decide (0 ≤ v.1) then
     bif decide (v.1.toNat < v.2.2.2.2.2.2.2.2.2.1.length) then
     let y15 := v.2.2.2.2.2.2.2.2.2.1.getD v.1.toNat (0 : Int)
     bif y15 != (-1 : Int) then
      some (.inr ((false, ())))
     else
     lvFnOpFresh_2 N n (w64 (v.1 + (1 : Int)), v.2.1, v.2.2.1, v.2.2.2.1, v.2.2.2.2.1, v.2.2.2.2.2.1, v.2.2.2.2.2.2.1, v.2.2.2.2.2.2.2.1, v.2.2.2.2.2.2.2.2.1, v.2.2.2.2.2.2.2.2.2.1, v.2.2.2.2.2.2.2.2.2.2.1, ())
     else none
     else none
    else
    some (.inl (v.2.1, v.2.2.1, v.2.2.2.1, v.2.2.2.2.1, v.2.2.2.2.2.1, v.2.2.2.2.2.2.1, v.2.2.2.2.2.2.2.1, v.2.2.2.2.2.2.2.2.1, v.2.2.2.2.2.2.2.2.2.1, v.2.2.2.2.2.2.2.2.2.2.1, ()))
noncomputable def FvFnOpFresh (N : Nat) (x : ((List Int) × Unit)) : Option (Bool × Unit) :=
  let y1 := decide ((x.1.length : Int) > (1048576 : Int))
  bif y1 then
   some (true, ())
  else
  (FsDrawGraphDo N (x.1, ())).bind fun r2 =>
  (FiGraphDo N ((r2.2.2.2.2.2.2.2.2.2.1, r2.2.2.2.2.2.2.2.2.2.2.1, r2.2.2.2.2.2.2.2.2.2.2.2.1, ()), r2.1, ((1 : Int), r2.2.2.1, r2.2.2.2.1, r2.2.2.2.2.1, r2.2.2.2.2.2.1, r2.2.2.2.2.2.2.1, (r2.2.2.2.2.2.2.2.1, r2.2.2.2.2.2.2.2.2.1, ()), ()), ())).bind fun r3 =>
  (FsGraphDo N ((r2.2.2.2.2.2.2.2.2.2.1, r2.2.2.2.2.2.2.2.2.2.2.1, r2.2.2.2.2.2.2.2.2.2.2.2.1, ()), r2.1, ((1 : Int), r2.2.2.1, r2.2.2.2.1, r2.2.2.2.2.1, r2.2.2.2.2.2.1, r2.2.2.2.2.2.2.1, (r2.2.2.2.2.2.2.2.1, r2.2.2.2.2.2.2.2.2.1, ()), ()), ())).bind fun r4 =>
  Option.bind (
   bif r3.2.1 != r4.2.1 then
    some (.inr ((false, ())))
   else
   (FvflGraph N ((r3.2.2.1, r3.2.2.2.1, r3.2.2.2.2.1, ()), (r4.2.2.1, r4.2.2.2.1, r4.2.2.2.2.1, ()), ())).bind fun r5 =>
   bif !r5.1 then
    some (.inr ((false, ())))
   else
   some (.inl (r2.1, r3.2.1, (1 : Int), r2.2.2.1, r2.2.2.2.1, r2.2.2.2.2.1, r2.2.2.2.2.2.1, r2.2.2.2.2.2.2.1, r2.2.2.2.2.2.2.2.1, r2.2.2.2.2.2.2.2.2.1, r3.2.2.1, r3.2.2.2.1, r3.2.2.2.2.1, ()))) fun o6 =>
  Sum.elim (fun o7 =>
   bif o7.2.1 != (0 : Int) then
    some (true, ())
   else
   bif decide (0 ≤ o7.1) then
   bif decide (o7.1.toNat < o7.2.2.2.2.2.2.2.2.2.2.2.1.length) then
   let y8 := ((o7.2.2.2.2.2.2.2.2.2.2.2.1.getD o7.1.toNat ([] : (List Int))).length : Int)
   (lvFnOpFresh_0 N N (o7.1, w64 (y8 - (1 : Int)), (0 : Int), o7.2.2.1, o7.2.2.2.1, o7.2.2.2.2.1, o7.2.2.2.2.2.1, o7.2.2.2.2.2.2.1, o7.2.2.2.2.2.2.2.1, o7.2.2.2.2.2.2.2.2.1, o7.2.2.2.2.2.2.2.2.2.1, o7.2.2.2.2.2.2.2.2.2.2.1, o7.2.2.2.2.2.2.2.2.2.2.2.1, o7.2.2.2.2.2.2.2.2.2.2.2.2.1, ())).bind fun o10 =>
   Sum.elim (fun o11 =>
    let y12 := w64 ((o11.2.2.2.2.2.2.2.2.1.length : Int) - (1 : Int))
    bif decide (0 ≤ y12) then
    bif decide (y12.toNat < o11.2.2.2.2.2.2.2.2.1.length) then
    let y13 := o11.2.2.2.2.2.2.2.2.1.getD y12.toNat (([] : (List Int)), ([] : (List Int)), ())
    (lvFnOpFresh_2 N N ((0 : Int), o11.1, o11.2.1, o11.2.2.1, o11.2.2.2.1, o11.2.2.2.2.1, o11.2.2.2.2.2.1, o11.2.2.2.2.2.2.1, o11.2.2.2.2.2.2.2.1, y13.1, y13.2.1, ())).bind fun o16 =>
    Sum.elim (fun o17 =>
     let y18 := (o17.2.2.2.2.2.2.2.2.1.length : Int) == o17.2.2.2.2.2.2.1
     bif y18 then
      let y19 := (o17.2.2.2.2.2.2.2.2.2.1.length : Int)
      some (y19 == o17.2.2.2.2.2.2.2.1, ())
     else
     some (false, ())) (fun o20 =>
     some (o20.1, ())) o16
    else none
    else none) (fun o21 =>
    some (o21.1, ())) o10
   else none
   else none) (fun o22 =>
   some (o22.1, ())) o6
noncomputable def convFnOpFresh (N : Nat) : Con := { f := 4, din := dinvFnOpFresh, outs := outvFnOpFresh, F := FvFnOpFresh N }
noncomputable def XvFnOpFresh (N : Nat) : Ctx := { E := EvFnOpFresh N, H := HvFnOpFresh, lp := [(0, { hd := dvFnOpFresh_0, outs := ovFnOpFresh_0, run := fun v => lvFnOpFresh_0 N N v }), (2, { hd := dvFnOpFresh_2, outs := ovFnOpFresh_2, run := fun v => lvFnOpFresh_2 N N v })], jn := [(9, jvFnOpFresh_9)] }
noncomputable def bvFnOpFresh_2 : Code := loopBody (codeOf Try.f4) 1
noncomputable def bvFnOpFresh_0 : Code := loopBody (codeOf Try.f4) 0
theorem FvFnOpFresh_eq (N : Nat) (x : ((List Int) × Unit)) : evFn (XvFnOpFresh N) Try.f4 dinvFnOpFresh outvFnOpFresh x = FvFnOpFresh N x := by kernel_rfl
theorem lvFnOpFresh_0_eq (N n : Nat) (v : (Int × (Int × (Int × (Int × (Int × (Int × (Int × (Int × (Int × (Int × (Int × ((List ((List Int) × ((List Int) × Unit))) × ((List (List Int)) × ((List Int) × Unit))))))))))))))) : lvFnOpFresh_0 N (n + 1) v = ev (XvFnOpFresh N) bvFnOpFresh_0 (roundK dvFnOpFresh_0 ovFnOpFresh_0 (lvFnOpFresh_0 N n)) (dvFnOpFresh_0.mk' v) := by kernel_rfl
theorem lvFnOpFresh_2_eq (N n : Nat) (v : (Int × (Int × (Int × (Int × (Int × (Int × (Int × (Int × (Int × ((List Int) × ((List Int) × Unit)))))))))))) : lvFnOpFresh_2 N (n + 1) v = ev (XvFnOpFresh N) bvFnOpFresh_2 (roundK dvFnOpFresh_2 ovFnOpFresh_2 (lvFnOpFresh_2 N n)) (dvFnOpFresh_2.mk' v) := by kernel_rfl
theorem cxvFnOpFresh (N : Nat) : CtxOk Try.prog (XvFnOpFresh N) := ⟨⟨TE_ok, List.forall_mem_cons.2 ⟨specsDrawGraphDo N, List.forall_mem_cons.2 ⟨speciGraphDo N, List.forall_mem_cons.2 ⟨specsGraphDo N, List.forall_mem_cons.2 ⟨specvflGraph N, fun k hk => absurd hk List.not_mem_nil⟩⟩⟩⟩⟩, mixed⟩
theorem lpvFnOpFresh_0 (N : Nat) : LoopOk Try.prog { hd := dvFnOpFresh_0, outs := ovFnOpFresh_0, run := fun v => lvFnOpFresh_0 N N v } bvFnOpFresh_0 :=
  loop_fuel (d := dvFnOpFresh_0) (os := ovFnOpFresh_0) (cxvFnOpFresh N) (loops_at (ids := []) (by kernel_rfl) (trivial)) (lvFnOpFresh_0 N) (fun _ => rfl) (fun n v => lvFnOpFresh_0_eq N n v) (fun _ => N)
theorem lpvFnOpFresh_2 (N : Nat) : LoopOk Try.prog { hd := dvFnOpFresh_2, outs := ovFnOpFresh_2, run := fun v => lvFnOpFresh_2 N N v } bvFnOpFresh_2 :=
  loop_fuel (d := dvFnOpFresh_2) (os := ovFnOpFresh_2) (cxvFnOpFresh N) (loops_at (ids := []) (by kernel_rfl) (trivial)) (lvFnOpFresh_2 N) (fun _ => rfl) (fun n v => lvFnOpFresh_2_eq N n v) (fun _ => N)
theorem specvFnOpFresh (N : Nat) : Spec Try.prog (convFnOpFresh N) :=
  Spec.of_eq (fn_spec (cxvFnOpFresh N) (f := 4) (fn := Try.f4) (c := codeOf Try.f4) (by kernel_rfl) (by kernel_rfl) (by kernel_rfl) (loops_at (ids := [0, 2]) (by kernel_rfl) ⟨lp_of (lpvFnOpFresh_0 N), ⟨lp_of (lpvFnOpFresh_2 N), trivial⟩⟩) (by kernel_rfl)) (fun x r h => (FvFnOpFresh_eq N x).trans h)

end Go.Fl

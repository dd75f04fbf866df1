/- Proved: for every input the law FnPathHolds returns true and leaves its arguments as they were. Part 1: the functions that the law reaches, as plain functions, and plain laws about them; no conditions. -/
import Derived.Test.YtjlcdaggbpgpjaaK3
import Derived.Test.YtjlcdaggbpgpjaaProg
set_option linter.all false
set_option maxRecDepth 100000
set_option linter.all false
namespace Go.Fl
open Go Go.Proofs
noncomputable def TE : List (Nat × Ty) := [(3, (.int .i64)),
  (4, .bool),
  (5, (.int .u8)),
  (23, (.sl (.sl (.int .i64)))),
  (24, (.sl (.int .i64))),
  (29, (.sl (.pair (.sl (.int .i64)) (.pair (.sl (.int .i64)) .unit)))),
  (31, (.pair (.sl (.pair (.sl (.int .i64)) (.pair (.sl (.int .i64)) .unit))) (.pair (.sl (.sl (.int .i64))) (.pair (.sl (.int .i64)) .unit)))),
  (42, (.sl (.int .u8))),
  (44, (.sl .bool)),
  (47, (.pair (.sl (.int .i64)) (.pair (.sl (.int .i64)) .unit))),
  (72, (.pair (.int .i64) (.pair (.int .i64) .unit))),
  (74, (.pair (.int .i64) (.pair (.int .i64) (.pair (.int .i64) (.pair (.int .i64) (.pair (.int .i64) (.pair (.int .i64) (.pair (.pair (.int .i64) (.pair (.int .i64) .unit)) .unit)))))))),
  (91, (.mp .bool)),
  (97, (.hnd true)),
  (103, (.hnd false)),
  (109, (.hnd true)),
  (151, (.pair (.sl (.int .u8)) (.pair (.int .i64) .unit)))]
theorem TE_ok : TyOk Try.prog TE := tysB_spec (by kernel_rfl)
theorem mixed : Try.prog.follows .mixedOrders = true := by kernel_rfl

/-! ### 85: spec.l1Open -/

noncomputable def dinsl1Open_o_ : Desc := { n := 1, regs := [.one (.val (.sl (.int .u8)))], bx := [], pins := [] }
noncomputable def outsl1Open_o_ : Outs := [(.ret, { n := 1, regs := [.one (.lit (.ptr 1038528 0))], bx := [(1038528, .var [.val (.sl (.int .u8)), .val (.int .i64)])], pins := [] })]
noncomputable def Hsl1Open_o_ : Hints := []
noncomputable def Esl1Open_o_ (_N : Nat) : Env := { te := TE, cs := [] }
noncomputable def Fsl1Open_o_ (N : Nat) (x : ((List Int) × Unit)) : Option ((List Int) × (Int × Unit)) :=
  let y1 := decide ((x.1.length : Int) > (2000 : Int))
  bif y1 then
   bif decide (0 ≤ (2000 : Int)) then
   bif decide ((2000 : Int) ≤ (x.1.length : Int)) then
   bif decide (0 ≤ (0 : Int)) then
   bif decide ((0 : Int) ≤ (2000 : Int)) then
   let y2 := (x.1.drop (0 : Int).toNat).take ((2000 : Int).toNat - (0 : Int).toNat)
   some (y2, (0 : Int), ())
   else none
   else none
   else none
   else none
  else
  some (x.1, (0 : Int), ())
noncomputable def consl1Open_o_ (N : Nat) : Con := { f := 85, din := dinsl1Open_o_, outs := outsl1Open_o_, F := Fsl1Open_o_ N }
noncomputable def Xsl1Open_o_ (N : Nat) : Ctx := { E := Esl1Open_o_ N, H := Hsl1Open_o_, lp := [], jn := [] }
theorem Fsl1Open_o__eq (N : Nat) (x : ((List Int) × Unit)) : evFn (Xsl1Open_o_ N) Try.f85 dinsl1Open_o_ outsl1Open_o_ x = Fsl1Open_o_ N x := by kernel_rfl
theorem cxsl1Open_o_ (N : Nat) : CtxOk Try.prog (Xsl1Open_o_ N) := ⟨⟨TE_ok, fun k hk => absurd hk List.not_mem_nil⟩, mixed⟩
theorem specsl1Open_o_ (N : Nat) : Spec Try.prog (consl1Open_o_ N) :=
  Spec.of_eq (fn_spec (cxsl1Open_o_ N) (f := 85) (fn := Try.f85) (c := codeOf Try.f85) (by kernel_rfl) (by kernel_rfl) (by kernel_rfl) (loops_at (ids := []) (by kernel_rfl) (trivial)) (by kernel_rfl)) (fun x r h => (Fsl1Open_o__eq N x).trans h)

/-! ### 87: spec.l1Rd).pick -/

noncomputable def dinsl1Rd_pick : Desc := { n := 2, regs := [.one (.lit (.ptr 0 0)), .one (.val (.int .i64))], bx := [(0, .var [.val (.sl (.int .u8)), .val (.int .i64)])], pins := [] }
noncomputable def outsl1Rd_pick : Outs := [(.ret, { n := 1, regs := [.one (.val (.int .i64))], bx := [(0, .var [.val (.sl (.int .u8)), .val (.int .i64)])], pins := [.one (.lit (.ptr 0 0))] })]
noncomputable def Hsl1Rd_pick : Hints := []
noncomputable def Esl1Rd_pick (_N : Nat) : Env := { te := TE, cs := [] }
noncomputable def jsl1Rd_pick_4 : Outs := [(.normal, { n := 99, regs := [.one (.lit (.ptr 0 0)), .one (.val (.int .i64))], bx := [(0, .var [.val (.sl (.int .u8)), .val (.int .i64)])], pins := [.one (.lit (.ptr 0 0))] }), (.ret, { n := 99, regs := [u, u, u, u, .one (.val (.int .i64))], bx := [(0, .var [.val (.sl (.int .u8)), .val (.int .i64)])], pins := [.one (.lit (.ptr 0 0))] })]
noncomputable def Fsl1Rd_pick (N : Nat) (x : (Int × ((List Int) × (Int × Unit)))) : Option (Int × ((List Int) × (Int × Unit))) :=
  Option.bind (
   bif decide (x.1 < (1 : Int)) then
    some (.inr (((0 : Int), x.2.1, w64 (x.2.2.1 + (1 : Int)), ())))
   else
   bif (x.2.1.length : Int) == (0 : Int) then
    some (.inr (((0 : Int), x.2.1, w64 (x.2.2.1 + (1 : Int)), ())))
   else
   some (.inl (x.1, x.2.1, w64 (x.2.2.1 + (1 : Int)), ()))) fun o1 =>
  Sum.elim (fun o2 =>
   let y3 := decide ((w64 (o2.2.2.1 - (1 : Int))) < (o2.2.1.length : Int))
   bif y3 then
    bif decide (0 ≤ (w64 (o2.2.2.1 - (1 : Int)))) then
    bif decide ((w64 (o2.2.2.1 - (1 : Int))).toNat < o2.2.1.length) then
    let y4 := o2.2.1.getD ((w64 (o2.2.2.1 - (1 : Int))).toNat) (0 : Int)
    bif decide (o2.1 = 0) then
     none
    else
    some (Int.tmod (w64 (y4)) o2.1, o2.2.1, o2.2.2.1, ())
    else none
    else none
   else
   bif decide ((o2.2.1.length : Int) = 0) then
    none
   else
   let y5 := Int.tmod (w64 (o2.2.2.1 - (1 : Int))) (o2.2.1.length : Int)
   bif decide (0 ≤ y5) then
   bif decide (y5.toNat < o2.2.1.length) then
   let y6 := w64 ((w64 (o2.2.1.getD y5.toNat (0 : Int))) * (131 : Int))
   let y7 := w64 ((w64 (o2.2.2.1 - (1 : Int))) * (7 : Int))
   bif decide ((o2.2.1.length : Int) = 0) then
    none
   else
   let y8 := Int.tmod (w64 (y7 + (3 : Int))) (o2.2.1.length : Int)
   bif decide (0 ≤ y8) then
   bif decide (y8.toNat < o2.2.1.length) then
   let y9 := w64 ((w64 (o2.2.1.getD y8.toNat (0 : Int))) * (1117 : Int))
   let y10 := w64 ((w64 (o2.2.2.1 - (1 : Int))) * (29 : Int))
   bif decide ((o2.2.1.length : Int) = 0) then
    none
   else
   let y11 := w64 (Int.tdiv (w64 (o2.2.2.1 - (1 : Int))) (o2.2.1.length : Int))
   let y12 := w64 ((w64 ((w64 (y6 + y9)) + y10)) + (w64 (y11 * (53 : Int))))
   bif decide ((64 : Int) = 0) then
    none
   else
   let y13 := w64 (((bitsOf .i64 y12 ^^^ bitsOf .i64 (w64 (Int.tdiv y12 (64 : Int)))).toNat : Int))
   bif decide (o2.1 = 0) then
    none
   else
   some (Int.tmod y13 o2.1, o2.2.1, o2.2.2.1, ())
   else none
   else none
   else none
   else none) (fun o14 =>
   some (o14.1, o14.2.1, o14.2.2.1, ())) o1
noncomputable def consl1Rd_pick (N : Nat) : Con := { f := 87, din := dinsl1Rd_pick, outs := outsl1Rd_pick, F := Fsl1Rd_pick N }
noncomputable def Xsl1Rd_pick (N : Nat) : Ctx := { E := Esl1Rd_pick N, H := Hsl1Rd_pick, lp := [], jn := [(4, jsl1Rd_pick_4)] }
theorem Fsl1Rd_pick_eq (N : Nat) (x : (Int × ((List Int) × (Int × Unit)))) : evFn (Xsl1Rd_pick N) Try.f87 dinsl1Rd_pick outsl1Rd_pick x = Fsl1Rd_pick N x := by kernel_rfl
theorem cxsl1Rd_pick (N : Nat) : CtxOk Try.prog (Xsl1Rd_pick N) := ⟨⟨TE_ok, fun k hk => absurd hk List.not_mem_nil⟩, mixed⟩
theorem specsl1Rd_pick (N : Nat) : Spec Try.prog (consl1Rd_pick N) :=
  Spec.of_eq (fn_spec (cxsl1Rd_pick N) (f := 87) (fn := Try.f87) (c := codeOf Try.f87) (by kernel_rfl) (by kernel_rfl) (by kernel_rfl) (loops_at (ids := []) (by kernel_rfl) (trivial)) (by kernel_rfl)) (fun x r h => (Fsl1Rd_pick_eq N x).trans h)

/-! ### 115: spec.GraphNew -/

noncomputable def dinsGraphNew : Desc := { n := 1, regs := [.one (.val (.int .i64))], bx := [], pins := [] }
noncomputable def outsGraphNew : Outs := [(.ret, { n := 2, regs := [.agg [.lit (.row 1102464), .lit (.row 1102530), .lit .nil], .one (.val .bool)], bx := [(1102464, .row (.pair (.sl (.int .i64)) (.pair (.sl (.int .i64)) .unit))), (1102530, .row (.sl (.int .i64)))], pins := [] })]
noncomputable def HsGraphNew : Hints := [(2, [(0, { nl := [(0, (.pair (.sl (.int .i64)) (.pair (.sl (.int .i64)) .unit))), (1, (.sl (.int .i64)))] })]),
  (3, [(1, { nl := [(0, (.int .i64))] })]),
  (8, [(1, { dp := true }), (2, { nl := [(1, (.sl (.int .i64)))] })]),
  (12, [(3, { dp := true }), (4, { dp := true })])]
noncomputable def EsGraphNew (_N : Nat) : Env := { te := TE, cs := [] }
noncomputable def dsGraphNew_0 : Desc := { n := 41, regs := [.one (.val (.int .i64)), u, .one (.lit (.ptr 1000000 0)), u, .one (.lit (.ptr 1038528 0)), .one (.val (.int .i64))], bx := [(1000000, .var [.lit .nil, .lit .nil, .lit .nil]), (1038528, .var [.lit (.row 1038465), .lit (.row 1038400)]), (1038465, .row (.int .i64)), (1038400, .row (.int .i64))], pins := [] }
noncomputable def osGraphNew_0 : Outs := [(.exit 0, { n := 41, regs := [.one (.val (.int .i64)), u, .one (.lit (.ptr 1000000 0)), u, .one (.lit (.ptr 1038528 0))], bx := [(1000000, .var [.lit .nil, .lit .nil, .lit .nil]), (1038528, .var [.lit (.row 1038465), .lit (.row 1038400)]), (1038465, .row (.int .i64)), (1038400, .row (.int .i64))], pins := [] })]
noncomputable def dsGraphNew_2 : Desc := { n := 41, regs := [.one (.val (.int .i64)), u, .one (.lit (.ptr 1000000 0)), u, u, u, .one (.lit (.ptr 1102592 0)), .one (.val (.int .i64))], bx := [(1000000, .var [.lit .nil, .lit .nil, .lit .nil]), (1102592, .var [.lit (.row 1102464), .lit (.row 1102530), .lit .nil]), (1102464, .row (.pair (.sl (.int .i64)) (.pair (.sl (.int .i64)) .unit))), (1102530, .row (.sl (.int .i64)))], pins := [] }
noncomputable def osGraphNew_2 : Outs := [(.exit 2, { n := 41, regs := [u, u, .one (.lit (.ptr 1000000 0)), u, u, u, .one (.lit (.ptr 1102592 0))], bx := [(1000000, .var [.lit .nil, .lit .nil, .lit .nil]), (1102592, .var [.lit (.row 1102464), .lit (.row 1102530), .lit .nil]), (1102464, .row (.pair (.sl (.int .i64)) (.pair (.sl (.int .i64)) .unit))), (1102530, .row (.sl (.int .i64)))], pins := [] })]
noncomputable def jsGraphNew_3 : Outs := [(.normal, { n := 41, regs := [.one (.val (.int .i64)), u, .one (.lit (.ptr 1000000 0))], bx := [(1000000, .var [.lit .nil, .lit .nil, .lit .nil])], pins := [] }), (.ret, { n := 41, regs := [u, u, .one (.lit (.ptr 1000000 0)), .one (.val .bool)], bx := [(1000000, .var [.lit (.row 1025601), .lit (.row 1025602), .lit .nil]), (1025601, .row (.pair (.sl (.int .i64)) (.pair (.sl (.int .i64)) .unit))), (1025602, .row (.sl (.int .i64)))], pins := [] })]
noncomputable def lsGraphNew_0 (N : Nat) : Nat → (Int × (Int × ((List Int) × ((List Int) × Unit)))) → Option (Int × ((List Int) × ((List Int) × Unit)))
  | 0, _ => none
  | n + 1, v =>
    bif decide (v.2.1 < (4 : Int)) then
     bif decide (v.2.2.1.length + [(-1 : Int)].length ≤ lim) then
     lsGraphNew_0 N n (v.1, w64 (v.2.1 + (1 : Int)), v.2.2.1 ++ [(-1 : Int)], v.2.2.2.1, ())
     else none
    else
    some (v.1, v.2.2.1, v.2.2.2.1, ())
noncomputable def lsGraphNew_2 (N : Nat) : Nat → (Int × (Int × ((List ((List Int) × ((List Int) × Unit))) × ((List (List Int)) × Unit)))) → Option ((List ((List Int) × ((List Int) × Unit))) × ((List (List Int)) × Unit))
  | 0, _ => none
  | n + 1, v =>
    bif decide (v.2.1 < v.1) then
     bif decide (v.2.2.2.1.length + [[(0 : Int)]].length ≤ lim) then
     lsGraphNew_2 N n (v.1, w64 (v.2.1 + (1 : Int)), v.2.2.1, v.2.2.2.1 ++ [[(0 : Int)]], ())
     else none
    else
    some (v.2.2.1, v.2.2.2.1, ())
noncomputable def FsGraphNew (N : Nat) (x : (Int × Unit)) : Option (Bool × ((List ((List Int) × ((List Int) × Unit))) × ((List (List Int)) × Unit))) :=
  Option.bind (
   bif decide (x.1 < (1 : Int)) then
    let y1 := ([] : (List ((List Int) × ((List Int) × Unit))))
    some (.inr ((false, y1, ([] : (List (List Int))), ())))
   else
   bif decide (x.1 > (3 : Int)) then
    let y2 := ([] : (List ((List Int) × ((List Int) × Unit))))
    some (.inr ((false, y2, ([] : (List (List Int))), ())))
   else
   some (.inl (x.1, ()))) fun o3 =>
  Sum.elim (fun o4 =>
   bif decide (0 ≤ (2 : Int)) then
   bif decide ((2 : Int).toNat ≤ lim) then
   let y5 := List.replicate (2 : Int).toNat (0 : Int)
   (lsGraphNew_0 N N (o4.1, (0 : Int), ([] : (List Int)), y5, ())).bind fun o6 =>
   (lsGraphNew_2 N N (o6.1, (0 : Int), [(o6.2.1, o6.2.2.1, ())], ([] : (List (List Int))), ())).bind fun o7 =>
   some (true, o7.1, o7.2.1, ())
   else none
   else none) (fun o8 =>
   some (o8.1, o8.2.1, o8.2.2.1, ())) o3
noncomputable def consGraphNew (N : Nat) : Con := { f := 115, din := dinsGraphNew, outs := outsGraphNew, F := FsGraphNew N }
noncomputable def XsGraphNew (N : Nat) : Ctx := { E := EsGraphNew N, H := HsGraphNew, lp := [(0, { hd := dsGraphNew_0, outs := osGraphNew_0, run := fun v => lsGraphNew_0 N N v }), (2, { hd := dsGraphNew_2, outs := osGraphNew_2, run := fun v => lsGraphNew_2 N N v })], jn := [(3, jsGraphNew_3)] }
noncomputable def bsGraphNew_2 : Code := loopBody (codeOf Try.f115) 1
noncomputable def bsGraphNew_0 : Code := loopBody (codeOf Try.f115) 0
theorem FsGraphNew_eq (N : Nat) (x : (Int × Unit)) : evFn (XsGraphNew N) Try.f115 dinsGraphNew outsGraphNew x = FsGraphNew N x := by kernel_rfl
theorem lsGraphNew_0_eq (N n : Nat) (v : (Int × (Int × ((List Int) × ((List Int) × Unit))))) : lsGraphNew_0 N (n + 1) v = ev (XsGraphNew N) bsGraphNew_0 (roundK dsGraphNew_0 osGraphNew_0 (lsGraphNew_0 N n)) (dsGraphNew_0.mk' v) := by kernel_rfl
theorem lsGraphNew_2_eq (N n : Nat) (v : (Int × (Int × ((List ((List Int) × ((List Int) × Unit))) × ((List (List Int)) × Unit))))) : lsGraphNew_2 N (n + 1) v = ev (XsGraphNew N) bsGraphNew_2 (roundK dsGraphNew_2 osGraphNew_2 (lsGraphNew_2 N n)) (dsGraphNew_2.mk' v) := by kernel_rfl
theorem cxsGraphNew (N : Nat) : CtxOk Try.prog (XsGraphNew N) := ⟨⟨TE_ok, fun k hk => absurd hk List.not_mem_nil⟩, mixed⟩
theorem lpsGraphNew_0 (N : Nat) : LoopOk Try.prog { hd := dsGraphNew_0, outs := osGraphNew_0, run := fun v => lsGraphNew_0 N N v } bsGraphNew_0 :=
  loop_fuel (d := dsGraphNew_0) (os := osGraphNew_0) (cxsGraphNew N) (loops_at (ids := []) (by kernel_rfl) (trivial)) (lsGraphNew_0 N) (fun _ => rfl) (fun n v => lsGraphNew_0_eq N n v) (fun _ => N)
theorem lpsGraphNew_2 (N : Nat) : LoopOk Try.prog { hd := dsGraphNew_2, outs := osGraphNew_2, run := fun v => lsGraphNew_2 N N v } bsGraphNew_2 :=
  loop_fuel (d := dsGraphNew_2) (os := osGraphNew_2) (cxsGraphNew N) (loops_at (ids := []) (by kernel_rfl) (trivial)) (lsGraphNew_2 N) (fun _ => rfl) (fun n v => lsGraphNew_2_eq N n v) (fun _ => N)
theorem specsGraphNew (N : Nat) : Spec Try.prog (consGraphNew N) :=
  Spec.of_eq (fn_spec (cxsGraphNew N) (f := 115) (fn := Try.f115) (c := codeOf Try.f115) (by kernel_rfl) (by kernel_rfl) (by kernel_rfl) (loops_at (ids := [0, 2]) (by kernel_rfl) ⟨lp_of (lpsGraphNew_0 N), ⟨lp_of (lpsGraphNew_2 N), trivial⟩⟩) (by kernel_rfl)) (fun x r h => (FsGraphNew_eq N x).trans h)

/-! ### 149: spec.l20Shape -/

noncomputable def dinsl20Shape : Desc := { n := 1, regs := [.one (.lit (.ptr 0 0))], bx := [(0, .var [.val (.sl (.int .u8)), .val (.int .i64)])], pins := [] }
noncomputable def outsl20Shape : Outs := [(.ret, { n := 1, regs := [.agg [.val (.int .i64), .val (.int .i64)]], bx := [(0, .var [.val (.sl (.int .u8)), .val (.int .i64)])], pins := [.one (.lit (.ptr 0 0))] })]
noncomputable def Hsl20Shape : Hints := []
noncomputable def Esl20Shape (N : Nat) : Env := { te := TE, cs := [consl1Rd_pick N] }
noncomputable def Fsl20Shape (N : Nat) (x : ((List Int) × (Int × Unit))) : Option (Int × (Int × ((List Int) × (Int × Unit)))) :=
  (Fsl1Rd_pick N ((20 : Int), x.1, x.2.1, ())).bind fun r1 =>
  bif r1.1 == (0 : Int) then
   let y2 := [(4 : Int), (5 : Int), (-1 : Int), (0 : Int)]
   (Fsl1Rd_pick N ((4 : Int), r1.2.1, r1.2.2.1, ())).bind fun r3 =>
   bif decide (0 ≤ r3.1) then
   bif decide (r3.1.toNat < y2.length) then
   let y4 := [(4 : Int), (5 : Int), (-1 : Int), (0 : Int)]
   (Fsl1Rd_pick N ((4 : Int), r3.2.1, r3.2.2.1, ())).bind fun r5 =>
   bif decide (0 ≤ r5.1) then
   bif decide (r5.1.toNat < y4.length) then
   some (y2.getD r3.1.toNat (0 : Int), y4.getD r5.1.toNat (0 : Int), r5.2.1, r5.2.2.1, ())
   else none
   else none
   else none
   else none
  else
  (Fsl1Rd_pick N ((4 : Int), r1.2.1, r1.2.2.1, ())).bind fun r6 =>
  (Fsl1Rd_pick N ((3 : Int), r6.2.1, r6.2.2.1, ())).bind fun r7 =>
  some (r6.1, r7.1, r7.2.1, r7.2.2.1, ())
noncomputable def consl20Shape (N : Nat) : Con := { f := 149, din := dinsl20Shape, outs := outsl20Shape, F := Fsl20Shape N }
noncomputable def Xsl20Shape (N : Nat) : Ctx := { E := Esl20Shape N, H := Hsl20Shape, lp := [], jn := [] }
theorem Fsl20Shape_eq (N : Nat) (x : ((List Int) × (Int × Unit))) : evFn (Xsl20Shape N) Try.f149 dinsl20Shape outsl20Shape x = Fsl20Shape N x := by kernel_rfl
theorem cxsl20Shape (N : Nat) : CtxOk Try.prog (Xsl20Shape N) := ⟨⟨TE_ok, List.forall_mem_cons.2 ⟨(specsl1Rd_pick N), fun k hk => absurd hk List.not_mem_nil⟩⟩, mixed⟩
theorem specsl20Shape (N : Nat) : Spec Try.prog (consl20Shape N) :=
  Spec.of_eq (fn_spec (cxsl20Shape N) (f := 149) (fn := Try.f149) (c := codeOf Try.f149) (by kernel_rfl) (by kernel_rfl) (by kernel_rfl) (loops_at (ids := []) (by kernel_rfl) (trivial)) (by kernel_rfl)) (fun x r h => (Fsl20Shape_eq N x).trans h)

/-! ### 136: spec.l20Op -/

noncomputable def dinsl20Op : Desc := { n := 2, regs := [.one (.lit (.ptr 0 0)), .one (.val (.int .i64))], bx := [(0, .var [.val (.sl (.int .u8)), .val (.int .i64)])], pins := [] }
noncomputable def outsl20Op : Outs := [(.ret, { n := 1, regs := [.agg [.val (.int .i64), .val (.int .i64), .val (.int .i64), .val (.int .i64), .val (.int .i64), .val (.int .i64), .val (.int .i64), .val (.int .i64)]], bx := [(0, .var [.val (.sl (.int .u8)), .val (.int .i64)])], pins := [.one (.lit (.ptr 0 0))] })]
noncomputable def Hsl20Op : Hints := [(10, [(1, { con := 1 })])]
noncomputable def Esl20Op (N : Nat) : Env := { te := TE, cs := [consl1Rd_pick N, consl20Shape N] }
noncomputable def jsl20Op_6 : Outs := [(.normal, { n := 124, regs := [.one (.lit (.ptr 0 0)), u, u, u, .one (.lit (.ptr 1000000 0)), .one (.lit (.ptr 1013952 0))], bx := [(0, .var [.val (.sl (.int .u8)), .val (.int .i64)]), (1000000, .var [.val (.int .i64), .val (.int .i64), .val (.int .i64), .val (.int .i64), .val (.int .i64), .val (.int .i64), .val (.int .i64), .val (.int .i64)]), (1013952, .var [.val (.int .i64), .val (.int .i64), .val (.int .i64), .val (.int .i64), .val (.int .i64), .val (.int .i64), .val (.int .i64), .val (.int .i64)])], pins := [.one (.lit (.ptr 0 0))] })]
noncomputable def jsl20Op_27 : Outs := [(.normal, { n := 124, regs := [.one (.lit (.ptr 0 0)), u, u, u, .one (.lit (.ptr 1000000 0)), .one (.lit (.ptr 1013952 0))], bx := [(0, .var [.val (.sl (.int .u8)), .val (.int .i64)]), (1000000, .var [.val (.int .i64), .val (.int .i64), .val (.int .i64), .val (.int .i64), .val (.int .i64), .val (.int .i64), .val (.int .i64), .val (.int .i64)]), (1013952, .var [.val (.int .i64), .val (.int .i64), .val (.int .i64), .val (.int .i64), .val (.int .i64), .val (.int .i64), .val (.int .i64), .val (.int .i64)])], pins := [.one (.lit (.ptr 0 0))] })]
noncomputable def jsl20Op_29 : Outs := [(.normal, { n := 124, regs := [.one (.lit (.ptr 0 0)), u, u, u, .one (.lit (.ptr 1000000 0)), .one (.lit (.ptr 1013952 0))], bx := [(0, .var [.val (.sl (.int .u8)), .val (.int .i64)]), (1000000, .var [.val (.int .i64), .val (.int .i64), .val (.int .i64), .val (.int .i64), .val (.int .i64), .val (.int .i64), .val (.int .i64), .val (.int .i64)]), (1013952, .var [.val (.int .i64), .val (.int .i64), .val (.int .i64), .val (.int .i64), .val (.int .i64), .val (.int .i64), .val (.int .i64), .val (.int .i64)])], pins := [.one (.lit (.ptr 0 0))] })]
noncomputable def Fsl20Op (N : Nat) (x : (Int × ((List Int) × (Int × Unit)))) : Option (Int × (Int × (Int × (Int × (Int × (Int × (Int × (Int × ((List Int) × (Int × Unit)))))))))) :=
  (Fsl1Rd_pick N (w64 (x.1 + (1 : Int)), x.2.1, x.2.2.1, ())).bind fun r1 =>
  (Fsl1Rd_pick N (w64 (x.1 + (1 : Int)), r1.2.1, r1.2.2.1, ())).bind fun r2 =>
  (Fsl1Rd_pick N (w64 (x.1 + (1 : Int)), r2.2.1, r2.2.2.1, ())).bind fun r3 =>
  (Fsl1Rd_pick N ((4 : Int), r3.2.1, r3.2.2.1, ())).bind fun r4 =>
  (Fsl1Rd_pick N ((19 : Int), r4.2.1, r4.2.2.1, ())).bind fun r5 =>
  Option.bind (
   (Fsl1Rd_pick N ((12 : Int), r5.2.1, r5.2.2.1, ())).bind fun r6 =>
   bif decide (r6.1 > (0 : Int)) then
    bif decide (x.1 > (0 : Int)) then
     (Fsl1Rd_pick N (x.1, r6.2.1, r6.2.2.1, ())).bind fun r7 =>
     (Fsl1Rd_pick N (x.1, r7.2.1, r7.2.2.1, ())).bind fun r8 =>
     (Fsl1Rd_pick N (x.1, r8.2.1, r8.2.2.1, ())).bind fun r9 =>
     some (r9.2.1, r9.2.2.1, (0 : Int), (0 : Int), (0 : Int), (0 : Int), (0 : Int), (0 : Int), (0 : Int), (0 : Int), (0 : Int), r7.1, r8.1, r9.1, r4.1, w64 (r5.1 - (6 : Int)), (0 : Int), (0 : Int), ())
    else
    some (r6.2.1, r6.2.2.1, (0 : Int), (0 : Int), (0 : Int), (0 : Int), (0 : Int), (0 : Int), (0 : Int), (0 : Int), (0 : Int), r1.1, r2.1, r3.1, r4.1, w64 (r5.1 - (6 : Int)), (0 : Int), (0 : Int), ())
   else
   some (r6.2.1, r6.2.2.1, (0 : Int), (0 : Int), (0 : Int), (0 : Int), (0 : Int), (0 : Int), (0 : Int), (0 : Int), (0 : Int), r1.1, r2.1, r3.1, r4.1, w64 (r5.1 - (6 : Int)), (0 : Int), (0 : Int), ())) fun o10 =>
  (Fsl1Rd_pick N ((24 : Int), o10.1, o10.2.1, ())).bind fun r11 =>
  Option.bind (
   bif decide (r11.1 < (6 : Int)) then
    let y12 := o10.2.2.2.2.2.2.2.2.2.2.2.2.2.2.2.2.1
    let y13 := o10.2.2.2.2.2.2.2.2.2.2.2.2.2.2.2.2.2.1
    (Fsl20Shape N (r11.2.1, r11.2.2.1, ())).bind fun r14 =>
    some (r14.2.2.1, r14.2.2.2.1, o10.2.2.1, o10.2.2.2.1, o10.2.2.2.2.1, o10.2.2.2.2.2.1, o10.2.2.2.2.2.2.1, o10.2.2.2.2.2.2.2.1, o10.2.2.2.2.2.2.2.2.1, o10.2.2.2.2.2.2.2.2.2.1, (1 : Int), o10.2.2.2.2.2.2.2.2.2.2.2.1, o10.2.2.2.2.2.2.2.2.2.2.2.2.1, o10.2.2.2.2.2.2.2.2.2.2.2.2.2.1, o10.2.2.2.2.2.2.2.2.2.2.2.2.2.2.1, o10.2.2.2.2.2.2.2.2.2.2.2.2.2.2.2.1, r14.1, r14.2.1, ())
   else
   bif decide (r11.1 < (9 : Int)) then
    let y15 := o10.2.2.2.2.2.2.2.2.2.2.2.2.2.2.2.2.1
    let y16 := o10.2.2.2.2.2.2.2.2.2.2.2.2.2.2.2.2.2.1
    some (r11.2.1, r11.2.2.1, o10.2.2.1, o10.2.2.2.1, o10.2.2.2.2.1, o10.2.2.2.2.2.1, o10.2.2.2.2.2.2.1, o10.2.2.2.2.2.2.2.1, o10.2.2.2.2.2.2.2.2.1, o10.2.2.2.2.2.2.2.2.2.1, (2 : Int), o10.2.2.2.2.2.2.2.2.2.2.2.1, o10.2.2.2.2.2.2.2.2.2.2.2.2.1, o10.2.2.2.2.2.2.2.2.2.2.2.2.2.1, o10.2.2.2.2.2.2.2.2.2.2.2.2.2.2.1, o10.2.2.2.2.2.2.2.2.2.2.2.2.2.2.2.1, y15, y16, ())
   else
   bif decide (r11.1 < (14 : Int)) then
    let y17 := o10.2.2.2.2.2.2.2.2.2.2.2.2.2.2.2.2.1
    let y18 := o10.2.2.2.2.2.2.2.2.2.2.2.2.2.2.2.2.2.1
    some (r11.2.1, r11.2.2.1, o10.2.2.1, o10.2.2.2.1, o10.2.2.2.2.1, o10.2.2.2.2.2.1, o10.2.2.2.2.2.2.1, o10.2.2.2.2.2.2.2.1, o10.2.2.2.2.2.2.2.2.1, o10.2.2.2.2.2.2.2.2.2.1, (3 : Int), o10.2.2.2.2.2.2.2.2.2.2.2.1, o10.2.2.2.2.2.2.2.2.2.2.2.2.1, o10.2.2.2.2.2.2.2.2.2.2.2.2.2.1, o10.2.2.2.2.2.2.2.2.2.2.2.2.2.2.1, o10.2.2.2.2.2.2.2.2.2.2.2.2.2.2.2.1, y17, y18, ())
   else
   bif r11.1 == (14 : Int) then
    let y19 := o10.2.2.2.2.2.2.2.2.2.2.2.2.2.2.2.2.1
    let y20 := o10.2.2.2.2.2.2.2.2.2.2.2.2.2.2.2.2.2.1
    (Fsl1Rd_pick N ((3 : Int), r11.2.1, r11.2.2.1, ())).bind fun r21 =>
    some (r21.2.1, r21.2.2.1, o10.2.2.1, o10.2.2.2.1, o10.2.2.2.2.1, o10.2.2.2.2.2.1, o10.2.2.2.2.2.2.1, o10.2.2.2.2.2.2.2.1, o10.2.2.2.2.2.2.2.2.1, o10.2.2.2.2.2.2.2.2.2.1, (4 : Int), o10.2.2.2.2.2.2.2.2.2.2.2.1, o10.2.2.2.2.2.2.2.2.2.2.2.2.1, o10.2.2.2.2.2.2.2.2.2.2.2.2.2.1, r21.1, o10.2.2.2.2.2.2.2.2.2.2.2.2.2.2.2.1, y19, y20, ())
   else
   bif r11.1 == (15 : Int) then
    let y22 := o10.2.2.2.2.2.2.2.2.2.2.2.2.2.2.2.2.1
    let y23 := o10.2.2.2.2.2.2.2.2.2.2.2.2.2.2.2.2.2.1
    (Fsl1Rd_pick N ((3 : Int), r11.2.1, r11.2.2.1, ())).bind fun r24 =>
    some (r24.2.1, r24.2.2.1, o10.2.2.1, o10.2.2.2.1, o10.2.2.2.2.1, o10.2.2.2.2.2.1, o10.2.2.2.2.2.2.1, o10.2.2.2.2.2.2.2.1, o10.2.2.2.2.2.2.2.2.1, o10.2.2.2.2.2.2.2.2.2.1, (5 : Int), o10.2.2.2.2.2.2.2.2.2.2.2.1, o10.2.2.2.2.2.2.2.2.2.2.2.2.1, o10.2.2.2.2.2.2.2.2.2.2.2.2.2.1, r24.1, o10.2.2.2.2.2.2.2.2.2.2.2.2.2.2.2.1, y22, y23, ())
   else
   bif r11.1 == (16 : Int) then
    let y25 := o10.2.2.2.2.2.2.2.2.2.2.2.2.2.2.2.2.1
    let y26 := o10.2.2.2.2.2.2.2.2.2.2.2.2.2.2.2.2.2.1
    some (r11.2.1, r11.2.2.1, o10.2.2.1, o10.2.2.2.1, o10.2.2.2.2.1, o10.2.2.2.2.2.1, o10.2.2.2.2.2.2.1, o10.2.2.2.2.2.2.2.1, o10.2.2.2.2.2.2.2.2.1, o10.2.2.2.2.2.2.2.2.2.1, (6 : Int), o10.2.2.2.2.2.2.2.2.2.2.2.1, o10.2.2.2.2.2.2.2.2.2.2.2.2.1, o10.2.2.2.2.2.2.2.2.2.2.2.2.2.1, o10.2.2.2.2.2.2.2.2.2.2.2.2.2.2.1, o10.2.2.2.2.2.2.2.2.2.2.2.2.2.2.2.1, y25, y26, ())
   else
   bif r11.1 == (17 : Int) then
    let y27 := o10.2.2.2.2.2.2.2.2.2.2.2.2.2.2.2.2.1
    let y28 := o10.2.2.2.2.2.2.2.2.2.2.2.2.2.2.2.2.2.1
    some (r11.2.1, r11.2.2.1, o10.2.2.1, o10.2.2.2.1, o10.2.2.2.2.1, o10.2.2.2.2.2.1, o10.2.2.2.2.2.2.1, o10.2.2.2.2.2.2.2.1, o10.2.2.2.2.2.2.2.2.1, o10.2.2.2.2.2.2.2.2.2.1, (7 : Int), o10.2.2.2.2.2.2.2.2.2.2.2.1, o10.2.2.2.2.2.2.2.2.2.2.2.2.1, o10.2.2.2.2.2.2.2.2.2.2.2.2.2.1, o10.2.2.2.2.2.2.2.2.2.2.2.2.2.2.1, o10.2.2.2.2.2.2.2.2.2.2.2.2.2.2.2.1, y27, y28, ())
   else
   bif decide (r11.1 < (22 : Int)) then
    let y29 := o10.2.2.2.2.2.2.2.2.2.2.2.2.2.2.2.2.1
    let y30 := o10.2.2.2.2.2.2.2.2.2.2.2.2.2.2.2.2.2.1
    some (r11.2.1, r11.2.2.1, o10.2.2.1, o10.2.2.2.1, o10.2.2.2.2.1, o10.2.2.2.2.2.1, o10.2.2.2.2.2.2.1, o10.2.2.2.2.2.2.2.1, o10.2.2.2.2.2.2.2.2.1, o10.2.2.2.2.2.2.2.2.2.1, (8 : Int), o10.2.2.2.2.2.2.2.2.2.2.2.1, o10.2.2.2.2.2.2.2.2.2.2.2.2.1, o10.2.2.2.2.2.2.2.2.2.2.2.2.2.1, o10.2.2.2.2.2.2.2.2.2.2.2.2.2.2.1, o10.2.2.2.2.2.2.2.2.2.2.2.2.2.2.2.1, y29, y30, ())
   else
   (Fsl1Rd_pick N ((3 : Int), r11.2.1, r11.2.2.1, ())).bind fun r31 =>
   bif decide (0 ≤ r31.1) then
   bif decide (r31.1.toNat < [(9 : Int), (10 : Int), (11 : Int)].length) then
   let y32 := [(9 : Int), (10 : Int), (11 : Int)].getD r31.1.toNat (0 : Int)
   let y33 := o10.2.2.2.2.2.2.2.2.2.2.2.2.2.2.2.2.1
   let y34 := o10.2.2.2.2.2.2.2.2.2.2.2.2.2.2.2.2.2.1
   some (r31.2.1, r31.2.2.1, o10.2.2.1, o10.2.2.2.1, o10.2.2.2.2.1, o10.2.2.2.2.2.1, o10.2.2.2.2.2.2.1, o10.2.2.2.2.2.2.2.1, o10.2.2.2.2.2.2.2.2.1, o10.2.2.2.2.2.2.2.2.2.1, y32, o10.2.2.2.2.2.2.2.2.2.2.2.1, o10.2.2.2.2.2.2.2.2.2.2.2.2.1, o10.2.2.2.2.2.2.2.2.2.2.2.2.2.1, o10.2.2.2.2.2.2.2.2.2.2.2.2.2.2.1, o10.2.2.2.2.2.2.2.2.2.2.2.2.2.2.2.1, y33, y34, ())
   else none
   else none) fun o35 =>
  Option.bind (
   (Fsl1Rd_pick N ((3 : Int), o35.1, o35.2.1, ())).bind fun r36 =>
   bif r36.1 == (0 : Int) then
    let y37 := o35.2.2.2.2.2.2.2.2.2.2.2.2.2.2.2.2.1
    let y38 := o35.2.2.2.2.2.2.2.2.2.2.2.2.2.2.2.2.2.1
    some (r36.2.1, r36.2.2.1, o35.2.2.1, o35.2.2.2.1, o35.2.2.2.2.1, o35.2.2.2.2.2.1, o35.2.2.2.2.2.2.1, o35.2.2.2.2.2.2.2.1, o35.2.2.2.2.2.2.2.2.1, o35.2.2.2.2.2.2.2.2.2.1, o35.2.2.2.2.2.2.2.2.2.2.1, (0 : Int), o35.2.2.2.2.2.2.2.2.2.2.2.2.1, o35.2.2.2.2.2.2.2.2.2.2.2.2.2.1, o35.2.2.2.2.2.2.2.2.2.2.2.2.2.2.1, o35.2.2.2.2.2.2.2.2.2.2.2.2.2.2.2.1, y37, y38, ())
   else
   some (r36.2.1, r36.2.2.1, o35.2.2.1, o35.2.2.2.1, o35.2.2.2.2.1, o35.2.2.2.2.2.1, o35.2.2.2.2.2.2.1, o35.2.2.2.2.2.2.2.1, o35.2.2.2.2.2.2.2.2.1, o35.2.2.2.2.2.2.2.2.2.1, o35.2.2.2.2.2.2.2.2.2.2.1, o35.2.2.2.2.2.2.2.2.2.2.2.1, o35.2.2.2.2.2.2.2.2.2.2.2.2.1, o35.2.2.2.2.2.2.2.2.2.2.2.2.2.1, o35.2.2.2.2.2.2.2.2.2.2.2.2.2.2.1, o35.2.2.2.2.2.2.2.2.2.2.2.2.2.2.2.1, o35.2.2.2.2.2.2.2.2.2.2.2.2.2.2.2.2.1, o35.2.2.2.2.2.2.2.2.2.2.2.2.2.2.2.2.2.1, ())) fun o39 =>
  (Fsl1Rd_pick N ((60 : Int), o39.1, o39.2.1, ())).bind fun r40 =>
  bif r40.1 == (0 : Int) then
   (Fsl1Rd_pick N ((3 : Int), r40.2.1, r40.2.2.1, ())).bind fun r41 =>
   bif decide (0 ≤ r41.1) then
   bif decide (r41.1.toNat < [(0 : Int), (12 : Int), (-1 : Int)].length) then
   let y42 := [(0 : Int), (12 : Int), (-1 : Int)].getD r41.1.toNat (0 : Int)
   let y43 := o39.2.2.2.2.2.2.2.2.2.2.2.2.2.2.2.2.1
   let y44 := o39.2.2.2.2.2.2.2.2.2.2.2.2.2.2.2.2.2.1
   some (y42, o39.2.2.2.2.2.2.2.2.2.2.2.1, o39.2.2.2.2.2.2.2.2.2.2.2.2.1, o39.2.2.2.2.2.2.2.2.2.2.2.2.2.1, o39.2.2.2.2.2.2.2.2.2.2.2.2.2.2.1, o39.2.2.2.2.2.2.2.2.2.2.2.2.2.2.2.1, y43, y44, r41.2.1, r41.2.2.1, ())
   else none
   else none
  else
  bif r40.1 == (1 : Int) then
   let y45 := [(-1 : Int), (8 : Int), (1099511627776 : Int)]
   (Fsl1Rd_pick N ((3 : Int), r40.2.1, r40.2.2.1, ())).bind fun r46 =>
   bif decide (0 ≤ r46.1) then
   bif decide (r46.1.toNat < y45.length) then
   let y47 := o39.2.2.2.2.2.2.2.2.2.2.2.2.2.2.2.2.1
   let y48 := o39.2.2.2.2.2.2.2.2.2.2.2.2.2.2.2.2.2.1
   some (o39.2.2.2.2.2.2.2.2.2.2.1, y45.getD r46.1.toNat (0 : Int), o39.2.2.2.2.2.2.2.2.2.2.2.2.1, o39.2.2.2.2.2.2.2.2.2.2.2.2.2.1, o39.2.2.2.2.2.2.2.2.2.2.2.2.2.2.1, o39.2.2.2.2.2.2.2.2.2.2.2.2.2.2.2.1, y47, y48, r46.2.1, r46.2.2.1, ())
   else none
   else none
  else
  bif r40.1 == (2 : Int) then
   let y49 := [(-1 : Int), (4 : Int), (1099511627776 : Int)]
   (Fsl1Rd_pick N ((3 : Int), r40.2.1, r40.2.2.1, ())).bind fun r50 =>
   bif decide (0 ≤ r50.1) then
   bif decide (r50.1.toNat < y49.length) then
   let y51 := o39.2.2.2.2.2.2.2.2.2.2.2.2.2.2.2.2.1
   let y52 := o39.2.2.2.2.2.2.2.2.2.2.2.2.2.2.2.2.2.1
   some (o39.2.2.2.2.2.2.2.2.2.2.1, o39.2.2.2.2.2.2.2.2.2.2.2.1, o39.2.2.2.2.2.2.2.2.2.2.2.2.1, o39.2.2.2.2.2.2.2.2.2.2.2.2.2.1, y49.getD r50.1.toNat (0 : Int), o39.2.2.2.2.2.2.2.2.2.2.2.2.2.2.2.1, y51, y52, r50.2.1, r50.2.2.1, ())
   else none
   else none
  else
  let y53 := o39.2.2.2.2.2.2.2.2.2.2.2.2.2.2.2.2.1
  let y54 := o39.2.2.2.2.2.2.2.2.2.2.2.2.2.2.2.2.2.1
  some (o39.2.2.2.2.2.2.2.2.2.2.1, o39.2.2.2.2.2.2.2.2.2.2.2.1, o39.2.2.2.2.2.2.2.2.2.2.2.2.1, o39.2.2.2.2.2.2.2.2.2.2.2.2.2.1, o39.2.2.2.2.2.2.2.2.2.2.2.2.2.2.1, o39.2.2.2.2.2.2.2.2.2.2.2.2.2.2.2.1, y53, y54, r40.2.1, r40.2.2.1, ())
noncomputable def consl20Op (N : Nat) : Con := { f := 136, din := dinsl20Op, outs := outsl20Op, F := Fsl20Op N }
noncomputable def Xsl20Op (N : Nat) : Ctx := { E := Esl20Op N, H := Hsl20Op, lp := [], jn := [(6, jsl20Op_6), (27, jsl20Op_27), (29, jsl20Op_29)] }
theorem Fsl20Op_eq (N : Nat) (x : (Int × ((List Int) × (Int × Unit)))) : evFn (Xsl20Op N) Try.f136 dinsl20Op outsl20Op x = Fsl20Op N x := by kernel_rfl
theorem cxsl20Op (N : Nat) : CtxOk Try.prog (Xsl20Op N) := ⟨⟨TE_ok, List.forall_mem_cons.2 ⟨(specsl1Rd_pick N), List.forall_mem_cons.2 ⟨(specsl20Shape N), fun k hk => absurd hk List.not_mem_nil⟩⟩⟩, mixed⟩
theorem specsl20Op (N : Nat) : Spec Try.prog (consl20Op N) :=
  Spec.of_eq (fn_spec (cxsl20Op N) (f := 136) (fn := Try.f136) (c := codeOf Try.f136) (by kernel_rfl) (by kernel_rfl) (by kernel_rfl) (loops_at (ids := []) (by kernel_rfl) (trivial)) (by kernel_rfl)) (fun x r h => (Fsl20Op_eq N x).trans h)

/-! ### 91: spec.l5Refs -/

noncomputable def dinsl5Refs : Desc := { n := 2, regs := [.one (.val (.sl (.int .i64))), .one (.val (.int .i64))], bx := [], pins := [] }
noncomputable def outsl5Refs : Outs := [(.ret, { n := 1, regs := [.one (.val .bool)], bx := [], pins := [] })]
noncomputable def Hsl5Refs : Hints := []
noncomputable def Esl5Refs (_N : Nat) : Env := { te := TE, cs := [] }
noncomputable def dsl5Refs_0 : Desc := { n := 25, regs := [.one (.val (.sl (.int .i64))), .one (.val (.int .i64)), u, u, u, .one (.val (.int .i64))], bx := [], pins := [] }
noncomputable def osl5Refs_0 : Outs := [(.exit 0, { n := 25, regs := [], bx := [], pins := [] }), (.ret, { n := 25, regs := [u, u, u, u, .one (.val .bool)], bx := [], pins := [] })]
noncomputable def lsl5Refs_0 (N : Nat) : Nat → ((List Int) × (Int × (Int × Unit))) → Option (Unit ⊕ (Bool × Unit))
  | 0, _ => none
  | n + 1, v =>
    let y1 := decide (v.2.2.1 < (v.1.length : Int))
    bif y1 then
     bif decide (0 ≤ v.2.2.1) then
     bif decide (v.2.2.1.toNat < v.1.length) then
     let y2 := decide ((v.1.getD v.2.2.1.toNat (0 : Int)) < (-1 : Int))
     bif y2 then
      some (.inr ((false, ())))
     else
     bif decide (0 ≤ v.2.2.1) then
     bif decide (v.2.2.1.toNat < v.1.length) then
     let y3 := decide ((v.1.getD v.2.2.1.toNat (0 : Int)) ≥ v.2.1)
     bif y3 then
      some (.inr ((false, ())))
     else
     lsl5Refs_0 N n (v.1, v.2.1, w64 (v.2.2.1 + (1 : Int)), ())
     else none
     else none
     else none
     else none
    else
    some (.inl ())
noncomputable def Fsl5Refs (N : Nat) (x : ((List Int) × (Int × Unit))) : Option (Bool × Unit) :=
  (lsl5Refs_0 N N (x.1, x.2.1, (0 : Int), ())).bind fun o4 =>
  Sum.elim (fun o5 =>
   some (true, ())) (fun o6 =>
   some (o6.1, ())) o4
noncomputable def consl5Refs (N : Nat) : Con := { f := 91, din := dinsl5Refs, outs := outsl5Refs, F := Fsl5Refs N }
noncomputable def Xsl5Refs (N : Nat) : Ctx := { E := Esl5Refs N, H := Hsl5Refs, lp := [(0, { hd := dsl5Refs_0, outs := osl5Refs_0, run := fun v => lsl5Refs_0 N N v })], jn := [] }
noncomputable def bsl5Refs_0 : Code := loopBody (codeOf Try.f91) 0
theorem Fsl5Refs_eq (N : Nat) (x : ((List Int) × (Int × Unit))) : evFn (Xsl5Refs N) Try.f91 dinsl5Refs outsl5Refs x = Fsl5Refs N x := by kernel_rfl
theorem lsl5Refs_0_eq (N n : Nat) (v : ((List Int) × (Int × (Int × Unit)))) : lsl5Refs_0 N (n + 1) v = ev (Xsl5Refs N) bsl5Refs_0 (roundK dsl5Refs_0 osl5Refs_0 (lsl5Refs_0 N n)) (dsl5Refs_0.mk' v) := by kernel_rfl
theorem cxsl5Refs (N : Nat) : CtxOk Try.prog (Xsl5Refs N) := ⟨⟨TE_ok, fun k hk => absurd hk List.not_mem_nil⟩, mixed⟩
theorem lpsl5Refs_0 (N : Nat) : LoopOk Try.prog { hd := dsl5Refs_0, outs := osl5Refs_0, run := fun v => lsl5Refs_0 N N v } bsl5Refs_0 :=
  loop_fuel (d := dsl5Refs_0) (os := osl5Refs_0) (cxsl5Refs N) (loops_at (ids := []) (by kernel_rfl) (trivial)) (lsl5Refs_0 N) (fun _ => rfl) (fun n v => lsl5Refs_0_eq N n v) (fun _ => N)
theorem specsl5Refs (N : Nat) : Spec Try.prog (consl5Refs N) :=
  Spec.of_eq (fn_spec (cxsl5Refs N) (f := 91) (fn := Try.f91) (c := codeOf Try.f91) (by kernel_rfl) (by kernel_rfl) (by kernel_rfl) (loops_at (ids := [0]) (by kernel_rfl) ⟨lp_of (lpsl5Refs_0 N), trivial⟩) (by kernel_rfl)) (fun x r h => (Fsl5Refs_eq N x).trans h)

/-! ### 42: spec.GraphOk -/

noncomputable def dinsGraphOk : Desc := { n := 1, regs := [.one (.val (.pair (.sl (.pair (.sl (.int .i64)) (.pair (.sl (.int .i64)) .unit))) (.pair (.sl (.sl (.int .i64))) (.pair (.sl (.int .i64)) .unit))))], bx := [], pins := [] }
noncomputable def outsGraphOk : Outs := [(.ret, { n := 1, regs := [.one (.val .bool)], bx := [], pins := [] })]
noncomputable def HsGraphOk : Hints := [(0, [(0, { fz := true })])]
noncomputable def EsGraphOk (N : Nat) : Env := { te := TE, cs := [consl5Refs N] }
noncomputable def dsGraphOk_0 : Desc := { n := 105, regs := [u, .one (.fpt (.pair (.sl (.pair (.sl (.int .i64)) (.pair (.sl (.int .i64)) .unit))) (.pair (.sl (.sl (.int .i64))) (.pair (.sl (.int .i64)) .unit)))), u, .one (.val (.int .i64))], bx := [], pins := [] }
noncomputable def osGraphOk_0 : Outs := [(.exit 0, { n := 105, regs := [u, .one (.fpt (.pair (.sl (.pair (.sl (.int .i64)) (.pair (.sl (.int .i64)) .unit))) (.pair (.sl (.sl (.int .i64))) (.pair (.sl (.int .i64)) .unit))))], bx := [], pins := [] }), (.ret, { n := 105, regs := [u, u, .one (.val .bool)], bx := [], pins := [] })]
noncomputable def dsGraphOk_2 : Desc := { n := 105, regs := [u, .one (.fpt (.pair (.sl (.pair (.sl (.int .i64)) (.pair (.sl (.int .i64)) .unit))) (.pair (.sl (.sl (.int .i64))) (.pair (.sl (.int .i64)) .unit)))), u, u, u, .one (.val (.int .i64))], bx := [], pins := [] }
noncomputable def osGraphOk_2 : Outs := [(.exit 2, { n := 105, regs := [u, .one (.fpt (.pair (.sl (.pair (.sl (.int .i64)) (.pair (.sl (.int .i64)) .unit))) (.pair (.sl (.sl (.int .i64))) (.pair (.sl (.int .i64)) .unit))))], bx := [], pins := [] }), (.ret, { n := 105, regs := [u, u, .one (.val .bool)], bx := [], pins := [] })]
noncomputable def dsGraphOk_4 : Desc := { n := 105, regs := [u, .one (.fpt (.pair (.sl (.pair (.sl (.int .i64)) (.pair (.sl (.int .i64)) .unit))) (.pair (.sl (.sl (.int .i64))) (.pair (.sl (.int .i64)) .unit)))), u, u, u, u, .one (.val (.int .i64))], bx := [], pins := [] }
noncomputable def osGraphOk_4 : Outs := [(.exit 4, { n := 105, regs := [u, .one (.fpt (.pair (.sl (.pair (.sl (.int .i64)) (.pair (.sl (.int .i64)) .unit))) (.pair (.sl (.sl (.int .i64))) (.pair (.sl (.int .i64)) .unit))))], bx := [], pins := [] }), (.ret, { n := 105, regs := [u, u, .one (.val .bool)], bx := [], pins := [] })]
noncomputable def jsGraphOk_3 : Outs := [(.normal, { n := 105, regs := [u, .one (.fpt (.pair (.sl (.pair (.sl (.int .i64)) (.pair (.sl (.int .i64)) .unit))) (.pair (.sl (.sl (.int .i64))) (.pair (.sl (.int .i64)) .unit))))], bx := [], pins := [] }), (.ret, { n := 105, regs := [u, u, .one (.val .bool)], bx := [], pins := [] })]
noncomputable def lsGraphOk_0 (N : Nat) : Nat → (((List ((List Int) × ((List Int) × Unit))) × ((List (List Int)) × ((List Int) × Unit))) × (Int × Unit)) → Option ((((List ((List Int) × ((List Int) × Unit))) × ((List (List Int)) × ((List Int) × Unit))) × Unit) ⊕ (Bool × Unit))
  | 0, _ => none
  | n + 1, v =>
    let y6 := decide (v.2.1 < (v.1.1.length : Int))
    bif y6 then
     bif decide (0 ≤ v.2.1) then
     bif decide (v.2.1.toNat < v.1.1.length) then
     let y7 := v.1.1.getD v.2.1.toNat (([] : (List Int)), ([] : (List Int)), ())
     let y8 := decide ((y7.1.length : Int) > (4 : Int))
     bif y8 then
      some (.inr ((false, ())))
     else
     let y9 := decide ((y7.2.1.length : Int) > (4 : Int))
     bif y9 then
      some (.inr ((false, ())))
     else
     (Fsl5Refs N (y7.1, (v.1.1.length : Int), ())).bind fun r10 =>
     bif !r10.1 then
      some (.inr ((false, ())))
     else
     lsGraphOk_0 N n (v.1, w64 (v.2.1 + (1 : Int)), ())
     else none
     else none
    else
    some (.inl (v.1, ()))
noncomputable def lsGraphOk_2 (N : Nat) : Nat → (((List ((List Int) × ((List Int) × Unit))) × ((List (List Int)) × ((List Int) × Unit))) × (Int × Unit)) → Option ((((List ((List Int) × ((List Int) × Unit))) × ((List (List Int)) × ((List Int) × Unit))) × Unit) ⊕ (Bool × Unit))
  | 0, _ => none
  | n + 1, v =>
    let y13 := decide (v.2.1 < (v.1.2.1.length : Int))
    bif y13 then
     bif decide (0 ≤ v.2.1) then
     bif decide (v.2.1.toNat < v.1.2.1.length) then
     let y14 := v.1.2.1.getD v.2.1.toNat ([] : (List Int))
     let y15 := decide ((y14.length : Int) > (8 : Int))
     bif y15 then
      some (.inr ((false, ())))
     else
     bif decide (0 ≤ v.2.1) then
     bif decide (v.2.1.toNat < v.1.2.1.length) then
     let y16 := v.1.2.1.getD v.2.1.toNat ([] : (List Int))
     (Fsl5Refs N (y16, (v.1.1.length : Int), ())).bind fun r17 =>
     bif !r17.1 then
      some (.inr ((false, ())))
     else
     lsGraphOk_2 N n (v.1, w64 (v.2.1 + (1 : Int)), ())
     else none
     else none
     else none
     else none
    else
    some (.inl (v.1, ()))
noncomputable def lsGraphOk_4 (N : Nat) : Nat → (((List ((List Int) × ((List Int) × Unit))) × ((List (List Int)) × ((List Int) × Unit))) × (Int × Unit)) → Option ((((List ((List Int) × ((List Int) × Unit))) × ((List (List Int)) × ((List Int) × Unit))) × Unit) ⊕ (Bool × Unit))
  | 0, _ => none
  | n + 1, v =>
    let y20 := decide (v.2.1 < (v.1.2.2.1.length : Int))
    bif y20 then
     bif decide (0 ≤ v.2.1) then
     bif decide (v.2.1.toNat < v.1.2.2.1.length) then
     let y21 := decide ((v.1.2.2.1.getD v.2.1.toNat (0 : Int)) < (0 : Int))
     bif y21 then
      some (.inr ((false, ())))
     else
     lsGraphOk_4 N n (v.1, w64 (v.2.1 + (1 : Int)), ())
     else none
     else none
    else
    some (.inl (v.1, ()))
noncomputable def FsGraphOk (N : Nat) (x : (((List ((List Int) × ((List Int) × Unit))) × ((List (List Int)) × ((List Int) × Unit))) × Unit)) : Option (Bool × Unit) :=
  Option.bind (
   let y1 := decide ((x.1.1.length : Int) > (200 : Int))
   bif y1 then
    some (.inr ((false, ())))
   else
   let y2 := decide ((x.1.2.1.length : Int) < (1 : Int))
   bif y2 then
    some (.inr ((false, ())))
   else
   let y3 := decide ((x.1.2.1.length : Int) > (3 : Int))
   bif y3 then
    some (.inr ((false, ())))
   else
   some (.inl (x.1, ()))) fun o4 =>
  Sum.elim (fun o5 =>
   (lsGraphOk_0 N N (o5.1, (0 : Int), ())).bind fun o11 =>
   Sum.elim (fun o12 =>
    (lsGraphOk_2 N N (o12.1, (0 : Int), ())).bind fun o18 =>
    Sum.elim (fun o19 =>
     (lsGraphOk_4 N N (o19.1, (0 : Int), ())).bind fun o22 =>
     Sum.elim (fun o23 =>
      let y24 := decide ((o23.1.2.2.1.length : Int) ≤ (8 : Int))
      bif y24 then
       (Fsl5Refs N (o23.1.2.2.1, (o23.1.1.length : Int), ())).bind fun r25 =>
       some (r25.1, ())
      else
      some (false, ())) (fun o26 =>
      some (o26.1, ())) o22) (fun o27 =>
     some (o27.1, ())) o18) (fun o28 =>
    some (o28.1, ())) o11) (fun o29 =>
   some (o29.1, ())) o4
noncomputable def consGraphOk (N : Nat) : Con := { f := 42, din := dinsGraphOk, outs := outsGraphOk, F := FsGraphOk N }
noncomputable def XsGraphOk (N : Nat) : Ctx := { E := EsGraphOk N, H := HsGraphOk, lp := [(0, { hd := dsGraphOk_0, outs := osGraphOk_0, run := fun v => lsGraphOk_0 N N v }), (2, { hd := dsGraphOk_2, outs := osGraphOk_2, run := fun v => lsGraphOk_2 N N v }), (4, { hd := dsGraphOk_4, outs := osGraphOk_4, run := fun v => lsGraphOk_4 N N v })], jn := [(3, jsGraphOk_3)] }
noncomputable def bsGraphOk_4 : Code := loopBody (codeOf Try.f42) 2
noncomputable def bsGraphOk_2 : Code := loopBody (codeOf Try.f42) 1
noncomputable def bsGraphOk_0 : Code := loopBody (codeOf Try.f42) 0
theorem FsGraphOk_eq (N : Nat) (x : (((List ((List Int) × ((List Int) × Unit))) × ((List (List Int)) × ((List Int) × Unit))) × Unit)) : evFn (XsGraphOk N) Try.f42 dinsGraphOk outsGraphOk x = FsGraphOk N x := by kernel_rfl
theorem lsGraphOk_0_eq (N n : Nat) (v : (((List ((List Int) × ((List Int) × Unit))) × ((List (List Int)) × ((List Int) × Unit))) × (Int × Unit))) : lsGraphOk_0 N (n + 1) v = ev (XsGraphOk N) bsGraphOk_0 (roundK dsGraphOk_0 osGraphOk_0 (lsGraphOk_0 N n)) (dsGraphOk_0.mk' v) := by kernel_rfl
theorem lsGraphOk_2_eq (N n : Nat) (v : (((List ((List Int) × ((List Int) × Unit))) × ((List (List Int)) × ((List Int) × Unit))) × (Int × Unit))) : lsGraphOk_2 N (n + 1) v = ev (XsGraphOk N) bsGraphOk_2 (roundK dsGraphOk_2 osGraphOk_2 (lsGraphOk_2 N n)) (dsGraphOk_2.mk' v) := by kernel_rfl
theorem lsGraphOk_4_eq (N n : Nat) (v : (((List ((List Int) × ((List Int) × Unit))) × ((List (List Int)) × ((List Int) × Unit))) × (Int × Unit))) : lsGraphOk_4 N (n + 1) v = ev (XsGraphOk N) bsGraphOk_4 (roundK dsGraphOk_4 osGraphOk_4 (lsGraphOk_4 N n)) (dsGraphOk_4.mk' v) := by kernel_rfl
theorem cxsGraphOk (N : Nat) : CtxOk Try.prog (XsGraphOk N) := ⟨⟨TE_ok, List.forall_mem_cons.2 ⟨(specsl5Refs N), fun k hk => absurd hk List.not_mem_nil⟩⟩, mixed⟩
theorem lpsGraphOk_0 (N : Nat) : LoopOk Try.prog { hd := dsGraphOk_0, outs := osGraphOk_0, run := fun v => lsGraphOk_0 N N v } bsGraphOk_0 :=
  loop_fuel (d := dsGraphOk_0) (os := osGraphOk_0) (cxsGraphOk N) (loops_at (ids := []) (by kernel_rfl) (trivial)) (lsGraphOk_0 N) (fun _ => rfl) (fun n v => lsGraphOk_0_eq N n v) (fun _ => N)
theorem lpsGraphOk_2 (N : Nat) : LoopOk Try.prog { hd := dsGraphOk_2, outs := osGraphOk_2, run := fun v => lsGraphOk_2 N N v } bsGraphOk_2 :=
  loop_fuel (d := dsGraphOk_2) (os := osGraphOk_2) (cxsGraphOk N) (loops_at (ids := []) (by kernel_rfl) (trivial)) (lsGraphOk_2 N) (fun _ => rfl) (fun n v => lsGraphOk_2_eq N n v) (fun _ => N)
theorem lpsGraphOk_4 (N : Nat) : LoopOk Try.prog { hd := dsGraphOk_4, outs := osGraphOk_4, run := fun v => lsGraphOk_4 N N v } bsGraphOk_4 :=
  loop_fuel (d := dsGraphOk_4) (os := osGraphOk_4) (cxsGraphOk N) (loops_at (ids := []) (by kernel_rfl) (trivial)) (lsGraphOk_4 N) (fun _ => rfl) (fun n v => lsGraphOk_4_eq N n v) (fun _ => N)
theorem specsGraphOk (N : Nat) : Spec Try.prog (consGraphOk N) :=
  Spec.of_eq (fn_spec (cxsGraphOk N) (f := 42) (fn := Try.f42) (c := codeOf Try.f42) (by kernel_rfl) (by kernel_rfl) (by kernel_rfl) (loops_at (ids := [0, 2, 4]) (by kernel_rfl) ⟨lp_of (lpsGraphOk_0 N), ⟨lp_of (lpsGraphOk_2 N), ⟨lp_of (lpsGraphOk_4 N), trivial⟩⟩⟩) (by kernel_rfl)) (fun x r h => (FsGraphOk_eq N x).trans h)

/-! ### 142: spec.ShapeOk -/

noncomputable def dinsShapeOk : Desc := { n := 1, regs := [.one (.val (.pair (.int .i64) (.pair (.int .i64) .unit)))], bx := [], pins := [] }
noncomputable def outsShapeOk : Outs := [(.ret, { n := 1, regs := [.one (.val .bool)], bx := [], pins := [] })]
noncomputable def HsShapeOk : Hints := [(0, [(0, { fz := true })])]
noncomputable def EsShapeOk (_N : Nat) : Env := { te := TE, cs := [] }
noncomputable def FsShapeOk (N : Nat) (x : ((Int × (Int × Unit)) × Unit)) : Option (Bool × Unit) :=
  bif decide (x.1.1 ≥ (0 : Int)) then
   bif decide (x.1.1 ≤ (4 : Int)) then
    bif decide (x.1.2.1 ≥ (0 : Int)) then
     some (decide (x.1.2.1 ≤ (4 : Int)), ())
    else
    some (false, ())
   else
   some (false, ())
  else
  some (false, ())
noncomputable def consShapeOk (N : Nat) : Con := { f := 142, din := dinsShapeOk, outs := outsShapeOk, F := FsShapeOk N }
noncomputable def XsShapeOk (N : Nat) : Ctx := { E := EsShapeOk N, H := HsShapeOk, lp := [], jn := [] }
theorem FsShapeOk_eq (N : Nat) (x : ((Int × (Int × Unit)) × Unit)) : evFn (XsShapeOk N) Try.f142 dinsShapeOk outsShapeOk x = FsShapeOk N x := by kernel_rfl
theorem cxsShapeOk (N : Nat) : CtxOk Try.prog (XsShapeOk N) := ⟨⟨TE_ok, fun k hk => absurd hk List.not_mem_nil⟩, mixed⟩
theorem specsShapeOk (N : Nat) : Spec Try.prog (consShapeOk N) :=
  Spec.of_eq (fn_spec (cxsShapeOk N) (f := 142) (fn := Try.f142) (c := codeOf Try.f142) (by kernel_rfl) (by kernel_rfl) (by kernel_rfl) (loops_at (ids := []) (by kernel_rfl) (trivial)) (by kernel_rfl)) (fun x r h => (FsShapeOk_eq N x).trans h)

/-! ### 99: spec.OpOk -/

noncomputable def dinsOpOk : Desc := { n := 1, regs := [.one (.val (.pair (.int .i64) (.pair (.int .i64) (.pair (.int .i64) (.pair (.int .i64) (.pair (.int .i64) (.pair (.int .i64) (.pair (.pair (.int .i64) (.pair (.int .i64) .unit)) .unit))))))))], bx := [], pins := [] }
noncomputable def outsOpOk : Outs := [(.ret, { n := 1, regs := [.one (.val .bool)], bx := [], pins := [] })]
noncomputable def HsOpOk : Hints := [(0, [(0, { fz := true })])]
noncomputable def EsOpOk (N : Nat) : Env := { te := TE, cs := [consShapeOk N] }
noncomputable def FsOpOk (N : Nat) (x : ((Int × (Int × (Int × (Int × (Int × (Int × ((Int × (Int × Unit)) × Unit))))))) × Unit)) : Option (Bool × Unit) :=
  bif decide (x.1.1 ≥ (1 : Int)) then
   bif decide (x.1.1 ≤ (11 : Int)) then
    bif x.1.1 != (1 : Int) then
     some (true, ())
    else
    (FsShapeOk N (x.1.2.2.2.2.2.2.1, ())).bind fun r1 =>
    some (r1.1, ())
   else
   some (false, ())
  else
  some (false, ())
noncomputable def consOpOk (N : Nat) : Con := { f := 99, din := dinsOpOk, outs := outsOpOk, F := FsOpOk N }
noncomputable def XsOpOk (N : Nat) : Ctx := { E := EsOpOk N, H := HsOpOk, lp := [], jn := [] }
theorem FsOpOk_eq (N : Nat) (x : ((Int × (Int × (Int × (Int × (Int × (Int × ((Int × (Int × Unit)) × Unit))))))) × Unit)) : evFn (XsOpOk N) Try.f99 dinsOpOk outsOpOk x = FsOpOk N x := by kernel_rfl
theorem cxsOpOk (N : Nat) : CtxOk Try.prog (XsOpOk N) := ⟨⟨TE_ok, List.forall_mem_cons.2 ⟨(specsShapeOk N), fun k hk => absurd hk List.not_mem_nil⟩⟩, mixed⟩
theorem specsOpOk (N : Nat) : Spec Try.prog (consOpOk N) :=
  Spec.of_eq (fn_spec (cxsOpOk N) (f := 99) (fn := Try.f99) (c := codeOf Try.f99) (by kernel_rfl) (by kernel_rfl) (by kernel_rfl) (loops_at (ids := []) (by kernel_rfl) (trivial)) (by kernel_rfl)) (fun x r h => (FsOpOk_eq N x).trans h)

/-! ### 79: spec.l5Ints -/

noncomputable def dinsl5Ints : Desc := { n := 1, regs := [.one (.val (.sl (.int .i64)))], bx := [], pins := [] }
noncomputable def outsl5Ints : Outs := [(.ret, { n := 1, regs := [.one (.lit (.row 1012800))], bx := [(1012800, .row (.int .i64))], pins := [] })]
noncomputable def Hsl5Ints : Hints := []
noncomputable def Esl5Ints (_N : Nat) : Env := { te := TE, cs := [] }
noncomputable def Fsl5Ints (N : Nat) (x : ((List Int) × Unit)) : Option ((List Int) × Unit) :=
  bif decide (([] : (List Int)).length + x.1.length ≤ lim) then
  some (([] : (List Int)) ++ x.1, ())
  else none
noncomputable def consl5Ints (N : Nat) : Con := { f := 79, din := dinsl5Ints, outs := outsl5Ints, F := Fsl5Ints N }
noncomputable def Xsl5Ints (N : Nat) : Ctx := { E := Esl5Ints N, H := Hsl5Ints, lp := [], jn := [] }
theorem Fsl5Ints_eq (N : Nat) (x : ((List Int) × Unit)) : evFn (Xsl5Ints N) Try.f79 dinsl5Ints outsl5Ints x = Fsl5Ints N x := by kernel_rfl
theorem cxsl5Ints (N : Nat) : CtxOk Try.prog (Xsl5Ints N) := ⟨⟨TE_ok, fun k hk => absurd hk List.not_mem_nil⟩, mixed⟩
theorem specsl5Ints (N : Nat) : Spec Try.prog (consl5Ints N) :=
  Spec.of_eq (fn_spec (cxsl5Ints N) (f := 79) (fn := Try.f79) (c := codeOf Try.f79) (by kernel_rfl) (by kernel_rfl) (by kernel_rfl) (loops_at (ids := []) (by kernel_rfl) (trivial)) (by kernel_rfl)) (fun x r h => (Fsl5Ints_eq N x).trans h)

/-! ### 62: spec.l5Copy -/

noncomputable def dinsl5Copy : Desc := { n := 1, regs := [.one (.val (.pair (.sl (.pair (.sl (.int .i64)) (.pair (.sl (.int .i64)) .unit))) (.pair (.sl (.sl (.int .i64))) (.pair (.sl (.int .i64)) .unit))))], bx := [], pins := [] }
noncomputable def outsl5Copy : Outs := [(.ret, { n := 1, regs := [.agg [.lit (.row 1012993), .lit (.row 1012994), .lit (.row 1012929)]], bx := [(1012993, .row (.pair (.sl (.int .i64)) (.pair (.sl (.int .i64)) .unit))), (1012994, .row (.sl (.int .i64))), (1012929, .row (.int .i64))], pins := [] })]
noncomputable def Hsl5Copy : Hints := [(0, [(0, { fz := true })]),
  (1, [(3, { nl := [(0, (.pair (.sl (.int .i64)) (.pair (.sl (.int .i64)) .unit))), (1, (.sl (.int .i64)))] })]),
  (5, [(17, { dp := true }), (18, { dp := true })]),
  (9, [(8, { dp := true }), (9, { dp := true })])]
noncomputable def Esl5Copy (N : Nat) : Env := { te := TE, cs := [consl5Ints N] }
noncomputable def dsl5Copy_0 : Desc := { n := 56, regs := [u, .one (.fpt (.pair (.sl (.pair (.sl (.int .i64)) (.pair (.sl (.int .i64)) .unit))) (.pair (.sl (.sl (.int .i64))) (.pair (.sl (.int .i64)) .unit)))), .one (.lit (.ptr 1000064 0)), .one (.lit (.ptr 1013056 0)), .one (.val (.int .i64))], bx := [(1000064, .var [.lit .nil, .lit .nil, .lit .nil]), (1013056, .var [.lit (.row 1012993), .lit (.row 1012994), .lit (.row 1012929)]), (1012993, .row (.pair (.sl (.int .i64)) (.pair (.sl (.int .i64)) .unit))), (1012994, .row (.sl (.int .i64))), (1012929, .row (.int .i64))], pins := [] }
noncomputable def osl5Copy_0 : Outs := [(.exit 0, { n := 56, regs := [u, .one (.fpt (.pair (.sl (.pair (.sl (.int .i64)) (.pair (.sl (.int .i64)) .unit))) (.pair (.sl (.sl (.int .i64))) (.pair (.sl (.int .i64)) .unit)))), .one (.lit (.ptr 1000064 0)), .one (.lit (.ptr 1013056 0))], bx := [(1000064, .var [.lit .nil, .lit .nil, .lit .nil]), (1013056, .var [.lit (.row 1012993), .lit (.row 1012994), .lit (.row 1012929)]), (1012993, .row (.pair (.sl (.int .i64)) (.pair (.sl (.int .i64)) .unit))), (1012994, .row (.sl (.int .i64))), (1012929, .row (.int .i64))], pins := [] })]
noncomputable def dsl5Copy_2 : Desc := { n := 56, regs := [u, .one (.fpt (.pair (.sl (.pair (.sl (.int .i64)) (.pair (.sl (.int .i64)) .unit))) (.pair (.sl (.sl (.int .i64))) (.pair (.sl (.int .i64)) .unit)))), .one (.lit (.ptr 1000064 0)), .one (.lit (.ptr 1013056 0)), u, .one (.val (.int .i64))], bx := [(1000064, .var [.lit .nil, .lit .nil, .lit .nil]), (1013056, .var [.lit (.row 1012993), .lit (.row 1012994), .lit (.row 1012929)]), (1012993, .row (.pair (.sl (.int .i64)) (.pair (.sl (.int .i64)) .unit))), (1012994, .row (.sl (.int .i64))), (1012929, .row (.int .i64))], pins := [] }
noncomputable def osl5Copy_2 : Outs := [(.exit 2, { n := 56, regs := [u, u, .one (.lit (.ptr 1000064 0)), .one (.lit (.ptr 1013056 0))], bx := [(1000064, .var [.lit .nil, .lit .nil, .lit .nil]), (1013056, .var [.lit (.row 1012993), .lit (.row 1012994), .lit (.row 1012929)]), (1012993, .row (.pair (.sl (.int .i64)) (.pair (.sl (.int .i64)) .unit))), (1012994, .row (.sl (.int .i64))), (1012929, .row (.int .i64))], pins := [] })]
noncomputable def lsl5Copy_0 (N : Nat) : Nat → (((List ((List Int) × ((List Int) × Unit))) × ((List (List Int)) × ((List Int) × Unit))) × (Int × ((List ((List Int) × ((List Int) × Unit))) × ((List (List Int)) × ((List Int) × Unit))))) → Option (((List ((List Int) × ((List Int) × Unit))) × ((List (List Int)) × ((List Int) × Unit))) × ((List ((List Int) × ((List Int) × Unit))) × ((List (List Int)) × ((List Int) × Unit))))
  | 0, _ => none
  | n + 1, v =>
    let y3 := decide (v.2.1 < (v.1.1.length : Int))
    bif y3 then
     bif decide (0 ≤ v.2.1) then
     bif decide (v.2.1.toNat < v.1.1.length) then
     let y4 := v.1.1.getD v.2.1.toNat (([] : (List Int)), ([] : (List Int)), ())
     (Fsl5Ints N (y4.1, ())).bind fun r5 =>
     bif decide (0 ≤ v.2.1) then
     bif decide (v.2.1.toNat < v.1.1.length) then
     let y6 := v.1.1.getD v.2.1.toNat (([] : (List Int)), ([] : (List Int)), ())
     (Fsl5Ints N (y6.2.1, ())).bind fun r7 =>
     bif decide (v.2.2.1.length + [(r5.1, r7.1, ())].length ≤ lim) then
     lsl5Copy_0 N n (v.1, w64 (v.2.1 + (1 : Int)), v.2.2.1 ++ [(r5.1, r7.1, ())], v.2.2.2.1, v.2.2.2.2.1, ())
     else none
     else none
     else none
     else none
     else none
    else
    some (v.1, v.2.2.1, v.2.2.2.1, v.2.2.2.2.1, ())
noncomputable def lsl5Copy_2 (N : Nat) : Nat → (((List ((List Int) × ((List Int) × Unit))) × ((List (List Int)) × ((List Int) × Unit))) × (Int × ((List ((List Int) × ((List Int) × Unit))) × ((List (List Int)) × ((List Int) × Unit))))) → Option ((List ((List Int) × ((List Int) × Unit))) × ((List (List Int)) × ((List Int) × Unit)))
  | 0, _ => none
  | n + 1, v =>
    let y9 := decide (v.2.1 < (v.1.2.1.length : Int))
    bif y9 then
     bif decide (0 ≤ v.2.1) then
     bif decide (v.2.1.toNat < v.1.2.1.length) then
     let y10 := v.1.2.1.getD v.2.1.toNat ([] : (List Int))
     (Fsl5Ints N (y10, ())).bind fun r11 =>
     bif decide (v.2.2.2.1.length + [r11.1].length ≤ lim) then
     lsl5Copy_2 N n (v.1, w64 (v.2.1 + (1 : Int)), v.2.2.1, v.2.2.2.1 ++ [r11.1], v.2.2.2.2.1, ())
     else none
     else none
     else none
    else
    some (v.2.2.1, v.2.2.2.1, v.2.2.2.2.1, ())
noncomputable def Fsl5Copy (N : Nat) (x : (((List ((List Int) × ((List Int) × Unit))) × ((List (List Int)) × ((List Int) × Unit))) × Unit)) : Option ((List ((List Int) × ((List Int) × Unit))) × ((List (List Int)) × ((List Int) × Unit))) :=
  (Fsl5Ints N (x.1.2.2.1, ())).bind fun r1 =>
  let y2 := ([] : (List ((List Int) × ((List Int) × Unit))))
  (lsl5Copy_0 N N (x.1, (0 : Int), y2, ([] : (List (List Int))), r1.1, ())).bind fun o8 =>
  (lsl5Copy_2 N N (o8.1, (0 : Int), o8.2.1, o8.2.2.1, o8.2.2.2.1, ())).bind fun o12 =>
  some (o12.1, o12.2.1, o12.2.2.1, ())
noncomputable def consl5Copy (N : Nat) : Con := { f := 62, din := dinsl5Copy, outs := outsl5Copy, F := Fsl5Copy N }
noncomputable def Xsl5Copy (N : Nat) : Ctx := { E := Esl5Copy N, H := Hsl5Copy, lp := [(0, { hd := dsl5Copy_0, outs := osl5Copy_0, run := fun v => lsl5Copy_0 N N v }), (2, { hd := dsl5Copy_2, outs := osl5Copy_2, run := fun v => lsl5Copy_2 N N v })], jn := [] }
noncomputable def bsl5Copy_2 : Code := loopBody (codeOf Try.f62) 1
noncomputable def bsl5Copy_0 : Code := loopBody (codeOf Try.f62) 0
theorem Fsl5Copy_eq (N : Nat) (x : (((List ((List Int) × ((List Int) × Unit))) × ((List (List Int)) × ((List Int) × Unit))) × Unit)) : evFn (Xsl5Copy N) Try.f62 dinsl5Copy outsl5Copy x = Fsl5Copy N x := by kernel_rfl
theorem lsl5Copy_0_eq (N n : Nat) (v : (((List ((List Int) × ((List Int) × Unit))) × ((List (List Int)) × ((List Int) × Unit))) × (Int × ((List ((List Int) × ((List Int) × Unit))) × ((List (List Int)) × ((List Int) × Unit)))))) : lsl5Copy_0 N (n + 1) v = ev (Xsl5Copy N) bsl5Copy_0 (roundK dsl5Copy_0 osl5Copy_0 (lsl5Copy_0 N n)) (dsl5Copy_0.mk' v) := by kernel_rfl
theorem lsl5Copy_2_eq (N n : Nat) (v : (((List ((List Int) × ((List Int) × Unit))) × ((List (List Int)) × ((List Int) × Unit))) × (Int × ((List ((List Int) × ((List Int) × Unit))) × ((List (List Int)) × ((List Int) × Unit)))))) : lsl5Copy_2 N (n + 1) v = ev (Xsl5Copy N) bsl5Copy_2 (roundK dsl5Copy_2 osl5Copy_2 (lsl5Copy_2 N n)) (dsl5Copy_2.mk' v) := by kernel_rfl
theorem cxsl5Copy (N : Nat) : CtxOk Try.prog (Xsl5Copy N) := ⟨⟨TE_ok, List.forall_mem_cons.2 ⟨(specsl5Ints N), fun k hk => absurd hk List.not_mem_nil⟩⟩, mixed⟩
theorem lpsl5Copy_0 (N : Nat) : LoopOk Try.prog { hd := dsl5Copy_0, outs := osl5Copy_0, run := fun v => lsl5Copy_0 N N v } bsl5Copy_0 :=
  loop_fuel (d := dsl5Copy_0) (os := osl5Copy_0) (cxsl5Copy N) (loops_at (ids := []) (by kernel_rfl) (trivial)) (lsl5Copy_0 N) (fun _ => rfl) (fun n v => lsl5Copy_0_eq N n v) (fun _ => N)
theorem lpsl5Copy_2 (N : Nat) : LoopOk Try.prog { hd := dsl5Copy_2, outs := osl5Copy_2, run := fun v => lsl5Copy_2 N N v } bsl5Copy_2 :=
  loop_fuel (d := dsl5Copy_2) (os := osl5Copy_2) (cxsl5Copy N) (loops_at (ids := []) (by kernel_rfl) (trivial)) (lsl5Copy_2 N) (fun _ => rfl) (fun n v => lsl5Copy_2_eq N n v) (fun _ => N)
theorem specsl5Copy (N : Nat) : Spec Try.prog (consl5Copy N) :=
  Spec.of_eq (fn_spec (cxsl5Copy N) (f := 62) (fn := Try.f62) (c := codeOf Try.f62) (by kernel_rfl) (by kernel_rfl) (by kernel_rfl) (loops_at (ids := [0, 2]) (by kernel_rfl) ⟨lp_of (lpsl5Copy_0 N), ⟨lp_of (lpsl5Copy_2 N), trivial⟩⟩) (by kernel_rfl)) (fun x r h => (Fsl5Copy_eq N x).trans h)

/-! ### 101: spec.l5Fields -/

noncomputable def dinsl5Fields : Desc := { n := 1, regs := [.one (.val (.int .i64))], bx := [], pins := [] }
noncomputable def outsl5Fields : Outs := [(.ret, { n := 1, regs := [.one (.val .bool)], bx := [], pins := [] })]
noncomputable def Hsl5Fields : Hints := []
noncomputable def Esl5Fields (_N : Nat) : Env := { te := TE, cs := [] }
noncomputable def Fsl5Fields (N : Nat) (x : (Int × Unit)) : Option (Bool × Unit) :=
  bif x.1 == (2 : Int) then
   some (true, ())
  else
  bif x.1 == (3 : Int) then
   some (true, ())
  else
  bif x.1 == (4 : Int) then
   some (true, ())
  else
  bif x.1 == (5 : Int) then
   some (true, ())
  else
  some (x.1 == (7 : Int), ())
noncomputable def consl5Fields (N : Nat) : Con := { f := 101, din := dinsl5Fields, outs := outsl5Fields, F := Fsl5Fields N }
noncomputable def Xsl5Fields (N : Nat) : Ctx := { E := Esl5Fields N, H := Hsl5Fields, lp := [], jn := [] }
theorem Fsl5Fields_eq (N : Nat) (x : (Int × Unit)) : evFn (Xsl5Fields N) Try.f101 dinsl5Fields outsl5Fields x = Fsl5Fields N x := by kernel_rfl
theorem cxsl5Fields (N : Nat) : CtxOk Try.prog (Xsl5Fields N) := ⟨⟨TE_ok, fun k hk => absurd hk List.not_mem_nil⟩, mixed⟩
theorem specsl5Fields (N : Nat) : Spec Try.prog (consl5Fields N) :=
  Spec.of_eq (fn_spec (cxsl5Fields N) (f := 101) (fn := Try.f101) (c := codeOf Try.f101) (by kernel_rfl) (by kernel_rfl) (by kernel_rfl) (loops_at (ids := []) (by kernel_rfl) (trivial)) (by kernel_rfl)) (fun x r h => (Fsl5Fields_eq N x).trans h)

/-! ### 100: spec.l5Begin -/

noncomputable def dinsl5Begin : Desc := { n := 3, regs := [.one (.val (.pair (.int .i64) (.pair (.int .i64) (.pair (.int .i64) (.pair (.int .i64) (.pair (.int .i64) (.pair (.int .i64) (.pair (.pair (.int .i64) (.pair (.int .i64) .unit)) .unit)))))))), .one (.val (.sl (.int .i64))), .one (.val (.int .i64))], bx := [], pins := [] }
noncomputable def outsl5Begin : Outs := [(.ret, { n := 1, regs := [.one (.val (.int .i64))], bx := [], pins := [] })]
noncomputable def Hsl5Begin : Hints := [(0, [(0, { fz := true })])]
noncomputable def Esl5Begin (N : Nat) : Env := { te := TE, cs := [consl5Fields N] }
noncomputable def jsl5Begin_3 : Outs := [(.normal, { n := 107, regs := [u, .one (.val (.sl (.int .i64))), .one (.val (.int .i64)), .one (.fpt (.pair (.int .i64) (.pair (.int .i64) (.pair (.int .i64) (.pair (.int .i64) (.pair (.int .i64) (.pair (.int .i64) (.pair (.pair (.int .i64) (.pair (.int .i64) .unit)) .unit)))))))), u, u, u, .one (.val (.int .i64)), .one (.val .bool)], bx := [], pins := [] })]
noncomputable def jsl5Begin_4 : Outs := [(.normal, { n := 107, regs := [u, .one (.val (.sl (.int .i64))), .one (.val (.int .i64)), .one (.fpt (.pair (.int .i64) (.pair (.int .i64) (.pair (.int .i64) (.pair (.int .i64) (.pair (.int .i64) (.pair (.int .i64) (.pair (.pair (.int .i64) (.pair (.int .i64) .unit)) .unit)))))))), u, u, u, .one (.val (.int .i64)), .one (.val .bool), .one (.val .bool)], bx := [], pins := [] })]
noncomputable def jsl5Begin_5 : Outs := [(.normal, { n := 107, regs := [u, .one (.val (.sl (.int .i64))), .one (.val (.int .i64)), .one (.fpt (.pair (.int .i64) (.pair (.int .i64) (.pair (.int .i64) (.pair (.int .i64) (.pair (.int .i64) (.pair (.int .i64) (.pair (.pair (.int .i64) (.pair (.int .i64) .unit)) .unit)))))))), u, u, u, .one (.val (.int .i64)), .one (.val .bool), .one (.val .bool), .one (.val .bool)], bx := [], pins := [] })]
noncomputable def jsl5Begin_25 : Outs := [(.normal, { n := 107, regs := [u, .one (.val (.sl (.int .i64))), .one (.val (.int .i64)), .one (.fpt (.pair (.int .i64) (.pair (.int .i64) (.pair (.int .i64) (.pair (.int .i64) (.pair (.int .i64) (.pair (.int .i64) (.pair (.pair (.int .i64) (.pair (.int .i64) .unit)) .unit)))))))), u, u, u, .one (.val (.int .i64)), .one (.val .bool), .one (.val .bool), .one (.val .bool)], bx := [], pins := [] })]
noncomputable def jsl5Begin_27 : Outs := [(.normal, { n := 107, regs := [u, .one (.val (.sl (.int .i64))), .one (.val (.int .i64)), .one (.fpt (.pair (.int .i64) (.pair (.int .i64) (.pair (.int .i64) (.pair (.int .i64) (.pair (.int .i64) (.pair (.int .i64) (.pair (.pair (.int .i64) (.pair (.int .i64) .unit)) .unit)))))))), u, u, u, .one (.val (.int .i64))], bx := [], pins := [] }), (.ret, { n := 107, regs := [u, u, u, u, u, u, .one (.val (.int .i64))], bx := [], pins := [] })]
noncomputable def jsl5Begin_29 : Outs := [(.normal, { n := 107, regs := [u, u, u, .one (.fpt (.pair (.int .i64) (.pair (.int .i64) (.pair (.int .i64) (.pair (.int .i64) (.pair (.int .i64) (.pair (.int .i64) (.pair (.pair (.int .i64) (.pair (.int .i64) .unit)) .unit)))))))), u, u, u, .one (.val (.int .i64))], bx := [], pins := [] }), (.ret, { n := 107, regs := [u, u, u, u, u, u, .one (.val (.int .i64))], bx := [], pins := [] })]
noncomputable def Fsl5Begin (N : Nat) (x : ((Int × (Int × (Int × (Int × (Int × (Int × ((Int × (Int × Unit)) × Unit))))))) × ((List Int) × (Int × Unit)))) : Option (Int × Unit) :=
  Option.bind (
   bif decide (x.1.2.1 ≥ (0 : Int)) then
    let y1 := decide (x.1.2.1 < (x.2.1.length : Int))
    some (x.2.1, x.2.2.1, x.1, (x.2.1.length : Int), y1, ())
   else
   some (x.2.1, x.2.2.1, x.1, (x.2.1.length : Int), false, ())) fun o2 =>
  Option.bind (
   bif decide (o2.2.2.1.2.2.1 ≥ (0 : Int)) then
    some (o2.1, o2.2.1, o2.2.2.1, o2.2.2.2.1, o2.2.2.2.2.1, decide (o2.2.2.1.2.2.1 < o2.2.2.2.1), ())
   else
   some (o2.1, o2.2.1, o2.2.2.1, o2.2.2.2.1, o2.2.2.2.2.1, false, ())) fun o3 =>
  Option.bind (
   let y4 := decide (o3.2.2.1.2.2.2.1 ≥ (0 : Int))
   bif y4 then
    let y5 := decide (o3.2.2.1.2.2.2.1 < o3.2.2.2.1)
    some (o3.1, o3.2.1, o3.2.2.1, o3.2.2.2.1, o3.2.2.2.2.1, o3.2.2.2.2.2.1, y5, ())
   else
   some (o3.1, o3.2.1, o3.2.2.1, o3.2.2.2.1, o3.2.2.2.2.1, o3.2.2.2.2.2.1, false, ())) fun o6 =>
  Option.bind (
   bif o6.2.2.1.1 == (1 : Int) then
    some (o6.1, o6.2.1, o6.2.2.1, o6.2.2.2.1, true, true, true, ())
   else
   bif o6.2.2.1.1 == (8 : Int) then
    some (o6.1, o6.2.1, o6.2.2.1, o6.2.2.2.1, decide (o6.2.2.2.1 > (0 : Int)), true, true, ())
   else
   bif o6.2.2.1.1 == (2 : Int) then
    some (o6.1, o6.2.1, o6.2.2.1, o6.2.2.2.1, o6.2.2.2.2.1, true, true, ())
   else
   bif o6.2.2.1.1 == (4 : Int) then
    some (o6.1, o6.2.1, o6.2.2.1, o6.2.2.2.1, o6.2.2.2.2.1, true, true, ())
   else
   bif o6.2.2.1.1 == (5 : Int) then
    some (o6.1, o6.2.1, o6.2.2.1, o6.2.2.2.1, o6.2.2.2.2.1, true, true, ())
   else
   bif o6.2.2.1.1 == (9 : Int) then
    some (o6.1, o6.2.1, o6.2.2.1, o6.2.2.2.1, o6.2.2.2.2.1, true, true, ())
   else
   bif o6.2.2.1.1 == (10 : Int) then
    some (o6.1, o6.2.1, o6.2.2.1, o6.2.2.2.1, o6.2.2.2.2.1, true, true, ())
   else
   bif o6.2.2.1.1 == (11 : Int) then
    some (o6.1, o6.2.1, o6.2.2.1, o6.2.2.2.1, o6.2.2.2.2.1, true, true, ())
   else
   bif o6.2.2.1.1 == (3 : Int) then
    some (o6.1, o6.2.1, o6.2.2.1, o6.2.2.2.1, o6.2.2.2.2.1, o6.2.2.2.2.2.1, true, ())
   else
   bif o6.2.2.1.1 == (6 : Int) then
    some (o6.1, o6.2.1, o6.2.2.1, o6.2.2.2.1, o6.2.2.2.2.1, o6.2.2.2.2.2.1, true, ())
   else
   some (o6.1, o6.2.1, o6.2.2.1, o6.2.2.2.1, o6.2.2.2.2.1, o6.2.2.2.2.2.1, o6.2.2.2.2.2.2.1, ())) fun o7 =>
  Option.bind (
   bif !o7.2.2.2.2.1 then
    some (.inr (((2 : Int), ())))
   else
   bif !o7.2.2.2.2.2.1 then
    some (.inr (((2 : Int), ())))
   else
   bif !o7.2.2.2.2.2.2.1 then
    some (.inr (((2 : Int), ())))
   else
   some (.inl (o7.1, o7.2.1, o7.2.2.1, o7.2.2.2.1, ()))) fun o8 =>
  Sum.elim (fun o9 =>
   Option.bind (
    (Fsl5Fields N (o9.2.2.1.1, ())).bind fun r10 =>
    bif r10.1 then
     bif decide (0 ≤ o9.2.2.1.2.1) then
     bif decide (o9.2.2.1.2.1.toNat < o9.1.length) then
     let y11 := o9.1.getD o9.2.2.1.2.1.toNat (0 : Int)
     bif y11 == o9.2.1 then
      some (.inr (((3 : Int), ())))
     else
     some (.inl (o9.2.2.1, o9.2.2.2.1, ()))
     else none
     else none
    else
    bif o9.2.2.1.1 == (10 : Int) then
     bif decide (0 ≤ o9.2.2.1.2.1) then
     bif decide (o9.2.2.1.2.1.toNat < o9.1.length) then
     let y12 := o9.1.getD o9.2.2.1.2.1.toNat (0 : Int)
     bif y12 == o9.2.1 then
      some (.inr (((3 : Int), ())))
     else
     some (.inl (o9.2.2.1, o9.2.2.2.1, ()))
     else none
     else none
    else
    bif o9.2.2.1.1 == (11 : Int) then
     bif decide (0 ≤ o9.2.2.1.2.1) then
     bif decide (o9.2.2.1.2.1.toNat < o9.1.length) then
     let y13 := o9.1.getD o9.2.2.1.2.1.toNat (0 : Int)
     bif y13 == o9.2.1 then
      some (.inr (((3 : Int), ())))
     else
     some (.inl (o9.2.2.1, o9.2.2.2.1, ()))
     else none
     else none
    else
    some (.inl (o9.2.2.1, o9.2.2.2.1, ()))) fun o14 =>
   Sum.elim (fun o15 =>
    bif o15.1.1 == (1 : Int) then
     bif o15.2.1 == (8 : Int) then
      some ((5 : Int), ())
     else
     some ((0 : Int), ())
    else
    bif o15.1.1 == (2 : Int) then
     bif o15.2.1 == (8 : Int) then
      some ((5 : Int), ())
     else
     some ((0 : Int), ())
    else
    bif o15.1.1 == (9 : Int) then
     bif o15.2.1 == (8 : Int) then
      some ((5 : Int), ())
     else
     some ((0 : Int), ())
    else
    some ((0 : Int), ())) (fun o16 =>
    some (o16.1, ())) o14) (fun o17 =>
   some (o17.1, ())) o8
noncomputable def consl5Begin (N : Nat) : Con := { f := 100, din := dinsl5Begin, outs := outsl5Begin, F := Fsl5Begin N }
noncomputable def Xsl5Begin (N : Nat) : Ctx := { E := Esl5Begin N, H := Hsl5Begin, lp := [], jn := [(3, jsl5Begin_3), (4, jsl5Begin_4), (5, jsl5Begin_5), (25, jsl5Begin_25), (27, jsl5Begin_27), (29, jsl5Begin_29)] }
theorem Fsl5Begin_eq (N : Nat) (x : ((Int × (Int × (Int × (Int × (Int × (Int × ((Int × (Int × Unit)) × Unit))))))) × ((List Int) × (Int × Unit)))) : evFn (Xsl5Begin N) Try.f100 dinsl5Begin outsl5Begin x = Fsl5Begin N x := by kernel_rfl
theorem cxsl5Begin (N : Nat) : CtxOk Try.prog (Xsl5Begin N) := ⟨⟨TE_ok, List.forall_mem_cons.2 ⟨(specsl5Fields N), fun k hk => absurd hk List.not_mem_nil⟩⟩, mixed⟩
theorem specsl5Begin (N : Nat) : Spec Try.prog (consl5Begin N) :=
  Spec.of_eq (fn_spec (cxsl5Begin N) (f := 100) (fn := Try.f100) (c := codeOf Try.f100) (by kernel_rfl) (by kernel_rfl) (by kernel_rfl) (loops_at (ids := []) (by kernel_rfl) (trivial)) (by kernel_rfl)) (fun x r h => (Fsl5Begin_eq N x).trans h)

/-! ### 102: spec.l5Field -/

noncomputable def dinsl5Field : Desc := { n := 3, regs := [.one (.val (.pair (.int .i64) (.pair (.int .i64) (.pair (.int .i64) (.pair (.int .i64) (.pair (.int .i64) (.pair (.int .i64) (.pair (.pair (.int .i64) (.pair (.int .i64) .unit)) .unit)))))))), .one (.val (.int .i64)), .one (.val (.int .i64))], bx := [], pins := [] }
noncomputable def outsl5Field : Outs := [(.ret, { n := 1, regs := [.one (.val .bool)], bx := [], pins := [] })]
noncomputable def Hsl5Field : Hints := [(0, [(0, { fz := true })])]
noncomputable def Esl5Field (_N : Nat) : Env := { te := TE, cs := [] }
noncomputable def jsl5Field_3 : Outs := [(.normal, { n := 33, regs := [u, .one (.val (.int .i64)), u, .one (.fpt (.pair (.int .i64) (.pair (.int .i64) (.pair (.int .i64) (.pair (.int .i64) (.pair (.int .i64) (.pair (.int .i64) (.pair (.pair (.int .i64) (.pair (.int .i64) .unit)) .unit))))))))], bx := [], pins := [] }), (.ret, { n := 33, regs := [u, u, u, u, u, u, .one (.val .bool)], bx := [], pins := [] })]
noncomputable def Fsl5Field (N : Nat) (x : ((Int × (Int × (Int × (Int × (Int × (Int × ((Int × (Int × Unit)) × Unit))))))) × (Int × (Int × Unit)))) : Option (Bool × Unit) :=
  Option.bind (
   bif x.1.1 == (4 : Int) then
    bif decide (x.1.2.2.2.2.1 ≥ (0 : Int)) then
     some (.inr ((decide (x.1.2.2.2.2.1 < x.2.2.1), ())))
    else
    some (.inr ((false, ())))
   else
   bif x.1.1 == (5 : Int) then
    bif decide (x.1.2.2.2.2.1 ≥ (0 : Int)) then
     some (.inr ((decide (x.1.2.2.2.2.1 < x.2.2.1), ())))
    else
    some (.inr ((false, ())))
   else
   some (.inl (x.2.1, x.1, ()))) fun o1 =>
  Sum.elim (fun o2 =>
   let y3 := decide (o2.2.1.2.2.2.2.1 ≥ (0 : Int))
   bif y3 then
    some (decide (o2.2.1.2.2.2.2.1 < o2.1), ())
   else
   some (false, ())) (fun o4 =>
   some (o4.1, ())) o1
noncomputable def consl5Field (N : Nat) : Con := { f := 102, din := dinsl5Field, outs := outsl5Field, F := Fsl5Field N }
noncomputable def Xsl5Field (N : Nat) : Ctx := { E := Esl5Field N, H := Hsl5Field, lp := [], jn := [(3, jsl5Field_3)] }
theorem Fsl5Field_eq (N : Nat) (x : ((Int × (Int × (Int × (Int × (Int × (Int × ((Int × (Int × Unit)) × Unit))))))) × (Int × (Int × Unit)))) : evFn (Xsl5Field N) Try.f102 dinsl5Field outsl5Field x = Fsl5Field N x := by kernel_rfl
theorem cxsl5Field (N : Nat) : CtxOk Try.prog (Xsl5Field N) := ⟨⟨TE_ok, fun k hk => absurd hk List.not_mem_nil⟩, mixed⟩
theorem specsl5Field (N : Nat) : Spec Try.prog (consl5Field N) :=
  Spec.of_eq (fn_spec (cxsl5Field N) (f := 102) (fn := Try.f102) (c := codeOf Try.f102) (by kernel_rfl) (by kernel_rfl) (by kernel_rfl) (loops_at (ids := []) (by kernel_rfl) (trivial)) (by kernel_rfl)) (fun x r h => (Fsl5Field_eq N x).trans h)

/-! ### 103: spec.l5Pins -/

noncomputable def dinsl5Pins : Desc := { n := 3, regs := [.one (.val (.sl (.int .i64))), .one (.val (.int .i64)), .one (.val (.int .i64))], bx := [], pins := [] }
noncomputable def outsl5Pins : Outs := [(.ret, { n := 2, regs := [.one (.lit (.row 1038400)), .one (.val .bool)], bx := [(1038400, .row (.int .i64))], pins := [] })]
noncomputable def Hsl5Pins : Hints := [(3, [(0, { nl := [(0, (.int .i64))] })]),
  (12, [(0, { nl := [(0, (.int .i64))] })])]
noncomputable def Esl5Pins (N : Nat) : Env := { te := TE, cs := [consl5Ints N] }
noncomputable def dsl5Pins_0 : Desc := { n := 44, regs := [.one (.val (.sl (.int .i64))), u, .one (.val (.int .i64)), u, u, u, u, u, .one (.val (.int .i64)), .one (.val (.int .i64))], bx := [], pins := [] }
noncomputable def osl5Pins_0 : Outs := [(.exit 0, { n := 44, regs := [.one (.val (.sl (.int .i64))), u, u, u, u, u, u, u, .one (.val (.int .i64))], bx := [], pins := [] })]
noncomputable def lsl5Pins_0 (N : Nat) : Nat → ((List Int) × (Int × (Int × (Int × Unit)))) → Option ((List Int) × (Int × Unit))
  | 0, _ => none
  | n + 1, v =>
    let y2 := decide (v.2.2.2.1 < (v.1.length : Int))
    bif y2 then
     bif decide (0 ≤ v.2.2.2.1) then
     bif decide (v.2.2.2.1.toNat < v.1.length) then
     let y3 := (v.1.getD v.2.2.2.1.toNat (0 : Int)) == v.2.1
     bif y3 then
      lsl5Pins_0 N n (v.1, v.2.1, v.2.2.2.1, w64 (v.2.2.2.1 + (1 : Int)), ())
     else
     lsl5Pins_0 N n (v.1, v.2.1, v.2.2.1, w64 (v.2.2.2.1 + (1 : Int)), ())
     else none
     else none
    else
    some (v.1, v.2.2.1, ())
noncomputable def Fsl5Pins (N : Nat) (x : ((List Int) × (Int × (Int × Unit)))) : Option (Bool × ((List Int) × Unit)) :=
  bif x.2.1 == (10 : Int) then
   bif (x.1.length : Int) == (8 : Int) then
    some (false, ([] : (List Int)), ())
   else
   (Fsl5Ints N (x.1, ())).bind fun r1 =>
   bif decide (r1.1.length + [x.2.2.1].length ≤ lim) then
   some (true, r1.1 ++ [x.2.2.1], ())
   else none
  else
  (lsl5Pins_0 N N (x.1, x.2.2.1, (-1 : Int), (0 : Int), ())).bind fun o4 =>
  bif decide (o4.2.1 < (0 : Int)) then
   some (false, ([] : (List Int)), ())
  else
  bif decide (0 ≤ o4.2.1) then
  bif decide (o4.2.1 ≤ (o4.1.length : Int)) then
  bif decide (0 ≤ (0 : Int)) then
  bif decide ((0 : Int) ≤ o4.2.1) then
  let y5 := (o4.1.drop (0 : Int).toNat).take (o4.2.1.toNat - (0 : Int).toNat)
  (Fsl5Ints N (y5, ())).bind fun r6 =>
  bif decide (0 ≤ (o4.1.length : Int)) then
  bif decide ((o4.1.length : Int) ≤ (o4.1.length : Int)) then
  bif decide (0 ≤ (w64 (o4.2.1 + (1 : Int)))) then
  bif decide ((w64 (o4.2.1 + (1 : Int))) ≤ (o4.1.length : Int)) then
  let y7 := (o4.1.drop (w64 (o4.2.1 + (1 : Int))).toNat).take ((o4.1.length : Int).toNat - (w64 (o4.2.1 + (1 : Int))).toNat)
  bif decide (r6.1.length + y7.length ≤ lim) then
  some (true, r6.1 ++ y7, ())
  else none
  else none
  else none
  else none
  else none
  else none
  else none
  else none
  else none
noncomputable def consl5Pins (N : Nat) : Con := { f := 103, din := dinsl5Pins, outs := outsl5Pins, F := Fsl5Pins N }
noncomputable def Xsl5Pins (N : Nat) : Ctx := { E := Esl5Pins N, H := Hsl5Pins, lp := [(0, { hd := dsl5Pins_0, outs := osl5Pins_0, run := fun v => lsl5Pins_0 N N v })], jn := [] }
noncomputable def bsl5Pins_0 : Code := loopBody (codeOf Try.f103) 0
theorem Fsl5Pins_eq (N : Nat) (x : ((List Int) × (Int × (Int × Unit)))) : evFn (Xsl5Pins N) Try.f103 dinsl5Pins outsl5Pins x = Fsl5Pins N x := by kernel_rfl
theorem lsl5Pins_0_eq (N n : Nat) (v : ((List Int) × (Int × (Int × (Int × Unit))))) : lsl5Pins_0 N (n + 1) v = ev (Xsl5Pins N) bsl5Pins_0 (roundK dsl5Pins_0 osl5Pins_0 (lsl5Pins_0 N n)) (dsl5Pins_0.mk' v) := by kernel_rfl
theorem cxsl5Pins (N : Nat) : CtxOk Try.prog (Xsl5Pins N) := ⟨⟨TE_ok, List.forall_mem_cons.2 ⟨(specsl5Ints N), fun k hk => absurd hk List.not_mem_nil⟩⟩, mixed⟩
theorem lpsl5Pins_0 (N : Nat) : LoopOk Try.prog { hd := dsl5Pins_0, outs := osl5Pins_0, run := fun v => lsl5Pins_0 N N v } bsl5Pins_0 :=
  loop_fuel (d := dsl5Pins_0) (os := osl5Pins_0) (cxsl5Pins N) (loops_at (ids := []) (by kernel_rfl) (trivial)) (lsl5Pins_0 N) (fun _ => rfl) (fun n v => lsl5Pins_0_eq N n v) (fun _ => N)
theorem specsl5Pins (N : Nat) : Spec Try.prog (consl5Pins N) :=
  Spec.of_eq (fn_spec (cxsl5Pins N) (f := 103) (fn := Try.f103) (c := codeOf Try.f103) (by kernel_rfl) (by kernel_rfl) (by kernel_rfl) (loops_at (ids := [0]) (by kernel_rfl) ⟨lp_of (lpsl5Pins_0 N), trivial⟩) (by kernel_rfl)) (fun x r h => (Fsl5Pins_eq N x).trans h)

/-! ### 104: spec.l5One -/

noncomputable def dinsl5One : Desc := { n := 1, regs := [.one (.val .bool)], bx := [], pins := [] }
noncomputable def outsl5One : Outs := [(.ret, { n := 1, regs := [.one (.val (.int .i64))], bx := [], pins := [] })]
noncomputable def Hsl5One : Hints := []
noncomputable def Esl5One (_N : Nat) : Env := { te := TE, cs := [] }
noncomputable def Fsl5One (N : Nat) (x : (Bool × Unit)) : Option (Int × Unit) :=
  bif x.1 then
   some ((1 : Int), ())
  else
  some ((0 : Int), ())
noncomputable def consl5One (N : Nat) : Con := { f := 104, din := dinsl5One, outs := outsl5One, F := Fsl5One N }
noncomputable def Xsl5One (N : Nat) : Ctx := { E := Esl5One N, H := Hsl5One, lp := [], jn := [] }
theorem Fsl5One_eq (N : Nat) (x : (Bool × Unit)) : evFn (Xsl5One N) Try.f104 dinsl5One outsl5One x = Fsl5One N x := by kernel_rfl
theorem cxsl5One (N : Nat) : CtxOk Try.prog (Xsl5One N) := ⟨⟨TE_ok, fun k hk => absurd hk List.not_mem_nil⟩, mixed⟩
theorem specsl5One (N : Nat) : Spec Try.prog (consl5One N) :=
  Spec.of_eq (fn_spec (cxsl5One N) (f := 104) (fn := Try.f104) (c := codeOf Try.f104) (by kernel_rfl) (by kernel_rfl) (by kernel_rfl) (loops_at (ids := []) (by kernel_rfl) (trivial)) (by kernel_rfl)) (fun x r h => (Fsl5One_eq N x).trans h)

/-! ### 49: spec.GraphDo -/

noncomputable def dinsGraphDo : Desc := { n := 3, regs := [.one (.val (.pair (.sl (.pair (.sl (.int .i64)) (.pair (.sl (.int .i64)) .unit))) (.pair (.sl (.sl (.int .i64))) (.pair (.sl (.int .i64)) .unit)))), .one (.val (.int .i64)), .one (.val (.pair (.int .i64) (.pair (.int .i64) (.pair (.int .i64) (.pair (.int .i64) (.pair (.int .i64) (.pair (.int .i64) (.pair (.pair (.int .i64) (.pair (.int .i64) .unit)) .unit))))))))], bx := [], pins := [] }
noncomputable def outsGraphDo : Outs := [(.ret, { n := 3, regs := [.agg [.lit (.row 1038465), .lit (.row 1038466), .lit (.row 1141377)], .one (.val (.int .i64)), .one (.val (.int .i64))], bx := [(1038465, .row (.pair (.sl (.int .i64)) (.pair (.sl (.int .i64)) .unit))), (1038466, .row (.sl (.int .i64))), (1141377, .row (.int .i64))], pins := [] })]
noncomputable def HsGraphDo : Hints := [(0, [(0, { fz := true }), (1, { fz := true })]),
  (1, [(16, { con := 1 })]),
  (2, [(0, { nl := [(0, (.pair (.sl (.int .i64)) (.pair (.sl (.int .i64)) .unit))), (1, (.sl (.int .i64))), (2, (.int .i64))] })]),
  (3, [(1, { con := 2 })]),
  (5, [(2, { con := 3 })]),
  (6, [(5, { con := 4 }), (31, { con := 5 })]),
  (11, [(9, { con := 6 })]),
  (20, [(4, { nl := [(0, (.int .i64))] })]),
  (25, [(3, { dp := true }), (4, { dp := true })]),
  (36, [(11, { con := 7 })])]
noncomputable def EsGraphDo (N : Nat) : Env := { te := TE, cs := [consGraphOk N, consOpOk N, consl5Copy N, consl5Begin N, consl5Fields N, consl5Field N, consl5Pins N, consl5One N] }
noncomputable def dsGraphDo_1 : Desc := { n := 323, regs := [u, .one (.val (.int .i64)), u, u, u, .one (.fpt (.pair (.int .i64) (.pair (.int .i64) (.pair (.int .i64) (.pair (.int .i64) (.pair (.int .i64) (.pair (.int .i64) (.pair (.pair (.int .i64) (.pair (.int .i64) .unit)) .unit)))))))), .one (.lit (.ptr 1000128 0)), u, u, .one (.lit (.ptr 1038528 0)), .one (.nrow 1038466 0), u, u, u, .one (.val (.int .i64)), .one (.lit (.ptr 1256320 0)), .one (.val (.int .i64))], bx := [(1000128, .var [.lit .nil, .lit .nil, .lit .nil]), (1038528, .var [.lit (.row 1038465), .lit (.row 1038466), .lit (.row 1141377)]), (1038465, .row (.pair (.sl (.int .i64)) (.pair (.sl (.int .i64)) .unit))), (1038466, .row (.sl (.int .i64))), (1141377, .row (.int .i64)), (1256320, .var [.lit (.row 1256257), .lit (.row 1256192)]), (1256257, .row (.int .i64)), (1256192, .row (.int .i64))], pins := [] }
noncomputable def osGraphDo_1 : Outs := [(.exit 1, { n := 323, regs := [u, .one (.val (.int .i64)), u, u, u, u, .one (.lit (.ptr 1000128 0)), u, u, .one (.lit (.ptr 1038528 0)), .one (.nrow 1038466 0), u, u, u, .one (.val (.int .i64)), .one (.lit (.ptr 1256320 0))], bx := [(1000128, .var [.lit .nil, .lit .nil, .lit .nil]), (1038528, .var [.lit (.row 1038465), .lit (.row 1038466), .lit (.row 1141377)]), (1038465, .row (.pair (.sl (.int .i64)) (.pair (.sl (.int .i64)) .unit))), (1038466, .row (.sl (.int .i64))), (1141377, .row (.int .i64)), (1256320, .var [.lit (.row 1256257), .lit (.row 1256192)]), (1256257, .row (.int .i64)), (1256192, .row (.int .i64))], pins := [] })]
noncomputable def jsGraphDo_3 : Outs := [(.normal, { n := 323, regs := [u, .one (.val (.int .i64)), u, .one (.fpt (.pair (.sl (.pair (.sl (.int .i64)) (.pair (.sl (.int .i64)) .unit))) (.pair (.sl (.sl (.int .i64))) (.pair (.sl (.int .i64)) .unit)))), u, .one (.fpt (.pair (.int .i64) (.pair (.int .i64) (.pair (.int .i64) (.pair (.int .i64) (.pair (.int .i64) (.pair (.int .i64) (.pair (.pair (.int .i64) (.pair (.int .i64) .unit)) .unit)))))))), .one (.lit (.ptr 1000128 0))], bx := [(1000128, .var [.lit .nil, .lit .nil, .lit .nil])], pins := [] }), (.ret, { n := 323, regs := [u, u, u, u, u, u, .one (.lit (.ptr 1000128 0)), .one (.val (.int .i64)), .one (.val (.int .i64))], bx := [(1000128, .var [.lit (.row 1025601), .lit (.row 1025602), .lit (.row 1025603)]), (1025601, .row (.pair (.sl (.int .i64)) (.pair (.sl (.int .i64)) .unit))), (1025602, .row (.sl (.int .i64))), (1025603, .row (.int .i64))], pins := [] })]
noncomputable def jsGraphDo_8 : Outs := [(.normal, { n := 323, regs := [u, .one (.val (.int .i64)), u, u, u, .one (.fpt (.pair (.int .i64) (.pair (.int .i64) (.pair (.int .i64) (.pair (.int .i64) (.pair (.int .i64) (.pair (.int .i64) (.pair (.pair (.int .i64) (.pair (.int .i64) .unit)) .unit)))))))), .one (.lit (.ptr 1000128 0)), u, u, .one (.lit (.ptr 1038528 0)), .one (.nrow 1038466 0), .one (.val (.int .i64))], bx := [(1000128, .var [.lit .nil, .lit .nil, .lit .nil]), (1038528, .var [.lit (.row 1038465), .lit (.row 1038466), .lit (.row 1038467)]), (1038465, .row (.pair (.sl (.int .i64)) (.pair (.sl (.int .i64)) .unit))), (1038466, .row (.sl (.int .i64))), (1038467, .row (.int .i64))], pins := [] })]
noncomputable def jsGraphDo_10 : Outs := [(.normal, { n := 323, regs := [u, .one (.val (.int .i64)), u, u, u, .one (.fpt (.pair (.int .i64) (.pair (.int .i64) (.pair (.int .i64) (.pair (.int .i64) (.pair (.int .i64) (.pair (.int .i64) (.pair (.pair (.int .i64) (.pair (.int .i64) .unit)) .unit)))))))), .one (.lit (.ptr 1000128 0)), u, u, .one (.lit (.ptr 1038528 0)), .one (.nrow 1038466 0), .one (.val (.int .i64))], bx := [(1000128, .var [.lit .nil, .lit .nil, .lit .nil]), (1038528, .var [.lit (.row 1038465), .lit (.row 1038466), .lit (.row 1038467)]), (1038465, .row (.pair (.sl (.int .i64)) (.pair (.sl (.int .i64)) .unit))), (1038466, .row (.sl (.int .i64))), (1038467, .row (.int .i64))], pins := [] })]
noncomputable def jsGraphDo_15 : Outs := [(.normal, { n := 323, regs := [u, .one (.val (.int .i64)), u, u, u, .one (.fpt (.pair (.int .i64) (.pair (.int .i64) (.pair (.int .i64) (.pair (.int .i64) (.pair (.int .i64) (.pair (.int .i64) (.pair (.pair (.int .i64) (.pair (.int .i64) .unit)) .unit)))))))), .one (.lit (.ptr 1000128 0)), u, u, .one (.lit (.ptr 1038528 0)), .one (.nrow 1038466 0), .one (.val (.int .i64))], bx := [(1000128, .var [.lit .nil, .lit .nil, .lit .nil]), (1038528, .var [.lit (.row 1038465), .lit (.row 1038466), .lit (.row 1141377)]), (1038465, .row (.pair (.sl (.int .i64)) (.pair (.sl (.int .i64)) .unit))), (1038466, .row (.sl (.int .i64))), (1141377, .row (.int .i64))], pins := [] }), (.ret, { n := 323, regs := [u, u, u, u, u, u, .one (.lit (.ptr 1000128 0)), .one (.val (.int .i64)), .one (.val (.int .i64))], bx := [(1000128, .var [.lit (.row 1038465), .lit (.row 1038466), .lit (.row 1038467)]), (1038465, .row (.pair (.sl (.int .i64)) (.pair (.sl (.int .i64)) .unit))), (1038466, .row (.sl (.int .i64))), (1038467, .row (.int .i64))], pins := [] })]
noncomputable def jsGraphDo_45 : Outs := [(.normal, { n := 323, regs := [u, u, u, u, u, u, .one (.lit (.ptr 1000128 0)), u, u, .one (.lit (.ptr 1038528 0)), u, u, u, u, .one (.val (.int .i64))], bx := [(1000128, .var [.lit .nil, .lit .nil, .lit .nil]), (1038528, .var [.lit (.row 1038465), .lit (.row 1038466), .lit (.row 1141377)]), (1038465, .row (.pair (.sl (.int .i64)) (.pair (.sl (.int .i64)) .unit))), (1038466, .row (.sl (.int .i64))), (1141377, .row (.int .i64))], pins := [] })]
noncomputable def lsGraphDo_1 (N : Nat) : Nat → (Int × ((Int × (Int × (Int × (Int × (Int × (Int × ((Int × (Int × Unit)) × Unit))))))) × (Int × (Int × (Int × ((List ((List Int) × ((List Int) × Unit))) × ((List (List Int)) × ((List Int) × ((List Int) × ((List Int) × Unit)))))))))) → Option (Int × (Int × (Int × ((List ((List Int) × ((List Int) × Unit))) × ((List (List Int)) × ((List Int) × ((List Int) × ((List Int) × Unit))))))))
  | 0, _ => none
  | n + 1, v =>
    let y28 := decide (v.2.2.2.2.1 < v.2.1.2.2.2.2.2.2.1.1)
    bif y28 then
     bif decide (v.2.2.2.2.2.2.2.2.1.length + [(-1 : Int)].length ≤ lim) then
     lsGraphDo_1 N n (v.1, v.2.1, Int.ofNat v.2.2.1.toNat, v.2.2.2.1, w64 (v.2.2.2.2.1 + (1 : Int)), v.2.2.2.2.2.1, v.2.2.2.2.2.2.1, v.2.2.2.2.2.2.2.1, v.2.2.2.2.2.2.2.2.1 ++ [(-1 : Int)], v.2.2.2.2.2.2.2.2.2.1, ())
     else none
    else
    some (v.1, Int.ofNat v.2.2.1.toNat, v.2.2.2.1, v.2.2.2.2.2.1, v.2.2.2.2.2.2.1, v.2.2.2.2.2.2.2.1, v.2.2.2.2.2.2.2.2.1, v.2.2.2.2.2.2.2.2.2.1, ())
noncomputable def FsGraphDo (N : Nat) (x : (((List ((List Int) × ((List Int) × Unit))) × ((List (List Int)) × ((List Int) × Unit))) × (Int × ((Int × (Int × (Int × (Int × (Int × (Int × ((Int × (Int × Unit)) × Unit))))))) × Unit)))) : Option (Int × (Int × ((List ((List Int) × ((List Int) × Unit))) × ((List (List Int)) × ((List Int) × Unit))))) :=
  Option.bind (
   (FsGraphOk N (x.1, ())).bind fun r1 =>
   bif !r1.1 then
    let y2 := ([] : (List ((List Int) × ((List Int) × Unit))))
    some (.inr (((0 : Int), (1 : Int), y2, ([] : (List (List Int))), ([] : (List Int)), ())))
   else
   bif decide (x.2.1 < (0 : Int)) then
    let y3 := ([] : (List ((List Int) × ((List Int) × Unit))))
    some (.inr (((0 : Int), (1 : Int), y3, ([] : (List (List Int))), ([] : (List Int)), ())))
   else
   let y4 := decide (x.2.1 ≥ (x.1.2.1.length : Int))
   bif y4 then
    let y5 := ([] : (List ((List Int) × ((List Int) × Unit))))
    some (.inr (((0 : Int), (1 : Int), y5, ([] : (List (List Int))), ([] : (List Int)), ())))
   else
   (FsOpOk N (x.2.2.1, ())).bind fun r6 =>
   bif !r6.1 then
    let y7 := ([] : (List ((List Int) × ((List Int) × Unit))))
    some (.inr (((0 : Int), (1 : Int), y7, ([] : (List (List Int))), ([] : (List Int)), ())))
   else
   some (.inl (x.2.1, x.1, x.2.2.1, ()))) fun o8 =>
  Sum.elim (fun o9 =>
   (Fsl5Copy N (o9.2.1, ())).bind fun r10 =>
   bif decide (0 ≤ o9.1) then
   bif decide (o9.1.toNat < r10.2.1.length) then
   (Fsl5Begin N (o9.2.2.1, r10.2.1.getD o9.1.toNat ([] : (List Int)), (-1 : Int), ())).bind fun r11 =>
   Option.bind (
    bif r11.1 == (0 : Int) then
     (Fsl5Fields N (o9.2.2.1.1, ())).bind fun r12 =>
     bif r12.1 then
      bif decide (0 ≤ o9.2.2.1.2.1) then
      bif decide (o9.2.2.1.2.1.toNat < (r10.2.1.getD o9.1.toNat ([] : (List Int))).length) then
      let y13 := (r10.2.1.getD o9.1.toNat ([] : (List Int))).getD o9.2.2.1.2.1.toNat (0 : Int)
      bif decide (0 ≤ y13) then
      bif decide (y13.toNat < r10.1.length) then
      let y14 := (((r10.1.getD y13.toNat (([] : (List Int)), ([] : (List Int)), ())).1).length : Int)
      bif decide (0 ≤ o9.2.2.1.2.1) then
      bif decide (o9.2.2.1.2.1.toNat < (r10.2.1.getD o9.1.toNat ([] : (List Int))).length) then
      let y15 := (r10.2.1.getD o9.1.toNat ([] : (List Int))).getD o9.2.2.1.2.1.toNat (0 : Int)
      bif decide (0 ≤ y15) then
      bif decide (y15.toNat < r10.1.length) then
      let y16 := ((((r10.1.getD y15.toNat (([] : (List Int)), ([] : (List Int)), ())).2).1).length : Int)
      (Fsl5Field N (o9.2.2.1, y14, y16, ())).bind fun r17 =>
      bif !r17.1 then
       some (o9.1, o9.2.2.1, Int.ofNat o9.1.toNat, (4 : Int), r10.1, r10.2.1, r10.2.2.1, ())
      else
      some (o9.1, o9.2.2.1, Int.ofNat o9.1.toNat, r11.1, r10.1, r10.2.1, r10.2.2.1, ())
      else none
      else none
      else none
      else none
      else none
      else none
      else none
      else none
     else
     some (o9.1, o9.2.2.1, Int.ofNat o9.1.toNat, r11.1, r10.1, r10.2.1, r10.2.2.1, ())
    else
    some (o9.1, o9.2.2.1, Int.ofNat o9.1.toNat, r11.1, r10.1, r10.2.1, r10.2.2.1, ())) fun o18 =>
   Option.bind (
    bif o18.2.2.2.1 == (0 : Int) then
     bif o18.2.1.1 == (1 : Int) then
      let y19 := (o18.2.2.2.2.1.length : Int) == (200 : Int)
      bif y19 then
       some (o18.1, o18.2.1, Int.ofNat o18.2.2.1.toNat, (6 : Int), o18.2.2.2.2.1, o18.2.2.2.2.2.1, o18.2.2.2.2.2.2.1, ())
      else
      some (o18.1, o18.2.1, Int.ofNat o18.2.2.1.toNat, o18.2.2.2.1, o18.2.2.2.2.1, o18.2.2.2.2.2.1, o18.2.2.2.2.2.2.1, ())
     else
     some (o18.1, o18.2.1, Int.ofNat o18.2.2.1.toNat, o18.2.2.2.1, o18.2.2.2.2.1, o18.2.2.2.2.2.1, o18.2.2.2.2.2.2.1, ())
    else
    some (o18.1, o18.2.1, Int.ofNat o18.2.2.1.toNat, o18.2.2.2.1, o18.2.2.2.2.1, o18.2.2.2.2.2.1, o18.2.2.2.2.2.2.1, ())) fun o20 =>
   Option.bind (
    bif o20.2.2.2.1 == (0 : Int) then
     bif o20.2.1.1 == (10 : Int) then
      bif decide (0 ≤ o20.2.1.2.1) then
      bif decide (o20.2.1.2.1.toNat < (o20.2.2.2.2.2.1.getD o20.2.2.1.toNat ([] : (List Int))).length) then
      let y21 := (o20.2.2.2.2.2.1.getD o20.2.2.1.toNat ([] : (List Int))).getD o20.2.1.2.1.toNat (0 : Int)
      (Fsl5Pins N (o20.2.2.2.2.2.2.1, o20.2.1.1, y21, ())).bind fun r22 =>
      bif !r22.1 then
       some (.inr (((0 : Int), (7 : Int), o20.2.2.2.2.1, o20.2.2.2.2.2.1, o20.2.2.2.2.2.2.1, ())))
      else
      some (.inl (o20.1, o20.2.1, Int.ofNat o20.2.2.1.toNat, o20.2.2.2.1, o20.2.2.2.2.1, o20.2.2.2.2.2.1, r22.2.1, ()))
      else none
      else none
     else
     bif o20.2.1.1 == (11 : Int) then
      bif decide (0 ≤ o20.2.1.2.1) then
      bif decide (o20.2.1.2.1.toNat < (o20.2.2.2.2.2.1.getD o20.2.2.1.toNat ([] : (List Int))).length) then
      let y23 := (o20.2.2.2.2.2.1.getD o20.2.2.1.toNat ([] : (List Int))).getD o20.2.1.2.1.toNat (0 : Int)
      (Fsl5Pins N (o20.2.2.2.2.2.2.1, o20.2.1.1, y23, ())).bind fun r24 =>
      bif !r24.1 then
       some (.inr (((0 : Int), (7 : Int), o20.2.2.2.2.1, o20.2.2.2.2.2.1, o20.2.2.2.2.2.2.1, ())))
      else
      some (.inl (o20.1, o20.2.1, Int.ofNat o20.2.2.1.toNat, o20.2.2.2.1, o20.2.2.2.2.1, o20.2.2.2.2.2.1, r24.2.1, ()))
      else none
      else none
     else
     some (.inl (o20.1, o20.2.1, Int.ofNat o20.2.2.1.toNat, o20.2.2.2.1, o20.2.2.2.2.1, o20.2.2.2.2.2.1, o20.2.2.2.2.2.2.1, ()))
    else
    some (.inl (o20.1, o20.2.1, Int.ofNat o20.2.2.1.toNat, o20.2.2.2.1, o20.2.2.2.2.1, o20.2.2.2.2.2.1, o20.2.2.2.2.2.2.1, ()))) fun o25 =>
   Sum.elim (fun o26 =>
    bif o26.2.2.2.1 != (0 : Int) then
     some ((0 : Int), o26.2.2.2.1, o26.2.2.2.2.1, o26.2.2.2.2.2.1, o26.2.2.2.2.2.2.1, ())
    else
    Option.bind (
     bif o26.2.1.1 == (1 : Int) then
      bif decide (0 ≤ o26.2.1.2.2.2.2.2.2.1.2.1) then
      bif decide (o26.2.1.2.2.2.2.2.2.1.2.1.toNat ≤ lim) then
      let y27 := List.replicate o26.2.1.2.2.2.2.2.2.1.2.1.toNat (0 : Int)
      (lsGraphDo_1 N N (o26.1, o26.2.1, Int.ofNat o26.2.2.1.toNat, (0 : Int), (0 : Int), o26.2.2.2.2.1, o26.2.2.2.2.2.1, o26.2.2.2.2.2.2.1, ([] : (List Int)), y27, ())).bind fun o29 =>
      let y30 := [(o29.2.2.2.2.2.2.1, o29.2.2.2.2.2.2.2.1, ())]
      bif decide (o29.2.2.2.1.length + y30.length ≤ lim) then
      let y31 := w64 (((o29.2.2.2.1 ++ y30).length : Int) - (1 : Int))
      bif decide ((o29.2.2.2.2.1.getD o29.2.1.toNat ([] : (List Int))).length + [y31].length ≤ lim) then
      let y32 := (o29.2.2.2.2.1.getD o29.2.1.toNat ([] : (List Int))) ++ [y31]
      bif decide (0 ≤ o29.1) then
      bif decide (o29.1.toNat < o29.2.2.2.2.1.length) then
      bif decide (o29.2.1.toNat = o29.1.toNat) then
      some (o29.2.2.1, o29.2.2.2.1 ++ y30, o29.2.2.2.2.1.set o29.1.toNat y32, o29.2.2.2.2.2.1, ())
      else none
      else none
      else none
      else none
      else none
      else none
      else none
     else
     bif o26.2.1.1 == (2 : Int) then
      bif decide (0 ≤ o26.2.1.2.1) then
      bif decide (o26.2.1.2.1.toNat < (o26.2.2.2.2.2.1.getD o26.2.2.1.toNat ([] : (List Int))).length) then
      let y33 := (o26.2.2.2.2.2.1.getD o26.2.2.1.toNat ([] : (List Int))).getD o26.2.1.2.1.toNat (0 : Int)
      bif decide (0 ≤ y33) then
      bif decide (y33.toNat < o26.2.2.2.2.1.length) then
      bif decide (0 ≤ o26.2.1.2.2.2.2.1) then
      bif decide (o26.2.1.2.2.2.2.1.toNat < ((o26.2.2.2.2.1.getD y33.toNat (([] : (List Int)), ([] : (List Int)), ())).1).length) then
      let y34 := ((o26.2.2.2.2.1.getD y33.toNat (([] : (List Int)), ([] : (List Int)), ())).1).getD o26.2.1.2.2.2.2.1.toNat (0 : Int)
      bif decide ((o26.2.2.2.2.2.1.getD o26.2.2.1.toNat ([] : (List Int))).length + [y34].length ≤ lim) then
      let y35 := (o26.2.2.2.2.2.1.getD o26.2.2.1.toNat ([] : (List Int))) ++ [y34]
      bif decide (0 ≤ o26.1) then
      bif decide (o26.1.toNat < o26.2.2.2.2.2.1.length) then
      bif decide (o26.2.2.1.toNat = o26.1.toNat) then
      some ((0 : Int), o26.2.2.2.2.1, o26.2.2.2.2.2.1.set o26.1.toNat y35, o26.2.2.2.2.2.2.1, ())
      else none
      else none
      else none
      else none
      else none
      else none
      else none
      else none
      else none
      else none
     else
     bif o26.2.1.1 == (3 : Int) then
      bif decide (0 ≤ o26.2.1.2.1) then
      bif decide (o26.2.1.2.1.toNat < (o26.2.2.2.2.2.1.getD o26.2.2.1.toNat ([] : (List Int))).length) then
      let y36 := (o26.2.2.2.2.2.1.getD o26.2.2.1.toNat ([] : (List Int))).getD o26.2.1.2.1.toNat (0 : Int)
      bif decide (0 ≤ y36) then
      bif decide (y36.toNat < o26.2.2.2.2.1.length) then
      bif decide (0 ≤ o26.2.1.2.2.1) then
      bif decide (o26.2.1.2.2.1.toNat < (o26.2.2.2.2.2.1.getD o26.2.2.1.toNat ([] : (List Int))).length) then
      let y37 := (o26.2.2.2.2.2.1.getD o26.2.2.1.toNat ([] : (List Int))).getD o26.2.1.2.2.1.toNat (0 : Int)
      bif decide (0 ≤ o26.2.1.2.2.2.2.1) then
      bif decide (o26.2.1.2.2.2.2.1.toNat < ((o26.2.2.2.2.1.getD y36.toNat (([] : (List Int)), ([] : (List Int)), ())).1).length) then
      let y38 := o26.2.2.2.2.1.set y36.toNat (((o26.2.2.2.2.1.getD y36.toNat (([] : (List Int)), ([] : (List Int)), ())).1).set o26.2.1.2.2.2.2.1.toNat y37, (o26.2.2.2.2.1.getD y36.toNat (([] : (List Int)), ([] : (List Int)), ())).2)
      some ((0 : Int), y38, o26.2.2.2.2.2.1, o26.2.2.2.2.2.2.1, ())
      else none
      else none
      else none
      else none
      else none
      else none
      else none
      else none
     else
     bif o26.2.1.1 == (4 : Int) then
      bif decide (0 ≤ o26.2.1.2.1) then
      bif decide (o26.2.1.2.1.toNat < (o26.2.2.2.2.2.1.getD o26.2.2.1.toNat ([] : (List Int))).length) then
      let y39 := (o26.2.2.2.2.2.1.getD o26.2.2.1.toNat ([] : (List Int))).getD o26.2.1.2.1.toNat (0 : Int)
      bif decide (0 ≤ y39) then
      bif decide (y39.toNat < o26.2.2.2.2.1.length) then
      bif decide (0 ≤ o26.2.1.2.2.2.2.1) then
      bif decide (o26.2.1.2.2.2.2.1.toNat < (((o26.2.2.2.2.1.getD y39.toNat (([] : (List Int)), ([] : (List Int)), ())).2).1).length) then
      let y40 := o26.2.2.2.2.1.set y39.toNat ((o26.2.2.2.2.1.getD y39.toNat (([] : (List Int)), ([] : (List Int)), ())).1, (((o26.2.2.2.2.1.getD y39.toNat (([] : (List Int)), ([] : (List Int)), ())).2).1).set o26.2.1.2.2.2.2.1.toNat o26.2.1.2.2.2.2.2.1, ((o26.2.2.2.2.1.getD y39.toNat (([] : (List Int)), ([] : (List Int)), ())).2).2)
      some ((0 : Int), y40, o26.2.2.2.2.2.1, o26.2.2.2.2.2.2.1, ())
      else none
      else none
      else none
      else none
      else none
      else none
     else
     bif o26.2.1.1 == (5 : Int) then
      bif decide (0 ≤ o26.2.1.2.1) then
      bif decide (o26.2.1.2.1.toNat < (o26.2.2.2.2.2.1.getD o26.2.2.1.toNat ([] : (List Int))).length) then
      let y41 := (o26.2.2.2.2.2.1.getD o26.2.2.1.toNat ([] : (List Int))).getD o26.2.1.2.1.toNat (0 : Int)
      bif decide (0 ≤ y41) then
      bif decide (y41.toNat < o26.2.2.2.2.1.length) then
      bif decide (0 ≤ o26.2.1.2.2.2.2.1) then
      bif decide (o26.2.1.2.2.2.2.1.toNat < (((o26.2.2.2.2.1.getD y41.toNat (([] : (List Int)), ([] : (List Int)), ())).2).1).length) then
      let y42 := (((o26.2.2.2.2.1.getD y41.toNat (([] : (List Int)), ([] : (List Int)), ())).2).1).getD o26.2.1.2.2.2.2.1.toNat (0 : Int)
      some (y42, o26.2.2.2.2.1, o26.2.2.2.2.2.1, o26.2.2.2.2.2.2.1, ())
      else none
      else none
      else none
      else none
      else none
      else none
     else
     bif o26.2.1.1 == (6 : Int) then
      bif decide (0 ≤ o26.2.1.2.1) then
      bif decide (o26.2.1.2.1.toNat < (o26.2.2.2.2.2.1.getD o26.2.2.1.toNat ([] : (List Int))).length) then
      let y43 := (o26.2.2.2.2.2.1.getD o26.2.2.1.toNat ([] : (List Int))).getD o26.2.1.2.1.toNat (0 : Int)
      bif decide (0 ≤ o26.2.1.2.2.1) then
      bif decide (o26.2.1.2.2.1.toNat < (o26.2.2.2.2.2.1.getD o26.2.2.1.toNat ([] : (List Int))).length) then
      let y44 := (o26.2.2.2.2.2.1.getD o26.2.2.1.toNat ([] : (List Int))).getD o26.2.1.2.2.1.toNat (0 : Int)
      (Fsl5One N (y43 == y44, ())).bind fun r45 =>
      some (r45.1, o26.2.2.2.2.1, o26.2.2.2.2.2.1, o26.2.2.2.2.2.2.1, ())
      else none
      else none
      else none
      else none
     else
     bif o26.2.1.1 == (7 : Int) then
      bif decide (0 ≤ o26.2.1.2.1) then
      bif decide (o26.2.1.2.1.toNat < (o26.2.2.2.2.2.1.getD o26.2.2.1.toNat ([] : (List Int))).length) then
      let y46 := (o26.2.2.2.2.2.1.getD o26.2.2.1.toNat ([] : (List Int))).getD o26.2.1.2.1.toNat (0 : Int)
      bif decide (0 ≤ y46) then
      bif decide (y46.toNat < o26.2.2.2.2.1.length) then
      bif decide (0 ≤ o26.2.1.2.2.2.2.1) then
      bif decide (o26.2.1.2.2.2.2.1.toNat < ((o26.2.2.2.2.1.getD y46.toNat (([] : (List Int)), ([] : (List Int)), ())).1).length) then
      let y47 := ((o26.2.2.2.2.1.getD y46.toNat (([] : (List Int)), ([] : (List Int)), ())).1).getD o26.2.1.2.2.2.2.1.toNat (0 : Int)
      bif decide (0 ≤ o26.2.1.2.2.1) then
      bif decide (o26.2.1.2.2.1.toNat < (o26.2.2.2.2.2.1.getD o26.2.2.1.toNat ([] : (List Int))).length) then
      let y48 := (o26.2.2.2.2.2.1.getD o26.2.2.1.toNat ([] : (List Int))).getD o26.2.1.2.2.1.toNat (0 : Int)
      bif y47 == y48 then
       bif decide (0 ≤ o26.2.1.2.1) then
       bif decide (o26.2.1.2.1.toNat < (o26.2.2.2.2.2.1.getD o26.2.2.1.toNat ([] : (List Int))).length) then
       let y49 := (o26.2.2.2.2.2.1.getD o26.2.2.1.toNat ([] : (List Int))).getD o26.2.1.2.1.toNat (0 : Int)
       bif decide (0 ≤ y49) then
       bif decide (y49.toNat < o26.2.2.2.2.1.length) then
       bif decide (0 ≤ o26.2.1.2.2.2.1) then
       bif decide (o26.2.1.2.2.2.1.toNat < (o26.2.2.2.2.2.1.getD o26.2.2.1.toNat ([] : (List Int))).length) then
       let y50 := (o26.2.2.2.2.2.1.getD o26.2.2.1.toNat ([] : (List Int))).getD o26.2.1.2.2.2.1.toNat (0 : Int)
       bif decide (0 ≤ o26.2.1.2.2.2.2.1) then
       bif decide (o26.2.1.2.2.2.2.1.toNat < ((o26.2.2.2.2.1.getD y49.toNat (([] : (List Int)), ([] : (List Int)), ())).1).length) then
       let y51 := o26.2.2.2.2.1.set y49.toNat (((o26.2.2.2.2.1.getD y49.toNat (([] : (List Int)), ([] : (List Int)), ())).1).set o26.2.1.2.2.2.2.1.toNat y50, (o26.2.2.2.2.1.getD y49.toNat (([] : (List Int)), ([] : (List Int)), ())).2)
       some ((1 : Int), y51, o26.2.2.2.2.2.1, o26.2.2.2.2.2.2.1, ())
       else none
       else none
       else none
       else none
       else none
       else none
       else none
       else none
      else
      some ((0 : Int), o26.2.2.2.2.1, o26.2.2.2.2.2.1, o26.2.2.2.2.2.2.1, ())
      else none
      else none
      else none
      else none
      else none
      else none
      else none
      else none
     else
     bif o26.2.1.1 == (8 : Int) then
      let y52 := ((o26.2.2.2.2.2.1.getD o26.2.2.1.toNat ([] : (List Int))).length : Int)
      bif decide (0 ≤ (w64 (y52 - (1 : Int)))) then
      bif decide ((w64 (y52 - (1 : Int))) ≤ ((o26.2.2.2.2.2.1.getD o26.2.2.1.toNat ([] : (List Int))).length : Int)) then
      bif decide (0 ≤ (0 : Int)) then
      bif decide ((0 : Int) ≤ (w64 (y52 - (1 : Int)))) then
      bif decide (0 ≤ o26.1) then
      bif decide (o26.1.toNat < o26.2.2.2.2.2.1.length) then
      bif decide (o26.2.2.1.toNat = o26.1.toNat) then
      let y53 := o26.2.2.2.2.2.1.set o26.1.toNat ((o26.2.2.2.2.2.1.getD o26.1.toNat ([] : (List Int))).take ((w64 (y52 - (1 : Int))).toNat))
      some ((0 : Int), o26.2.2.2.2.1, y53, o26.2.2.2.2.2.2.1, ())
      else none
      else none
      else none
      else none
      else none
      else none
      else none
     else
     bif o26.2.1.1 == (9 : Int) then
      bif decide (0 ≤ o26.2.1.2.1) then
      bif decide (o26.2.1.2.1.toNat < (o26.2.2.2.2.2.1.getD o26.2.2.1.toNat ([] : (List Int))).length) then
      let y54 := (o26.2.2.2.2.2.1.getD o26.2.2.1.toNat ([] : (List Int))).getD o26.2.1.2.1.toNat (0 : Int)
      bif decide ((o26.2.2.2.2.2.1.getD o26.2.2.1.toNat ([] : (List Int))).length + [y54].length ≤ lim) then
      let y55 := (o26.2.2.2.2.2.1.getD o26.2.2.1.toNat ([] : (List Int))) ++ [y54]
      bif decide (0 ≤ o26.1) then
      bif decide (o26.1.toNat < o26.2.2.2.2.2.1.length) then
      bif decide (o26.2.2.1.toNat = o26.1.toNat) then
      some ((0 : Int), o26.2.2.2.2.1, o26.2.2.2.2.2.1.set o26.1.toNat y55, o26.2.2.2.2.2.2.1, ())
      else none
      else none
      else none
      else none
      else none
      else none
     else
     some ((0 : Int), o26.2.2.2.2.1, o26.2.2.2.2.2.1, o26.2.2.2.2.2.2.1, ())) fun o56 =>
    some (o56.1, (0 : Int), o56.2.1, o56.2.2.1, o56.2.2.2.1, ())) (fun o57 =>
    some (o57.1, o57.2.1, o57.2.2.1, o57.2.2.2.1, o57.2.2.2.2.1, ())) o25
   else none
   else none) (fun o58 =>
   some (o58.1, o58.2.1, o58.2.2.1, o58.2.2.2.1, o58.2.2.2.2.1, ())) o8
noncomputable def consGraphDo (N : Nat) : Con := { f := 49, din := dinsGraphDo, outs := outsGraphDo, F := FsGraphDo N }
noncomputable def XsGraphDo (N : Nat) : Ctx := { E := EsGraphDo N, H := HsGraphDo, lp := [(1, { hd := dsGraphDo_1, outs := osGraphDo_1, run := fun v => lsGraphDo_1 N N v })], jn := [(3, jsGraphDo_3), (8, jsGraphDo_8), (10, jsGraphDo_10), (15, jsGraphDo_15), (45, jsGraphDo_45)] }
noncomputable def bsGraphDo_1 : Code := loopBody (codeOf Try.f49) 0
theorem FsGraphDo_eq (N : Nat) (x : (((List ((List Int) × ((List Int) × Unit))) × ((List (List Int)) × ((List Int) × Unit))) × (Int × ((Int × (Int × (Int × (Int × (Int × (Int × ((Int × (Int × Unit)) × Unit))))))) × Unit)))) : evFn (XsGraphDo N) Try.f49 dinsGraphDo outsGraphDo x = FsGraphDo N x := by kernel_rfl
theorem lsGraphDo_1_eq (N n : Nat) (v : (Int × ((Int × (Int × (Int × (Int × (Int × (Int × ((Int × (Int × Unit)) × Unit))))))) × (Int × (Int × (Int × ((List ((List Int) × ((List Int) × Unit))) × ((List (List Int)) × ((List Int) × ((List Int) × ((List Int) × Unit))))))))))) : lsGraphDo_1 N (n + 1) v = ev (XsGraphDo N) bsGraphDo_1 (roundK dsGraphDo_1 osGraphDo_1 (lsGraphDo_1 N n)) (dsGraphDo_1.mk' v) := by kernel_rfl
theorem cxsGraphDo (N : Nat) : CtxOk Try.prog (XsGraphDo N) := ⟨⟨TE_ok, List.forall_mem_cons.2 ⟨(specsGraphOk N), List.forall_mem_cons.2 ⟨(specsOpOk N), List.forall_mem_cons.2 ⟨(specsl5Copy N), List.forall_mem_cons.2 ⟨(specsl5Begin N), List.forall_mem_cons.2 ⟨(specsl5Fields N), List.forall_mem_cons.2 ⟨(specsl5Field N), List.forall_mem_cons.2 ⟨(specsl5Pins N), List.forall_mem_cons.2 ⟨(specsl5One N), fun k hk => absurd hk List.not_mem_nil⟩⟩⟩⟩⟩⟩⟩⟩⟩, mixed⟩
theorem lpsGraphDo_1 (N : Nat) : LoopOk Try.prog { hd := dsGraphDo_1, outs := osGraphDo_1, run := fun v => lsGraphDo_1 N N v } bsGraphDo_1 :=
  loop_fuel (d := dsGraphDo_1) (os := osGraphDo_1) (cxsGraphDo N) (loops_at (ids := []) (by kernel_rfl) (trivial)) (lsGraphDo_1 N) (fun _ => rfl) (fun n v => lsGraphDo_1_eq N n v) (fun _ => N)
theorem specsGraphDo (N : Nat) : Spec Try.prog (consGraphDo N) :=
  Spec.of_eq (fn_spec (cxsGraphDo N) (f := 49) (fn := Try.f49) (c := codeOf Try.f49) (by kernel_rfl) (by kernel_rfl) (by kernel_rfl) (loops_at (ids := [1]) (by kernel_rfl) ⟨lp_of (lpsGraphDo_1 N), trivial⟩) (by kernel_rfl)) (fun x r h => (FsGraphDo_eq N x).trans h)

/-! ### 86: spec.l20Graph -/

noncomputable def dinsl20Graph : Desc := { n := 1, regs := [.one (.lit (.ptr 0 0))], bx := [(0, .var [.val (.sl (.int .u8)), .val (.int .i64)])], pins := [] }
noncomputable def outsl20Graph : Outs := [(.ret, { n := 1, regs := [.agg [.lit (.row 1012993), .lit (.row 1012994), .lit (.row 1013123)]], bx := [(1012993, .row (.pair (.sl (.int .i64)) (.pair (.sl (.int .i64)) .unit))), (1012994, .row (.sl (.int .i64))), (1013123, .row (.int .i64)), (0, .var [.val (.sl (.int .u8)), .val (.int .i64)])], pins := [.one (.lit (.ptr 0 0))] })]
noncomputable def Hsl20Graph : Hints := [(1, [(3, { con := 1 }), (5, { nl := [(2, (.int .i64))] })]),
  (7, [(9, { con := 2 }), (10, { con := 3 })]),
  (14, [(6, { con := 4 })]),
  (16, [(2, { dp := true }), (3, { dp := true })]),
  (19, [(3, { dp := true }), (4, { dp := true })])]
noncomputable def Esl20Graph (N : Nat) : Env := { te := TE, cs := [consl1Rd_pick N, consGraphNew N, consl20Op N, consGraphDo N, consl5Ints N] }
noncomputable def dsl20Graph_0 : Desc := { n := 104, regs := [.one (.lit (.ptr 0 0)), u, .one (.lit (.ptr 1000000 0)), .one (.lit (.ptr 1013248 0)), u, .one (.val (.int .i64)), .one (.val (.int .i64))], bx := [(0, .var [.val (.sl (.int .u8)), .val (.int .i64)]), (1000000, .var [.lit .nil, .lit .nil, .lit .nil]), (1013248, .var [.lit (.row 1012993), .lit (.row 1012994), .lit (.row 1013123)]), (1012993, .row (.pair (.sl (.int .i64)) (.pair (.sl (.int .i64)) .unit))), (1012994, .row (.sl (.int .i64))), (1013123, .row (.int .i64))], pins := [.one (.lit (.ptr 0 0))] }
noncomputable def osl20Graph_0 : Outs := [(.exit 0, { n := 104, regs := [.one (.lit (.ptr 0 0)), u, .one (.lit (.ptr 1000000 0)), .one (.lit (.ptr 1013248 0))], bx := [(0, .var [.val (.sl (.int .u8)), .val (.int .i64)]), (1000000, .var [.lit .nil, .lit .nil, .lit .nil]), (1013248, .var [.lit (.row 1012993), .lit (.row 1012994), .lit (.row 1013123)]), (1012993, .row (.pair (.sl (.int .i64)) (.pair (.sl (.int .i64)) .unit))), (1012994, .row (.sl (.int .i64))), (1013123, .row (.int .i64))], pins := [.one (.lit (.ptr 0 0))] })]
noncomputable def dsl20Graph_3 : Desc := { n := 104, regs := [.one (.lit (.ptr 0 0)), u, .one (.lit (.ptr 1000000 0)), .one (.lit (.ptr 1013248 0))], bx := [(0, .var [.val (.sl (.int .u8)), .val (.int .i64)]), (1000000, .var [.lit .nil, .lit .nil, .lit .nil]), (1013248, .var [.lit (.row 1012993), .lit (.row 1012994), .lit (.row 1013123)]), (1012993, .row (.pair (.sl (.int .i64)) (.pair (.sl (.int .i64)) .unit))), (1012994, .row (.sl (.int .i64))), (1013123, .row (.int .i64))], pins := [.one (.lit (.ptr 0 0))] }
noncomputable def osl20Graph_3 : Outs := [(.exit 3, { n := 104, regs := [u, u, .one (.lit (.ptr 1000000 0)), .one (.lit (.ptr 1013248 0))], bx := [(1000000, .var [.lit .nil, .lit .nil, .lit .nil]), (1013248, .var [.lit (.row 1012993), .lit (.row 1012994), .lit (.row 1013123)]), (1012993, .row (.pair (.sl (.int .i64)) (.pair (.sl (.int .i64)) .unit))), (1012994, .row (.sl (.int .i64))), (1013123, .row (.int .i64)), (0, .var [.val (.sl (.int .u8)), .val (.int .i64)])], pins := [.one (.lit (.ptr 0 0))] })]
noncomputable def lsl20Graph_0 (N : Nat) : Nat → (Int × (Int × ((List Int) × (Int × ((List ((List Int) × ((List Int) × Unit))) × ((List (List Int)) × ((List Int) × Unit))))))) → Option ((List Int) × (Int × ((List ((List Int) × ((List Int) × Unit))) × ((List (List Int)) × ((List Int) × Unit)))))
  | 0, _ => none
  | n + 1, v =>
    bif decide (v.2.1 < v.1) then
     (Fsl1Rd_pick N ((v.2.2.2.2.2.1.length : Int), v.2.2.1, v.2.2.2.1, ())).bind fun r4 =>
     bif decide (0 ≤ r4.1) then
     bif decide (r4.1.toNat < v.2.2.2.2.2.1.length) then
     let y5 := ((v.2.2.2.2.2.1.getD r4.1.toNat ([] : (List Int))).length : Int)
     (Fsl20Op N (y5, r4.2.1, r4.2.2.1, ())).bind fun r6 =>
     (FsGraphDo N ((v.2.2.2.2.1, v.2.2.2.2.2.1, v.2.2.2.2.2.2.1, ()), r4.1, (r6.1, r6.2.1, r6.2.2.1, r6.2.2.2.1, r6.2.2.2.2.1, r6.2.2.2.2.2.1, (r6.2.2.2.2.2.2.1, r6.2.2.2.2.2.2.2.1, ()), ()), ())).bind fun r7 =>
     bif r7.2.1 != (1 : Int) then
      lsl20Graph_0 N n (v.1, w64 (v.2.1 + (1 : Int)), r6.2.2.2.2.2.2.2.2.1, r6.2.2.2.2.2.2.2.2.2.1, r7.2.2.1, r7.2.2.2.1, r7.2.2.2.2.1, ())
     else
     lsl20Graph_0 N n (v.1, w64 (v.2.1 + (1 : Int)), r6.2.2.2.2.2.2.2.2.1, r6.2.2.2.2.2.2.2.2.2.1, v.2.2.2.2.1, v.2.2.2.2.2.1, v.2.2.2.2.2.2.1, ())
     else none
     else none
    else
    some (v.2.2.1, v.2.2.2.1, v.2.2.2.2.1, v.2.2.2.2.2.1, v.2.2.2.2.2.2.1, ())
noncomputable def lsl20Graph_3 (N : Nat) : Nat → ((List Int) × (Int × ((List ((List Int) × ((List Int) × Unit))) × ((List (List Int)) × ((List Int) × Unit))))) → Option ((List ((List Int) × ((List Int) × Unit))) × ((List (List Int)) × ((List Int) × ((List Int) × (Int × Unit)))))
  | 0, _ => none
  | n + 1, v =>
    (Fsl1Rd_pick N ((2 : Int), v.1, v.2.1, ())).bind fun r18 =>
    let y19 := decide ((v.2.2.1.length : Int) < (w64 ((200 : Int) + r18.1)))
    bif y19 then
     let y20 := [(([] : (List Int)), ([] : (List Int)), ())]
     bif decide (v.2.2.1.length + y20.length ≤ lim) then
     lsl20Graph_3 N n (r18.2.1, r18.2.2.1, v.2.2.1 ++ y20, v.2.2.2.1, v.2.2.2.2.1, ())
     else none
    else
    some (v.2.2.1, v.2.2.2.1, v.2.2.2.2.1, r18.2.1, r18.2.2.1, ())
noncomputable def Fsl20Graph (N : Nat) (x : ((List Int) × (Int × Unit))) : Option ((List ((List Int) × ((List Int) × Unit))) × ((List (List Int)) × ((List Int) × ((List Int) × (Int × Unit))))) :=
  (Fsl1Rd_pick N ((3 : Int), x.1, x.2.1, ())).bind fun r1 =>
  (FsGraphNew N (w64 ((1 : Int) + r1.1), ())).bind fun r2 =>
  (Fsl1Rd_pick N ((30 : Int), r1.2.1, r1.2.2.1, ())).bind fun r3 =>
  (lsl20Graph_0 N N (r3.1, (0 : Int), r3.2.1, r3.2.2.1, r2.2.1, r2.2.2.1, ([] : (List Int)), ())).bind fun o8 =>
  (Fsl1Rd_pick N ((30 : Int), o8.1, o8.2.1, ())).bind fun r9 =>
  bif r9.1 == (0 : Int) then
   (Fsl1Rd_pick N ((3 : Int), r9.2.1, r9.2.2.1, ())).bind fun r10 =>
   let y11 := [w64 (r10.1 - (2 : Int)), (o8.2.2.1.length : Int)]
   bif decide (0 ≤ (0 : Int)) then
   bif decide ((0 : Int).toNat < o8.2.2.1.length) then
   let y12 := o8.2.2.1.set ((0 : Int).toNat) (y11, (o8.2.2.1.getD ((0 : Int).toNat) (([] : (List Int)), ([] : (List Int)), ())).2)
   some (y12, o8.2.2.2.1, o8.2.2.2.2.1, r10.2.1, r10.2.2.1, ())
   else none
   else none
  else
  bif r9.1 == (1 : Int) then
   bif decide (0 ≤ (0 : Int)) then
   bif decide ((0 : Int).toNat < o8.2.2.2.1.length) then
   (Fsl5Ints N (o8.2.2.2.1.getD ((0 : Int).toNat) ([] : (List Int)), ())).bind fun r13 =>
   (Fsl1Rd_pick N ((2 : Int), r9.2.1, r9.2.2.1, ())).bind fun r14 =>
   let y15 := w64 ((o8.2.2.1.length : Int) - r14.1)
   bif decide (r13.1.length + [y15].length ≤ lim) then
   bif decide (0 ≤ (0 : Int)) then
   bif decide ((0 : Int).toNat < o8.2.2.2.1.length) then
   let y16 := o8.2.2.2.1.set ((0 : Int).toNat) (r13.1 ++ [y15])
   some (o8.2.2.1, y16, o8.2.2.2.2.1, r14.2.1, r14.2.2.1, ())
   else none
   else none
   else none
   else none
   else none
  else
  bif r9.1 == (2 : Int) then
   let y17 := [([] : (List Int)), ([] : (List Int))]
   bif decide (o8.2.2.2.1.length + y17.length ≤ lim) then
   some (o8.2.2.1, o8.2.2.2.1 ++ y17, o8.2.2.2.2.1, r9.2.1, r9.2.2.1, ())
   else none
  else
  bif r9.1 == (3 : Int) then
   (lsl20Graph_3 N N (r9.2.1, r9.2.2.1, o8.2.2.1, o8.2.2.2.1, o8.2.2.2.2.1, ())).bind fun o21 =>
   some (o21.1, o21.2.1, o21.2.2.1, o21.2.2.2.1, o21.2.2.2.2.1, ())
  else
  some (o8.2.2.1, o8.2.2.2.1, o8.2.2.2.2.1, r9.2.1, r9.2.2.1, ())
noncomputable def consl20Graph (N : Nat) : Con := { f := 86, din := dinsl20Graph, outs := outsl20Graph, F := Fsl20Graph N }
noncomputable def Xsl20Graph (N : Nat) : Ctx := { E := Esl20Graph N, H := Hsl20Graph, lp := [(0, { hd := dsl20Graph_0, outs := osl20Graph_0, run := fun v => lsl20Graph_0 N N v }), (3, { hd := dsl20Graph_3, outs := osl20Graph_3, run := fun v => lsl20Graph_3 N N v })], jn := [] }
noncomputable def bsl20Graph_3 : Code := loopBody (codeOf Try.f86) 1
noncomputable def bsl20Graph_0 : Code := loopBody (codeOf Try.f86) 0
theorem Fsl20Graph_eq (N : Nat) (x : ((List Int) × (Int × Unit))) : evFn (Xsl20Graph N) Try.f86 dinsl20Graph outsl20Graph x = Fsl20Graph N x := by kernel_rfl
theorem lsl20Graph_0_eq (N n : Nat) (v : (Int × (Int × ((List Int) × (Int × ((List ((List Int) × ((List Int) × Unit))) × ((List (List Int)) × ((List Int) × Unit)))))))) : lsl20Graph_0 N (n + 1) v = ev (Xsl20Graph N) bsl20Graph_0 (roundK dsl20Graph_0 osl20Graph_0 (lsl20Graph_0 N n)) (dsl20Graph_0.mk' v) := by kernel_rfl
theorem lsl20Graph_3_eq (N n : Nat) (v : ((List Int) × (Int × ((List ((List Int) × ((List Int) × Unit))) × ((List (List Int)) × ((List Int) × Unit)))))) : lsl20Graph_3 N (n + 1) v = ev (Xsl20Graph N) bsl20Graph_3 (roundK dsl20Graph_3 osl20Graph_3 (lsl20Graph_3 N n)) (dsl20Graph_3.mk' v) := by kernel_rfl
theorem cxsl20Graph (N : Nat) : CtxOk Try.prog (Xsl20Graph N) := ⟨⟨TE_ok, List.forall_mem_cons.2 ⟨(specsl1Rd_pick N), List.forall_mem_cons.2 ⟨(specsGraphNew N), List.forall_mem_cons.2 ⟨(specsl20Op N), List.forall_mem_cons.2 ⟨(specsGraphDo N), List.forall_mem_cons.2 ⟨(specsl5Ints N), fun k hk => absurd hk List.not_mem_nil⟩⟩⟩⟩⟩⟩, mixed⟩
theorem lpsl20Graph_0 (N : Nat) : LoopOk Try.prog { hd := dsl20Graph_0, outs := osl20Graph_0, run := fun v => lsl20Graph_0 N N v } bsl20Graph_0 :=
  loop_fuel (d := dsl20Graph_0) (os := osl20Graph_0) (cxsl20Graph N) (loops_at (ids := []) (by kernel_rfl) (trivial)) (lsl20Graph_0 N) (fun _ => rfl) (fun n v => lsl20Graph_0_eq N n v) (fun _ => N)
theorem lpsl20Graph_3 (N : Nat) : LoopOk Try.prog { hd := dsl20Graph_3, outs := osl20Graph_3, run := fun v => lsl20Graph_3 N N v } bsl20Graph_3 :=
  loop_fuel (d := dsl20Graph_3) (os := osl20Graph_3) (cxsl20Graph N) (loops_at (ids := []) (by kernel_rfl) (trivial)) (lsl20Graph_3 N) (fun _ => rfl) (fun n v => lsl20Graph_3_eq N n v) (fun _ => N)
theorem specsl20Graph (N : Nat) : Spec Try.prog (consl20Graph N) :=
  Spec.of_eq (fn_spec (cxsl20Graph N) (f := 86) (fn := Try.f86) (c := codeOf Try.f86) (by kernel_rfl) (by kernel_rfl) (by kernel_rfl) (loops_at (ids := [0, 3]) (by kernel_rfl) ⟨lp_of (lpsl20Graph_0 N), ⟨lp_of (lpsl20Graph_3 N), trivial⟩⟩) (by kernel_rfl)) (fun x r h => (Fsl20Graph_eq N x).trans h)

/-! ### 41: spec.DrawPathHolds -/

noncomputable def dinsDrawPathHolds : Desc := { n := 1, regs := [.one (.val (.sl (.int .u8)))], bx := [], pins := [] }
noncomputable def outsDrawPathHolds : Outs := [(.ret, { n := 2, regs := [.agg [.lit (.row 1025665), .lit (.row 1025666), .lit (.row 1025667)], .one (.val (.int .i64))], bx := [(1025665, .row (.pair (.sl (.int .i64)) (.pair (.sl (.int .i64)) .unit))), (1025666, .row (.sl (.int .i64))), (1025667, .row (.int .i64))], pins := [] })]
noncomputable def HsDrawPathHolds : Hints := [(2, [(1, { con := 1, sg := [(0, 1012865)] })]),
  (3, [(6, { con := 2, sg := [(0, 1012865)] })])]
noncomputable def EsDrawPathHolds (N : Nat) : Env := { te := TE, cs := [consl1Open_o_ N, consl20Graph N, consl1Rd_pick N] }
noncomputable def FsDrawPathHolds (N : Nat) (x : ((List Int) × Unit)) : Option (Int × ((List ((List Int) × ((List Int) × Unit))) × ((List (List Int)) × ((List Int) × Unit)))) :=
  (Fsl1Open_o_ N (x.1, ())).bind fun r1 =>
  (Fsl20Graph N (r1.1, r1.2.1, ())).bind fun r2 =>
  let y3 := w64 ((r2.1.length : Int) + (2 : Int))
  (Fsl1Rd_pick N (y3, r2.2.2.2.1, r2.2.2.2.2.1, ())).bind fun r4 =>
  some (w64 (r4.1 - (1 : Int)), r2.1, r2.2.1, r2.2.2.1, ())
noncomputable def consDrawPathHolds (N : Nat) : Con := { f := 41, din := dinsDrawPathHolds, outs := outsDrawPathHolds, F := FsDrawPathHolds N }
noncomputable def XsDrawPathHolds (N : Nat) : Ctx := { E := EsDrawPathHolds N, H := HsDrawPathHolds, lp := [], jn := [] }
theorem FsDrawPathHolds_eq (N : Nat) (x : ((List Int) × Unit)) : evFn (XsDrawPathHolds N) Try.f41 dinsDrawPathHolds outsDrawPathHolds x = FsDrawPathHolds N x := by kernel_rfl
theorem cxsDrawPathHolds (N : Nat) : CtxOk Try.prog (XsDrawPathHolds N) := ⟨⟨TE_ok, List.forall_mem_cons.2 ⟨(specsl1Open_o_ N), List.forall_mem_cons.2 ⟨(specsl20Graph N), List.forall_mem_cons.2 ⟨(specsl1Rd_pick N), fun k hk => absurd hk List.not_mem_nil⟩⟩⟩⟩, mixed⟩
theorem specsDrawPathHolds (N : Nat) : Spec Try.prog (consDrawPathHolds N) :=
  Spec.of_eq (fn_spec (cxsDrawPathHolds N) (f := 41) (fn := Try.f41) (c := codeOf Try.f41) (by kernel_rfl) (by kernel_rfl) (by kernel_rfl) (loops_at (ids := []) (by kernel_rfl) (trivial)) (by kernel_rfl)) (fun x r h => (FsDrawPathHolds_eq N x).trans h)

/-! ### 148: impl.Graph).leads$1 -/

noncomputable def diniGraph_leads_1 : Desc := { n := 3, regs := [.one (.val (.int .i64)), .one (.fpt (.int .i64)), .one (.fpt (.pair (.sl (.pair (.sl (.int .i64)) (.pair (.sl (.int .i64)) .unit))) (.pair (.sl (.sl (.int .i64))) (.pair (.sl (.int .i64)) .unit))))], bx := [], pins := [] }
noncomputable def outiGraph_leads_1 : Outs := [(.ret, { n := 1, regs := [.one (.val .bool)], bx := [], pins := [] })]
noncomputable def HiGraph_leads_1 : Hints := []
noncomputable def EiGraph_leads_1 (_N : Nat) : Env := { te := TE, cs := [] }
noncomputable def FiGraph_leads_1 (N : Nat) (x : (Int × (Int × (((List ((List Int) × ((List Int) × Unit))) × ((List (List Int)) × ((List Int) × Unit))) × Unit)))) : Option (Bool × Unit) :=
  bif decide (x.1 < x.2.1) then
   some (true, ())
  else
  let y1 := decide (x.1 ≥ (x.2.2.1.1.length : Int))
  some (y1, ())
noncomputable def coniGraph_leads_1 (N : Nat) : Con := { f := 148, din := diniGraph_leads_1, outs := outiGraph_leads_1, F := FiGraph_leads_1 N }
noncomputable def XiGraph_leads_1 (N : Nat) : Ctx := { E := EiGraph_leads_1 N, H := HiGraph_leads_1, lp := [], jn := [] }
theorem FiGraph_leads_1_eq (N : Nat) (x : (Int × (Int × (((List ((List Int) × ((List Int) × Unit))) × ((List (List Int)) × ((List Int) × Unit))) × Unit)))) : evFn (XiGraph_leads_1 N) Try.f148 diniGraph_leads_1 outiGraph_leads_1 x = FiGraph_leads_1 N x := by kernel_rfl
theorem cxiGraph_leads_1 (N : Nat) : CtxOk Try.prog (XiGraph_leads_1 N) := ⟨⟨TE_ok, fun k hk => absurd hk List.not_mem_nil⟩, mixed⟩
theorem speciGraph_leads_1 (N : Nat) : Spec Try.prog (coniGraph_leads_1 N) :=
  Spec.of_eq (fn_spec (cxiGraph_leads_1 N) (f := 148) (fn := Try.f148) (c := codeOf Try.f148) (by kernel_rfl) (by kernel_rfl) (by kernel_rfl) (loops_at (ids := []) (by kernel_rfl) (trivial)) (by kernel_rfl)) (fun x r h => (FiGraph_leads_1_eq N x).trans h)

/-! ### 157: slices.IndexFunc[[]int,int] -/

noncomputable def dinkIndexFunc_Sint_int_iGraph_leads_1 : Desc := { n := 2, regs := [.one (.val (.sl (.int .i64))), .one (.clo 148 [.inr (.int .i64), .inr (.pair (.sl (.pair (.sl (.int .i64)) (.pair (.sl (.int .i64)) .unit))) (.pair (.sl (.sl (.int .i64))) (.pair (.sl (.int .i64)) .unit)))])], bx := [], pins := [] }
noncomputable def outkIndexFunc_Sint_int_iGraph_leads_1 : Outs := [(.ret, { n := 1, regs := [.one (.val (.int .i64))], bx := [], pins := [] })]
noncomputable def HkIndexFunc_Sint_int_iGraph_leads_1 : Hints := []
noncomputable def EkIndexFunc_Sint_int_iGraph_leads_1 (N : Nat) : Env := { te := TE, cs := [coniGraph_leads_1 N] }
noncomputable def dkIndexFunc_Sint_int_iGraph_leads_1_0 : Desc := { n := 19, regs := [.one (.val (.sl (.int .i64))), .one (.clo 148 [.inr (.int .i64), .inr (.pair (.sl (.pair (.sl (.int .i64)) (.pair (.sl (.int .i64)) .unit))) (.pair (.sl (.sl (.int .i64))) (.pair (.sl (.int .i64)) .unit)))]), u, u, u, u, u, .one (.val (.int .i64)), .one (.val (.int .i64))], bx := [], pins := [] }
noncomputable def okIndexFunc_Sint_int_iGraph_leads_1_0 : Outs := [(.exit 0, { n := 19, regs := [], bx := [], pins := [] }), (.ret, { n := 19, regs := [u, u, u, u, .one (.val (.int .i64))], bx := [], pins := [] })]
noncomputable def lkIndexFunc_Sint_int_iGraph_leads_1_0 (N : Nat) : Nat → ((List Int) × (Int × (((List ((List Int) × ((List Int) × Unit))) × ((List (List Int)) × ((List Int) × Unit))) × (Int × (Int × Unit))))) → Option (Unit ⊕ (Int × Unit))
  | 0, _ => none
  | n + 1, v =>
    bif decide (v.2.2.2.2.1 < v.2.2.2.1) then
     bif decide (0 ≤ v.2.2.2.2.1) then
     bif decide (v.2.2.2.2.1.toNat < v.1.length) then
     (FiGraph_leads_1 N (v.1.getD v.2.2.2.2.1.toNat (0 : Int), v.2.1, v.2.2.1, ())).bind fun r1 =>
     bif r1.1 then
      some (.inr ((v.2.2.2.2.1, ())))
     else
     lkIndexFunc_Sint_int_iGraph_leads_1_0 N n (v.1, v.2.1, v.2.2.1, v.2.2.2.1, w64 (v.2.2.2.2.1 + (1 : Int)), ())
     else none
     else none
    else
    some (.inl ())
noncomputable def FkIndexFunc_Sint_int_iGraph_leads_1 (N : Nat) (x : ((List Int) × (Int × (((List ((List Int) × ((List Int) × Unit))) × ((List (List Int)) × ((List Int) × Unit))) × Unit)))) : Option (Int × Unit) :=
  (lkIndexFunc_Sint_int_iGraph_leads_1_0 N N (x.1, x.2.1, x.2.2.1, (x.1.length : Int), (0 : Int), ())).bind fun o2 =>
  Sum.elim (fun o3 =>
   some ((-1 : Int), ())) (fun o4 =>
   some (o4.1, ())) o2
noncomputable def conkIndexFunc_Sint_int_iGraph_leads_1 (N : Nat) : Con := { f := 157, din := dinkIndexFunc_Sint_int_iGraph_leads_1, outs := outkIndexFunc_Sint_int_iGraph_leads_1, F := FkIndexFunc_Sint_int_iGraph_leads_1 N }
noncomputable def XkIndexFunc_Sint_int_iGraph_leads_1 (N : Nat) : Ctx := { E := EkIndexFunc_Sint_int_iGraph_leads_1 N, H := HkIndexFunc_Sint_int_iGraph_leads_1, lp := [(0, { hd := dkIndexFunc_Sint_int_iGraph_leads_1_0, outs := okIndexFunc_Sint_int_iGraph_leads_1_0, run := fun v => lkIndexFunc_Sint_int_iGraph_leads_1_0 N N v })], jn := [] }
noncomputable def bkIndexFunc_Sint_int_iGraph_leads_1_0 : Code := loopBody (codeOf Try.f157) 0
theorem FkIndexFunc_Sint_int_iGraph_leads_1_eq (N : Nat) (x : ((List Int) × (Int × (((List ((List Int) × ((List Int) × Unit))) × ((List (List Int)) × ((List Int) × Unit))) × Unit)))) : evFn (XkIndexFunc_Sint_int_iGraph_leads_1 N) Try.f157 dinkIndexFunc_Sint_int_iGraph_leads_1 outkIndexFunc_Sint_int_iGraph_leads_1 x = FkIndexFunc_Sint_int_iGraph_leads_1 N x := by kernel_rfl
theorem lkIndexFunc_Sint_int_iGraph_leads_1_0_eq (N n : Nat) (v : ((List Int) × (Int × (((List ((List Int) × ((List Int) × Unit))) × ((List (List Int)) × ((List Int) × Unit))) × (Int × (Int × Unit)))))) : lkIndexFunc_Sint_int_iGraph_leads_1_0 N (n + 1) v = ev (XkIndexFunc_Sint_int_iGraph_leads_1 N) bkIndexFunc_Sint_int_iGraph_leads_1_0 (roundK dkIndexFunc_Sint_int_iGraph_leads_1_0 okIndexFunc_Sint_int_iGraph_leads_1_0 (lkIndexFunc_Sint_int_iGraph_leads_1_0 N n)) (dkIndexFunc_Sint_int_iGraph_leads_1_0.mk' v) := by kernel_rfl
theorem cxkIndexFunc_Sint_int_iGraph_leads_1 (N : Nat) : CtxOk Try.prog (XkIndexFunc_Sint_int_iGraph_leads_1 N) := ⟨⟨TE_ok, List.forall_mem_cons.2 ⟨(speciGraph_leads_1 N), fun k hk => absurd hk List.not_mem_nil⟩⟩, mixed⟩
theorem lpkIndexFunc_Sint_int_iGraph_leads_1_0 (N : Nat) : LoopOk Try.prog { hd := dkIndexFunc_Sint_int_iGraph_leads_1_0, outs := okIndexFunc_Sint_int_iGraph_leads_1_0, run := fun v => lkIndexFunc_Sint_int_iGraph_leads_1_0 N N v } bkIndexFunc_Sint_int_iGraph_leads_1_0 :=
  loop_fuel (d := dkIndexFunc_Sint_int_iGraph_leads_1_0) (os := okIndexFunc_Sint_int_iGraph_leads_1_0) (cxkIndexFunc_Sint_int_iGraph_leads_1 N) (loops_at (ids := []) (by kernel_rfl) (trivial)) (lkIndexFunc_Sint_int_iGraph_leads_1_0 N) (fun _ => rfl) (fun n v => lkIndexFunc_Sint_int_iGraph_leads_1_0_eq N n v) (fun _ => N)
theorem speckIndexFunc_Sint_int_iGraph_leads_1 (N : Nat) : Spec Try.prog (conkIndexFunc_Sint_int_iGraph_leads_1 N) :=
  Spec.of_eq (fn_spec (cxkIndexFunc_Sint_int_iGraph_leads_1 N) (f := 157) (fn := Try.f157) (c := codeOf Try.f157) (by kernel_rfl) (by kernel_rfl) (by kernel_rfl) (loops_at (ids := [0]) (by kernel_rfl) ⟨lp_of (lpkIndexFunc_Sint_int_iGraph_leads_1_0 N), trivial⟩) (by kernel_rfl)) (fun x r h => (FkIndexFunc_Sint_int_iGraph_leads_1_eq N x).trans h)

/-! ### 147: slices.ContainsFunc[[]int,int] -/

noncomputable def dinkContainsFunc_Sint_int_iGraph_leads_1 : Desc := { n := 2, regs := [.one (.val (.sl (.int .i64))), .one (.clo 148 [.inr (.int .i64), .inr (.pair (.sl (.pair (.sl (.int .i64)) (.pair (.sl (.int .i64)) .unit))) (.pair (.sl (.sl (.int .i64))) (.pair (.sl (.int .i64)) .unit)))])], bx := [], pins := [] }
noncomputable def outkContainsFunc_Sint_int_iGraph_leads_1 : Outs := [(.ret, { n := 1, regs := [.one (.val .bool)], bx := [], pins := [] })]
noncomputable def HkContainsFunc_Sint_int_iGraph_leads_1 : Hints := []
noncomputable def EkContainsFunc_Sint_int_iGraph_leads_1 (N : Nat) : Env := { te := TE, cs := [conkIndexFunc_Sint_int_iGraph_leads_1 N] }
noncomputable def FkContainsFunc_Sint_int_iGraph_leads_1 (N : Nat) (x : ((List Int) × (Int × (((List ((List Int) × ((List Int) × Unit))) × ((List (List Int)) × ((List Int) × Unit))) × Unit)))) : Option (Bool × Unit) :=
  (FkIndexFunc_Sint_int_iGraph_leads_1 N (x.1, x.2.1, x.2.2.1, ())).bind fun r1 =>
  some (decide (r1.1 ≥ (0 : Int)), ())
noncomputable def conkContainsFunc_Sint_int_iGraph_leads_1 (N : Nat) : Con := { f := 147, din := dinkContainsFunc_Sint_int_iGraph_leads_1, outs := outkContainsFunc_Sint_int_iGraph_leads_1, F := FkContainsFunc_Sint_int_iGraph_leads_1 N }
noncomputable def XkContainsFunc_Sint_int_iGraph_leads_1 (N : Nat) : Ctx := { E := EkContainsFunc_Sint_int_iGraph_leads_1 N, H := HkContainsFunc_Sint_int_iGraph_leads_1, lp := [], jn := [] }
theorem FkContainsFunc_Sint_int_iGraph_leads_1_eq (N : Nat) (x : ((List Int) × (Int × (((List ((List Int) × ((List Int) × Unit))) × ((List (List Int)) × ((List Int) × Unit))) × Unit)))) : evFn (XkContainsFunc_Sint_int_iGraph_leads_1 N) Try.f147 dinkContainsFunc_Sint_int_iGraph_leads_1 outkContainsFunc_Sint_int_iGraph_leads_1 x = FkContainsFunc_Sint_int_iGraph_leads_1 N x := by kernel_rfl
theorem cxkContainsFunc_Sint_int_iGraph_leads_1 (N : Nat) : CtxOk Try.prog (XkContainsFunc_Sint_int_iGraph_leads_1 N) := ⟨⟨TE_ok, List.forall_mem_cons.2 ⟨(speckIndexFunc_Sint_int_iGraph_leads_1 N), fun k hk => absurd hk List.not_mem_nil⟩⟩, mixed⟩
theorem speckContainsFunc_Sint_int_iGraph_leads_1 (N : Nat) : Spec Try.prog (conkContainsFunc_Sint_int_iGraph_leads_1 N) :=
  Spec.of_eq (fn_spec (cxkContainsFunc_Sint_int_iGraph_leads_1 N) (f := 147) (fn := Try.f147) (c := codeOf Try.f147) (by kernel_rfl) (by kernel_rfl) (by kernel_rfl) (loops_at (ids := []) (by kernel_rfl) (trivial)) (by kernel_rfl)) (fun x r h => (FkContainsFunc_Sint_int_iGraph_leads_1_eq N x).trans h)

/-! ### 126: impl.Graph).leads -/

noncomputable def diniGraph_leads : Desc := { n := 3, regs := [.one (.val (.pair (.sl (.pair (.sl (.int .i64)) (.pair (.sl (.int .i64)) .unit))) (.pair (.sl (.sl (.int .i64))) (.pair (.sl (.int .i64)) .unit)))), .one (.val (.sl (.int .i64))), .one (.val (.int .i64))], bx := [], pins := [] }
noncomputable def outiGraph_leads : Outs := [(.ret, { n := 1, regs := [.one (.val .bool)], bx := [], pins := [] })]
noncomputable def HiGraph_leads : Hints := [(0, [(0, { fz := true }), (1, { fz := true })])]
noncomputable def EiGraph_leads (N : Nat) : Env := { te := TE, cs := [conkContainsFunc_Sint_int_iGraph_leads_1 N] }
noncomputable def FiGraph_leads (N : Nat) (x : (((List ((List Int) × ((List Int) × Unit))) × ((List (List Int)) × ((List Int) × Unit))) × ((List Int) × (Int × Unit)))) : Option (Bool × Unit) :=
  (FkContainsFunc_Sint_int_iGraph_leads_1 N (x.2.1, x.2.2.1, x.1, ())).bind fun r1 =>
  some (!r1.1, ())
noncomputable def coniGraph_leads (N : Nat) : Con := { f := 126, din := diniGraph_leads, outs := outiGraph_leads, F := FiGraph_leads N }
noncomputable def XiGraph_leads (N : Nat) : Ctx := { E := EiGraph_leads N, H := HiGraph_leads, lp := [], jn := [] }
theorem FiGraph_leads_eq (N : Nat) (x : (((List ((List Int) × ((List Int) × Unit))) × ((List (List Int)) × ((List Int) × Unit))) × ((List Int) × (Int × Unit)))) : evFn (XiGraph_leads N) Try.f126 diniGraph_leads outiGraph_leads x = FiGraph_leads N x := by kernel_rfl
theorem cxiGraph_leads (N : Nat) : CtxOk Try.prog (XiGraph_leads N) := ⟨⟨TE_ok, List.forall_mem_cons.2 ⟨(speckContainsFunc_Sint_int_iGraph_leads_1 N), fun k hk => absurd hk List.not_mem_nil⟩⟩, mixed⟩
theorem speciGraph_leads (N : Nat) : Spec Try.prog (coniGraph_leads N) :=
  Spec.of_eq (fn_spec (cxiGraph_leads N) (f := 126) (fn := Try.f126) (c := codeOf Try.f126) (by kernel_rfl) (by kernel_rfl) (by kernel_rfl) (loops_at (ids := []) (by kernel_rfl) (trivial)) (by kernel_rfl)) (fun x r h => (FiGraph_leads_eq N x).trans h)

/-! ### 66: impl.GraphOk -/

noncomputable def diniGraphOk : Desc := { n := 1, regs := [.one (.val (.pair (.sl (.pair (.sl (.int .i64)) (.pair (.sl (.int .i64)) .unit))) (.pair (.sl (.sl (.int .i64))) (.pair (.sl (.int .i64)) .unit))))], bx := [], pins := [] }
noncomputable def outiGraphOk : Outs := [(.ret, { n := 1, regs := [.one (.val .bool)], bx := [], pins := [] })]
noncomputable def HiGraphOk : Hints := [(0, [(0, { fz := true })])]
noncomputable def EiGraphOk (N : Nat) : Env := { te := TE, cs := [coniGraph_leads N] }
noncomputable def diGraphOk_0 : Desc := { n := 78, regs := [u, .one (.fpt (.pair (.sl (.pair (.sl (.int .i64)) (.pair (.sl (.int .i64)) .unit))) (.pair (.sl (.sl (.int .i64))) (.pair (.sl (.int .i64)) .unit)))), u, u, u, u, u, u, u, u, u, u, u, u, u, u, u, u, u, u, u, u, u, u, u, u, u, u, u, u, u, u, u, u, u, u, u, .one (.val (.sl (.pair (.sl (.int .i64)) (.pair (.sl (.int .i64)) .unit)))), .one (.val (.int .i64)), .one (.val (.int .i64))], bx := [], pins := [] }
noncomputable def oiGraphOk_0 : Outs := [(.exit 0, { n := 78, regs := [u, .one (.fpt (.pair (.sl (.pair (.sl (.int .i64)) (.pair (.sl (.int .i64)) .unit))) (.pair (.sl (.sl (.int .i64))) (.pair (.sl (.int .i64)) .unit))))], bx := [], pins := [] }), (.ret, { n := 78, regs := [u, u, .one (.val .bool)], bx := [], pins := [] })]
noncomputable def diGraphOk_2 : Desc := { n := 78, regs := [u, .one (.fpt (.pair (.sl (.pair (.sl (.int .i64)) (.pair (.sl (.int .i64)) .unit))) (.pair (.sl (.sl (.int .i64))) (.pair (.sl (.int .i64)) .unit)))), u, u, u, u, u, u, u, u, u, u, u, u, u, u, u, u, u, u, u, u, u, u, u, u, u, u, u, u, u, u, u, u, u, u, u, u, u, u, u, u, u, u, u, u, u, u, u, u, u, u, u, u, u, u, u, u, u, u, u, u, .one (.val (.sl (.sl (.int .i64)))), .one (.val (.int .i64)), .one (.val (.int .i64))], bx := [], pins := [] }
noncomputable def oiGraphOk_2 : Outs := [(.exit 2, { n := 78, regs := [], bx := [], pins := [] }), (.ret, { n := 78, regs := [u, u, .one (.val .bool)], bx := [], pins := [] })]
noncomputable def jiGraphOk_3 : Outs := [(.normal, { n := 78, regs := [u, .one (.fpt (.pair (.sl (.pair (.sl (.int .i64)) (.pair (.sl (.int .i64)) .unit))) (.pair (.sl (.sl (.int .i64))) (.pair (.sl (.int .i64)) .unit))))], bx := [], pins := [] }), (.ret, { n := 78, regs := [u, u, .one (.val .bool)], bx := [], pins := [] })]
noncomputable def liGraphOk_0 (N : Nat) : Nat → (((List ((List Int) × ((List Int) × Unit))) × ((List (List Int)) × ((List Int) × Unit))) × ((List ((List Int) × ((List Int) × Unit))) × (Int × (Int × Unit)))) → Option ((((List ((List Int) × ((List Int) × Unit))) × ((List (List Int)) × ((List Int) × Unit))) × Unit) ⊕ (Bool × Unit))
  | 0, _ => none
  | n + 1, v =>
    bif decide (v.2.2.2.1 < v.2.2.1) then
     bif decide (0 ≤ v.2.2.2.1) then
     bif decide (v.2.2.2.1.toNat < v.2.1.length) then
     let y8 := v.2.1.getD v.2.2.2.1.toNat (([] : (List Int)), ([] : (List Int)), ())
     let y9 := decide ((y8.1.length : Int) > (4 : Int))
     bif y9 then
      some (.inr ((false, ())))
     else
     let y10 := decide ((y8.2.1.length : Int) > (4 : Int))
     bif y10 then
      some (.inr ((false, ())))
     else
     (FiGraph_leads N (v.1, y8.1, (-1 : Int), ())).bind fun r11 =>
     bif !r11.1 then
      some (.inr ((false, ())))
     else
     liGraphOk_0 N n (v.1, v.2.1, v.2.2.1, w64 (v.2.2.2.1 + (1 : Int)), ())
     else none
     else none
    else
    some (.inl (v.1, ()))
noncomputable def liGraphOk_2 (N : Nat) : Nat → (((List ((List Int) × ((List Int) × Unit))) × ((List (List Int)) × ((List Int) × Unit))) × ((List (List Int)) × (Int × (Int × Unit)))) → Option (Unit ⊕ (Bool × Unit))
  | 0, _ => none
  | n + 1, v =>
    bif decide (v.2.2.2.1 < v.2.2.1) then
     bif decide (0 ≤ v.2.2.2.1) then
     bif decide (v.2.2.2.1.toNat < v.2.1.length) then
     let y14 := v.2.1.getD v.2.2.2.1.toNat ([] : (List Int))
     let y15 := decide ((y14.length : Int) > (8 : Int))
     bif y15 then
      some (.inr ((false, ())))
     else
     (FiGraph_leads N (v.1, y14, (-1 : Int), ())).bind fun r16 =>
     bif !r16.1 then
      some (.inr ((false, ())))
     else
     liGraphOk_2 N n (v.1, v.2.1, v.2.2.1, w64 (v.2.2.2.1 + (1 : Int)), ())
     else none
     else none
    else
    some (.inl ())
noncomputable def FiGraphOk (N : Nat) (x : (((List ((List Int) × ((List Int) × Unit))) × ((List (List Int)) × ((List Int) × Unit))) × Unit)) : Option (Bool × Unit) :=
  Option.bind (
   let y1 := decide ((x.1.1.length : Int) > (200 : Int))
   bif y1 then
    some (.inr ((false, ())))
   else
   let y2 := decide ((x.1.2.1.length : Int) < (1 : Int))
   bif y2 then
    some (.inr ((false, ())))
   else
   let y3 := decide ((x.1.2.1.length : Int) > (3 : Int))
   bif y3 then
    some (.inr ((false, ())))
   else
   let y4 := decide ((x.1.2.2.1.length : Int) > (8 : Int))
   bif y4 then
    some (.inr ((false, ())))
   else
   (FiGraph_leads N (x.1, x.1.2.2.1, (0 : Int), ())).bind fun r5 =>
   bif !r5.1 then
    some (.inr ((false, ())))
   else
   some (.inl (x.1, ()))) fun o6 =>
  Sum.elim (fun o7 =>
   (liGraphOk_0 N N (o7.1, o7.1.1, (o7.1.1.length : Int), (0 : Int), ())).bind fun o12 =>
   Sum.elim (fun o13 =>
    (liGraphOk_2 N N (o13.1, o13.1.2.1, (o13.1.2.1.length : Int), (0 : Int), ())).bind fun o17 =>
    Sum.elim (fun o18 =>
     some (true, ())) (fun o19 =>
     some (o19.1, ())) o17) (fun o20 =>
    some (o20.1, ())) o12) (fun o21 =>
   some (o21.1, ())) o6
noncomputable def coniGraphOk (N : Nat) : Con := { f := 66, din := diniGraphOk, outs := outiGraphOk, F := FiGraphOk N }
noncomputable def XiGraphOk (N : Nat) : Ctx := { E := EiGraphOk N, H := HiGraphOk, lp := [(0, { hd := diGraphOk_0, outs := oiGraphOk_0, run := fun v => liGraphOk_0 N N v }), (2, { hd := diGraphOk_2, outs := oiGraphOk_2, run := fun v => liGraphOk_2 N N v })], jn := [(3, jiGraphOk_3)] }
noncomputable def biGraphOk_2 : Code := loopBody (codeOf Try.f66) 1
noncomputable def biGraphOk_0 : Code := loopBody (codeOf Try.f66) 0
theorem FiGraphOk_eq (N : Nat) (x : (((List ((List Int) × ((List Int) × Unit))) × ((List (List Int)) × ((List Int) × Unit))) × Unit)) : evFn (XiGraphOk N) Try.f66 diniGraphOk outiGraphOk x = FiGraphOk N x := by kernel_rfl
theorem liGraphOk_0_eq (N n : Nat) (v : (((List ((List Int) × ((List Int) × Unit))) × ((List (List Int)) × ((List Int) × Unit))) × ((List ((List Int) × ((List Int) × Unit))) × (Int × (Int × Unit))))) : liGraphOk_0 N (n + 1) v = ev (XiGraphOk N) biGraphOk_0 (roundK diGraphOk_0 oiGraphOk_0 (liGraphOk_0 N n)) (diGraphOk_0.mk' v) := by kernel_rfl
theorem liGraphOk_2_eq (N n : Nat) (v : (((List ((List Int) × ((List Int) × Unit))) × ((List (List Int)) × ((List Int) × Unit))) × ((List (List Int)) × (Int × (Int × Unit))))) : liGraphOk_2 N (n + 1) v = ev (XiGraphOk N) biGraphOk_2 (roundK diGraphOk_2 oiGraphOk_2 (liGraphOk_2 N n)) (diGraphOk_2.mk' v) := by kernel_rfl
theorem cxiGraphOk (N : Nat) : CtxOk Try.prog (XiGraphOk N) := ⟨⟨TE_ok, List.forall_mem_cons.2 ⟨(speciGraph_leads N), fun k hk => absurd hk List.not_mem_nil⟩⟩, mixed⟩
theorem lpiGraphOk_0 (N : Nat) : LoopOk Try.prog { hd := diGraphOk_0, outs := oiGraphOk_0, run := fun v => liGraphOk_0 N N v } biGraphOk_0 :=
  loop_fuel (d := diGraphOk_0) (os := oiGraphOk_0) (cxiGraphOk N) (loops_at (ids := []) (by kernel_rfl) (trivial)) (liGraphOk_0 N) (fun _ => rfl) (fun n v => liGraphOk_0_eq N n v) (fun _ => N)
theorem lpiGraphOk_2 (N : Nat) : LoopOk Try.prog { hd := diGraphOk_2, outs := oiGraphOk_2, run := fun v => liGraphOk_2 N N v } biGraphOk_2 :=
  loop_fuel (d := diGraphOk_2) (os := oiGraphOk_2) (cxiGraphOk N) (loops_at (ids := []) (by kernel_rfl) (trivial)) (liGraphOk_2 N) (fun _ => rfl) (fun n v => liGraphOk_2_eq N n v) (fun _ => N)
theorem speciGraphOk (N : Nat) : Spec Try.prog (coniGraphOk N) :=
  Spec.of_eq (fn_spec (cxiGraphOk N) (f := 66) (fn := Try.f66) (c := codeOf Try.f66) (by kernel_rfl) (by kernel_rfl) (by kernel_rfl) (loops_at (ids := [0, 2]) (by kernel_rfl) ⟨lp_of (lpiGraphOk_0 N), ⟨lp_of (lpiGraphOk_2 N), trivial⟩⟩) (by kernel_rfl)) (fun x r h => (FiGraphOk_eq N x).trans h)

/-! ### 75: impl.Graph).hasNode -/

noncomputable def diniGraph_hasNode : Desc := { n := 2, regs := [.one (.val (.pair (.sl (.pair (.sl (.int .i64)) (.pair (.sl (.int .i64)) .unit))) (.pair (.sl (.sl (.int .i64))) (.pair (.sl (.int .i64)) .unit)))), .one (.val (.int .i64))], bx := [], pins := [] }
noncomputable def outiGraph_hasNode : Outs := [(.ret, { n := 1, regs := [.one (.val .bool)], bx := [], pins := [] })]
noncomputable def HiGraph_hasNode : Hints := [(0, [(0, { fz := true })])]
noncomputable def EiGraph_hasNode (_N : Nat) : Env := { te := TE, cs := [] }
noncomputable def FiGraph_hasNode (N : Nat) (x : (((List ((List Int) × ((List Int) × Unit))) × ((List (List Int)) × ((List Int) × Unit))) × (Int × Unit))) : Option (Bool × Unit) :=
  bif decide (x.2.1 ≥ (0 : Int)) then
   let y1 := decide (x.2.1 < (x.1.1.length : Int))
   some (y1, ())
  else
  some (false, ())
noncomputable def coniGraph_hasNode (N : Nat) : Con := { f := 75, din := diniGraph_hasNode, outs := outiGraph_hasNode, F := FiGraph_hasNode N }
noncomputable def XiGraph_hasNode (N : Nat) : Ctx := { E := EiGraph_hasNode N, H := HiGraph_hasNode, lp := [], jn := [] }
theorem FiGraph_hasNode_eq (N : Nat) (x : (((List ((List Int) × ((List Int) × Unit))) × ((List (List Int)) × ((List Int) × Unit))) × (Int × Unit))) : evFn (XiGraph_hasNode N) Try.f75 diniGraph_hasNode outiGraph_hasNode x = FiGraph_hasNode N x := by kernel_rfl
theorem cxiGraph_hasNode (N : Nat) : CtxOk Try.prog (XiGraph_hasNode N) := ⟨⟨TE_ok, fun k hk => absurd hk List.not_mem_nil⟩, mixed⟩
theorem speciGraph_hasNode (N : Nat) : Spec Try.prog (coniGraph_hasNode N) :=
  Spec.of_eq (fn_spec (cxiGraph_hasNode N) (f := 75) (fn := Try.f75) (c := codeOf Try.f75) (by kernel_rfl) (by kernel_rfl) (by kernel_rfl) (loops_at (ids := []) (by kernel_rfl) (trivial)) (by kernel_rfl)) (fun x r h => (FiGraph_hasNode_eq N x).trans h)

/-! ### 133: slices.Grow[[]int,int] -/

noncomputable def dinkGrow_Sint_int : Desc := { n := 2, regs := [.one (.lit .nil), .one (.val (.int .i64))], bx := [], pins := [] }
noncomputable def outkGrow_Sint_int : Outs := [(.ret, { n := 1, regs := [.one (.lit (.row 1064320))], bx := [(1064320, .row (.int .i64))], pins := [] })]
noncomputable def HkGrow_Sint_int : Hints := [(5, [(8, { dp := true })]),
  (6, [(0, { nl := [(0, (.int .i64))] })])]
noncomputable def EkGrow_Sint_int (_N : Nat) : Env := { te := TE, cs := [] }
noncomputable def jkGrow_Sint_int_3 : Outs := [(.normal, { n := 27, regs := [.one (.lit .nil), .one (.val (.int .i64))], bx := [], pins := [] })]
noncomputable def FkGrow_Sint_int (N : Nat) (x : (Int × Unit)) : Option ((List Int) × Unit) :=
  Option.bind (
   bif decide (x.1 < (0 : Int)) then
    none
   else
   some (x.1, ())) fun o1 =>
  let y2 := w64 (o1.1 - (w64 ((0 : Int) - (0 : Int))))
  bif decide (y2 > (0 : Int)) then
   bif decide (0 ≤ (0 : Int)) then
   bif decide ((0 : Int) ≤ (0 : Int)) then
   bif decide (0 ≤ (0 : Int)) then
   bif decide ((0 : Int) ≤ (0 : Int)) then
   bif decide (0 ≤ y2) then
   bif decide (y2.toNat ≤ lim) then
   bif decide (0 ≤ (0 : Int)) then
   bif decide ((0 : Int) ≤ ((List.replicate y2.toNat (0 : Int)).length : Int)) then
   bif decide (0 ≤ (0 : Int)) then
   bif decide ((0 : Int) ≤ (0 : Int)) then
   let y3 := ((List.replicate y2.toNat (0 : Int)).drop (0 : Int).toNat).take ((0 : Int).toNat - (0 : Int).toNat)
   some (y3, ())
   else none
   else none
   else none
   else none
   else none
   else none
   else none
   else none
   else none
   else none
  else
  some (([] : (List Int)), ())
noncomputable def conkGrow_Sint_int (N : Nat) : Con := { f := 133, din := dinkGrow_Sint_int, outs := outkGrow_Sint_int, F := FkGrow_Sint_int N }
noncomputable def XkGrow_Sint_int (N : Nat) : Ctx := { E := EkGrow_Sint_int N, H := HkGrow_Sint_int, lp := [], jn := [(3, jkGrow_Sint_int_3)] }
theorem FkGrow_Sint_int_eq (N : Nat) (x : (Int × Unit)) : evFn (XkGrow_Sint_int N) Try.f133 dinkGrow_Sint_int outkGrow_Sint_int x = FkGrow_Sint_int N x := by kernel_rfl
theorem cxkGrow_Sint_int (N : Nat) : CtxOk Try.prog (XkGrow_Sint_int N) := ⟨⟨TE_ok, fun k hk => absurd hk List.not_mem_nil⟩, mixed⟩
theorem speckGrow_Sint_int (N : Nat) : Spec Try.prog (conkGrow_Sint_int N) :=
  Spec.of_eq (fn_spec (cxkGrow_Sint_int N) (f := 133) (fn := Try.f133) (c := codeOf Try.f133) (by kernel_rfl) (by kernel_rfl) (by kernel_rfl) (loops_at (ids := []) (by kernel_rfl) (trivial)) (by kernel_rfl)) (fun x r h => (FkGrow_Sint_int_eq N x).trans h)

/-! ### 76: slices.Concat[[]int,int] -/

noncomputable def dinkConcat_Sint_int : Desc := { n := 1, regs := [.one (.val (.sl (.sl (.int .i64))))], bx := [], pins := [] }
noncomputable def outkConcat_Sint_int : Outs := [(.ret, { n := 1, regs := [.one (.lit (.row 1115265))], bx := [(1115265, .row (.int .i64))], pins := [] })]
noncomputable def HkConcat_Sint_int : Hints := []
noncomputable def EkConcat_Sint_int (N : Nat) : Env := { te := TE, cs := [conkGrow_Sint_int N] }
noncomputable def dkConcat_Sint_int_0 : Desc := { n := 36, regs := [.one (.val (.sl (.sl (.int .i64)))), u, u, .one (.val (.int .i64)), u, u, u, u, u, .one (.val (.sl (.sl (.int .i64)))), .one (.val (.int .i64)), .one (.val (.int .i64))], bx := [], pins := [] }
noncomputable def okConcat_Sint_int_0 : Outs := [(.exit 0, { n := 36, regs := [.one (.val (.sl (.sl (.int .i64)))), u, u, .one (.val (.int .i64))], bx := [], pins := [] })]
noncomputable def dkConcat_Sint_int_2 : Desc := { n := 36, regs := [u, u, u, u, u, u, .one (.lit (.row 1115265)), u, u, u, u, u, u, u, u, u, u, u, u, u, u, u, u, u, u, .one (.val (.sl (.sl (.int .i64)))), .one (.val (.int .i64)), .one (.val (.int .i64))], bx := [(1115265, .row (.int .i64))], pins := [] }
noncomputable def okConcat_Sint_int_2 : Outs := [(.exit 2, { n := 36, regs := [u, u, u, u, u, u, .one (.lit (.row 1115265))], bx := [(1115265, .row (.int .i64))], pins := [] })]
noncomputable def lkConcat_Sint_int_0 (N : Nat) : Nat → ((List (List Int)) × (Int × ((List (List Int)) × (Int × (Int × Unit))))) → Option ((List (List Int)) × (Int × Unit))
  | 0, _ => none
  | n + 1, v =>
    bif decide (v.2.2.2.2.1 < v.2.2.2.1) then
     bif decide (0 ≤ v.2.2.2.2.1) then
     bif decide (v.2.2.2.2.1.toNat < v.2.2.1.length) then
     let y1 := v.2.2.1.getD v.2.2.2.2.1.toNat ([] : (List Int))
     let y2 := decide ((w64 (v.2.1 + (y1.length : Int))) < (0 : Int))
     bif y2 then
      none
     else
     lkConcat_Sint_int_0 N n (v.1, w64 (v.2.1 + (y1.length : Int)), v.2.2.1, v.2.2.2.1, w64 (v.2.2.2.2.1 + (1 : Int)), ())
     else none
     else none
    else
    some (v.1, v.2.1, ())
noncomputable def lkConcat_Sint_int_2 (N : Nat) : Nat → ((List (List Int)) × (Int × (Int × ((List Int) × Unit)))) → Option ((List Int) × Unit)
  | 0, _ => none
  | n + 1, v =>
    bif decide (v.2.2.1 < v.2.1) then
     bif decide (0 ≤ v.2.2.1) then
     bif decide (v.2.2.1.toNat < v.1.length) then
     let y5 := v.1.getD v.2.2.1.toNat ([] : (List Int))
     bif decide (v.2.2.2.1.length + y5.length ≤ lim) then
     lkConcat_Sint_int_2 N n (v.1, v.2.1, w64 (v.2.2.1 + (1 : Int)), v.2.2.2.1 ++ y5, ())
     else none
     else none
     else none
    else
    some (v.2.2.2.1, ())
noncomputable def FkConcat_Sint_int (N : Nat) (x : ((List (List Int)) × Unit)) : Option ((List Int) × Unit) :=
  (lkConcat_Sint_int_0 N N (x.1, (0 : Int), x.1, (x.1.length : Int), (0 : Int), ())).bind fun o3 =>
  (FkGrow_Sint_int N (o3.2.1, ())).bind fun r4 =>
  (lkConcat_Sint_int_2 N N (o3.1, (o3.1.length : Int), (0 : Int), r4.1, ())).bind fun o6 =>
  some (o6.1, ())
noncomputable def conkConcat_Sint_int (N : Nat) : Con := { f := 76, din := dinkConcat_Sint_int, outs := outkConcat_Sint_int, F := FkConcat_Sint_int N }
noncomputable def XkConcat_Sint_int (N : Nat) : Ctx := { E := EkConcat_Sint_int N, H := HkConcat_Sint_int, lp := [(0, { hd := dkConcat_Sint_int_0, outs := okConcat_Sint_int_0, run := fun v => lkConcat_Sint_int_0 N N v }), (2, { hd := dkConcat_Sint_int_2, outs := okConcat_Sint_int_2, run := fun v => lkConcat_Sint_int_2 N N v })], jn := [] }
noncomputable def bkConcat_Sint_int_2 : Code := loopBody (codeOf Try.f76) 1
noncomputable def bkConcat_Sint_int_0 : Code := loopBody (codeOf Try.f76) 0
theorem FkConcat_Sint_int_eq (N : Nat) (x : ((List (List Int)) × Unit)) : evFn (XkConcat_Sint_int N) Try.f76 dinkConcat_Sint_int outkConcat_Sint_int x = FkConcat_Sint_int N x := by kernel_rfl
theorem lkConcat_Sint_int_0_eq (N n : Nat) (v : ((List (List Int)) × (Int × ((List (List Int)) × (Int × (Int × Unit)))))) : lkConcat_Sint_int_0 N (n + 1) v = ev (XkConcat_Sint_int N) bkConcat_Sint_int_0 (roundK dkConcat_Sint_int_0 okConcat_Sint_int_0 (lkConcat_Sint_int_0 N n)) (dkConcat_Sint_int_0.mk' v) := by kernel_rfl
theorem lkConcat_Sint_int_2_eq (N n : Nat) (v : ((List (List Int)) × (Int × (Int × ((List Int) × Unit))))) : lkConcat_Sint_int_2 N (n + 1) v = ev (XkConcat_Sint_int N) bkConcat_Sint_int_2 (roundK dkConcat_Sint_int_2 okConcat_Sint_int_2 (lkConcat_Sint_int_2 N n)) (dkConcat_Sint_int_2.mk' v) := by kernel_rfl
theorem cxkConcat_Sint_int (N : Nat) : CtxOk Try.prog (XkConcat_Sint_int N) := ⟨⟨TE_ok, List.forall_mem_cons.2 ⟨(speckGrow_Sint_int N), fun k hk => absurd hk List.not_mem_nil⟩⟩, mixed⟩
theorem lpkConcat_Sint_int_0 (N : Nat) : LoopOk Try.prog { hd := dkConcat_Sint_int_0, outs := okConcat_Sint_int_0, run := fun v => lkConcat_Sint_int_0 N N v } bkConcat_Sint_int_0 :=
  loop_fuel (d := dkConcat_Sint_int_0) (os := okConcat_Sint_int_0) (cxkConcat_Sint_int N) (loops_at (ids := []) (by kernel_rfl) (trivial)) (lkConcat_Sint_int_0 N) (fun _ => rfl) (fun n v => lkConcat_Sint_int_0_eq N n v) (fun _ => N)
theorem lpkConcat_Sint_int_2 (N : Nat) : LoopOk Try.prog { hd := dkConcat_Sint_int_2, outs := okConcat_Sint_int_2, run := fun v => lkConcat_Sint_int_2 N N v } bkConcat_Sint_int_2 :=
  loop_fuel (d := dkConcat_Sint_int_2) (os := okConcat_Sint_int_2) (cxkConcat_Sint_int N) (loops_at (ids := []) (by kernel_rfl) (trivial)) (lkConcat_Sint_int_2 N) (fun _ => rfl) (fun n v => lkConcat_Sint_int_2_eq N n v) (fun _ => N)
theorem speckConcat_Sint_int (N : Nat) : Spec Try.prog (conkConcat_Sint_int N) :=
  Spec.of_eq (fn_spec (cxkConcat_Sint_int N) (f := 76) (fn := Try.f76) (c := codeOf Try.f76) (by kernel_rfl) (by kernel_rfl) (by kernel_rfl) (loops_at (ids := [0, 2]) (by kernel_rfl) ⟨lp_of (lpkConcat_Sint_int_0 N), ⟨lp_of (lpkConcat_Sint_int_2 N), trivial⟩⟩) (by kernel_rfl)) (fun x r h => (FkConcat_Sint_int_eq N x).trans h)

/-! ### 127: impl.Graph).from$1 -/

noncomputable def diniGraph_from_1_iGraph_from_1 : Desc := { n := 5, regs := [.one (.val (.sl (.int .i64))), .one (.fpt (.int .i64)), .one (.lit (.ptr 128 0)), .one (.lit (.ptr 192 0)), .one (.fpt (.pair (.sl (.pair (.sl (.int .i64)) (.pair (.sl (.int .i64)) .unit))) (.pair (.sl (.sl (.int .i64))) (.pair (.sl (.int .i64)) .unit))))], bx := [(128, .var [.lit (.mrow 129)]), (129, .mp .bool), (192, .var [.clo 127 [.inr (.int .i64), .inl 128, .inl 192, .inr (.pair (.sl (.pair (.sl (.int .i64)) (.pair (.sl (.int .i64)) .unit))) (.pair (.sl (.sl (.int .i64))) (.pair (.sl (.int .i64)) .unit)))]])], pins := [] }
noncomputable def outiGraph_from_1_iGraph_from_1 : Outs := [(.ret, { n := 0, regs := [], bx := [(128, .var [.lit (.mrow 129)]), (129, .mp .bool), (192, .var [.clo 127 [.inr (.int .i64), .inl 128, .inl 192, .inr (.pair (.sl (.pair (.sl (.int .i64)) (.pair (.sl (.int .i64)) .unit))) (.pair (.sl (.sl (.int .i64))) (.pair (.sl (.int .i64)) .unit)))]])], pins := [u, u, .one (.lit (.ptr 128 0)), .one (.lit (.ptr 192 0))] })]
noncomputable def HiGraph_from_1_iGraph_from_1 : Hints := []
noncomputable def diGraph_from_1_iGraph_from_1_0 : Desc := { n := 38, regs := [u, .one (.fpt (.int .i64)), .one (.lit (.ptr 128 0)), .one (.lit (.ptr 192 0)), .one (.fpt (.pair (.sl (.pair (.sl (.int .i64)) (.pair (.sl (.int .i64)) .unit))) (.pair (.sl (.sl (.int .i64))) (.pair (.sl (.int .i64)) .unit)))), u, u, u, .one (.val (.sl (.int .i64))), .one (.val (.int .i64)), .one (.val (.int .i64))], bx := [(128, .var [.lit (.mrow 129)]), (129, .mp .bool), (192, .var [.clo 127 [.inr (.int .i64), .inl 128, .inl 192, .inr (.pair (.sl (.pair (.sl (.int .i64)) (.pair (.sl (.int .i64)) .unit))) (.pair (.sl (.sl (.int .i64))) (.pair (.sl (.int .i64)) .unit)))]])], pins := [u, u, .one (.lit (.ptr 128 0)), .one (.lit (.ptr 192 0))] }
noncomputable def oiGraph_from_1_iGraph_from_1_0 : Outs := [(.exit 0, { n := 38, regs := [], bx := [(128, .var [.lit (.mrow 129)]), (129, .mp .bool), (192, .var [.clo 127 [.inr (.int .i64), .inl 128, .inl 192, .inr (.pair (.sl (.pair (.sl (.int .i64)) (.pair (.sl (.int .i64)) .unit))) (.pair (.sl (.sl (.int .i64))) (.pair (.sl (.int .i64)) .unit)))]])], pins := [u, u, .one (.lit (.ptr 128 0)), .one (.lit (.ptr 192 0))] })]
noncomputable def liGraph_from_1_iGraph_from_1_0 (N : Nat) (f_ : ((List Int) × (Int × (((List ((List Int) × ((List Int) × Unit))) × ((List (List Int)) × ((List Int) × Unit))) × ((List (Int × Bool)) × (Int × (((List ((List Int) × ((List Int) × Unit))) × ((List (List Int)) × ((List Int) × Unit))) × Unit)))))) → Option ((List (Int × Bool)) × (Int × (((List ((List Int) × ((List Int) × Unit))) × ((List (List Int)) × ((List Int) × Unit))) × Unit)))) : Nat → (Int × (((List ((List Int) × ((List Int) × Unit))) × ((List (List Int)) × ((List Int) × Unit))) × ((List Int) × (Int × (Int × ((List (Int × Bool)) × (Int × (((List ((List Int) × ((List Int) × Unit))) × ((List (List Int)) × ((List Int) × Unit))) × Unit)))))))) → Option ((List (Int × Bool)) × (Int × (((List ((List Int) × ((List Int) × Unit))) × ((List (List Int)) × ((List Int) × Unit))) × Unit)))
  | 0, _ => none
  | n + 1, v =>
    bif decide (v.2.2.2.2.1 < v.2.2.2.1) then
     bif decide (0 ≤ v.2.2.2.2.1) then
     bif decide (v.2.2.2.2.1.toNat < v.2.2.1.length) then
     let y1 := v.2.2.1.getD v.2.2.2.2.1.toNat (0 : Int)
     bif decide (y1 ≥ (0 : Int)) then
      bif y1 != v.1 then
       let y2 := !((mget v.2.2.2.2.2.1 y1).getD false)
       bif y2 then
        bif decide (0 ≤ y1) then
        bif decide (y1.toNat < v.2.1.1.length) then
        let y3 := v.2.1.1.getD y1.toNat (([] : (List Int)), ([] : (List Int)), ())
        (f_ (y3.1, v.2.2.2.2.2.2.1, v.2.2.2.2.2.2.2.1, mset v.2.2.2.2.2.1 y1 true, v.2.2.2.2.2.2.1, v.2.2.2.2.2.2.2.1, ())).bind fun r4 =>
        liGraph_from_1_iGraph_from_1_0 N f_ n (v.1, v.2.1, v.2.2.1, v.2.2.2.1, w64 (v.2.2.2.2.1 + (1 : Int)), r4.1, r4.2.1, r4.2.2.1, ())
        else none
        else none
       else
       liGraph_from_1_iGraph_from_1_0 N f_ n (v.1, v.2.1, v.2.2.1, v.2.2.2.1, w64 (v.2.2.2.2.1 + (1 : Int)), v.2.2.2.2.2.1, v.2.2.2.2.2.2.1, v.2.2.2.2.2.2.2.1, ())
      else
      liGraph_from_1_iGraph_from_1_0 N f_ n (v.1, v.2.1, v.2.2.1, v.2.2.2.1, w64 (v.2.2.2.2.1 + (1 : Int)), v.2.2.2.2.2.1, v.2.2.2.2.2.2.1, v.2.2.2.2.2.2.2.1, ())
     else
     liGraph_from_1_iGraph_from_1_0 N f_ n (v.1, v.2.1, v.2.2.1, v.2.2.2.1, w64 (v.2.2.2.2.1 + (1 : Int)), v.2.2.2.2.2.1, v.2.2.2.2.2.2.1, v.2.2.2.2.2.2.2.1, ())
     else none
     else none
    else
    some (v.2.2.2.2.2.1, v.2.2.2.2.2.2.1, v.2.2.2.2.2.2.2.1, ())
noncomputable def FiGraph_from_1_iGraph_from_1 (N : Nat) : Nat → ((List Int) × (Int × (((List ((List Int) × ((List Int) × Unit))) × ((List (List Int)) × ((List Int) × Unit))) × ((List (Int × Bool)) × (Int × (((List ((List Int) × ((List Int) × Unit))) × ((List (List Int)) × ((List Int) × Unit))) × Unit)))))) → Option ((List (Int × Bool)) × (Int × (((List ((List Int) × ((List Int) × Unit))) × ((List (List Int)) × ((List Int) × Unit))) × Unit)))
  | 0, _ => none
  | m_ + 1, x =>
  (liGraph_from_1_iGraph_from_1_0 N (fun x_ => FiGraph_from_1_iGraph_from_1 N m_ x_) N (x.2.1, x.2.2.1, x.1, (x.1.length : Int), (0 : Int), x.2.2.2.1, x.2.2.2.2.1, x.2.2.2.2.2.1, ())).bind fun o5 =>
  some (o5.1, o5.2.1, o5.2.2.1, ())
noncomputable def coniGraph_from_1_iGraph_from_1 (N : Nat) (m_ : Nat) : Con := { f := 127, din := diniGraph_from_1_iGraph_from_1, outs := outiGraph_from_1_iGraph_from_1, F := FiGraph_from_1_iGraph_from_1 N m_ }
noncomputable def EiGraph_from_1_iGraph_from_1 (N : Nat) (m_ : Nat) : Env := { te := TE, cs := [coniGraph_from_1_iGraph_from_1 N m_] }
noncomputable def XiGraph_from_1_iGraph_from_1 (N : Nat) (m_ : Nat) : Ctx := { E := EiGraph_from_1_iGraph_from_1 N m_, H := HiGraph_from_1_iGraph_from_1, lp := [(0, { hd := diGraph_from_1_iGraph_from_1_0, outs := oiGraph_from_1_iGraph_from_1_0, run := fun v => liGraph_from_1_iGraph_from_1_0 N (fun x_ => FiGraph_from_1_iGraph_from_1 N m_ x_) N v })], jn := [] }
noncomputable def biGraph_from_1_iGraph_from_1_0 : Code := loopBody (codeOf Try.f127) 0
theorem FiGraph_from_1_iGraph_from_1_eq (N m_ : Nat) (x : ((List Int) × (Int × (((List ((List Int) × ((List Int) × Unit))) × ((List (List Int)) × ((List Int) × Unit))) × ((List (Int × Bool)) × (Int × (((List ((List Int) × ((List Int) × Unit))) × ((List (List Int)) × ((List Int) × Unit))) × Unit))))))) : evFn (XiGraph_from_1_iGraph_from_1 N m_) Try.f127 diniGraph_from_1_iGraph_from_1 outiGraph_from_1_iGraph_from_1 x = FiGraph_from_1_iGraph_from_1 N (m_ + 1) x := by kernel_rfl
theorem liGraph_from_1_iGraph_from_1_0_eq (N m_ n : Nat) (v : (Int × (((List ((List Int) × ((List Int) × Unit))) × ((List (List Int)) × ((List Int) × Unit))) × ((List Int) × (Int × (Int × ((List (Int × Bool)) × (Int × (((List ((List Int) × ((List Int) × Unit))) × ((List (List Int)) × ((List Int) × Unit))) × Unit))))))))) : liGraph_from_1_iGraph_from_1_0 N (fun x_ => FiGraph_from_1_iGraph_from_1 N m_ x_) (n + 1) v = ev (XiGraph_from_1_iGraph_from_1 N m_) biGraph_from_1_iGraph_from_1_0 (roundK diGraph_from_1_iGraph_from_1_0 oiGraph_from_1_iGraph_from_1_0 (liGraph_from_1_iGraph_from_1_0 N (fun x_ => FiGraph_from_1_iGraph_from_1 N m_ x_) n)) (diGraph_from_1_iGraph_from_1_0.mk' v) := by kernel_rfl
theorem cxiGraph_from_1_iGraph_from_1 (N : Nat) (m_ : Nat) (hs : Spec Try.prog (coniGraph_from_1_iGraph_from_1 N m_)) : CtxOk Try.prog (XiGraph_from_1_iGraph_from_1 N m_) := ⟨⟨TE_ok, List.forall_mem_cons.2 ⟨hs, fun k hk => absurd hk List.not_mem_nil⟩⟩, mixed⟩
theorem lpiGraph_from_1_iGraph_from_1_0 (N : Nat) (m_ : Nat) (hs : Spec Try.prog (coniGraph_from_1_iGraph_from_1 N m_)) : LoopOk Try.prog { hd := diGraph_from_1_iGraph_from_1_0, outs := oiGraph_from_1_iGraph_from_1_0, run := fun v => liGraph_from_1_iGraph_from_1_0 N (fun x_ => FiGraph_from_1_iGraph_from_1 N m_ x_) N v } biGraph_from_1_iGraph_from_1_0 :=
  loop_fuel (d := diGraph_from_1_iGraph_from_1_0) (os := oiGraph_from_1_iGraph_from_1_0) (cxiGraph_from_1_iGraph_from_1 N m_ hs) (loops_at (ids := []) (by kernel_rfl) (trivial)) (liGraph_from_1_iGraph_from_1_0 N (fun x_ => FiGraph_from_1_iGraph_from_1 N m_ x_)) (fun _ => rfl) (fun n v => liGraph_from_1_iGraph_from_1_0_eq N m_ n v) (fun _ => N)
theorem cziGraph_from_1_iGraph_from_1 : CtxOk Try.prog { E := { te := TE, cs := [] }, H := [], lp := [], jn := [] } := ⟨⟨TE_ok, fun k hk => absurd hk List.not_mem_nil⟩, mixed⟩
theorem speciGraph_from_1_iGraph_from_1 (N : Nat) : ∀ m_ : Nat, Spec Try.prog (coniGraph_from_1_iGraph_from_1 N m_)
  | 0 => Spec.of_eq (fn_spec (cziGraph_from_1_iGraph_from_1) (f := 127) (fn := Try.f127) (din := diniGraph_from_1_iGraph_from_1) (os := outiGraph_from_1_iGraph_from_1) (c := codeOf Try.f127) (by kernel_rfl) (by kernel_rfl) (by kernel_rfl) (loops_at (ids := [0]) (by kernel_rfl) ⟨lp_none, trivial⟩) (by kernel_rfl)) (fun x r h => nomatch (show (none : Option _) = some r from h))
  | m_ + 1 => Spec.of_eq (fn_spec (cxiGraph_from_1_iGraph_from_1 N m_ (speciGraph_from_1_iGraph_from_1 N m_)) (f := 127) (fn := Try.f127) (c := codeOf Try.f127) (by kernel_rfl) (by kernel_rfl) (by kernel_rfl) (loops_at (ids := [0]) (by kernel_rfl) ⟨lp_of (lpiGraph_from_1_iGraph_from_1_0 N m_ (speciGraph_from_1_iGraph_from_1 N m_)), trivial⟩) (by kernel_rfl)) (fun x r h => (FiGraph_from_1_iGraph_from_1_eq N m_ x).trans h)

/-! ### 67: impl.Graph).from -/

noncomputable def diniGraph_from : Desc := { n := 3, regs := [.one (.val (.pair (.sl (.pair (.sl (.int .i64)) (.pair (.sl (.int .i64)) .unit))) (.pair (.sl (.sl (.int .i64))) (.pair (.sl (.int .i64)) .unit)))), .one (.val (.sl (.int .i64))), .one (.val (.int .i64))], bx := [], pins := [] }
noncomputable def outiGraph_from : Outs := [(.ret, { n := 1, regs := [.one (.lit (.mrow 1012800))], bx := [(1012800, .mp .bool)], pins := [] })]
noncomputable def HiGraph_from : Hints := [(0, [(0, { fz := true }), (1, { fz := true })]),
  (4, [(2, { sg := [(128, 1012864), (129, 1012800), (192, 1025600)] })])]
noncomputable def EiGraph_from (N : Nat) : Env := { te := TE, cs := [coniGraph_from_1_iGraph_from_1 N N] }
noncomputable def FiGraph_from (N : Nat) (x : (((List ((List Int) × ((List Int) × Unit))) × ((List (List Int)) × ((List Int) × Unit))) × ((List Int) × (Int × Unit)))) : Option ((List (Int × Bool)) × Unit) :=
  (FiGraph_from_1_iGraph_from_1 N N (x.2.1, x.2.2.1, x.1, ([] : (List (Int × Bool))), x.2.2.1, x.1, ())).bind fun r1 =>
  some (r1.1, ())
noncomputable def coniGraph_from (N : Nat) : Con := { f := 67, din := diniGraph_from, outs := outiGraph_from, F := FiGraph_from N }
noncomputable def XiGraph_from (N : Nat) : Ctx := { E := EiGraph_from N, H := HiGraph_from, lp := [], jn := [] }
theorem FiGraph_from_eq (N : Nat) (x : (((List ((List Int) × ((List Int) × Unit))) × ((List (List Int)) × ((List Int) × Unit))) × ((List Int) × (Int × Unit)))) : evFn (XiGraph_from N) Try.f67 diniGraph_from outiGraph_from x = FiGraph_from N x := by kernel_rfl
theorem cxiGraph_from (N : Nat) : CtxOk Try.prog (XiGraph_from N) := ⟨⟨TE_ok, List.forall_mem_cons.2 ⟨(speciGraph_from_1_iGraph_from_1 N N), fun k hk => absurd hk List.not_mem_nil⟩⟩, mixed⟩
theorem speciGraph_from (N : Nat) : Spec Try.prog (coniGraph_from N) :=
  Spec.of_eq (fn_spec (cxiGraph_from N) (f := 67) (fn := Try.f67) (c := codeOf Try.f67) (by kernel_rfl) (by kernel_rfl) (by kernel_rfl) (loops_at (ids := []) (by kernel_rfl) (trivial)) (by kernel_rfl)) (fun x r h => (FiGraph_from_eq N x).trans h)

/-! ### 27: impl.PathHolds -/

noncomputable def diniPathHolds : Desc := { n := 2, regs := [.one (.val (.pair (.sl (.pair (.sl (.int .i64)) (.pair (.sl (.int .i64)) .unit))) (.pair (.sl (.sl (.int .i64))) (.pair (.sl (.int .i64)) .unit)))), .one (.val (.int .i64))], bx := [], pins := [] }
noncomputable def outiPathHolds : Outs := [(.ret, { n := 1, regs := [.one (.lit (.row 1064000))], bx := [(1064000, .row (.int .i64))], pins := [] })]
noncomputable def HiPathHolds : Hints := [(0, [(0, { fz := true })]),
  (1, [(6, { con := 1 })]),
  (2, [(0, { nl := [(0, (.int .i64))] })]),
  (3, [(2, { con := 2 })]),
  (4, [(2, { con := 3 }), (6, { con := 3 })]),
  (5, [(0, { nl := [(0, (.int .i64))] })])]
noncomputable def EiPathHolds (N : Nat) : Env := { te := TE, cs := [coniGraphOk N, coniGraph_hasNode N, conkConcat_Sint_int N, coniGraph_from N] }
noncomputable def diPathHolds_0 : Desc := { n := 53, regs := [u, u, u, u, u, u, .one (.lit (.mrow 1051329)), .one (.lit (.mrow 1051585)), .one (.lit (.row 1064000)), u, u, u, u, u, u, u, u, u, u, u, u, u, u, u, u, u, u, u, u, u, u, u, u, u, .one (.val (.int .i64)), .one (.val (.int .i64))], bx := [(1051329, .mp .bool), (1051585, .mp .bool), (1064000, .row (.int .i64))], pins := [] }
noncomputable def oiPathHolds_0 : Outs := [(.exit 0, { n := 53, regs := [u, u, u, u, u, u, u, u, .one (.lit (.row 1064000))], bx := [(1064000, .row (.int .i64))], pins := [] })]
noncomputable def jiPathHolds_3 : Outs := [(.normal, { n := 53, regs := [u, .one (.val (.int .i64)), .one (.fpt (.pair (.sl (.pair (.sl (.int .i64)) (.pair (.sl (.int .i64)) .unit))) (.pair (.sl (.sl (.int .i64))) (.pair (.sl (.int .i64)) .unit))))], bx := [], pins := [] }), (.ret, { n := 53, regs := [u, u, u, u, .one (.lit (.row 1025600))], bx := [(1025600, .row (.int .i64))], pins := [] })]
noncomputable def liPathHolds_0 (N : Nat) : Nat → (Int × (Int × ((List (Int × Bool)) × ((List (Int × Bool)) × ((List Int) × Unit))))) → Option ((List Int) × Unit)
  | 0, _ => none
  | n + 1, v =>
    bif decide (v.2.1 < v.1) then
     bif (mget v.2.2.1 v.2.1).getD false then
      bif !((mget v.2.2.2.1 v.2.1).getD false) then
       bif decide (v.2.2.2.2.1.length + [v.2.1].length ≤ lim) then
       liPathHolds_0 N n (v.1, w64 (v.2.1 + (1 : Int)), v.2.2.1, v.2.2.2.1, v.2.2.2.2.1 ++ [v.2.1], ())
       else none
      else
      liPathHolds_0 N n (v.1, w64 (v.2.1 + (1 : Int)), v.2.2.1, v.2.2.2.1, v.2.2.2.2.1, ())
     else
     liPathHolds_0 N n (v.1, w64 (v.2.1 + (1 : Int)), v.2.2.1, v.2.2.2.1, v.2.2.2.2.1, ())
    else
    some (v.2.2.2.2.1, ())
noncomputable def FiPathHolds (N : Nat) (x : (((List ((List Int) × ((List Int) × Unit))) × ((List (List Int)) × ((List Int) × Unit))) × (Int × Unit))) : Option ((List Int) × Unit) :=
  Option.bind (
   (FiGraphOk N (x.1, ())).bind fun r1 =>
   bif !r1.1 then
    some (.inr ((([] : (List Int)), ())))
   else
   (FiGraph_hasNode N (x.1, x.2.1, ())).bind fun r2 =>
   bif !r2.1 then
    some (.inr ((([] : (List Int)), ())))
   else
   some (.inl (x.2.1, x.1, ()))) fun o3 =>
  Sum.elim (fun o4 =>
   (FkConcat_Sint_int N (o4.2.1.2.1, ())).bind fun r5 =>
   bif decide (r5.1.length + o4.2.1.2.2.1.length ≤ lim) then
   (FiGraph_from N (o4.2.1, r5.1 ++ o4.2.1.2.2.1, (-1 : Int), ())).bind fun r6 =>
   (FiGraph_from N (o4.2.1, r5.1 ++ o4.2.1.2.2.1, o4.1, ())).bind fun r7 =>
   (liPathHolds_0 N N ((o4.2.1.1.length : Int), (0 : Int), r6.1, r7.1, ([] : (List Int)), ())).bind fun o8 =>
   some (o8.1, ())
   else none) (fun o9 =>
   some (o9.1, ())) o3
noncomputable def coniPathHolds (N : Nat) : Con := { f := 27, din := diniPathHolds, outs := outiPathHolds, F := FiPathHolds N }
noncomputable def XiPathHolds (N : Nat) : Ctx := { E := EiPathHolds N, H := HiPathHolds, lp := [(0, { hd := diPathHolds_0, outs := oiPathHolds_0, run := fun v => liPathHolds_0 N N v })], jn := [(3, jiPathHolds_3)] }
noncomputable def biPathHolds_0 : Code := loopBody (codeOf Try.f27) 0
theorem FiPathHolds_eq (N : Nat) (x : (((List ((List Int) × ((List Int) × Unit))) × ((List (List Int)) × ((List Int) × Unit))) × (Int × Unit))) : evFn (XiPathHolds N) Try.f27 diniPathHolds outiPathHolds x = FiPathHolds N x := by kernel_rfl
theorem liPathHolds_0_eq (N n : Nat) (v : (Int × (Int × ((List (Int × Bool)) × ((List (Int × Bool)) × ((List Int) × Unit)))))) : liPathHolds_0 N (n + 1) v = ev (XiPathHolds N) biPathHolds_0 (roundK diPathHolds_0 oiPathHolds_0 (liPathHolds_0 N n)) (diPathHolds_0.mk' v) := by kernel_rfl
theorem cxiPathHolds (N : Nat) : CtxOk Try.prog (XiPathHolds N) := ⟨⟨TE_ok, List.forall_mem_cons.2 ⟨(speciGraphOk N), List.forall_mem_cons.2 ⟨(speciGraph_hasNode N), List.forall_mem_cons.2 ⟨(speckConcat_Sint_int N), List.forall_mem_cons.2 ⟨(speciGraph_from N), fun k hk => absurd hk List.not_mem_nil⟩⟩⟩⟩⟩, mixed⟩
theorem lpiPathHolds_0 (N : Nat) : LoopOk Try.prog { hd := diPathHolds_0, outs := oiPathHolds_0, run := fun v => liPathHolds_0 N N v } biPathHolds_0 :=
  loop_fuel (d := diPathHolds_0) (os := oiPathHolds_0) (cxiPathHolds N) (loops_at (ids := []) (by kernel_rfl) (trivial)) (liPathHolds_0 N) (fun _ => rfl) (fun n v => liPathHolds_0_eq N n v) (fun _ => N)
theorem speciPathHolds (N : Nat) : Spec Try.prog (coniPathHolds N) :=
  Spec.of_eq (fn_spec (cxiPathHolds N) (f := 27) (fn := Try.f27) (c := codeOf Try.f27) (by kernel_rfl) (by kernel_rfl) (by kernel_rfl) (loops_at (ids := [0]) (by kernel_rfl) ⟨lp_of (lpiPathHolds_0 N), trivial⟩) (by kernel_rfl)) (fun x r h => (FiPathHolds_eq N x).trans h)

/-! ### 77: spec.l5Order -/

noncomputable def dinsl5Order : Desc := { n := 1, regs := [.one (.val (.pair (.sl (.pair (.sl (.int .i64)) (.pair (.sl (.int .i64)) .unit))) (.pair (.sl (.sl (.int .i64))) (.pair (.sl (.int .i64)) .unit))))], bx := [], pins := [] }
noncomputable def outsl5Order : Outs := [(.ret, { n := 1, regs := [.one (.lit (.row 1012800))], bx := [(1012800, .row (.int .i64))], pins := [] })]
noncomputable def Hsl5Order : Hints := [(0, [(0, { fz := true })]),
  (1, [(0, { nl := [(0, (.int .i64))] })])]
noncomputable def Esl5Order (_N : Nat) : Env := { te := TE, cs := [] }
noncomputable def dsl5Order_2 : Desc := { n := 138, regs := [u, .one (.fpt (.pair (.sl (.pair (.sl (.int .i64)) (.pair (.sl (.int .i64)) .unit))) (.pair (.sl (.sl (.int .i64))) (.pair (.sl (.int .i64)) .unit)))), u, .one (.lit (.row 1012800)), .one (.lit (.row 1025792)), .one (.val (.int .i64)), .one (.val (.int .i64))], bx := [(1012800, .row (.int .i64)), (1025792, .row .bool)], pins := [] }
noncomputable def osl5Order_2 : Outs := [(.exit 2, { n := 138, regs := [u, .one (.fpt (.pair (.sl (.pair (.sl (.int .i64)) (.pair (.sl (.int .i64)) .unit))) (.pair (.sl (.sl (.int .i64))) (.pair (.sl (.int .i64)) .unit)))), u, .one (.lit (.row 1012800)), .one (.lit (.row 1025792)), .one (.val (.int .i64))], bx := [(1012800, .row (.int .i64)), (1025792, .row .bool)], pins := [] })]
noncomputable def dsl5Order_0 : Desc := { n := 138, regs := [u, .one (.fpt (.pair (.sl (.pair (.sl (.int .i64)) (.pair (.sl (.int .i64)) .unit))) (.pair (.sl (.sl (.int .i64))) (.pair (.sl (.int .i64)) .unit)))), u, .one (.lit (.row 1012800)), .one (.lit (.row 1025792)), .one (.val (.int .i64))], bx := [(1012800, .row (.int .i64)), (1025792, .row .bool)], pins := [] }
noncomputable def osl5Order_0 : Outs := [(.exit 0, { n := 138, regs := [u, .one (.fpt (.pair (.sl (.pair (.sl (.int .i64)) (.pair (.sl (.int .i64)) .unit))) (.pair (.sl (.sl (.int .i64))) (.pair (.sl (.int .i64)) .unit)))), u, .one (.lit (.row 1012800)), .one (.lit (.row 1025792))], bx := [(1012800, .row (.int .i64)), (1025792, .row .bool)], pins := [] })]
noncomputable def dsl5Order_4 : Desc := { n := 138, regs := [u, .one (.fpt (.pair (.sl (.pair (.sl (.int .i64)) (.pair (.sl (.int .i64)) .unit))) (.pair (.sl (.sl (.int .i64))) (.pair (.sl (.int .i64)) .unit)))), u, .one (.lit (.row 1012800)), .one (.lit (.row 1025792)), u, u, u, .one (.val (.int .i64))], bx := [(1012800, .row (.int .i64)), (1025792, .row .bool)], pins := [] }
noncomputable def osl5Order_4 : Outs := [(.exit 4, { n := 138, regs := [u, .one (.fpt (.pair (.sl (.pair (.sl (.int .i64)) (.pair (.sl (.int .i64)) .unit))) (.pair (.sl (.sl (.int .i64))) (.pair (.sl (.int .i64)) .unit)))), u, .one (.lit (.row 1012800)), .one (.lit (.row 1025792))], bx := [(1012800, .row (.int .i64)), (1025792, .row .bool)], pins := [] })]
noncomputable def dsl5Order_8 : Desc := { n := 138, regs := [u, .one (.fpt (.pair (.sl (.pair (.sl (.int .i64)) (.pair (.sl (.int .i64)) .unit))) (.pair (.sl (.sl (.int .i64))) (.pair (.sl (.int .i64)) .unit)))), u, .one (.lit (.row 1012800)), .one (.lit (.row 1025792)), u, u, u, u, .one (.val (.int .i64)), .one (.val (.sl (.int .i64))), .one (.val (.int .i64))], bx := [(1012800, .row (.int .i64)), (1025792, .row .bool)], pins := [] }
noncomputable def osl5Order_8 : Outs := [(.exit 8, { n := 138, regs := [u, .one (.fpt (.pair (.sl (.pair (.sl (.int .i64)) (.pair (.sl (.int .i64)) .unit))) (.pair (.sl (.sl (.int .i64))) (.pair (.sl (.int .i64)) .unit)))), u, .one (.lit (.row 1012800)), .one (.lit (.row 1025792)), u, u, u, u, .one (.val (.int .i64))], bx := [(1012800, .row (.int .i64)), (1025792, .row .bool)], pins := [] })]
noncomputable def dsl5Order_6 : Desc := { n := 138, regs := [u, .one (.fpt (.pair (.sl (.pair (.sl (.int .i64)) (.pair (.sl (.int .i64)) .unit))) (.pair (.sl (.sl (.int .i64))) (.pair (.sl (.int .i64)) .unit)))), u, .one (.lit (.row 1012800)), .one (.lit (.row 1025792)), u, u, u, u, .one (.val (.int .i64))], bx := [(1012800, .row (.int .i64)), (1025792, .row .bool)], pins := [] }
noncomputable def osl5Order_6 : Outs := [(.exit 6, { n := 138, regs := [u, u, u, .one (.lit (.row 1012800))], bx := [(1012800, .row (.int .i64))], pins := [] })]
noncomputable def lsl5Order_2 (N : Nat) : Nat → (((List ((List Int) × ((List Int) × Unit))) × ((List (List Int)) × ((List Int) × Unit))) × (Int × (Int × ((List Int) × ((List Bool) × Unit))))) → Option (((List ((List Int) × ((List Int) × Unit))) × ((List (List Int)) × ((List Int) × Unit))) × (Int × ((List Int) × ((List Bool) × Unit))))
  | 0, _ => none
  | n + 1, v =>
    bif decide (0 ≤ v.2.1) then
    bif decide (v.2.1.toNat < v.1.2.1.length) then
    let y3 := v.1.2.1.getD v.2.1.toNat ([] : (List Int))
    bif decide (v.2.2.1 < (y3.length : Int)) then
     bif decide (0 ≤ v.2.1) then
     bif decide (v.2.1.toNat < v.1.2.1.length) then
     let y4 := v.1.2.1.getD v.2.1.toNat ([] : (List Int))
     bif decide (0 ≤ v.2.2.1) then
     bif decide (v.2.2.1.toNat < y4.length) then
     let y5 := decide ((y4.getD v.2.2.1.toNat (0 : Int)) ≥ (0 : Int))
     bif y5 then
      bif decide (0 ≤ (y4.getD v.2.2.1.toNat (0 : Int))) then
      bif decide ((y4.getD v.2.2.1.toNat (0 : Int)).toNat < v.2.2.2.2.1.length) then
      let y6 := (y4.getD v.2.2.1.toNat (0 : Int)).toNat
      bif !(v.2.2.2.2.1.getD y6 false) then
       bif decide (0 ≤ (y4.getD v.2.2.1.toNat (0 : Int))) then
       bif decide ((y4.getD v.2.2.1.toNat (0 : Int)).toNat < v.2.2.2.2.1.length) then
       let y7 := (y4.getD v.2.2.1.toNat (0 : Int)).toNat
       bif decide (v.2.2.2.1.length + [y4.getD v.2.2.1.toNat (0 : Int)].length ≤ lim) then
       let y8 := v.2.2.2.1 ++ [y4.getD v.2.2.1.toNat (0 : Int)]
       lsl5Order_2 N n (v.1, v.2.1, w64 (v.2.2.1 + (1 : Int)), y8, v.2.2.2.2.1.set y7 true, ())
       else none
       else none
       else none
      else
      lsl5Order_2 N n (v.1, v.2.1, w64 (v.2.2.1 + (1 : Int)), v.2.2.2.1, v.2.2.2.2.1, ())
      else none
      else none
     else
     lsl5Order_2 N n (v.1, v.2.1, w64 (v.2.2.1 + (1 : Int)), v.2.2.2.1, v.2.2.2.2.1, ())
     else none
     else none
     else none
     else none
    else
    some (v.1, v.2.1, v.2.2.2.1, v.2.2.2.2.1, ())
    else none
    else none
noncomputable def lsl5Order_0 (N : Nat) : Nat → (((List ((List Int) × ((List Int) × Unit))) × ((List (List Int)) × ((List Int) × Unit))) × (Int × ((List Int) × ((List Bool) × Unit)))) → Option (((List ((List Int) × ((List Int) × Unit))) × ((List (List Int)) × ((List Int) × Unit))) × ((List Int) × ((List Bool) × Unit)))
  | 0, _ => none
  | n + 1, v =>
    let y2 := decide (v.2.1 < (v.1.2.1.length : Int))
    bif y2 then
     (lsl5Order_2 N N (v.1, v.2.1, (0 : Int), v.2.2.1, v.2.2.2.1, ())).bind fun o9 =>
     lsl5Order_0 N n (o9.1, w64 (o9.2.1 + (1 : Int)), o9.2.2.1, o9.2.2.2.1, ())
    else
    some (v.1, v.2.2.1, v.2.2.2.1, ())
noncomputable def lsl5Order_4 (N : Nat) : Nat → (((List ((List Int) × ((List Int) × Unit))) × ((List (List Int)) × ((List Int) × Unit))) × (Int × ((List Int) × ((List Bool) × Unit)))) → Option (((List ((List Int) × ((List Int) × Unit))) × ((List (List Int)) × ((List Int) × Unit))) × ((List Int) × ((List Bool) × Unit)))
  | 0, _ => none
  | n + 1, v =>
    let y11 := decide (v.2.1 < (v.1.2.2.1.length : Int))
    bif y11 then
     bif decide (0 ≤ v.2.1) then
     bif decide (v.2.1.toNat < v.1.2.2.1.length) then
     bif decide (0 ≤ (v.1.2.2.1.getD v.2.1.toNat (0 : Int))) then
     bif decide ((v.1.2.2.1.getD v.2.1.toNat (0 : Int)).toNat < v.2.2.2.1.length) then
     let y12 := (v.1.2.2.1.getD v.2.1.toNat (0 : Int)).toNat
     bif !(v.2.2.2.1.getD y12 false) then
      bif decide (0 ≤ v.2.1) then
      bif decide (v.2.1.toNat < v.1.2.2.1.length) then
      bif decide (0 ≤ (v.1.2.2.1.getD v.2.1.toNat (0 : Int))) then
      bif decide ((v.1.2.2.1.getD v.2.1.toNat (0 : Int)).toNat < v.2.2.2.1.length) then
      let y13 := (v.1.2.2.1.getD v.2.1.toNat (0 : Int)).toNat
      bif decide (0 ≤ v.2.1) then
      bif decide (v.2.1.toNat < v.1.2.2.1.length) then
      let y14 := [v.1.2.2.1.getD v.2.1.toNat (0 : Int)]
      bif decide (v.2.2.1.length + y14.length ≤ lim) then
      lsl5Order_4 N n (v.1, w64 (v.2.1 + (1 : Int)), v.2.2.1 ++ y14, v.2.2.2.1.set y13 true, ())
      else none
      else none
      else none
      else none
      else none
      else none
      else none
     else
     lsl5Order_4 N n (v.1, w64 (v.2.1 + (1 : Int)), v.2.2.1, v.2.2.2.1, ())
     else none
     else none
     else none
     else none
    else
    some (v.1, v.2.2.1, v.2.2.2.1, ())
noncomputable def lsl5Order_8 (N : Nat) : Nat → (((List ((List Int) × ((List Int) × Unit))) × ((List (List Int)) × ((List Int) × Unit))) × (Int × ((List Int) × (Int × ((List Int) × ((List Bool) × Unit)))))) → Option (((List ((List Int) × ((List Int) × Unit))) × ((List (List Int)) × ((List Int) × Unit))) × (Int × ((List Int) × ((List Bool) × Unit))))
  | 0, _ => none
  | n + 1, v =>
    let y18 := decide (v.2.2.2.1 < (v.2.2.1.length : Int))
    bif y18 then
     bif decide (0 ≤ v.2.2.2.1) then
     bif decide (v.2.2.2.1.toNat < v.2.2.1.length) then
     let y19 := v.2.2.1.getD v.2.2.2.1.toNat (0 : Int)
     bif decide (y19 ≥ (0 : Int)) then
      bif decide (0 ≤ v.2.2.2.1) then
      bif decide (v.2.2.2.1.toNat < v.2.2.1.length) then
      let y20 := v.2.2.1.getD v.2.2.2.1.toNat (0 : Int)
      bif decide (0 ≤ y20) then
      bif decide (y20.toNat < v.2.2.2.2.2.1.length) then
      let y21 := !(v.2.2.2.2.2.1.getD y20.toNat false)
      bif y21 then
       bif decide (0 ≤ v.2.2.2.1) then
       bif decide (v.2.2.2.1.toNat < v.2.2.1.length) then
       let y22 := v.2.2.1.getD v.2.2.2.1.toNat (0 : Int)
       bif decide (0 ≤ y22) then
       bif decide (y22.toNat < v.2.2.2.2.2.1.length) then
       bif decide (0 ≤ v.2.2.2.1) then
       bif decide (v.2.2.2.1.toNat < v.2.2.1.length) then
       let y23 := v.2.2.1.getD v.2.2.2.1.toNat (0 : Int)
       bif decide (v.2.2.2.2.1.length + [y23].length ≤ lim) then
       lsl5Order_8 N n (v.1, v.2.1, v.2.2.1, w64 (v.2.2.2.1 + (1 : Int)), v.2.2.2.2.1 ++ [y23], v.2.2.2.2.2.1.set y22.toNat true, ())
       else none
       else none
       else none
       else none
       else none
       else none
       else none
      else
      lsl5Order_8 N n (v.1, v.2.1, v.2.2.1, w64 (v.2.2.2.1 + (1 : Int)), v.2.2.2.2.1, v.2.2.2.2.2.1, ())
      else none
      else none
      else none
      else none
     else
     lsl5Order_8 N n (v.1, v.2.1, v.2.2.1, w64 (v.2.2.2.1 + (1 : Int)), v.2.2.2.2.1, v.2.2.2.2.2.1, ())
     else none
     else none
    else
    some (v.1, v.2.1, v.2.2.2.2.1, v.2.2.2.2.2.1, ())
noncomputable def lsl5Order_6 (N : Nat) : Nat → (((List ((List Int) × ((List Int) × Unit))) × ((List (List Int)) × ((List Int) × Unit))) × (Int × ((List Int) × ((List Bool) × Unit)))) → Option ((List Int) × Unit)
  | 0, _ => none
  | n + 1, v =>
    let y16 := decide (v.2.1 < (v.2.2.1.length : Int))
    bif y16 then
     bif decide (0 ≤ v.2.1) then
     bif decide (v.2.1.toNat < v.2.2.1.length) then
     bif decide (0 ≤ (v.2.2.1.getD v.2.1.toNat (0 : Int))) then
     bif decide ((v.2.2.1.getD v.2.1.toNat (0 : Int)).toNat < v.1.1.length) then
     let y17 := v.1.1.getD ((v.2.2.1.getD v.2.1.toNat (0 : Int)).toNat) (([] : (List Int)), ([] : (List Int)), ())
     (lsl5Order_8 N N (v.1, v.2.1, y17.1, (0 : Int), v.2.2.1, v.2.2.2.1, ())).bind fun o24 =>
     lsl5Order_6 N n (o24.1, w64 (o24.2.1 + (1 : Int)), o24.2.2.1, o24.2.2.2.1, ())
     else none
     else none
     else none
     else none
    else
    some (v.2.2.1, ())
noncomputable def Fsl5Order (N : Nat) (x : (((List ((List Int) × ((List Int) × Unit))) × ((List (List Int)) × ((List Int) × Unit))) × Unit)) : Option ((List Int) × Unit) :=
  bif decide (0 ≤ (x.1.1.length : Int)) then
  bif decide ((x.1.1.length : Int).toNat ≤ lim) then
  let y1 := List.replicate (x.1.1.length : Int).toNat false
  (lsl5Order_0 N N (x.1, (0 : Int), ([] : (List Int)), y1, ())).bind fun o10 =>
  (lsl5Order_4 N N (o10.1, (0 : Int), o10.2.1, o10.2.2.1, ())).bind fun o15 =>
  (lsl5Order_6 N N (o15.1, (0 : Int), o15.2.1, o15.2.2.1, ())).bind fun o25 =>
  some (o25.1, ())
  else none
  else none
noncomputable def consl5Order (N : Nat) : Con := { f := 77, din := dinsl5Order, outs := outsl5Order, F := Fsl5Order N }
noncomputable def Xsl5Order (N : Nat) : Ctx := { E := Esl5Order N, H := Hsl5Order, lp := [(2, { hd := dsl5Order_2, outs := osl5Order_2, run := fun v => lsl5Order_2 N N v }), (0, { hd := dsl5Order_0, outs := osl5Order_0, run := fun v => lsl5Order_0 N N v }), (4, { hd := dsl5Order_4, outs := osl5Order_4, run := fun v => lsl5Order_4 N N v }), (8, { hd := dsl5Order_8, outs := osl5Order_8, run := fun v => lsl5Order_8 N N v }), (6, { hd := dsl5Order_6, outs := osl5Order_6, run := fun v => lsl5Order_6 N N v })], jn := [] }
noncomputable def bsl5Order_6 : Code := loopBody (codeOf Try.f77) 2
noncomputable def bsl5Order_8 : Code := loopBody bsl5Order_6 0
noncomputable def bsl5Order_4 : Code := loopBody (codeOf Try.f77) 1
noncomputable def bsl5Order_0 : Code := loopBody (codeOf Try.f77) 0
noncomputable def bsl5Order_2 : Code := loopBody bsl5Order_0 0
theorem Fsl5Order_eq (N : Nat) (x : (((List ((List Int) × ((List Int) × Unit))) × ((List (List Int)) × ((List Int) × Unit))) × Unit)) : evFn (Xsl5Order N) Try.f77 dinsl5Order outsl5Order x = Fsl5Order N x := by kernel_rfl
theorem lsl5Order_2_eq (N n : Nat) (v : (((List ((List Int) × ((List Int) × Unit))) × ((List (List Int)) × ((List Int) × Unit))) × (Int × (Int × ((List Int) × ((List Bool) × Unit)))))) : lsl5Order_2 N (n + 1) v = ev (Xsl5Order N) bsl5Order_2 (roundK dsl5Order_2 osl5Order_2 (lsl5Order_2 N n)) (dsl5Order_2.mk' v) := by kernel_rfl
theorem lsl5Order_0_eq (N n : Nat) (v : (((List ((List Int) × ((List Int) × Unit))) × ((List (List Int)) × ((List Int) × Unit))) × (Int × ((List Int) × ((List Bool) × Unit))))) : lsl5Order_0 N (n + 1) v = ev (Xsl5Order N) bsl5Order_0 (roundK dsl5Order_0 osl5Order_0 (lsl5Order_0 N n)) (dsl5Order_0.mk' v) := by kernel_rfl
theorem lsl5Order_4_eq (N n : Nat) (v : (((List ((List Int) × ((List Int) × Unit))) × ((List (List Int)) × ((List Int) × Unit))) × (Int × ((List Int) × ((List Bool) × Unit))))) : lsl5Order_4 N (n + 1) v = ev (Xsl5Order N) bsl5Order_4 (roundK dsl5Order_4 osl5Order_4 (lsl5Order_4 N n)) (dsl5Order_4.mk' v) := by kernel_rfl
theorem lsl5Order_8_eq (N n : Nat) (v : (((List ((List Int) × ((List Int) × Unit))) × ((List (List Int)) × ((List Int) × Unit))) × (Int × ((List Int) × (Int × ((List Int) × ((List Bool) × Unit))))))) : lsl5Order_8 N (n + 1) v = ev (Xsl5Order N) bsl5Order_8 (roundK dsl5Order_8 osl5Order_8 (lsl5Order_8 N n)) (dsl5Order_8.mk' v) := by kernel_rfl
theorem lsl5Order_6_eq (N n : Nat) (v : (((List ((List Int) × ((List Int) × Unit))) × ((List (List Int)) × ((List Int) × Unit))) × (Int × ((List Int) × ((List Bool) × Unit))))) : lsl5Order_6 N (n + 1) v = ev (Xsl5Order N) bsl5Order_6 (roundK dsl5Order_6 osl5Order_6 (lsl5Order_6 N n)) (dsl5Order_6.mk' v) := by kernel_rfl
theorem cxsl5Order (N : Nat) : CtxOk Try.prog (Xsl5Order N) := ⟨⟨TE_ok, fun k hk => absurd hk List.not_mem_nil⟩, mixed⟩
theorem lpsl5Order_2 (N : Nat) : LoopOk Try.prog { hd := dsl5Order_2, outs := osl5Order_2, run := fun v => lsl5Order_2 N N v } bsl5Order_2 :=
  loop_fuel (d := dsl5Order_2) (os := osl5Order_2) (cxsl5Order N) (loops_at (ids := []) (by kernel_rfl) (trivial)) (lsl5Order_2 N) (fun _ => rfl) (fun n v => lsl5Order_2_eq N n v) (fun _ => N)
theorem lpsl5Order_0 (N : Nat) : LoopOk Try.prog { hd := dsl5Order_0, outs := osl5Order_0, run := fun v => lsl5Order_0 N N v } bsl5Order_0 :=
  loop_fuel (d := dsl5Order_0) (os := osl5Order_0) (cxsl5Order N) (loops_at (ids := [2]) (by kernel_rfl) ⟨lp_of (lpsl5Order_2 N), trivial⟩) (lsl5Order_0 N) (fun _ => rfl) (fun n v => lsl5Order_0_eq N n v) (fun _ => N)
theorem lpsl5Order_4 (N : Nat) : LoopOk Try.prog { hd := dsl5Order_4, outs := osl5Order_4, run := fun v => lsl5Order_4 N N v } bsl5Order_4 :=
  loop_fuel (d := dsl5Order_4) (os := osl5Order_4) (cxsl5Order N) (loops_at (ids := []) (by kernel_rfl) (trivial)) (lsl5Order_4 N) (fun _ => rfl) (fun n v => lsl5Order_4_eq N n v) (fun _ => N)
theorem lpsl5Order_8 (N : Nat) : LoopOk Try.prog { hd := dsl5Order_8, outs := osl5Order_8, run := fun v => lsl5Order_8 N N v } bsl5Order_8 :=
  loop_fuel (d := dsl5Order_8) (os := osl5Order_8) (cxsl5Order N) (loops_at (ids := []) (by kernel_rfl) (trivial)) (lsl5Order_8 N) (fun _ => rfl) (fun n v => lsl5Order_8_eq N n v) (fun _ => N)
theorem lpsl5Order_6 (N : Nat) : LoopOk Try.prog { hd := dsl5Order_6, outs := osl5Order_6, run := fun v => lsl5Order_6 N N v } bsl5Order_6 :=
  loop_fuel (d := dsl5Order_6) (os := osl5Order_6) (cxsl5Order N) (loops_at (ids := [8]) (by kernel_rfl) ⟨lp_of (lpsl5Order_8 N), trivial⟩) (lsl5Order_6 N) (fun _ => rfl) (fun n v => lsl5Order_6_eq N n v) (fun _ => N)
theorem specsl5Order (N : Nat) : Spec Try.prog (consl5Order N) :=
  Spec.of_eq (fn_spec (cxsl5Order N) (f := 77) (fn := Try.f77) (c := codeOf Try.f77) (by kernel_rfl) (by kernel_rfl) (by kernel_rfl) (loops_at (ids := [0, 4, 6]) (by kernel_rfl) ⟨lp_of (lpsl5Order_0 N), ⟨lp_of (lpsl5Order_4 N), ⟨lp_of (lpsl5Order_6 N), trivial⟩⟩⟩) (by kernel_rfl)) (fun x r h => (Fsl5Order_eq N x).trans h)

/-! ### 33: spec.GraphReach -/

noncomputable def dinsGraphReach : Desc := { n := 1, regs := [.one (.val (.pair (.sl (.pair (.sl (.int .i64)) (.pair (.sl (.int .i64)) .unit))) (.pair (.sl (.sl (.int .i64))) (.pair (.sl (.int .i64)) .unit))))], bx := [], pins := [] }
noncomputable def outsGraphReach : Outs := [(.ret, { n := 1, regs := [.one (.lit (.row 1025600))], bx := [(1025600, .row .bool)], pins := [] })]
noncomputable def HsGraphReach : Hints := [(0, [(0, { fz := true })]),
  (2, [(0, { nl := [(0, .bool)] })]),
  (4, [(1, { con := 1 })])]
noncomputable def EsGraphReach (N : Nat) : Env := { te := TE, cs := [consGraphOk N, consl5Order N] }
noncomputable def dsGraphReach_0 : Desc := { n := 28, regs := [u, u, u, .one (.lit (.row 1038592)), .one (.lit (.row 1051265)), .one (.val (.int .i64))], bx := [(1038592, .row .bool), (1051265, .row (.int .i64))], pins := [] }
noncomputable def osGraphReach_0 : Outs := [(.exit 0, { n := 28, regs := [u, u, u, .one (.lit (.row 1038592))], bx := [(1038592, .row .bool)], pins := [] })]
noncomputable def lsGraphReach_0 (N : Nat) : Nat → (Int × ((List Bool) × ((List Int) × Unit))) → Option ((List Bool) × Unit)
  | 0, _ => none
  | n + 1, v =>
    let y4 := decide (v.1 < (v.2.2.1.length : Int))
    bif y4 then
     bif decide (0 ≤ v.1) then
     bif decide (v.1.toNat < v.2.2.1.length) then
     bif decide (0 ≤ (v.2.2.1.getD v.1.toNat (0 : Int))) then
     bif decide ((v.2.2.1.getD v.1.toNat (0 : Int)).toNat < v.2.1.length) then
     let y5 := (v.2.2.1.getD v.1.toNat (0 : Int)).toNat
     lsGraphReach_0 N n (w64 (v.1 + (1 : Int)), v.2.1.set y5 true, v.2.2.1, ())
     else none
     else none
     else none
     else none
    else
    some (v.2.1, ())
noncomputable def FsGraphReach (N : Nat) (x : (((List ((List Int) × ((List Int) × Unit))) × ((List (List Int)) × ((List Int) × Unit))) × Unit)) : Option ((List Bool) × Unit) :=
  (FsGraphOk N (x.1, ())).bind fun r1 =>
  bif !r1.1 then
   some (([] : (List Bool)), ())
  else
  bif decide (0 ≤ (x.1.1.length : Int)) then
  bif decide ((x.1.1.length : Int).toNat ≤ lim) then
  let y2 := List.replicate (x.1.1.length : Int).toNat false
  (Fsl5Order N (x.1, ())).bind fun r3 =>
  (lsGraphReach_0 N N ((0 : Int), y2, r3.1, ())).bind fun o6 =>
  some (o6.1, ())
  else none
  else none
noncomputable def consGraphReach (N : Nat) : Con := { f := 33, din := dinsGraphReach, outs := outsGraphReach, F := FsGraphReach N }
noncomputable def XsGraphReach (N : Nat) : Ctx := { E := EsGraphReach N, H := HsGraphReach, lp := [(0, { hd := dsGraphReach_0, outs := osGraphReach_0, run := fun v => lsGraphReach_0 N N v })], jn := [] }
noncomputable def bsGraphReach_0 : Code := loopBody (codeOf Try.f33) 0
theorem FsGraphReach_eq (N : Nat) (x : (((List ((List Int) × ((List Int) × Unit))) × ((List (List Int)) × ((List Int) × Unit))) × Unit)) : evFn (XsGraphReach N) Try.f33 dinsGraphReach outsGraphReach x = FsGraphReach N x := by kernel_rfl
theorem lsGraphReach_0_eq (N n : Nat) (v : (Int × ((List Bool) × ((List Int) × Unit)))) : lsGraphReach_0 N (n + 1) v = ev (XsGraphReach N) bsGraphReach_0 (roundK dsGraphReach_0 osGraphReach_0 (lsGraphReach_0 N n)) (dsGraphReach_0.mk' v) := by kernel_rfl
theorem cxsGraphReach (N : Nat) : CtxOk Try.prog (XsGraphReach N) := ⟨⟨TE_ok, List.forall_mem_cons.2 ⟨(specsGraphOk N), List.forall_mem_cons.2 ⟨(specsl5Order N), fun k hk => absurd hk List.not_mem_nil⟩⟩⟩, mixed⟩
theorem lpsGraphReach_0 (N : Nat) : LoopOk Try.prog { hd := dsGraphReach_0, outs := osGraphReach_0, run := fun v => lsGraphReach_0 N N v } bsGraphReach_0 :=
  loop_fuel (d := dsGraphReach_0) (os := osGraphReach_0) (cxsGraphReach N) (loops_at (ids := []) (by kernel_rfl) (trivial)) (lsGraphReach_0 N) (fun _ => rfl) (fun n v => lsGraphReach_0_eq N n v) (fun _ => N)
theorem specsGraphReach (N : Nat) : Spec Try.prog (consGraphReach N) :=
  Spec.of_eq (fn_spec (cxsGraphReach N) (f := 33) (fn := Try.f33) (c := codeOf Try.f33) (by kernel_rfl) (by kernel_rfl) (by kernel_rfl) (loops_at (ids := [0]) (by kernel_rfl) ⟨lp_of (lpsGraphReach_0 N), trivial⟩) (by kernel_rfl)) (fun x r h => (FsGraphReach_eq N x).trans h)

end Go.Fl
-- FUNCS sl1Open_o_ sl1Rd_pick sGraphNew sl20Shape sl20Op sl5Refs sGraphOk sShapeOk sOpOk sl5Ints sl5Copy sl5Fields sl5Begin sl5Field sl5Pins sl5One sGraphDo sl20Graph sDrawPathHolds iGraph_leads_1 kIndexFunc_Sint_int_iGraph_leads_1 kContainsFunc_Sint_int_iGraph_leads_1 iGraph_leads iGraphOk iGraph_hasNode kGrow_Sint_int kConcat_Sint_int iGraph_from_1_iGraph_from_1 iGraph_from iPathHolds sl5Order sGraphReach sl17Less sPathHolds vflInts iGraph_met_1 iGraph_met iGraphReach vFnPathHolds
set_option maxRecDepth 100000
set_option linter.all false
namespace Go.Fl
open Go Go.Proofs
/-! ### 74: spec.l17Less -/

noncomputable def dinsl17Less : Desc := { n := 2, regs := [.one (.val (.pair (.sl (.pair (.sl (.int .i64)) (.pair (.sl (.int .i64)) .unit))) (.pair (.sl (.sl (.int .i64))) (.pair (.sl (.int .i64)) .unit)))), .one (.val (.int .i64))], bx := [], pins := [] }
noncomputable def outsl17Less : Outs := [(.ret, { n := 1, regs := [.agg [.lit (.row 1012865), .lit (.row 1012866), .lit (.row 1230400)]], bx := [(1012865, .row (.pair (.sl (.int .i64)) (.pair (.sl (.int .i64)) .unit))), (1012866, .row (.sl (.int .i64))), (1230400, .row (.int .i64))], pins := [] })]
noncomputable def Hsl17Less : Hints := [(0, [(0, { fz := true })]),
  (18, [(0, { nl := [(0, (.int .i64))] })])]
noncomputable def Esl17Less (N : Nat) : Env := { te := TE, cs := [consl5Copy N] }
noncomputable def dsl17Less_2 : Desc := { n := 110, regs := [u, .one (.val (.int .i64)), u, u, .one (.lit (.ptr 1000064 0)), .one (.lit (.ptr 1012928 0)), .one (.val (.int .i64)), .one (.val (.int .i64))], bx := [(1000064, .var [.lit .nil, .lit .nil, .lit .nil]), (1012928, .var [.lit (.row 1012865), .lit (.row 1012866), .lit (.row 1012867)]), (1012865, .row (.pair (.sl (.int .i64)) (.pair (.sl (.int .i64)) .unit))), (1012866, .row (.sl (.int .i64))), (1012867, .row (.int .i64))], pins := [] }
noncomputable def osl17Less_2 : Outs := [(.exit 2, { n := 110, regs := [u, .one (.val (.int .i64)), u, u, .one (.lit (.ptr 1000064 0)), .one (.lit (.ptr 1012928 0)), .one (.val (.int .i64))], bx := [(1000064, .var [.lit .nil, .lit .nil, .lit .nil]), (1012928, .var [.lit (.row 1012865), .lit (.row 1012866), .lit (.row 1012867)]), (1012865, .row (.pair (.sl (.int .i64)) (.pair (.sl (.int .i64)) .unit))), (1012866, .row (.sl (.int .i64))), (1012867, .row (.int .i64))], pins := [] })]
noncomputable def dsl17Less_0 : Desc := { n := 110, regs := [u, .one (.val (.int .i64)), u, u, .one (.lit (.ptr 1000064 0)), .one (.lit (.ptr 1012928 0)), .one (.val (.int .i64))], bx := [(1000064, .var [.lit .nil, .lit .nil, .lit .nil]), (1012928, .var [.lit (.row 1012865), .lit (.row 1012866), .lit (.row 1012867)]), (1012865, .row (.pair (.sl (.int .i64)) (.pair (.sl (.int .i64)) .unit))), (1012866, .row (.sl (.int .i64))), (1012867, .row (.int .i64))], pins := [] }
noncomputable def osl17Less_0 : Outs := [(.exit 0, { n := 110, regs := [u, .one (.val (.int .i64)), u, u, .one (.lit (.ptr 1000064 0)), .one (.lit (.ptr 1012928 0))], bx := [(1000064, .var [.lit .nil, .lit .nil, .lit .nil]), (1012928, .var [.lit (.row 1012865), .lit (.row 1012866), .lit (.row 1012867)]), (1012865, .row (.pair (.sl (.int .i64)) (.pair (.sl (.int .i64)) .unit))), (1012866, .row (.sl (.int .i64))), (1012867, .row (.int .i64))], pins := [] })]
noncomputable def dsl17Less_6 : Desc := { n := 110, regs := [u, .one (.val (.int .i64)), u, u, .one (.lit (.ptr 1000064 0)), .one (.lit (.ptr 1012928 0)), u, u, .one (.val (.int .i64)), .one (.val (.int .i64))], bx := [(1000064, .var [.lit .nil, .lit .nil, .lit .nil]), (1012928, .var [.lit (.row 1012865), .lit (.row 1012866), .lit (.row 1012867)]), (1012865, .row (.pair (.sl (.int .i64)) (.pair (.sl (.int .i64)) .unit))), (1012866, .row (.sl (.int .i64))), (1012867, .row (.int .i64))], pins := [] }
noncomputable def osl17Less_6 : Outs := [(.exit 6, { n := 110, regs := [u, .one (.val (.int .i64)), u, u, .one (.lit (.ptr 1000064 0)), .one (.lit (.ptr 1012928 0)), u, u, .one (.val (.int .i64))], bx := [(1000064, .var [.lit .nil, .lit .nil, .lit .nil]), (1012928, .var [.lit (.row 1012865), .lit (.row 1012866), .lit (.row 1012867)]), (1012865, .row (.pair (.sl (.int .i64)) (.pair (.sl (.int .i64)) .unit))), (1012866, .row (.sl (.int .i64))), (1012867, .row (.int .i64))], pins := [] })]
noncomputable def dsl17Less_4 : Desc := { n := 110, regs := [u, .one (.val (.int .i64)), u, u, .one (.lit (.ptr 1000064 0)), .one (.lit (.ptr 1012928 0)), u, u, .one (.val (.int .i64))], bx := [(1000064, .var [.lit .nil, .lit .nil, .lit .nil]), (1012928, .var [.lit (.row 1012865), .lit (.row 1012866), .lit (.row 1012867)]), (1012865, .row (.pair (.sl (.int .i64)) (.pair (.sl (.int .i64)) .unit))), (1012866, .row (.sl (.int .i64))), (1012867, .row (.int .i64))], pins := [] }
noncomputable def osl17Less_4 : Outs := [(.exit 4, { n := 110, regs := [u, .one (.val (.int .i64)), u, u, .one (.lit (.ptr 1000064 0)), .one (.lit (.ptr 1012928 0))], bx := [(1000064, .var [.lit .nil, .lit .nil, .lit .nil]), (1012928, .var [.lit (.row 1012865), .lit (.row 1012866), .lit (.row 1012867)]), (1012865, .row (.pair (.sl (.int .i64)) (.pair (.sl (.int .i64)) .unit))), (1012866, .row (.sl (.int .i64))), (1012867, .row (.int .i64))], pins := [] })]
noncomputable def dsl17Less_8 : Desc := { n := 110, regs := [u, .one (.val (.int .i64)), u, u, .one (.lit (.ptr 1000064 0)), .one (.lit (.ptr 1012928 0)), u, u, u, u, .one (.lit (.row 1230400)), .one (.val (.int .i64))], bx := [(1000064, .var [.lit .nil, .lit .nil, .lit .nil]), (1012928, .var [.lit (.row 1012865), .lit (.row 1012866), .lit (.row 1012867)]), (1012865, .row (.pair (.sl (.int .i64)) (.pair (.sl (.int .i64)) .unit))), (1012866, .row (.sl (.int .i64))), (1012867, .row (.int .i64)), (1230400, .row (.int .i64))], pins := [] }
noncomputable def osl17Less_8 : Outs := [(.exit 8, { n := 110, regs := [u, u, u, u, .one (.lit (.ptr 1000064 0)), .one (.lit (.ptr 1012928 0)), u, u, u, u, .one (.lit (.row 1230400))], bx := [(1000064, .var [.lit .nil, .lit .nil, .lit .nil]), (1012928, .var [.lit (.row 1012865), .lit (.row 1012866), .lit (.row 1012867)]), (1012865, .row (.pair (.sl (.int .i64)) (.pair (.sl (.int .i64)) .unit))), (1012866, .row (.sl (.int .i64))), (1012867, .row (.int .i64)), (1230400, .row (.int .i64))], pins := [] })]
noncomputable def lsl17Less_2 (N : Nat) : Nat → (Int × (Int × (Int × ((List ((List Int) × ((List Int) × Unit))) × ((List (List Int)) × ((List Int) × Unit)))))) → Option (Int × (Int × ((List ((List Int) × ((List Int) × Unit))) × ((List (List Int)) × ((List Int) × Unit)))))
  | 0, _ => none
  | n + 1, v =>
    bif decide (0 ≤ v.2.1) then
    bif decide (v.2.1.toNat < v.2.2.2.1.length) then
    let y3 := (((v.2.2.2.1.getD v.2.1.toNat (([] : (List Int)), ([] : (List Int)), ())).1).length : Int)
    bif decide (v.2.2.1 < y3) then
     bif decide (0 ≤ v.2.1) then
     bif decide (v.2.1.toNat < v.2.2.2.1.length) then
     bif decide (0 ≤ v.2.2.1) then
     bif decide (v.2.2.1.toNat < ((v.2.2.2.1.getD v.2.1.toNat (([] : (List Int)), ([] : (List Int)), ())).1).length) then
     let y4 := ((v.2.2.2.1.getD v.2.1.toNat (([] : (List Int)), ([] : (List Int)), ())).1).getD v.2.2.1.toNat (0 : Int)
     bif y4 == v.1 then
      bif decide (0 ≤ v.2.1) then
      bif decide (v.2.1.toNat < v.2.2.2.1.length) then
      bif decide (0 ≤ v.2.2.1) then
      bif decide (v.2.2.1.toNat < ((v.2.2.2.1.getD v.2.1.toNat (([] : (List Int)), ([] : (List Int)), ())).1).length) then
      let y5 := v.2.2.2.1.set v.2.1.toNat (((v.2.2.2.1.getD v.2.1.toNat (([] : (List Int)), ([] : (List Int)), ())).1).set v.2.2.1.toNat (-1 : Int), (v.2.2.2.1.getD v.2.1.toNat (([] : (List Int)), ([] : (List Int)), ())).2)
      lsl17Less_2 N n (v.1, v.2.1, w64 (v.2.2.1 + (1 : Int)), y5, v.2.2.2.2.1, v.2.2.2.2.2.1, ())
      else none
      else none
      else none
      else none
     else
     lsl17Less_2 N n (v.1, v.2.1, w64 (v.2.2.1 + (1 : Int)), v.2.2.2.1, v.2.2.2.2.1, v.2.2.2.2.2.1, ())
     else none
     else none
     else none
     else none
    else
    some (v.1, v.2.1, v.2.2.2.1, v.2.2.2.2.1, v.2.2.2.2.2.1, ())
    else none
    else none
noncomputable def lsl17Less_0 (N : Nat) : Nat → (Int × (Int × ((List ((List Int) × ((List Int) × Unit))) × ((List (List Int)) × ((List Int) × Unit))))) → Option (Int × ((List ((List Int) × ((List Int) × Unit))) × ((List (List Int)) × ((List Int) × Unit))))
  | 0, _ => none
  | n + 1, v =>
    let y2 := decide (v.2.1 < (v.2.2.1.length : Int))
    bif y2 then
     (lsl17Less_2 N N (v.1, v.2.1, (0 : Int), v.2.2.1, v.2.2.2.1, v.2.2.2.2.1, ())).bind fun o6 =>
     lsl17Less_0 N n (o6.1, w64 (o6.2.1 + (1 : Int)), o6.2.2.1, o6.2.2.2.1, o6.2.2.2.2.1, ())
    else
    some (v.1, v.2.2.1, v.2.2.2.1, v.2.2.2.2.1, ())
noncomputable def lsl17Less_6 (N : Nat) : Nat → (Int × (Int × (Int × ((List ((List Int) × ((List Int) × Unit))) × ((List (List Int)) × ((List Int) × Unit)))))) → Option (Int × (Int × ((List ((List Int) × ((List Int) × Unit))) × ((List (List Int)) × ((List Int) × Unit)))))
  | 0, _ => none
  | n + 1, v =>
    bif decide (0 ≤ v.2.1) then
    bif decide (v.2.1.toNat < v.2.2.2.2.1.length) then
    let y9 := ((v.2.2.2.2.1.getD v.2.1.toNat ([] : (List Int))).length : Int)
    bif decide (v.2.2.1 < y9) then
     bif decide (0 ≤ v.2.1) then
     bif decide (v.2.1.toNat < v.2.2.2.2.1.length) then
     bif decide (0 ≤ v.2.2.1) then
     bif decide (v.2.2.1.toNat < (v.2.2.2.2.1.getD v.2.1.toNat ([] : (List Int))).length) then
     let y10 := (v.2.2.2.2.1.getD v.2.1.toNat ([] : (List Int))).getD v.2.2.1.toNat (0 : Int)
     bif y10 == v.1 then
      bif decide (0 ≤ v.2.1) then
      bif decide (v.2.1.toNat < v.2.2.2.2.1.length) then
      bif decide (0 ≤ v.2.2.1) then
      bif decide (v.2.2.1.toNat < (v.2.2.2.2.1.getD v.2.1.toNat ([] : (List Int))).length) then
      let y11 := v.2.2.2.2.1.set v.2.1.toNat ((v.2.2.2.2.1.getD v.2.1.toNat ([] : (List Int))).set v.2.2.1.toNat (-1 : Int))
      lsl17Less_6 N n (v.1, v.2.1, w64 (v.2.2.1 + (1 : Int)), v.2.2.2.1, y11, v.2.2.2.2.2.1, ())
      else none
      else none
      else none
      else none
     else
     lsl17Less_6 N n (v.1, v.2.1, w64 (v.2.2.1 + (1 : Int)), v.2.2.2.1, v.2.2.2.2.1, v.2.2.2.2.2.1, ())
     else none
     else none
     else none
     else none
    else
    some (v.1, v.2.1, v.2.2.2.1, v.2.2.2.2.1, v.2.2.2.2.2.1, ())
    else none
    else none
noncomputable def lsl17Less_4 (N : Nat) : Nat → (Int × (Int × ((List ((List Int) × ((List Int) × Unit))) × ((List (List Int)) × ((List Int) × Unit))))) → Option (Int × ((List ((List Int) × ((List Int) × Unit))) × ((List (List Int)) × ((List Int) × Unit))))
  | 0, _ => none
  | n + 1, v =>
    let y8 := decide (v.2.1 < (v.2.2.2.1.length : Int))
    bif y8 then
     (lsl17Less_6 N N (v.1, v.2.1, (0 : Int), v.2.2.1, v.2.2.2.1, v.2.2.2.2.1, ())).bind fun o12 =>
     lsl17Less_4 N n (o12.1, w64 (o12.2.1 + (1 : Int)), o12.2.2.1, o12.2.2.2.1, o12.2.2.2.2.1, ())
    else
    some (v.1, v.2.2.1, v.2.2.2.1, v.2.2.2.2.1, ())
noncomputable def lsl17Less_8 (N : Nat) : Nat → (Int × (Int × ((List ((List Int) × ((List Int) × Unit))) × ((List (List Int)) × ((List Int) × ((List Int) × Unit)))))) → Option ((List ((List Int) × ((List Int) × Unit))) × ((List (List Int)) × ((List Int) × ((List Int) × Unit))))
  | 0, _ => none
  | n + 1, v =>
    let y14 := decide (v.2.1 < (v.2.2.2.2.1.length : Int))
    bif y14 then
     bif decide (0 ≤ v.2.1) then
     bif decide (v.2.1.toNat < v.2.2.2.2.1.length) then
     let y15 := v.2.2.2.2.1.getD v.2.1.toNat (0 : Int)
     bif y15 != v.1 then
      bif decide (0 ≤ v.2.1) then
      bif decide (v.2.1.toNat < v.2.2.2.2.1.length) then
      let y16 := v.2.2.2.2.1.getD v.2.1.toNat (0 : Int)
      bif decide (v.2.2.2.2.2.1.length + [y16].length ≤ lim) then
      lsl17Less_8 N n (v.1, w64 (v.2.1 + (1 : Int)), v.2.2.1, v.2.2.2.1, v.2.2.2.2.1, v.2.2.2.2.2.1 ++ [y16], ())
      else none
      else none
      else none
     else
     lsl17Less_8 N n (v.1, w64 (v.2.1 + (1 : Int)), v.2.2.1, v.2.2.2.1, v.2.2.2.2.1, v.2.2.2.2.2.1, ())
     else none
     else none
    else
    some (v.2.2.1, v.2.2.2.1, v.2.2.2.2.1, v.2.2.2.2.2.1, ())
noncomputable def Fsl17Less (N : Nat) (x : (((List ((List Int) × ((List Int) × Unit))) × ((List (List Int)) × ((List Int) × Unit))) × (Int × Unit))) : Option ((List ((List Int) × ((List Int) × Unit))) × ((List (List Int)) × ((List Int) × Unit))) :=
  (Fsl5Copy N (x.1, ())).bind fun r1 =>
  (lsl17Less_0 N N (x.2.1, (0 : Int), r1.1, r1.2.1, r1.2.2.1, ())).bind fun o7 =>
  (lsl17Less_4 N N (o7.1, (0 : Int), o7.2.1, o7.2.2.1, o7.2.2.2.1, ())).bind fun o13 =>
  (lsl17Less_8 N N (o13.1, (0 : Int), o13.2.1, o13.2.2.1, o13.2.2.2.1, ([] : (List Int)), ())).bind fun o17 =>
  some (o17.1, o17.2.1, o17.2.2.2.1, ())
noncomputable def consl17Less (N : Nat) : Con := { f := 74, din := dinsl17Less, outs := outsl17Less, F := Fsl17Less N }
noncomputable def Xsl17Less (N : Nat) : Ctx := { E := Esl17Less N, H := Hsl17Less, lp := [(2, { hd := dsl17Less_2, outs := osl17Less_2, run := fun v => lsl17Less_2 N N v }), (0, { hd := dsl17Less_0, outs := osl17Less_0, run := fun v => lsl17Less_0 N N v }), (6, { hd := dsl17Less_6, outs := osl17Less_6, run := fun v => lsl17Less_6 N N v }), (4, { hd := dsl17Less_4, outs := osl17Less_4, run := fun v => lsl17Less_4 N N v }), (8, { hd := dsl17Less_8, outs := osl17Less_8, run := fun v => lsl17Less_8 N N v })], jn := [] }
noncomputable def bsl17Less_8 : Code := loopBody (codeOf Try.f74) 2
noncomputable def bsl17Less_4 : Code := loopBody (codeOf Try.f74) 1
noncomputable def bsl17Less_6 : Code := loopBody bsl17Less_4 0
noncomputable def bsl17Less_0 : Code := loopBody (codeOf Try.f74) 0
noncomputable def bsl17Less_2 : Code := loopBody bsl17Less_0 0
theorem Fsl17Less_eq (N : Nat) (x : (((List ((List Int) × ((List Int) × Unit))) × ((List (List Int)) × ((List Int) × Unit))) × (Int × Unit))) : evFn (Xsl17Less N) Try.f74 dinsl17Less outsl17Less x = Fsl17Less N x := by kernel_rfl
theorem lsl17Less_2_eq (N n : Nat) (v : (Int × (Int × (Int × ((List ((List Int) × ((List Int) × Unit))) × ((List (List Int)) × ((List Int) × Unit))))))) : lsl17Less_2 N (n + 1) v = ev (Xsl17Less N) bsl17Less_2 (roundK dsl17Less_2 osl17Less_2 (lsl17Less_2 N n)) (dsl17Less_2.mk' v) := by kernel_rfl
theorem lsl17Less_0_eq (N n : Nat) (v : (Int × (Int × ((List ((List Int) × ((List Int) × Unit))) × ((List (List Int)) × ((List Int) × Unit)))))) : lsl17Less_0 N (n + 1) v = ev (Xsl17Less N) bsl17Less_0 (roundK dsl17Less_0 osl17Less_0 (lsl17Less_0 N n)) (dsl17Less_0.mk' v) := by kernel_rfl
theorem lsl17Less_6_eq (N n : Nat) (v : (Int × (Int × (Int × ((List ((List Int) × ((List Int) × Unit))) × ((List (List Int)) × ((List Int) × Unit))))))) : lsl17Less_6 N (n + 1) v = ev (Xsl17Less N) bsl17Less_6 (roundK dsl17Less_6 osl17Less_6 (lsl17Less_6 N n)) (dsl17Less_6.mk' v) := by kernel_rfl
theorem lsl17Less_4_eq (N n : Nat) (v : (Int × (Int × ((List ((List Int) × ((List Int) × Unit))) × ((List (List Int)) × ((List Int) × Unit)))))) : lsl17Less_4 N (n + 1) v = ev (Xsl17Less N) bsl17Less_4 (roundK dsl17Less_4 osl17Less_4 (lsl17Less_4 N n)) (dsl17Less_4.mk' v) := by kernel_rfl
theorem lsl17Less_8_eq (N n : Nat) (v : (Int × (Int × ((List ((List Int) × ((List Int) × Unit))) × ((List (List Int)) × ((List Int) × ((List Int) × Unit))))))) : lsl17Less_8 N (n + 1) v = ev (Xsl17Less N) bsl17Less_8 (roundK dsl17Less_8 osl17Less_8 (lsl17Less_8 N n)) (dsl17Less_8.mk' v) := by kernel_rfl
theorem cxsl17Less (N : Nat) : CtxOk Try.prog (Xsl17Less N) := ⟨⟨TE_ok, List.forall_mem_cons.2 ⟨(specsl5Copy N), fun k hk => absurd hk List.not_mem_nil⟩⟩, mixed⟩
theorem lpsl17Less_2 (N : Nat) : LoopOk Try.prog { hd := dsl17Less_2, outs := osl17Less_2, run := fun v => lsl17Less_2 N N v } bsl17Less_2 :=
  loop_fuel (d := dsl17Less_2) (os := osl17Less_2) (cxsl17Less N) (loops_at (ids := []) (by kernel_rfl) (trivial)) (lsl17Less_2 N) (fun _ => rfl) (fun n v => lsl17Less_2_eq N n v) (fun _ => N)
theorem lpsl17Less_0 (N : Nat) : LoopOk Try.prog { hd := dsl17Less_0, outs := osl17Less_0, run := fun v => lsl17Less_0 N N v } bsl17Less_0 :=
  loop_fuel (d := dsl17Less_0) (os := osl17Less_0) (cxsl17Less N) (loops_at (ids := [2]) (by kernel_rfl) ⟨lp_of (lpsl17Less_2 N), trivial⟩) (lsl17Less_0 N) (fun _ => rfl) (fun n v => lsl17Less_0_eq N n v) (fun _ => N)
theorem lpsl17Less_6 (N : Nat) : LoopOk Try.prog { hd := dsl17Less_6, outs := osl17Less_6, run := fun v => lsl17Less_6 N N v } bsl17Less_6 :=
  loop_fuel (d := dsl17Less_6) (os := osl17Less_6) (cxsl17Less N) (loops_at (ids := []) (by kernel_rfl) (trivial)) (lsl17Less_6 N) (fun _ => rfl) (fun n v => lsl17Less_6_eq N n v) (fun _ => N)
theorem lpsl17Less_4 (N : Nat) : LoopOk Try.prog { hd := dsl17Less_4, outs := osl17Less_4, run := fun v => lsl17Less_4 N N v } bsl17Less_4 :=
  loop_fuel (d := dsl17Less_4) (os := osl17Less_4) (cxsl17Less N) (loops_at (ids := [6]) (by kernel_rfl) ⟨lp_of (lpsl17Less_6 N), trivial⟩) (lsl17Less_4 N) (fun _ => rfl) (fun n v => lsl17Less_4_eq N n v) (fun _ => N)
theorem lpsl17Less_8 (N : Nat) : LoopOk Try.prog { hd := dsl17Less_8, outs := osl17Less_8, run := fun v => lsl17Less_8 N N v } bsl17Less_8 :=
  loop_fuel (d := dsl17Less_8) (os := osl17Less_8) (cxsl17Less N) (loops_at (ids := []) (by kernel_rfl) (trivial)) (lsl17Less_8 N) (fun _ => rfl) (fun n v => lsl17Less_8_eq N n v) (fun _ => N)
theorem specsl17Less (N : Nat) : Spec Try.prog (consl17Less N) :=
  Spec.of_eq (fn_spec (cxsl17Less N) (f := 74) (fn := Try.f74) (c := codeOf Try.f74) (by kernel_rfl) (by kernel_rfl) (by kernel_rfl) (loops_at (ids := [0, 4, 8]) (by kernel_rfl) ⟨lp_of (lpsl17Less_0 N), ⟨lp_of (lpsl17Less_4 N), ⟨lp_of (lpsl17Less_8 N), trivial⟩⟩⟩) (by kernel_rfl)) (fun x r h => (Fsl17Less_eq N x).trans h)

/-! ### 26: spec.PathHolds -/

noncomputable def dinsPathHolds : Desc := { n := 2, regs := [.one (.val (.pair (.sl (.pair (.sl (.int .i64)) (.pair (.sl (.int .i64)) .unit))) (.pair (.sl (.sl (.int .i64))) (.pair (.sl (.int .i64)) .unit)))), .one (.val (.int .i64))], bx := [], pins := [] }
noncomputable def outsPathHolds : Outs := [(.ret, { n := 1, regs := [.one (.lit (.row 1064000))], bx := [(1064000, .row (.int .i64))], pins := [] })]
noncomputable def HsPathHolds : Hints := [(0, [(0, { fz := true })]),
  (2, [(0, { nl := [(0, (.int .i64))] })]),
  (3, [(1, { con := 1 })]),
  (4, [(2, { con := 2 }), (3, { con := 1 })]),
  (5, [(0, { nl := [(0, (.int .i64))] })])]
noncomputable def EsPathHolds (N : Nat) : Env := { te := TE, cs := [consGraphOk N, consGraphReach N, consl17Less N] }
noncomputable def dsPathHolds_0 : Desc := { n := 51, regs := [u, u, u, u, u, .one (.lit (.row 1038465)), .one (.lit (.row 1051393)), .one (.lit (.row 1064000)), .one (.val (.int .i64))], bx := [(1038465, .row .bool), (1051393, .row .bool), (1064000, .row (.int .i64))], pins := [] }
noncomputable def osPathHolds_0 : Outs := [(.exit 0, { n := 51, regs := [u, u, u, u, u, u, u, .one (.lit (.row 1064000))], bx := [(1064000, .row (.int .i64))], pins := [] })]
noncomputable def jsPathHolds_3 : Outs := [(.normal, { n := 51, regs := [u, .one (.val (.int .i64)), .one (.fpt (.pair (.sl (.pair (.sl (.int .i64)) (.pair (.sl (.int .i64)) .unit))) (.pair (.sl (.sl (.int .i64))) (.pair (.sl (.int .i64)) .unit))))], bx := [], pins := [] }), (.ret, { n := 51, regs := [u, u, u, u, .one (.lit (.row 1025600))], bx := [(1025600, .row (.int .i64))], pins := [] })]
noncomputable def lsPathHolds_0 (N : Nat) : Nat → (Int × ((List Bool) × ((List Bool) × ((List Int) × Unit)))) → Option ((List Int) × Unit)
  | 0, _ => none
  | n + 1, v =>
    bif decide (v.1 < (v.2.1.length : Int)) then
     bif decide (0 ≤ v.1) then
     bif decide (v.1.toNat < v.2.1.length) then
     bif v.2.1.getD v.1.toNat false then
      bif decide (0 ≤ v.1) then
      bif decide (v.1.toNat < v.2.2.1.length) then
      bif !(v.2.2.1.getD v.1.toNat false) then
       bif decide (v.2.2.2.1.length + [v.1].length ≤ lim) then
       lsPathHolds_0 N n (w64 (v.1 + (1 : Int)), v.2.1, v.2.2.1, v.2.2.2.1 ++ [v.1], ())
       else none
      else
      lsPathHolds_0 N n (w64 (v.1 + (1 : Int)), v.2.1, v.2.2.1, v.2.2.2.1, ())
      else none
      else none
     else
     lsPathHolds_0 N n (w64 (v.1 + (1 : Int)), v.2.1, v.2.2.1, v.2.2.2.1, ())
     else none
     else none
    else
    some (v.2.2.2.1, ())
noncomputable def FsPathHolds (N : Nat) (x : (((List ((List Int) × ((List Int) × Unit))) × ((List (List Int)) × ((List Int) × Unit))) × (Int × Unit))) : Option ((List Int) × Unit) :=
  Option.bind (
   (FsGraphOk N (x.1, ())).bind fun r1 =>
   bif !r1.1 then
    some (.inr ((([] : (List Int)), ())))
   else
   bif decide (x.2.1 < (0 : Int)) then
    some (.inr ((([] : (List Int)), ())))
   else
   let y2 := decide (x.2.1 ≥ (x.1.1.length : Int))
   bif y2 then
    some (.inr ((([] : (List Int)), ())))
   else
   some (.inl (x.2.1, x.1, ()))) fun o3 =>
  Sum.elim (fun o4 =>
   (FsGraphReach N (o4.2.1, ())).bind fun r5 =>
   (Fsl17Less N (o4.2.1, o4.1, ())).bind fun r6 =>
   (FsGraphReach N ((r6.1, r6.2.1, r6.2.2.1, ()), ())).bind fun r7 =>
   (lsPathHolds_0 N N ((0 : Int), r5.1, r7.1, ([] : (List Int)), ())).bind fun o8 =>
   some (o8.1, ())) (fun o9 =>
   some (o9.1, ())) o3
noncomputable def consPathHolds (N : Nat) : Con := { f := 26, din := dinsPathHolds, outs := outsPathHolds, F := FsPathHolds N }
noncomputable def XsPathHolds (N : Nat) : Ctx := { E := EsPathHolds N, H := HsPathHolds, lp := [(0, { hd := dsPathHolds_0, outs := osPathHolds_0, run := fun v => lsPathHolds_0 N N v })], jn := [(3, jsPathHolds_3)] }
noncomputable def bsPathHolds_0 : Code := loopBody (codeOf Try.f26) 0
theorem FsPathHolds_eq (N : Nat) (x : (((List ((List Int) × ((List Int) × Unit))) × ((List (List Int)) × ((List Int) × Unit))) × (Int × Unit))) : evFn (XsPathHolds N) Try.f26 dinsPathHolds outsPathHolds x = FsPathHolds N x := by kernel_rfl
theorem lsPathHolds_0_eq (N n : Nat) (v : (Int × ((List Bool) × ((List Bool) × ((List Int) × Unit))))) : lsPathHolds_0 N (n + 1) v = ev (XsPathHolds N) bsPathHolds_0 (roundK dsPathHolds_0 osPathHolds_0 (lsPathHolds_0 N n)) (dsPathHolds_0.mk' v) := by kernel_rfl
theorem cxsPathHolds (N : Nat) : CtxOk Try.prog (XsPathHolds N) := ⟨⟨TE_ok, List.forall_mem_cons.2 ⟨(specsGraphOk N), List.forall_mem_cons.2 ⟨(specsGraphReach N), List.forall_mem_cons.2 ⟨(specsl17Less N), fun k hk => absurd hk List.not_mem_nil⟩⟩⟩⟩, mixed⟩
theorem lpsPathHolds_0 (N : Nat) : LoopOk Try.prog { hd := dsPathHolds_0, outs := osPathHolds_0, run := fun v => lsPathHolds_0 N N v } bsPathHolds_0 :=
  loop_fuel (d := dsPathHolds_0) (os := osPathHolds_0) (cxsPathHolds N) (loops_at (ids := []) (by kernel_rfl) (trivial)) (lsPathHolds_0 N) (fun _ => rfl) (fun n v => lsPathHolds_0_eq N n v) (fun _ => N)
theorem specsPathHolds (N : Nat) : Spec Try.prog (consPathHolds N) :=
  Spec.of_eq (fn_spec (cxsPathHolds N) (f := 26) (fn := Try.f26) (c := codeOf Try.f26) (by kernel_rfl) (by kernel_rfl) (by kernel_rfl) (loops_at (ids := [0]) (by kernel_rfl) ⟨lp_of (lpsPathHolds_0 N), trivial⟩) (by kernel_rfl)) (fun x r h => (FsPathHolds_eq N x).trans h)

/-! ### 37: laws.flInts -/

noncomputable def dinvflInts : Desc := { n := 2, regs := [.one (.val (.sl (.int .i64))), .one (.val (.sl (.int .i64)))], bx := [], pins := [] }
noncomputable def outvflInts : Outs := [(.ret, { n := 1, regs := [.one (.val .bool)], bx := [], pins := [] })]
noncomputable def HvflInts : Hints := []
noncomputable def EvflInts (_N : Nat) : Env := { te := TE, cs := [] }
noncomputable def dvflInts_0 : Desc := { n := 26, regs := [.one (.val (.sl (.int .i64))), .one (.val (.sl (.int .i64))), u, u, u, .one (.val (.int .i64))], bx := [], pins := [] }
noncomputable def ovflInts_0 : Outs := [(.exit 0, { n := 26, regs := [], bx := [], pins := [] }), (.ret, { n := 26, regs := [u, u, u, u, .one (.val .bool)], bx := [], pins := [] })]
noncomputable def lvflInts_0 (N : Nat) : Nat → ((List Int) × ((List Int) × (Int × Unit))) → Option (Unit ⊕ (Bool × Unit))
  | 0, _ => none
  | n + 1, v =>
    let y2 := decide (v.2.2.1 < (v.1.length : Int))
    bif y2 then
     bif decide (0 ≤ v.2.2.1) then
     bif decide (v.2.2.1.toNat < v.1.length) then
     bif decide (0 ≤ v.2.2.1) then
     bif decide (v.2.2.1.toNat < v.2.1.length) then
     let y3 := (v.1.getD v.2.2.1.toNat (0 : Int)) != (v.2.1.getD v.2.2.1.toNat (0 : Int))
     bif y3 then
      some (.inr ((false, ())))
     else
     lvflInts_0 N n (v.1, v.2.1, w64 (v.2.2.1 + (1 : Int)), ())
     else none
     else none
     else none
     else none
    else
    some (.inl ())
noncomputable def FvflInts (N : Nat) (x : ((List Int) × ((List Int) × Unit))) : Option (Bool × Unit) :=
  let y1 := (x.1.length : Int) != (x.2.1.length : Int)
  bif y1 then
   some (false, ())
  else
  (lvflInts_0 N N (x.1, x.2.1, (0 : Int), ())).bind fun o4 =>
  Sum.elim (fun o5 =>
   some (true, ())) (fun o6 =>
   some (o6.1, ())) o4
noncomputable def convflInts (N : Nat) : Con := { f := 37, din := dinvflInts, outs := outvflInts, F := FvflInts N }
noncomputable def XvflInts (N : Nat) : Ctx := { E := EvflInts N, H := HvflInts, lp := [(0, { hd := dvflInts_0, outs := ovflInts_0, run := fun v => lvflInts_0 N N v })], jn := [] }
noncomputable def bvflInts_0 : Code := loopBody (codeOf Try.f37) 0
theorem FvflInts_eq (N : Nat) (x : ((List Int) × ((List Int) × Unit))) : evFn (XvflInts N) Try.f37 dinvflInts outvflInts x = FvflInts N x := by kernel_rfl
theorem lvflInts_0_eq (N n : Nat) (v : ((List Int) × ((List Int) × (Int × Unit)))) : lvflInts_0 N (n + 1) v = ev (XvflInts N) bvflInts_0 (roundK dvflInts_0 ovflInts_0 (lvflInts_0 N n)) (dvflInts_0.mk' v) := by kernel_rfl
theorem cxvflInts (N : Nat) : CtxOk Try.prog (XvflInts N) := ⟨⟨TE_ok, fun k hk => absurd hk List.not_mem_nil⟩, mixed⟩
theorem lpvflInts_0 (N : Nat) : LoopOk Try.prog { hd := dvflInts_0, outs := ovflInts_0, run := fun v => lvflInts_0 N N v } bvflInts_0 :=
  loop_fuel (d := dvflInts_0) (os := ovflInts_0) (cxvflInts N) (loops_at (ids := []) (by kernel_rfl) (trivial)) (lvflInts_0 N) (fun _ => rfl) (fun n v => lvflInts_0_eq N n v) (fun _ => N)
theorem specvflInts (N : Nat) : Spec Try.prog (convflInts N) :=
  Spec.of_eq (fn_spec (cxvflInts N) (f := 37) (fn := Try.f37) (c := codeOf Try.f37) (by kernel_rfl) (by kernel_rfl) (by kernel_rfl) (loops_at (ids := [0]) (by kernel_rfl) ⟨lp_of (lpvflInts_0 N), trivial⟩) (by kernel_rfl)) (fun x r h => (FvflInts_eq N x).trans h)

/-! ### 135: impl.Graph).met$1 -/

noncomputable def diniGraph_met_1 : Desc := { n := 3, regs := [.one (.val (.sl (.int .i64))), .one (.lit (.ptr 64 0)), .one (.lit (.ptr 128 0))], bx := [(64, .var [.lit (.row 65)]), (65, .row .bool), (128, .var [.lit (.row 129)]), (129, .row (.int .i64))], pins := [] }
noncomputable def outiGraph_met_1 : Outs := [(.ret, { n := 0, regs := [], bx := [(64, .var [.lit (.row 65)]), (65, .row .bool), (128, .var [.lit (.row 129)]), (129, .row (.int .i64))], pins := [u, .one (.lit (.ptr 64 0)), .one (.lit (.ptr 128 0))] })]
noncomputable def HiGraph_met_1 : Hints := []
noncomputable def EiGraph_met_1 (_N : Nat) : Env := { te := TE, cs := [] }
noncomputable def diGraph_met_1_0 : Desc := { n := 29, regs := [u, .one (.lit (.ptr 64 0)), .one (.lit (.ptr 128 0)), u, u, u, .one (.val (.sl (.int .i64))), .one (.val (.int .i64)), .one (.val (.int .i64))], bx := [(64, .var [.lit (.row 65)]), (65, .row .bool), (128, .var [.lit (.row 129)]), (129, .row (.int .i64))], pins := [u, .one (.lit (.ptr 64 0)), .one (.lit (.ptr 128 0))] }
noncomputable def oiGraph_met_1_0 : Outs := [(.exit 0, { n := 29, regs := [], bx := [(64, .var [.lit (.row 65)]), (65, .row .bool), (128, .var [.lit (.row 129)]), (129, .row (.int .i64))], pins := [u, .one (.lit (.ptr 64 0)), .one (.lit (.ptr 128 0))] })]
noncomputable def liGraph_met_1_0 (N : Nat) : Nat → ((List Int) × (Int × (Int × ((List Bool) × ((List Int) × Unit))))) → Option ((List Bool) × ((List Int) × Unit))
  | 0, _ => none
  | n + 1, v =>
    bif decide (v.2.2.1 < v.2.1) then
     bif decide (0 ≤ v.2.2.1) then
     bif decide (v.2.2.1.toNat < v.1.length) then
     let y1 := decide ((v.1.getD v.2.2.1.toNat (0 : Int)) ≥ (0 : Int))
     bif y1 then
      bif decide (0 ≤ (v.1.getD v.2.2.1.toNat (0 : Int))) then
      bif decide ((v.1.getD v.2.2.1.toNat (0 : Int)).toNat < v.2.2.2.1.length) then
      let y2 := (v.1.getD v.2.2.1.toNat (0 : Int)).toNat
      bif !(v.2.2.2.1.getD y2 false) then
       bif decide (0 ≤ (v.1.getD v.2.2.1.toNat (0 : Int))) then
       bif decide ((v.1.getD v.2.2.1.toNat (0 : Int)).toNat < v.2.2.2.1.length) then
       let y3 := (v.1.getD v.2.2.1.toNat (0 : Int)).toNat
       bif decide (v.2.2.2.2.1.length + [v.1.getD v.2.2.1.toNat (0 : Int)].length ≤ lim) then
       let y4 := v.2.2.2.2.1 ++ [v.1.getD v.2.2.1.toNat (0 : Int)]
       liGraph_met_1_0 N n (v.1, v.2.1, w64 (v.2.2.1 + (1 : Int)), v.2.2.2.1.set y3 true, y4, ())
       else none
       else none
       else none
      else
      liGraph_met_1_0 N n (v.1, v.2.1, w64 (v.2.2.1 + (1 : Int)), v.2.2.2.1, v.2.2.2.2.1, ())
      else none
      else none
     else
     liGraph_met_1_0 N n (v.1, v.2.1, w64 (v.2.2.1 + (1 : Int)), v.2.2.2.1, v.2.2.2.2.1, ())
     else none
     else none
    else
    some (v.2.2.2.1, v.2.2.2.2.1, ())
noncomputable def FiGraph_met_1 (N : Nat) (x : ((List Int) × ((List Bool) × ((List Int) × Unit)))) : Option ((List Bool) × ((List Int) × Unit)) :=
  (liGraph_met_1_0 N N (x.1, (x.1.length : Int), (0 : Int), x.2.1, x.2.2.1, ())).bind fun o5 =>
  some (o5.1, o5.2.1, ())
noncomputable def coniGraph_met_1 (N : Nat) : Con := { f := 135, din := diniGraph_met_1, outs := outiGraph_met_1, F := FiGraph_met_1 N }
noncomputable def XiGraph_met_1 (N : Nat) : Ctx := { E := EiGraph_met_1 N, H := HiGraph_met_1, lp := [(0, { hd := diGraph_met_1_0, outs := oiGraph_met_1_0, run := fun v => liGraph_met_1_0 N N v })], jn := [] }
noncomputable def biGraph_met_1_0 : Code := loopBody (codeOf Try.f135) 0
theorem FiGraph_met_1_eq (N : Nat) (x : ((List Int) × ((List Bool) × ((List Int) × Unit)))) : evFn (XiGraph_met_1 N) Try.f135 diniGraph_met_1 outiGraph_met_1 x = FiGraph_met_1 N x := by kernel_rfl
theorem liGraph_met_1_0_eq (N n : Nat) (v : ((List Int) × (Int × (Int × ((List Bool) × ((List Int) × Unit)))))) : liGraph_met_1_0 N (n + 1) v = ev (XiGraph_met_1 N) biGraph_met_1_0 (roundK diGraph_met_1_0 oiGraph_met_1_0 (liGraph_met_1_0 N n)) (diGraph_met_1_0.mk' v) := by kernel_rfl
theorem cxiGraph_met_1 (N : Nat) : CtxOk Try.prog (XiGraph_met_1 N) := ⟨⟨TE_ok, fun k hk => absurd hk List.not_mem_nil⟩, mixed⟩
theorem lpiGraph_met_1_0 (N : Nat) : LoopOk Try.prog { hd := diGraph_met_1_0, outs := oiGraph_met_1_0, run := fun v => liGraph_met_1_0 N N v } biGraph_met_1_0 :=
  loop_fuel (d := diGraph_met_1_0) (os := oiGraph_met_1_0) (cxiGraph_met_1 N) (loops_at (ids := []) (by kernel_rfl) (trivial)) (liGraph_met_1_0 N) (fun _ => rfl) (fun n v => liGraph_met_1_0_eq N n v) (fun _ => N)
theorem speciGraph_met_1 (N : Nat) : Spec Try.prog (coniGraph_met_1 N) :=
  Spec.of_eq (fn_spec (cxiGraph_met_1 N) (f := 135) (fn := Try.f135) (c := codeOf Try.f135) (by kernel_rfl) (by kernel_rfl) (by kernel_rfl) (loops_at (ids := [0]) (by kernel_rfl) ⟨lp_of (lpiGraph_met_1_0 N), trivial⟩) (by kernel_rfl)) (fun x r h => (FiGraph_met_1_eq N x).trans h)

/-! ### 80: impl.Graph).met -/

noncomputable def diniGraph_met : Desc := { n := 1, regs := [.one (.val (.pair (.sl (.pair (.sl (.int .i64)) (.pair (.sl (.int .i64)) .unit))) (.pair (.sl (.sl (.int .i64))) (.pair (.sl (.int .i64)) .unit))))], bx := [], pins := [] }
noncomputable def outiGraph_met : Outs := [(.ret, { n := 1, regs := [.one (.lit (.row 1012801))], bx := [(1012801, .row (.int .i64))], pins := [] })]
noncomputable def HiGraph_met : Hints := [(0, [(0, { fz := true })]),
  (1, [(0, { nl := [(0, (.int .i64))] })]),
  (7, [(2, { sg := [(64, 1025856), (65, 1025792), (128, 1012800), (129, 1012801)] })]),
  (9, [(3, { sg := [(64, 1025856), (65, 1025792), (128, 1012800), (129, 1012801)] })]),
  (13, [(10, { sg := [(64, 1025856), (65, 1025792), (128, 1012800), (129, 1012801)] })])]
noncomputable def EiGraph_met (N : Nat) : Env := { te := TE, cs := [coniGraph_met_1 N] }
noncomputable def diGraph_met_0 : Desc := { n := 47, regs := [u, .one (.fpt (.pair (.sl (.pair (.sl (.int .i64)) (.pair (.sl (.int .i64)) .unit))) (.pair (.sl (.sl (.int .i64))) (.pair (.sl (.int .i64)) .unit)))), u, .one (.lit (.ptr 1012800 0)), u, .one (.clo 135 [.inl 1025856, .inl 1012800]), u, u, u, u, u, u, u, u, u, .one (.val (.sl (.sl (.int .i64)))), .one (.val (.int .i64)), .one (.val (.int .i64))], bx := [(1012800, .var [.lit (.row 1012801)]), (1012801, .row (.int .i64)), (1025856, .var [.lit (.row 1025792)]), (1025792, .row .bool)], pins := [] }
noncomputable def oiGraph_met_0 : Outs := [(.exit 0, { n := 47, regs := [u, .one (.fpt (.pair (.sl (.pair (.sl (.int .i64)) (.pair (.sl (.int .i64)) .unit))) (.pair (.sl (.sl (.int .i64))) (.pair (.sl (.int .i64)) .unit)))), u, .one (.lit (.ptr 1012800 0)), u, .one (.clo 135 [.inl 1025856, .inl 1012800])], bx := [(1012800, .var [.lit (.row 1012801)]), (1012801, .row (.int .i64)), (1025856, .var [.lit (.row 1025792)]), (1025792, .row .bool)], pins := [] })]
noncomputable def diGraph_met_2 : Desc := { n := 47, regs := [u, .one (.fpt (.pair (.sl (.pair (.sl (.int .i64)) (.pair (.sl (.int .i64)) .unit))) (.pair (.sl (.sl (.int .i64))) (.pair (.sl (.int .i64)) .unit)))), u, .one (.lit (.ptr 1012800 0)), u, .one (.clo 135 [.inl 1025856, .inl 1012800]), u, u, .one (.val (.int .i64))], bx := [(1012800, .var [.lit (.row 1012801)]), (1012801, .row (.int .i64)), (1025856, .var [.lit (.row 1025792)]), (1025792, .row .bool)], pins := [] }
noncomputable def oiGraph_met_2 : Outs := [(.exit 2, { n := 47, regs := [u, u, u, .one (.lit (.ptr 1012800 0))], bx := [(1012800, .var [.lit (.row 1012801)]), (1012801, .row (.int .i64))], pins := [] })]
noncomputable def liGraph_met_0 (N : Nat) : Nat → (((List ((List Int) × ((List Int) × Unit))) × ((List (List Int)) × ((List Int) × Unit))) × ((List (List Int)) × (Int × (Int × ((List Int) × ((List Bool) × Unit)))))) → Option (((List ((List Int) × ((List Int) × Unit))) × ((List (List Int)) × ((List Int) × Unit))) × ((List Int) × ((List Bool) × Unit)))
  | 0, _ => none
  | n + 1, v =>
    bif decide (v.2.2.2.1 < v.2.2.1) then
     bif decide (0 ≤ v.2.2.2.1) then
     bif decide (v.2.2.2.1.toNat < v.2.1.length) then
     let y2 := v.2.1.getD v.2.2.2.1.toNat ([] : (List Int))
     (FiGraph_met_1 N (y2, v.2.2.2.2.2.1, v.2.2.2.2.1, ())).bind fun r3 =>
     liGraph_met_0 N n (v.1, v.2.1, v.2.2.1, w64 (v.2.2.2.1 + (1 : Int)), r3.2.1, r3.1, ())
     else none
     else none
    else
    some (v.1, v.2.2.2.2.1, v.2.2.2.2.2.1, ())
noncomputable def liGraph_met_2 (N : Nat) : Nat → (((List ((List Int) × ((List Int) × Unit))) × ((List (List Int)) × ((List Int) × Unit))) × (Int × ((List Int) × ((List Bool) × Unit)))) → Option ((List Int) × Unit)
  | 0, _ => none
  | n + 1, v =>
    let y6 := decide (v.2.1 < (v.2.2.1.length : Int))
    bif y6 then
     bif decide (0 ≤ v.2.1) then
     bif decide (v.2.1.toNat < v.2.2.1.length) then
     bif decide (0 ≤ (v.2.2.1.getD v.2.1.toNat (0 : Int))) then
     bif decide ((v.2.2.1.getD v.2.1.toNat (0 : Int)).toNat < v.1.1.length) then
     let y7 := v.1.1.getD ((v.2.2.1.getD v.2.1.toNat (0 : Int)).toNat) (([] : (List Int)), ([] : (List Int)), ())
     (FiGraph_met_1 N (y7.1, v.2.2.2.1, v.2.2.1, ())).bind fun r8 =>
     liGraph_met_2 N n (v.1, w64 (v.2.1 + (1 : Int)), r8.2.1, r8.1, ())
     else none
     else none
     else none
     else none
    else
    some (v.2.2.1, ())
noncomputable def FiGraph_met (N : Nat) (x : (((List ((List Int) × ((List Int) × Unit))) × ((List (List Int)) × ((List Int) × Unit))) × Unit)) : Option ((List Int) × Unit) :=
  bif decide (0 ≤ (x.1.1.length : Int)) then
  bif decide ((x.1.1.length : Int).toNat ≤ lim) then
  let y1 := List.replicate (x.1.1.length : Int).toNat false
  (liGraph_met_0 N N (x.1, x.1.2.1, (x.1.2.1.length : Int), (0 : Int), ([] : (List Int)), y1, ())).bind fun o4 =>
  (FiGraph_met_1 N (o4.1.2.2.1, o4.2.2.1, o4.2.1, ())).bind fun r5 =>
  (liGraph_met_2 N N (o4.1, (0 : Int), r5.2.1, r5.1, ())).bind fun o9 =>
  some (o9.1, ())
  else none
  else none
noncomputable def coniGraph_met (N : Nat) : Con := { f := 80, din := diniGraph_met, outs := outiGraph_met, F := FiGraph_met N }
noncomputable def XiGraph_met (N : Nat) : Ctx := { E := EiGraph_met N, H := HiGraph_met, lp := [(0, { hd := diGraph_met_0, outs := oiGraph_met_0, run := fun v => liGraph_met_0 N N v }), (2, { hd := diGraph_met_2, outs := oiGraph_met_2, run := fun v => liGraph_met_2 N N v })], jn := [] }
noncomputable def biGraph_met_2 : Code := loopBody (codeOf Try.f80) 1
noncomputable def biGraph_met_0 : Code := loopBody (codeOf Try.f80) 0
theorem FiGraph_met_eq (N : Nat) (x : (((List ((List Int) × ((List Int) × Unit))) × ((List (List Int)) × ((List Int) × Unit))) × Unit)) : evFn (XiGraph_met N) Try.f80 diniGraph_met outiGraph_met x = FiGraph_met N x := by kernel_rfl
theorem liGraph_met_0_eq (N n : Nat) (v : (((List ((List Int) × ((List Int) × Unit))) × ((List (List Int)) × ((List Int) × Unit))) × ((List (List Int)) × (Int × (Int × ((List Int) × ((List Bool) × Unit))))))) : liGraph_met_0 N (n + 1) v = ev (XiGraph_met N) biGraph_met_0 (roundK diGraph_met_0 oiGraph_met_0 (liGraph_met_0 N n)) (diGraph_met_0.mk' v) := by kernel_rfl
theorem liGraph_met_2_eq (N n : Nat) (v : (((List ((List Int) × ((List Int) × Unit))) × ((List (List Int)) × ((List Int) × Unit))) × (Int × ((List Int) × ((List Bool) × Unit))))) : liGraph_met_2 N (n + 1) v = ev (XiGraph_met N) biGraph_met_2 (roundK diGraph_met_2 oiGraph_met_2 (liGraph_met_2 N n)) (diGraph_met_2.mk' v) := by kernel_rfl
theorem cxiGraph_met (N : Nat) : CtxOk Try.prog (XiGraph_met N) := ⟨⟨TE_ok, List.forall_mem_cons.2 ⟨(speciGraph_met_1 N), fun k hk => absurd hk List.not_mem_nil⟩⟩, mixed⟩
theorem lpiGraph_met_0 (N : Nat) : LoopOk Try.prog { hd := diGraph_met_0, outs := oiGraph_met_0, run := fun v => liGraph_met_0 N N v } biGraph_met_0 :=
  loop_fuel (d := diGraph_met_0) (os := oiGraph_met_0) (cxiGraph_met N) (loops_at (ids := []) (by kernel_rfl) (trivial)) (liGraph_met_0 N) (fun _ => rfl) (fun n v => liGraph_met_0_eq N n v) (fun _ => N)
theorem lpiGraph_met_2 (N : Nat) : LoopOk Try.prog { hd := diGraph_met_2, outs := oiGraph_met_2, run := fun v => liGraph_met_2 N N v } biGraph_met_2 :=
  loop_fuel (d := diGraph_met_2) (os := oiGraph_met_2) (cxiGraph_met N) (loops_at (ids := []) (by kernel_rfl) (trivial)) (liGraph_met_2 N) (fun _ => rfl) (fun n v => liGraph_met_2_eq N n v) (fun _ => N)
theorem speciGraph_met (N : Nat) : Spec Try.prog (coniGraph_met N) :=
  Spec.of_eq (fn_spec (cxiGraph_met N) (f := 80) (fn := Try.f80) (c := codeOf Try.f80) (by kernel_rfl) (by kernel_rfl) (by kernel_rfl) (loops_at (ids := [0, 2]) (by kernel_rfl) ⟨lp_of (lpiGraph_met_0 N), ⟨lp_of (lpiGraph_met_2 N), trivial⟩⟩) (by kernel_rfl)) (fun x r h => (FiGraph_met_eq N x).trans h)

/-! ### 32: impl.GraphReach -/

noncomputable def diniGraphReach : Desc := { n := 1, regs := [.one (.val (.pair (.sl (.pair (.sl (.int .i64)) (.pair (.sl (.int .i64)) .unit))) (.pair (.sl (.sl (.int .i64))) (.pair (.sl (.int .i64)) .unit))))], bx := [], pins := [] }
noncomputable def outiGraphReach : Outs := [(.ret, { n := 1, regs := [.one (.lit (.row 1025600))], bx := [(1025600, .row .bool)], pins := [] })]
noncomputable def HiGraphReach : Hints := [(0, [(0, { fz := true })]),
  (2, [(0, { nl := [(0, .bool)] })]),
  (4, [(1, { con := 1 })])]
noncomputable def EiGraphReach (N : Nat) : Env := { te := TE, cs := [coniGraphOk N, coniGraph_met N] }
noncomputable def diGraphReach_0 : Desc := { n := 25, regs := [u, u, u, .one (.lit (.row 1038592)), u, u, u, u, u, u, u, u, u, u, .one (.lit (.row 1051265)), .one (.val (.int .i64)), .one (.val (.int .i64))], bx := [(1038592, .row .bool), (1051265, .row (.int .i64))], pins := [] }
noncomputable def oiGraphReach_0 : Outs := [(.exit 0, { n := 25, regs := [u, u, u, .one (.lit (.row 1038592))], bx := [(1038592, .row .bool)], pins := [] })]
noncomputable def liGraphReach_0 (N : Nat) : Nat → (Int × (Int × ((List Bool) × ((List Int) × Unit)))) → Option ((List Bool) × Unit)
  | 0, _ => none
  | n + 1, v =>
    bif decide (v.2.1 < v.1) then
     bif decide (0 ≤ v.2.1) then
     bif decide (v.2.1.toNat < v.2.2.2.1.length) then
     bif decide (0 ≤ (v.2.2.2.1.getD v.2.1.toNat (0 : Int))) then
     bif decide ((v.2.2.2.1.getD v.2.1.toNat (0 : Int)).toNat < v.2.2.1.length) then
     let y4 := (v.2.2.2.1.getD v.2.1.toNat (0 : Int)).toNat
     liGraphReach_0 N n (v.1, w64 (v.2.1 + (1 : Int)), v.2.2.1.set y4 true, v.2.2.2.1, ())
     else none
     else none
     else none
     else none
    else
    some (v.2.2.1, ())
noncomputable def FiGraphReach (N : Nat) (x : (((List ((List Int) × ((List Int) × Unit))) × ((List (List Int)) × ((List Int) × Unit))) × Unit)) : Option ((List Bool) × Unit) :=
  (FiGraphOk N (x.1, ())).bind fun r1 =>
  bif !r1.1 then
   some (([] : (List Bool)), ())
  else
  bif decide (0 ≤ (x.1.1.length : Int)) then
  bif decide ((x.1.1.length : Int).toNat ≤ lim) then
  let y2 := List.replicate (x.1.1.length : Int).toNat false
  (FiGraph_met N (x.1, ())).bind fun r3 =>
  (liGraphReach_0 N N ((r3.1.length : Int), (0 : Int), y2, r3.1, ())).bind fun o5 =>
  some (o5.1, ())
  else none
  else none
noncomputable def coniGraphReach (N : Nat) : Con := { f := 32, din := diniGraphReach, outs := outiGraphReach, F := FiGraphReach N }
noncomputable def XiGraphReach (N : Nat) : Ctx := { E := EiGraphReach N, H := HiGraphReach, lp := [(0, { hd := diGraphReach_0, outs := oiGraphReach_0, run := fun v => liGraphReach_0 N N v })], jn := [] }
noncomputable def biGraphReach_0 : Code := loopBody (codeOf Try.f32) 0
theorem FiGraphReach_eq (N : Nat) (x : (((List ((List Int) × ((List Int) × Unit))) × ((List (List Int)) × ((List Int) × Unit))) × Unit)) : evFn (XiGraphReach N) Try.f32 diniGraphReach outiGraphReach x = FiGraphReach N x := by kernel_rfl
theorem liGraphReach_0_eq (N n : Nat) (v : (Int × (Int × ((List Bool) × ((List Int) × Unit))))) : liGraphReach_0 N (n + 1) v = ev (XiGraphReach N) biGraphReach_0 (roundK diGraphReach_0 oiGraphReach_0 (liGraphReach_0 N n)) (diGraphReach_0.mk' v) := by kernel_rfl
theorem cxiGraphReach (N : Nat) : CtxOk Try.prog (XiGraphReach N) := ⟨⟨TE_ok, List.forall_mem_cons.2 ⟨(speciGraphOk N), List.forall_mem_cons.2 ⟨(speciGraph_met N), fun k hk => absurd hk List.not_mem_nil⟩⟩⟩, mixed⟩
theorem lpiGraphReach_0 (N : Nat) : LoopOk Try.prog { hd := diGraphReach_0, outs := oiGraphReach_0, run := fun v => liGraphReach_0 N N v } biGraphReach_0 :=
  loop_fuel (d := diGraphReach_0) (os := oiGraphReach_0) (cxiGraphReach N) (loops_at (ids := []) (by kernel_rfl) (trivial)) (liGraphReach_0 N) (fun _ => rfl) (fun n v => liGraphReach_0_eq N n v) (fun _ => N)
theorem speciGraphReach (N : Nat) : Spec Try.prog (coniGraphReach N) :=
  Spec.of_eq (fn_spec (cxiGraphReach N) (f := 32) (fn := Try.f32) (c := codeOf Try.f32) (by kernel_rfl) (by kernel_rfl) (by kernel_rfl) (loops_at (ids := [0]) (by kernel_rfl) ⟨lp_of (lpiGraphReach_0 N), trivial⟩) (by kernel_rfl)) (fun x r h => (FiGraphReach_eq N x).trans h)

/-! ### 11: laws.FnPathHolds -/

noncomputable def dinvFnPathHolds : Desc := { n := 1, regs := [.one (.val (.sl (.int .u8)))], bx := [], pins := [] }
noncomputable def outvFnPathHolds : Outs := [(.ret, { n := 1, regs := [.one (.val .bool)], bx := [], pins := [] })]
noncomputable def HvFnPathHolds : Hints := [(4, [(2, { con := 1 })]),
  (5, [(3, { con := 2 }), (4, { con := 3 })]),
  (7, [(1, { con := 4 })]),
  (9, [(1, { con := 5 })]),
  (22, [(5, { con := 1 })])]
noncomputable def EvFnPathHolds (N : Nat) : Env := { te := TE, cs := [consDrawPathHolds N, coniPathHolds N, consPathHolds N, convflInts N, consGraphOk N, coniGraphReach N] }
noncomputable def dvFnPathHolds_0 : Desc := { n := 137, regs := [u, u, u, .one (.lit (.ptr 1038720 0)), .one (.val (.int .i64)), .one (.lit (.row 1051329)), .one (.lit (.row 1115265)), .one (.val .bool), .one (.val (.int .i64))], bx := [(1038720, .var [.lit (.row 1038465), .lit (.row 1038466), .lit (.row 1038467)]), (1038465, .row (.pair (.sl (.int .i64)) (.pair (.sl (.int .i64)) .unit))), (1038466, .row (.sl (.int .i64))), (1038467, .row (.int .i64)), (1051329, .row (.int .i64)), (1115265, .row .bool)], pins := [] }
noncomputable def ovFnPathHolds_0 : Outs := [(.exit 0, { n := 137, regs := [u, u, u, .one (.lit (.ptr 1038720 0)), .one (.val (.int .i64)), .one (.lit (.row 1051329)), .one (.lit (.row 1115265)), .one (.val .bool)], bx := [(1038720, .var [.lit (.row 1038465), .lit (.row 1038466), .lit (.row 1038467)]), (1038465, .row (.pair (.sl (.int .i64)) (.pair (.sl (.int .i64)) .unit))), (1038466, .row (.sl (.int .i64))), (1038467, .row (.int .i64)), (1051329, .row (.int .i64)), (1115265, .row .bool)], pins := [] }), (.ret, { n := 137, regs := [u, u, .one (.val .bool)], bx := [], pins := [] })]
noncomputable def dvFnPathHolds_6 : Desc := { n := 137, regs := [u, u, u, .one (.lit (.ptr 1038720 0)), u, .one (.lit (.row 1051329)), u, u, u, .one (.val (.int .i64)), .one (.lit (.row 1281921)), .one (.val (.int .i64)), .one (.val .bool), .one (.val (.int .i64))], bx := [(1038720, .var [.lit (.row 1038465), .lit (.row 1038466), .lit (.row 1038467)]), (1038465, .row (.pair (.sl (.int .i64)) (.pair (.sl (.int .i64)) .unit))), (1038466, .row (.sl (.int .i64))), (1038467, .row (.int .i64)), (1051329, .row (.int .i64)), (1281921, .row (.int .i64))], pins := [] }
noncomputable def ovFnPathHolds_6 : Outs := [(.exit 6, { n := 137, regs := [u, u, u, .one (.lit (.ptr 1038720 0)), u, .one (.lit (.row 1051329)), u, u, u, .one (.val (.int .i64)), .one (.lit (.row 1281921)), .one (.val (.int .i64)), .one (.val .bool)], bx := [(1038720, .var [.lit (.row 1038465), .lit (.row 1038466), .lit (.row 1038467)]), (1038465, .row (.pair (.sl (.int .i64)) (.pair (.sl (.int .i64)) .unit))), (1038466, .row (.sl (.int .i64))), (1038467, .row (.int .i64)), (1051329, .row (.int .i64)), (1281921, .row (.int .i64))], pins := [] })]
noncomputable def dvFnPathHolds_4 : Desc := { n := 137, regs := [u, u, u, .one (.lit (.ptr 1038720 0)), u, .one (.lit (.row 1051329)), u, u, u, .one (.val (.int .i64)), .one (.lit (.row 1281921)), .one (.val (.int .i64))], bx := [(1038720, .var [.lit (.row 1038465), .lit (.row 1038466), .lit (.row 1038467)]), (1038465, .row (.pair (.sl (.int .i64)) (.pair (.sl (.int .i64)) .unit))), (1038466, .row (.sl (.int .i64))), (1038467, .row (.int .i64)), (1051329, .row (.int .i64)), (1281921, .row (.int .i64))], pins := [] }
noncomputable def ovFnPathHolds_4 : Outs := [(.exit 4, { n := 137, regs := [u, u, u, .one (.lit (.ptr 1038720 0)), u, .one (.lit (.row 1051329)), u, u, u, .one (.val (.int .i64))], bx := [(1038720, .var [.lit (.row 1038465), .lit (.row 1038466), .lit (.row 1038467)]), (1038465, .row (.pair (.sl (.int .i64)) (.pair (.sl (.int .i64)) .unit))), (1038466, .row (.sl (.int .i64))), (1038467, .row (.int .i64)), (1051329, .row (.int .i64))], pins := [] }), (.ret, { n := 137, regs := [u, u, .one (.val .bool)], bx := [], pins := [] })]
noncomputable def dvFnPathHolds_2 : Desc := { n := 137, regs := [u, u, u, .one (.lit (.ptr 1038720 0)), u, .one (.lit (.row 1051329)), u, u, u, .one (.val (.int .i64))], bx := [(1038720, .var [.lit (.row 1038465), .lit (.row 1038466), .lit (.row 1038467)]), (1038465, .row (.pair (.sl (.int .i64)) (.pair (.sl (.int .i64)) .unit))), (1038466, .row (.sl (.int .i64))), (1038467, .row (.int .i64)), (1051329, .row (.int .i64))], pins := [] }
noncomputable def ovFnPathHolds_2 : Outs := [(.exit 2, { n := 137, regs := [], bx := [], pins := [] }), (.ret, { n := 137, regs := [u, u, .one (.val .bool)], bx := [], pins := [] })]
noncomputable def jvFnPathHolds_9 : Outs := [(.normal, { n := 137, regs := [u, u, u, .one (.lit (.ptr 1038720 0)), .one (.val (.int .i64)), .one (.lit (.row 1051329))], bx := [(1038720, .var [.lit (.row 1038465), .lit (.row 1038466), .lit (.row 1038467)]), (1038465, .row (.pair (.sl (.int .i64)) (.pair (.sl (.int .i64)) .unit))), (1038466, .row (.sl (.int .i64))), (1038467, .row (.int .i64)), (1051329, .row (.int .i64))], pins := [] }), (.ret, { n := 137, regs := [u, u, .one (.val .bool)], bx := [], pins := [] })]
noncomputable def jvFnPathHolds_15 : Outs := [(.normal, { n := 137, regs := [u, u, u, .one (.lit (.ptr 1038720 0)), .one (.val (.int .i64)), .one (.lit (.row 1051329)), .one (.lit (.row 1115265)), .one (.val .bool), .one (.val (.int .i64))], bx := [(1038720, .var [.lit (.row 1038465), .lit (.row 1038466), .lit (.row 1038467)]), (1038465, .row (.pair (.sl (.int .i64)) (.pair (.sl (.int .i64)) .unit))), (1038466, .row (.sl (.int .i64))), (1038467, .row (.int .i64)), (1051329, .row (.int .i64)), (1115265, .row .bool)], pins := [] })]
noncomputable def jvFnPathHolds_22 : Outs := [(.exit 2, { n := 137, regs := [], bx := [], pins := [] }), (.normal, { n := 137, regs := [u, u, u, .one (.lit (.ptr 1038720 0)), u, .one (.lit (.row 1051329)), u, u, u, .one (.val (.int .i64))], bx := [(1038720, .var [.lit (.row 1038465), .lit (.row 1038466), .lit (.row 1038467)]), (1038465, .row (.pair (.sl (.int .i64)) (.pair (.sl (.int .i64)) .unit))), (1038466, .row (.sl (.int .i64))), (1038467, .row (.int .i64)), (1051329, .row (.int .i64))], pins := [] })]
noncomputable def lvFnPathHolds_0 (N : Nat) : Nat → (Int × (Bool × (Int × ((List ((List Int) × ((List Int) × Unit))) × ((List (List Int)) × ((List Int) × ((List Int) × ((List Bool) × Unit)))))))) → Option ((Int × (Bool × ((List ((List Int) × ((List Int) × Unit))) × ((List (List Int)) × ((List Int) × ((List Int) × ((List Bool) × Unit))))))) ⊕ (Bool × Unit))
  | 0, _ => none
  | n + 1, v =>
    let y11 := decide (v.2.2.1 < (v.2.2.2.2.2.2.1.length : Int))
    bif y11 then
     Option.bind (
      bif v.2.1 then
       some (v.1, true, v.2.2.1, v.2.2.2.1, v.2.2.2.2.1, v.2.2.2.2.2.1, v.2.2.2.2.2.2.1, v.2.2.2.2.2.2.2.1, ())
      else
      bif decide (0 ≤ v.2.2.1) then
      bif decide (v.2.2.1.toNat < v.2.2.2.2.2.2.1.length) then
      let y12 := v.2.2.2.2.2.2.1.getD v.2.2.1.toNat (0 : Int)
      some (v.1, y12 == v.1, v.2.2.1, v.2.2.2.1, v.2.2.2.2.1, v.2.2.2.2.2.1, v.2.2.2.2.2.2.1, v.2.2.2.2.2.2.2.1, ())
      else none
      else none) fun o13 =>
     bif decide (0 ≤ o13.2.2.1) then
     bif decide (o13.2.2.1.toNat < o13.2.2.2.2.2.2.1.length) then
     let y14 := o13.2.2.2.2.2.2.1.getD o13.2.2.1.toNat (0 : Int)
     bif decide (0 ≤ y14) then
     bif decide (y14.toNat < o13.2.2.2.2.2.2.2.1.length) then
     let y15 := o13.2.2.2.2.2.2.2.1.getD y14.toNat false
     bif !y15 then
      some (.inr ((false, ())))
     else
     bif decide (o13.2.2.1 > (0 : Int)) then
      bif decide (0 ≤ (w64 (o13.2.2.1 - (1 : Int)))) then
      bif decide ((w64 (o13.2.2.1 - (1 : Int))).toNat < o13.2.2.2.2.2.2.1.length) then
      let y16 := o13.2.2.2.2.2.2.1.getD ((w64 (o13.2.2.1 - (1 : Int))).toNat) (0 : Int)
      bif decide (0 ≤ o13.2.2.1) then
      bif decide (o13.2.2.1.toNat < o13.2.2.2.2.2.2.1.length) then
      let y17 := o13.2.2.2.2.2.2.1.getD o13.2.2.1.toNat (0 : Int)
      bif decide (y16 ≥ y17) then
       some (.inr ((false, ())))
      else
      lvFnPathHolds_0 N n (o13.1, o13.2.1, w64 (o13.2.2.1 + (1 : Int)), o13.2.2.2.1, o13.2.2.2.2.1, o13.2.2.2.2.2.1, o13.2.2.2.2.2.2.1, o13.2.2.2.2.2.2.2.1, ())
      else none
      else none
      else none
      else none
     else
     lvFnPathHolds_0 N n (o13.1, o13.2.1, w64 (o13.2.2.1 + (1 : Int)), o13.2.2.2.1, o13.2.2.2.2.1, o13.2.2.2.2.2.1, o13.2.2.2.2.2.2.1, o13.2.2.2.2.2.2.2.1, ())
     else none
     else none
     else none
     else none
    else
    some (.inl (v.1, v.2.1, v.2.2.2.1, v.2.2.2.2.1, v.2.2.2.2.2.1, v.2.2.2.2.2.2.1, v.2.2.2.2.2.2.2.1, ()))
noncomputable def lvFnPathHolds_6 (N : Nat) : Nat → (Int × (Int × (Bool × (Int × ((List ((List Int) × ((List Int) × Unit))) × ((List (List Int)) × ((List Int) × ((List Int) × ((List Int) × Unit))))))))) → Option (Int × (Int × (Bool × ((List ((List Int) × ((List Int) × Unit))) × ((List (List Int)) × ((List Int) × ((List Int) × ((List Int) × Unit))))))))
  | 0, _ => none
  | n + 1, v =>
    let y28 := decide (v.2.2.2.1 < (v.2.2.2.2.2.2.2.1.length : Int))
    bif y28 then
     bif v.2.2.1 then
      lvFnPathHolds_6 N n (v.1, v.2.1, true, w64 (v.2.2.2.1 + (1 : Int)), v.2.2.2.2.1, v.2.2.2.2.2.1, v.2.2.2.2.2.2.1, v.2.2.2.2.2.2.2.1, v.2.2.2.2.2.2.2.2.1, ())
     else
     bif decide (0 ≤ v.2.2.2.1) then
     bif decide (v.2.2.2.1.toNat < v.2.2.2.2.2.2.2.1.length) then
     let y29 := v.2.2.2.2.2.2.2.1.getD v.2.2.2.1.toNat (0 : Int)
     bif decide (0 ≤ v.2.1) then
     bif decide (v.2.1.toNat < v.2.2.2.2.2.2.2.2.1.length) then
     let y30 := v.2.2.2.2.2.2.2.2.1.getD v.2.1.toNat (0 : Int)
     lvFnPathHolds_6 N n (v.1, v.2.1, y29 == y30, w64 (v.2.2.2.1 + (1 : Int)), v.2.2.2.2.1, v.2.2.2.2.2.1, v.2.2.2.2.2.2.1, v.2.2.2.2.2.2.2.1, v.2.2.2.2.2.2.2.2.1, ())
     else none
     else none
     else none
     else none
    else
    some (v.1, v.2.1, v.2.2.1, v.2.2.2.2.1, v.2.2.2.2.2.1, v.2.2.2.2.2.2.1, v.2.2.2.2.2.2.2.1, v.2.2.2.2.2.2.2.2.1, ())
noncomputable def lvFnPathHolds_4 (N : Nat) : Nat → (Int × (Int × ((List ((List Int) × ((List Int) × Unit))) × ((List (List Int)) × ((List Int) × ((List Int) × ((List Int) × Unit))))))) → Option ((Int × ((List ((List Int) × ((List Int) × Unit))) × ((List (List Int)) × ((List Int) × ((List Int) × Unit))))) ⊕ (Bool × Unit))
  | 0, _ => none
  | n + 1, v =>
    let y27 := decide (v.2.1 < (v.2.2.2.2.2.2.1.length : Int))
    bif y27 then
     (lvFnPathHolds_6 N N (v.1, v.2.1, false, (0 : Int), v.2.2.1, v.2.2.2.1, v.2.2.2.2.1, v.2.2.2.2.2.1, v.2.2.2.2.2.2.1, ())).bind fun o31 =>
     bif !o31.2.2.1 then
      some (.inr ((false, ())))
     else
     lvFnPathHolds_4 N n (o31.1, w64 (o31.2.1 + (1 : Int)), o31.2.2.2.1, o31.2.2.2.2.1, o31.2.2.2.2.2.1, o31.2.2.2.2.2.2.1, o31.2.2.2.2.2.2.2.1, ())
    else
    some (.inl (v.1, v.2.2.1, v.2.2.2.1, v.2.2.2.2.1, v.2.2.2.2.2.1, ()))
noncomputable def lvFnPathHolds_2 (N : Nat) : Nat → (Int × ((List ((List Int) × ((List Int) × Unit))) × ((List (List Int)) × ((List Int) × ((List Int) × Unit))))) → Option (Unit ⊕ (Bool × Unit))
  | 0, _ => none
  | n + 1, v =>
    Option.bind (
     let y21 := decide (v.1 < (v.2.2.2.2.1.length : Int))
     bif y21 then
      bif decide (v.1 < (3 : Int)) then
       some (.inr ((v.1, v.2.1, v.2.2.1, v.2.2.2.1, v.2.2.2.2.1, ())))
      else
      some (.inl ())
     else
     some (.inl ())) fun o22 =>
    Sum.elim (fun o23 =>
     some (.inl ())) (fun o24 =>
     bif decide (0 ≤ o24.1) then
     bif decide (o24.1.toNat < o24.2.2.2.2.1.length) then
     let y25 := o24.2.2.2.2.1.getD o24.1.toNat (0 : Int)
     (FiPathHolds N ((o24.2.1, o24.2.2.1, o24.2.2.2.1, ()), y25, ())).bind fun r26 =>
     (lvFnPathHolds_4 N N (o24.1, (0 : Int), o24.2.1, o24.2.2.1, o24.2.2.2.1, o24.2.2.2.2.1, r26.1, ())).bind fun o32 =>
     Sum.elim (fun o33 =>
      lvFnPathHolds_2 N n (w64 (o33.1 + (1 : Int)), o33.2.1, o33.2.2.1, o33.2.2.2.1, o33.2.2.2.2.1, ())) (fun o34 =>
      some (.inr ((o34.1, ())))) o32
     else none
     else none) o22
noncomputable def FvFnPathHolds (N : Nat) (x : ((List Int) × Unit)) : Option (Bool × Unit) :=
  let y1 := decide ((x.1.length : Int) > (1048576 : Int))
  bif y1 then
   some (true, ())
  else
  (FsDrawPathHolds N (x.1, ())).bind fun r2 =>
  (FiPathHolds N ((r2.2.1, r2.2.2.1, r2.2.2.2.1, ()), r2.1, ())).bind fun r3 =>
  (FsPathHolds N ((r2.2.1, r2.2.2.1, r2.2.2.2.1, ()), r2.1, ())).bind fun r4 =>
  (FvflInts N (r3.1, r4.1, ())).bind fun r5 =>
  bif !r5.1 then
   some (false, ())
  else
  Option.bind (
   (FsGraphOk N ((r2.2.1, r2.2.2.1, r2.2.2.2.1, ()), ())).bind fun r6 =>
   bif !r6.1 then
    some (.inr (((r3.1.length : Int) == (0 : Int), ())))
   else
   bif decide (r2.1 < (0 : Int)) then
    some (.inr (((r3.1.length : Int) == (0 : Int), ())))
   else
   let y7 := decide (r2.1 ≥ (r2.2.1.length : Int))
   bif y7 then
    some (.inr (((r3.1.length : Int) == (0 : Int), ())))
   else
   some (.inl (r2.1, r2.2.1, r2.2.2.1, r2.2.2.2.1, r3.1, ()))) fun o8 =>
  Sum.elim (fun o9 =>
   (FiGraphReach N ((o9.2.1, o9.2.2.1, o9.2.2.2.1, ()), ())).bind fun r10 =>
   (lvFnPathHolds_0 N N (o9.1, false, (0 : Int), o9.2.1, o9.2.2.1, o9.2.2.2.1, o9.2.2.2.2.1, r10.1, ())).bind fun o18 =>
   Sum.elim (fun o19 =>
    bif decide (0 ≤ o19.1) then
    bif decide (o19.1.toNat < o19.2.2.2.2.2.2.1.length) then
    let y20 := o19.2.2.2.2.2.2.1.getD o19.1.toNat false
    bif !(o19.2.1 == y20) then
     some (false, ())
    else
    (lvFnPathHolds_2 N N ((0 : Int), o19.2.2.1, o19.2.2.2.1, o19.2.2.2.2.1, o19.2.2.2.2.2.1, ())).bind fun o35 =>
    Sum.elim (fun o36 =>
     some (true, ())) (fun o37 =>
     some (o37.1, ())) o35
    else none
    else none) (fun o38 =>
    some (o38.1, ())) o18) (fun o39 =>
   some (o39.1, ())) o8
noncomputable def convFnPathHolds (N : Nat) : Con := { f := 11, din := dinvFnPathHolds, outs := outvFnPathHolds, F := FvFnPathHolds N }
noncomputable def XvFnPathHolds (N : Nat) : Ctx := { E := EvFnPathHolds N, H := HvFnPathHolds, lp := [(0, { hd := dvFnPathHolds_0, outs := ovFnPathHolds_0, run := fun v => lvFnPathHolds_0 N N v }), (6, { hd := dvFnPathHolds_6, outs := ovFnPathHolds_6, run := fun v => lvFnPathHolds_6 N N v }), (4, { hd := dvFnPathHolds_4, outs := ovFnPathHolds_4, run := fun v => lvFnPathHolds_4 N N v }), (2, { hd := dvFnPathHolds_2, outs := ovFnPathHolds_2, run := fun v => lvFnPathHolds_2 N N v })], jn := [(9, jvFnPathHolds_9), (15, jvFnPathHolds_15), (22, jvFnPathHolds_22)] }
noncomputable def bvFnPathHolds_2 : Code := loopBody (codeOf Try.f11) 1
noncomputable def bvFnPathHolds_4 : Code := loopBody bvFnPathHolds_2 0
noncomputable def bvFnPathHolds_6 : Code := loopBody bvFnPathHolds_4 0
noncomputable def bvFnPathHolds_0 : Code := loopBody (codeOf Try.f11) 0
theorem FvFnPathHolds_eq (N : Nat) (x : ((List Int) × Unit)) : evFn (XvFnPathHolds N) Try.f11 dinvFnPathHolds outvFnPathHolds x = FvFnPathHolds N x := by kernel_rfl
theorem lvFnPathHolds_0_eq (N n : Nat) (v : (Int × (Bool × (Int × ((List ((List Int) × ((List Int) × Unit))) × ((List (List Int)) × ((List Int) × ((List Int) × ((List Bool) × Unit))))))))) : lvFnPathHolds_0 N (n + 1) v = ev (XvFnPathHolds N) bvFnPathHolds_0 (roundK dvFnPathHolds_0 ovFnPathHolds_0 (lvFnPathHolds_0 N n)) (dvFnPathHolds_0.mk' v) := by kernel_rfl
theorem lvFnPathHolds_6_eq (N n : Nat) (v : (Int × (Int × (Bool × (Int × ((List ((List Int) × ((List Int) × Unit))) × ((List (List Int)) × ((List Int) × ((List Int) × ((List Int) × Unit)))))))))) : lvFnPathHolds_6 N (n + 1) v = ev (XvFnPathHolds N) bvFnPathHolds_6 (roundK dvFnPathHolds_6 ovFnPathHolds_6 (lvFnPathHolds_6 N n)) (dvFnPathHolds_6.mk' v) := by kernel_rfl
theorem lvFnPathHolds_4_eq (N n : Nat) (v : (Int × (Int × ((List ((List Int) × ((List Int) × Unit))) × ((List (List Int)) × ((List Int) × ((List Int) × ((List Int) × Unit)))))))) : lvFnPathHolds_4 N (n + 1) v = ev (XvFnPathHolds N) bvFnPathHolds_4 (roundK dvFnPathHolds_4 ovFnPathHolds_4 (lvFnPathHolds_4 N n)) (dvFnPathHolds_4.mk' v) := by kernel_rfl
theorem lvFnPathHolds_2_eq (N n : Nat) (v : (Int × ((List ((List Int) × ((List Int) × Unit))) × ((List (List Int)) × ((List Int) × ((List Int) × Unit)))))) : lvFnPathHolds_2 N (n + 1) v = ev (XvFnPathHolds N) bvFnPathHolds_2 (roundK dvFnPathHolds_2 ovFnPathHolds_2 (lvFnPathHolds_2 N n)) (dvFnPathHolds_2.mk' v) := by kernel_rfl
theorem cxvFnPathHolds (N : Nat) : CtxOk Try.prog (XvFnPathHolds N) := ⟨⟨TE_ok, List.forall_mem_cons.2 ⟨(specsDrawPathHolds N), List.forall_mem_cons.2 ⟨(speciPathHolds N), List.forall_mem_cons.2 ⟨(specsPathHolds N), List.forall_mem_cons.2 ⟨(specvflInts N), List.forall_mem_cons.2 ⟨(specsGraphOk N), List.forall_mem_cons.2 ⟨(speciGraphReach N), fun k hk => absurd hk List.not_mem_nil⟩⟩⟩⟩⟩⟩⟩, mixed⟩
theorem lpvFnPathHolds_0 (N : Nat) : LoopOk Try.prog { hd := dvFnPathHolds_0, outs := ovFnPathHolds_0, run := fun v => lvFnPathHolds_0 N N v } bvFnPathHolds_0 :=
  loop_fuel (d := dvFnPathHolds_0) (os := ovFnPathHolds_0) (cxvFnPathHolds N) (loops_at (ids := []) (by kernel_rfl) (trivial)) (lvFnPathHolds_0 N) (fun _ => rfl) (fun n v => lvFnPathHolds_0_eq N n v) (fun _ => N)
theorem lpvFnPathHolds_6 (N : Nat) : LoopOk Try.prog { hd := dvFnPathHolds_6, outs := ovFnPathHolds_6, run := fun v => lvFnPathHolds_6 N N v } bvFnPathHolds_6 :=
  loop_fuel (d := dvFnPathHolds_6) (os := ovFnPathHolds_6) (cxvFnPathHolds N) (loops_at (ids := []) (by kernel_rfl) (trivial)) (lvFnPathHolds_6 N) (fun _ => rfl) (fun n v => lvFnPathHolds_6_eq N n v) (fun _ => N)
theorem lpvFnPathHolds_4 (N : Nat) : LoopOk Try.prog { hd := dvFnPathHolds_4, outs := ovFnPathHolds_4, run := fun v => lvFnPathHolds_4 N N v } bvFnPathHolds_4 :=
  loop_fuel (d := dvFnPathHolds_4) (os := ovFnPathHolds_4) (cxvFnPathHolds N) (loops_at (ids := [6]) (by kernel_rfl) ⟨lp_of (lpvFnPathHolds_6 N), trivial⟩) (lvFnPathHolds_4 N) (fun _ => rfl) (fun n v => lvFnPathHolds_4_eq N n v) (fun _ => N)
theorem lpvFnPathHolds_2 (N : Nat) : LoopOk Try.prog { hd := dvFnPathHolds_2, outs := ovFnPathHolds_2, run := fun v => lvFnPathHolds_2 N N v } bvFnPathHolds_2 :=
  loop_fuel (d := dvFnPathHolds_2) (os := ovFnPathHolds_2) (cxvFnPathHolds N) (loops_at (ids := [4]) (by kernel_rfl) ⟨lp_of (lpvFnPathHolds_4 N), trivial⟩) (lvFnPathHolds_2 N) (fun _ => rfl) (fun n v => lvFnPathHolds_2_eq N n v) (fun _ => N)
theorem specvFnPathHolds (N : Nat) : Spec Try.prog (convFnPathHolds N) :=
  Spec.of_eq (fn_spec (cxvFnPathHolds N) (f := 11) (fn := Try.f11) (c := codeOf Try.f11) (by kernel_rfl) (by kernel_rfl) (by kernel_rfl) (loops_at (ids := [0, 2]) (by kernel_rfl) ⟨lp_of (lpvFnPathHolds_0 N), ⟨lp_of (lpvFnPathHolds_2 N), trivial⟩⟩) (by kernel_rfl)) (fun x r h => (FvFnPathHolds_eq N x).trans h)

end Go.Fl

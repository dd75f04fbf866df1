/- Proved: for every input the law FnExactFullLive returns true and leaves its arguments as they were. Part 2: the functions that the law reaches, as plain functions, and plain laws about them; no conditions. -/
import Derived.Test.YtohafbpiaflikaaExactFullLiveP1
set_option linter.all false
set_option maxRecDepth 100000
set_option linter.all false
namespace Go.Fl
open Go Go.Proofs
noncomputable def diniShapeSize : Desc := { n := 1, regs := [.one (.val (.pair (.int .i64) (.pair (.int .i64) .unit)))], bx := [], pins := [] }
noncomputable def outiShapeSize : Outs := [(.ret, { n := 1, regs := [.one (.val (.int .i64))], bx := [], pins := [] })]
noncomputable def HiShapeSize : Hints := [(0, [(0, { fz := true })])]
noncomputable def EiShapeSize (N : Nat) : Env := { te := TE, cs := [coniShapeOk N] }
noncomputable def FiShapeSize (N : Nat) (x : ((Int × (Int × Unit)) × Unit)) : Option (Int × Unit) :=
 (FiShapeOk N (x.1, ())).bind fun r1 =>
 bif !r1.1 then
  some ((0 : Int), ())
 else
 let y2 := w64 ((w64 ((2 : Int) + x.1.1)) + x.1.2.1)
 some (y2, ())
noncomputable def coniShapeSize (N : Nat) : Con := { f := 71, din := diniShapeSize, outs := outiShapeSize, F := FiShapeSize N }
noncomputable def XiShapeSize (N : Nat) : Ctx := { E := EiShapeSize N, H := HiShapeSize, lp := [], jn := [] }
theorem FiShapeSize_eq (N : Nat) (x : ((Int × (Int × Unit)) × Unit)) : evFn (XiShapeSize N) Try.f71 diniShapeSize outiShapeSize x = FiShapeSize N x := by kernel_rfl
theorem cxiShapeSize (N : Nat) : CtxOk Try.prog (XiShapeSize N) := ⟨⟨TE_ok, List.forall_mem_cons.2 ⟨(speciShapeOk N), fun k hk => absurd hk List.not_mem_nil⟩⟩, mixed⟩
theorem speciShapeSize (N : Nat) : Spec Try.prog (coniShapeSize N) :=
 Spec.of_eq (fn_spec (cxiShapeSize N) (f := 71) (fn := Try.f71) (c := codeOf Try.f71) (by kernel_rfl) (by kernel_rfl) (by kernel_rfl) (loops_at (ids := []) (by kernel_rfl) (trivial)) (by kernel_rfl)) (fun x r h => (FiShapeSize_eq N x).trans h)
noncomputable def dinkClone_Sint_int : Desc := { n := 1, regs := [.one (.val (.sl (.int .i64)))], bx := [], pins := [] }
noncomputable def outkClone_Sint_int : Outs := [(.ret, { n := 1, regs := [.one (.lit (.row 1025600))], bx := [(1025600, .row (.int .i64))], pins := [] })]
noncomputable def HkClone_Sint_int : Hints := [(2, [(0, { nl := [(0, (.int .i64))] })])]
noncomputable def EkClone_Sint_int (_N : Nat) : Env := { te := TE, cs := [] }
noncomputable def FkClone_Sint_int (N : Nat) (x : ((List Int) × Unit)) : Option ((List Int) × Unit) :=
 bif x.1.isEmpty then
  anyOf (2) fun i1 =>
   bif bif i1 == 0 then false else true then
    some (([] : (List Int)), ())
   else
   bif decide (([] : (List Int)).length + x.1.length ≤ lim) then
   some (([] : (List Int)) ++ x.1, ())
   else none
 else
 bif decide (([] : (List Int)).length + x.1.length ≤ lim) then
 some (([] : (List Int)) ++ x.1, ())
 else none
noncomputable def conkClone_Sint_int (N : Nat) : Con := { f := 109, din := dinkClone_Sint_int, outs := outkClone_Sint_int, F := FkClone_Sint_int N }
noncomputable def XkClone_Sint_int (N : Nat) : Ctx := { E := EkClone_Sint_int N, H := HkClone_Sint_int, lp := [], jn := [] }
theorem FkClone_Sint_int_eq (N : Nat) (x : ((List Int) × Unit)) : evFn (XkClone_Sint_int N) Try.f109 dinkClone_Sint_int outkClone_Sint_int x = FkClone_Sint_int N x := by kernel_rfl
theorem cxkClone_Sint_int (N : Nat) : CtxOk Try.prog (XkClone_Sint_int N) := ⟨⟨TE_ok, fun k hk => absurd hk List.not_mem_nil⟩, mixed⟩
theorem speckClone_Sint_int (N : Nat) : Spec Try.prog (conkClone_Sint_int N) :=
 Spec.of_eq (fn_spec (cxkClone_Sint_int N) (f := 109) (fn := Try.f109) (c := codeOf Try.f109) (by kernel_rfl) (by kernel_rfl) (by kernel_rfl) (loops_at (ids := []) (by kernel_rfl) (trivial)) (by kernel_rfl)) (fun x r h => (FkClone_Sint_int_eq N x).trans h)
noncomputable def diniThingAt_r_ : Desc := { n := 2, regs := [.one (.val (.sl (.int .i64))), .one (.val (.int .i64))], bx := [], pins := [] }
noncomputable def outiThingAt_r_ : Outs := [(.ret, { n := 2, regs := [.agg [.val (.int .i64), .val (.int .i64), .val (.int .i64), .val (.int .i64), .val (.sl (.int .i64)), .val (.sl (.int .i64))], .one (.val .bool)], bx := [], pins := [] })]
noncomputable def HiThingAt_r_ : Hints := [(3, [(5, { con := 1 })]),
 (4, [(6, { con := 2 })]),
 (8, [(10, { con := 3 }), (18, { con := 3 })])]
noncomputable def EiThingAt_r_ (N : Nat) : Env := { te := TE, cs := [conifits N, coniShapeOf N, coniShapeSize N, conkClone_Sint_int N] }
noncomputable def jiThingAt_r__6 : Outs := [(.normal, { n := 61, regs := [.one (.val (.sl (.int .i64))), .one (.val (.int .i64)), u, u, .one (.lit (.ptr 1000000 0)), u, .one (.lit (.ptr 1038976 0))], bx := [(1000000, .var [.val (.int .i64), .val (.int .i64), .val (.int .i64), .val (.int .i64), .lit .nil, .lit .nil]), (1038976, .var [.val (.int .i64), .val (.int .i64)])], pins := [] }), (.ret, { n := 61, regs := [u, u, u, u, .one (.lit (.ptr 1000000 0)), .one (.val .bool)], bx := [(1000000, .var [.val (.int .i64), .val (.int .i64), .val (.int .i64), .val (.int .i64), .lit .nil, .lit .nil])], pins := [] })]
noncomputable def FiThingAt_r_ (N : Nat) (x : ((List Int) × (Int × Unit))) : Option (Int × (Int × (Int × (Int × ((List Int) × ((List Int) × (Bool × Unit))))))) :=
 (Fifits N (x.1, x.2.1, (2 : Int), ())).bind fun r1 =>
 bif !r1.1 then
  some ((0 : Int), (0 : Int), (0 : Int), (0 : Int), ([] : (List Int)), ([] : (List Int)), false, ())
 else
 bif decide (0 ≤ (w64 (x.2.1 + (1 : Int)))) then
 bif decide ((w64 (x.2.1 + (1 : Int))).toNat < x.1.length) then
 let y2 := x.1.getD ((w64 (x.2.1 + (1 : Int))).toNat) (0 : Int)
 (FiShapeOf N (y2, ())).bind fun r3 =>
 Option.bind (
  bif !r3.2.2.1 then
   some (.inr ((false, (0 : Int), (0 : Int), (0 : Int), (0 : Int), ())))
  else
  (FiShapeSize N ((r3.1, r3.2.1, ()), ())).bind fun r4 =>
  (Fifits N (x.1, x.2.1, r4.1, ())).bind fun r5 =>
  bif !r5.1 then
   some (.inr ((false, (0 : Int), (0 : Int), (0 : Int), (0 : Int), ())))
  else
  some (.inl (x.1, x.2.1, (0 : Int), (0 : Int), (0 : Int), (0 : Int), r3.1, r3.2.1, ()))) fun o6 =>
 Sum.elim (fun o7 =>
  let y8 := w64 ((w64 (o7.2.1 + (2 : Int))) + o7.2.2.2.2.2.2.1)
  bif decide (0 ≤ o7.2.1) then
  bif decide (o7.2.1.toNat < o7.1.length) then
  bif decide (0 ≤ y8) then
  bif decide (y8 ≤ (o7.1.length : Int)) then
  bif decide (0 ≤ (w64 (o7.2.1 + (2 : Int)))) then
  bif decide ((w64 (o7.2.1 + (2 : Int))) ≤ y8) then
  let y9 := (o7.1.drop (w64 (o7.2.1 + (2 : Int))).toNat).take (y8.toNat - (w64 (o7.2.1 + (2 : Int))).toNat)
  (FkClone_Sint_int N (y9, ())).bind fun r10 =>
  bif decide (0 ≤ (w64 (y8 + o7.2.2.2.2.2.2.2.1))) then
  bif decide ((w64 (y8 + o7.2.2.2.2.2.2.2.1)) ≤ (o7.1.length : Int)) then
  bif decide (0 ≤ y8) then
  bif decide (y8 ≤ (w64 (y8 + o7.2.2.2.2.2.2.2.1))) then
  let y11 := (o7.1.drop y8.toNat).take ((w64 (y8 + o7.2.2.2.2.2.2.2.1)).toNat - y8.toNat)
  (FkClone_Sint_int N (y11, ())).bind fun r12 =>
  some (o7.2.1, o7.1.getD o7.2.1.toNat (0 : Int), o7.2.2.2.2.2.2.1, o7.2.2.2.2.2.2.2.1, r10.1, r12.1, true, ())
  else none
  else none
  else none
  else none
  else none
  else none
  else none
  else none
  else none
  else none) (fun o13 =>
  some (o13.2.1, o13.2.2.1, o13.2.2.2.1, o13.2.2.2.2.1, ([] : (List Int)), ([] : (List Int)), o13.1, ())) o6
 else none
 else none
noncomputable def coniThingAt_r_ (N : Nat) : Con := { f := 126, din := diniThingAt_r_, outs := outiThingAt_r_, F := FiThingAt_r_ N }
noncomputable def XiThingAt_r_ (N : Nat) : Ctx := { E := EiThingAt_r_ N, H := HiThingAt_r_, lp := [], jn := [(6, jiThingAt_r__6)] }
theorem FiThingAt_r__eq (N : Nat) (x : ((List Int) × (Int × Unit))) : evFn (XiThingAt_r_ N) Try.f126 diniThingAt_r_ outiThingAt_r_ x = FiThingAt_r_ N x := by kernel_rfl
theorem cxiThingAt_r_ (N : Nat) : CtxOk Try.prog (XiThingAt_r_ N) := ⟨⟨TE_ok, List.forall_mem_cons.2 ⟨(specifits N), List.forall_mem_cons.2 ⟨(speciShapeOf N), List.forall_mem_cons.2 ⟨(speciShapeSize N), List.forall_mem_cons.2 ⟨(speckClone_Sint_int N), fun k hk => absurd hk List.not_mem_nil⟩⟩⟩⟩⟩, mixed⟩
theorem speciThingAt_r_ (N : Nat) : Spec Try.prog (coniThingAt_r_ N) :=
 Spec.of_eq (fn_spec (cxiThingAt_r_ N) (f := 126) (fn := Try.f126) (c := codeOf Try.f126) (by kernel_rfl) (by kernel_rfl) (by kernel_rfl) (loops_at (ids := []) (by kernel_rfl) (trivial)) (by kernel_rfl)) (fun x r h => (FiThingAt_r__eq N x).trans h)
noncomputable def diniThing_size : Desc := { n := 1, regs := [.one (.val tyq9)], bx := [], pins := [] }
noncomputable def outiThing_size : Outs := [(.ret, { n := 1, regs := [.one (.val (.int .i64))], bx := [], pins := [] })]
noncomputable def HiThing_size : Hints := [(0, [(0, { fz := true })])]
noncomputable def EiThing_size (N : Nat) : Env := { te := TE, cs := [coniShapeSize N] }
noncomputable def FiThing_size (N : Nat) (x : (tyq2 × Unit)) : Option (Int × Unit) :=
 (FiShapeSize N (x.1.2.2.1, ())).bind fun r1 =>
 some (r1.1, ())
noncomputable def coniThing_size (N : Nat) : Con := { f := 95, din := diniThing_size, outs := outiThing_size, F := FiThing_size N }
noncomputable def XiThing_size (N : Nat) : Ctx := { E := EiThing_size N, H := HiThing_size, lp := [], jn := [] }
theorem FiThing_size_eq (N : Nat) (x : (tyq2 × Unit)) : evFn (XiThing_size N) Try.f95 diniThing_size outiThing_size x = FiThing_size N x := by kernel_rfl
theorem cxiThing_size (N : Nat) : CtxOk Try.prog (XiThing_size N) := ⟨⟨TE_ok, List.forall_mem_cons.2 ⟨(speciShapeSize N), fun k hk => absurd hk List.not_mem_nil⟩⟩, mixed⟩
theorem speciThing_size (N : Nat) : Spec Try.prog (coniThing_size N) :=
 Spec.of_eq (fn_spec (cxiThing_size N) (f := 95) (fn := Try.f95) (c := codeOf Try.f95) (by kernel_rfl) (by kernel_rfl) (by kernel_rfl) (loops_at (ids := []) (by kernel_rfl) (trivial)) (by kernel_rfl)) (fun x r h => (FiThing_size_eq N x).trans h)
noncomputable def diniThingsIn : Desc := { n := 3, regs := [.one (.val (.sl (.int .i64))), .one (.val (.int .i64)), .one (.val (.int .i64))], bx := [], pins := [] }
noncomputable def outiThingsIn : Outs := [(.ret, { n := 2, regs := [.one (.lit (.row 1038400)), .one (.val .bool)], bx := [(1038400, .row (.fz tyq9))], pins := [] })]
noncomputable def HiThingsIn : Hints := [(1, [(17, { con := 1 }), (23, { con := 1 })]),
 (2, [(0, { nl := [(0, (.fz tyq9))] })]),
 (3, [(0, { nl := [(0, (.fz tyq9))] })]),
 (4, [(1, { con := 1 })]),
 (6, [(2, { con := 2 })]),
 (7, [(5, { con := 3 })]),
 (8, [(0, { nl := [(0, (.fz tyq9))] })]),
 (10, [(2, { con := 3 })])]
noncomputable def EiThingsIn (N : Nat) : Env := { te := TE, cs := [coniWordsOk N, coniRegionBase N, coniThingAt_r_ N, coniThing_size N] }
noncomputable def diThingsIn_0 : Desc := { n := 69, regs := [.one (.val (.sl (.int .i64))), u, .one (.val (.int .i64)), u, u, u, u, u, .one (.lit (.row 1038400)), .one (.val (.int .i64))], bx := [(1038400, .row (.fz tyq9))], pins := [] }
noncomputable def oiThingsIn_0 : Outs := [(.exit 0, { n := 69, regs := [u, u, u, u, u, u, u, u, .one (.lit (.row 1038400))], bx := [(1038400, .row (.fz tyq9))], pins := [] }), (.ret, { n := 69, regs := [u, u, u, u, u, u, .one (.lit (.row 1102400)), .one (.val .bool)], bx := [(1102400, .row (.fz tyq9))], pins := [] })]
noncomputable def jiThingsIn_3 : Outs := [(.normal, { n := 69, regs := [.one (.val (.sl (.int .i64))), .one (.val (.int .i64)), .one (.val (.int .i64))], bx := [], pins := [] }), (.ret, { n := 69, regs := [u, u, u, u, u, u, .one (.lit (.row 1025600)), .one (.val .bool)], bx := [(1025600, .row (.fz tyq9))], pins := [] })]
noncomputable def jiThingsIn_9 : Outs := [(.normal, { n := 69, regs := [.one (.val (.sl (.int .i64))), u, .one (.val (.int .i64)), u, u, u, u, u, .one (.lit (.row 1038400)), .one (.val (.int .i64)), .one (.lit (.ptr 1077184 0))], bx := [(1038400, .row (.fz tyq9)), (1077184, .var [.val (.int .i64), .val (.int .i64), .val (.int .i64), .val (.int .i64), .val (.sl (.int .i64)), .val (.sl (.int .i64))])], pins := [] }), (.ret, { n := 69, regs := [u, u, u, u, u, u, .one (.lit (.row 1102400)), .one (.val .bool)], bx := [(1102400, .row (.fz tyq9))], pins := [] })]
noncomputable def liThingsIn_0 (N : Nat) : Nat → ((List Int) × (Int × (Int × ((List tyq2) × Unit)))) → Option (((List tyq2) × Unit) ⊕ (Bool × ((List tyq2) × Unit)))
 | 0, _ => none
 | n + 1, v =>
  bif decide (v.2.2.1 < v.2.1) then
   (FiThingAt_r_ N (v.1, v.2.2.1, ())).bind fun r15 =>
   Option.bind (
    bif !r15.2.2.2.2.2.2.1 then
     let y16 := ([] : (List tyq2))
     some (.inr ((false, y16, ())))
    else
    (FiThing_size N ((r15.1, r15.2.1, (r15.2.2.1, r15.2.2.2.1, ()), r15.2.2.2.2.1, r15.2.2.2.2.2.1, ()), ())).bind fun r17 =>
    let y18 := decide ((w64 (v.2.2.1 + r17.1)) > v.2.1)
    bif y18 then
     let y19 := ([] : (List tyq2))
     some (.inr ((false, y19, ())))
    else
    some (.inl (v.1, v.2.1, v.2.2.1, v.2.2.2.1, r15.1, r15.2.1, r15.2.2.1, r15.2.2.2.1, r15.2.2.2.2.1, r15.2.2.2.2.2.1, ()))) fun o20 =>
   Sum.elim (fun o21 =>
    let y22 := [(o21.2.2.2.2.1, o21.2.2.2.2.2.1, (o21.2.2.2.2.2.2.1, o21.2.2.2.2.2.2.2.1, ()), o21.2.2.2.2.2.2.2.2.1, o21.2.2.2.2.2.2.2.2.2.1, ())]
    bif decide (o21.2.2.2.1.length + y22.length ≤ lim) then
    (FiThing_size N ((o21.2.2.2.2.1, o21.2.2.2.2.2.1, (o21.2.2.2.2.2.2.1, o21.2.2.2.2.2.2.2.1, ()), o21.2.2.2.2.2.2.2.2.1, o21.2.2.2.2.2.2.2.2.2.1, ()), ())).bind fun r23 =>
    liThingsIn_0 N n (o21.1, o21.2.1, w64 (o21.2.2.1 + r23.1), o21.2.2.2.1 ++ y22, ())
    else none) (fun o24 =>
    some (.inr ((o24.1, o24.2.1, ())))) o20
  else
  some (.inl (v.2.2.2.1, ()))
noncomputable def FiThingsIn (N : Nat) (x : ((List Int) × (Int × (Int × Unit)))) : Option (Bool × ((List tyq2) × Unit)) :=
 Option.bind (
  (FiWordsOk N (x.1, ())).bind fun r1 =>
  bif !r1.1 then
   let y2 := ([] : (List tyq2))
   some (.inr ((false, y2, ())))
  else
  bif decide (x.2.1 < (1 : Int)) then
   let y3 := ([] : (List tyq2))
   some (.inr ((false, y3, ())))
  else
  bif decide ((16 : Int) = 0) then
   none
  else
  let y4 := w64 (Int.tdiv (x.1.length : Int) (16 : Int))
  bif decide (x.2.1 ≥ y4) then
   let y5 := ([] : (List tyq2))
   some (.inr ((false, y5, ())))
  else
  (FiRegionBase N (x.2.1, ())).bind fun r6 =>
  bif decide (x.2.2.1 < r6.1) then
   let y7 := ([] : (List tyq2))
   some (.inr ((false, y7, ())))
  else
  (FiRegionBase N (x.2.1, ())).bind fun r8 =>
  let y9 := decide (x.2.2.1 > (w64 (r8.1 + (16 : Int))))
  bif y9 then
   let y10 := ([] : (List tyq2))
   some (.inr ((false, y10, ())))
  else
  some (.inl (x.1, x.2.1, x.2.2.1, ()))) fun o11 =>
 Sum.elim (fun o12 =>
  let y13 := ([] : (List tyq2))
  (FiRegionBase N (o12.2.1, ())).bind fun r14 =>
  (liThingsIn_0 N N (o12.1, o12.2.2.1, r14.1, y13, ())).bind fun o25 =>
  Sum.elim (fun o26 =>
   some (true, o26.1, ())) (fun o27 =>
   some (o27.1, o27.2.1, ())) o25) (fun o28 =>
  some (o28.1, o28.2.1, ())) o11
noncomputable def coniThingsIn (N : Nat) : Con := { f := 117, din := diniThingsIn, outs := outiThingsIn, F := FiThingsIn N }
noncomputable def XiThingsIn (N : Nat) : Ctx := { E := EiThingsIn N, H := HiThingsIn, lp := [(0, { hd := diThingsIn_0, outs := oiThingsIn_0, run := fun v => liThingsIn_0 N N v })], jn := [(3, jiThingsIn_3), (9, jiThingsIn_9)] }
noncomputable def biThingsIn_0 : Code := loopBody (codeOf Try.f117) 0
theorem FiThingsIn_eq (N : Nat) (x : ((List Int) × (Int × (Int × Unit)))) : evFn (XiThingsIn N) Try.f117 diniThingsIn outiThingsIn x = FiThingsIn N x := by kernel_rfl
theorem liThingsIn_0_eq (N n : Nat) (v : ((List Int) × (Int × (Int × ((List tyq2) × Unit))))) : liThingsIn_0 N (n + 1) v = ev (XiThingsIn N) biThingsIn_0 (roundK diThingsIn_0 oiThingsIn_0 (liThingsIn_0 N n)) (diThingsIn_0.mk' v) := by kernel_rfl
theorem cxiThingsIn (N : Nat) : CtxOk Try.prog (XiThingsIn N) := ⟨⟨TE_ok, List.forall_mem_cons.2 ⟨(speciWordsOk N), List.forall_mem_cons.2 ⟨(speciRegionBase N), List.forall_mem_cons.2 ⟨(speciThingAt_r_ N), List.forall_mem_cons.2 ⟨(speciThing_size N), fun k hk => absurd hk List.not_mem_nil⟩⟩⟩⟩⟩, mixed⟩
theorem lpiThingsIn_0 (N : Nat) : LoopOk Try.prog { hd := diThingsIn_0, outs := oiThingsIn_0, run := fun v => liThingsIn_0 N N v } biThingsIn_0 :=
 loop_fuel (d := diThingsIn_0) (os := oiThingsIn_0) (cxiThingsIn N) (loops_at (ids := []) (by kernel_rfl) (trivial)) (liThingsIn_0 N) (fun _ => rfl) (fun n v => liThingsIn_0_eq N n v) (fun _ => N)
theorem speciThingsIn (N : Nat) : Spec Try.prog (coniThingsIn N) :=
 Spec.of_eq (fn_spec (cxiThingsIn N) (f := 117) (fn := Try.f117) (c := codeOf Try.f117) (by kernel_rfl) (by kernel_rfl) (by kernel_rfl) (loops_at (ids := [0]) (by kernel_rfl) ⟨lp_of (lpiThingsIn_0 N), trivial⟩) (by kernel_rfl)) (fun x r h => (FiThingsIn_eq N x).trans h)
noncomputable def diniState_things : Desc := { n := 1, regs := [.one (.val tyq8)], bx := [], pins := [] }
noncomputable def outiState_things : Outs := [(.ret, { n := 2, regs := [.one (.val (.mp tyq9)), .one (.val .bool)], bx := [], pins := [] })]
noncomputable def HiState_things : Hints := [(0, [(0, { fz := true })]),
 (7, [(9, { con := 1 })])]
noncomputable def EiState_things (N : Nat) : Env := { te := TE, cs := [coniState_whole N, coniThingsIn N] }
noncomputable def diState_things_2 : Desc := { n := 48, regs := [u, .one (.fpt tyq8), u, u, .one (.lit (.mrow 1038400)), .one (.val (.int .i64)), u, u, u, u, u, u, u, u, u, u, u, u, u, u, u, u, u, u, u, u, u, u, u, u, u, u, u, u, u, u, .one (.lit (.row 1090177)), .one (.val (.int .i64)), .one (.val (.int .i64))], bx := [(1038400, .mp tyq9), (1090177, .row (.fz tyq9))], pins := [] }
noncomputable def oiState_things_2 : Outs := [(.exit 2, { n := 48, regs := [u, .one (.fpt tyq8), u, u, .one (.lit (.mrow 1038400)), .one (.val (.int .i64))], bx := [(1038400, .mp tyq9)], pins := [] })]
noncomputable def diState_things_0 : Desc := { n := 48, regs := [u, .one (.fpt tyq8), u, u, .one (.lit (.mrow 1038400)), .one (.val (.int .i64))], bx := [(1038400, .mp tyq9)], pins := [] }
noncomputable def oiState_things_0 : Outs := [(.exit 0, { n := 48, regs := [u, u, u, u, .one (.lit (.mrow 1038400))], bx := [(1038400, .mp tyq9)], pins := [] }), (.ret, { n := 48, regs := [u, u, .one (.lit .mnil), .one (.val .bool)], bx := [], pins := [] })]
noncomputable def liState_things_2 (N : Nat) : Nat → (tyq1 × (Int × (Int × (Int × ((List (Int × tyq2)) × ((List tyq2) × Unit)))))) → Option (tyq1 × (Int × ((List (Int × tyq2)) × Unit)))
 | 0, _ => none
 | n + 1, v =>
  bif decide (v.2.2.2.1 < v.2.2.1) then
   bif decide (0 ≤ v.2.2.2.1) then
   bif decide (v.2.2.2.1.toNat < v.2.2.2.2.2.1.length) then
   let y6 := v.2.2.2.2.2.1.getD v.2.2.2.1.toNat ((0 : Int), (0 : Int), ((0 : Int), (0 : Int), ()), ([] : (List Int)), ([] : (List Int)), ())
   let y7 := mset v.2.2.2.2.1 y6.1 (y6.1, y6.2.1, (y6.2.2.1.1, y6.2.2.1.2.1, ()), y6.2.2.2.1, y6.2.2.2.2.1, ())
   liState_things_2 N n (v.1, v.2.1, v.2.2.1, w64 (v.2.2.2.1 + (1 : Int)), y7, v.2.2.2.2.2.1, ())
   else none
   else none
  else
  some (v.1, v.2.1, v.2.2.2.2.1, ())
noncomputable def liState_things_0 (N : Nat) : Nat → (tyq1 × (Int × ((List (Int × tyq2)) × Unit))) → Option (((List (Int × tyq2)) × Unit) ⊕ (Bool × Unit))
 | 0, _ => none
 | n + 1, v =>
  let y3 := decide (v.2.1 < (v.1.2.1.length : Int))
  bif y3 then
   bif decide (0 ≤ v.2.1) then
   bif decide (v.2.1.toNat < v.1.2.1.length) then
   let y4 := v.1.2.1.getD v.2.1.toNat ((0 : Int), (0 : Int), (0 : Int), (0 : Int), (0 : Int), ())
   (FiThingsIn N (v.1.1, v.2.1, y4.2.2.1, ())).bind fun r5 =>
   bif !r5.1 then
    some (.inr ((false, ())))
   else
   (liState_things_2 N N (v.1, v.2.1, (r5.2.1.length : Int), (0 : Int), v.2.2.1, r5.2.1, ())).bind fun o8 =>
   liState_things_0 N n (o8.1, w64 (o8.2.1 + (1 : Int)), o8.2.2.1, ())
   else none
   else none
  else
  some (.inl (v.2.2.1, ()))
noncomputable def FiState_things (N : Nat) (x : (tyq1 × Unit)) : Option ((List (Int × tyq2)) × (Bool × Unit)) :=
 (FiState_whole N (x.1, ())).bind fun r1 =>
 bif !r1.1 then
  some (([] : (List (Int × tyq2))), false, ())
 else
 let y2 := ([] : (List (Int × tyq2)))
 (liState_things_0 N N (x.1, (1 : Int), y2, ())).bind fun o9 =>
 Sum.elim (fun o10 =>
  some (o10.1, true, ())) (fun o11 =>
  some (([] : (List (Int × tyq2))), o11.1, ())) o9
noncomputable def coniState_things (N : Nat) : Con := { f := 83, din := diniState_things, outs := outiState_things, F := FiState_things N }
noncomputable def XiState_things (N : Nat) : Ctx := { E := EiState_things N, H := HiState_things, lp := [(2, { hd := diState_things_2, outs := oiState_things_2, run := fun v => liState_things_2 N N v }), (0, { hd := diState_things_0, outs := oiState_things_0, run := fun v => liState_things_0 N N v })], jn := [] }
noncomputable def biState_things_0 : Code := loopBody (codeOf Try.f83) 0
noncomputable def biState_things_2 : Code := loopBody biState_things_0 0
theorem FiState_things_eq (N : Nat) (x : (tyq1 × Unit)) : evFn (XiState_things N) Try.f83 diniState_things outiState_things x = FiState_things N x := by kernel_rfl
theorem liState_things_2_eq (N n : Nat) (v : (tyq1 × (Int × (Int × (Int × ((List (Int × tyq2)) × ((List tyq2) × Unit))))))) : liState_things_2 N (n + 1) v = ev (XiState_things N) biState_things_2 (roundK diState_things_2 oiState_things_2 (liState_things_2 N n)) (diState_things_2.mk' v) := by kernel_rfl
theorem liState_things_0_eq (N n : Nat) (v : (tyq1 × (Int × ((List (Int × tyq2)) × Unit)))) : liState_things_0 N (n + 1) v = ev (XiState_things N) biState_things_0 (roundK diState_things_0 oiState_things_0 (liState_things_0 N n)) (diState_things_0.mk' v) := by kernel_rfl
theorem cxiState_things (N : Nat) : CtxOk Try.prog (XiState_things N) := ⟨⟨TE_ok, List.forall_mem_cons.2 ⟨(speciState_whole N), List.forall_mem_cons.2 ⟨(speciThingsIn N), fun k hk => absurd hk List.not_mem_nil⟩⟩⟩, mixed⟩
theorem lpiState_things_2 (N : Nat) : LoopOk Try.prog { hd := diState_things_2, outs := oiState_things_2, run := fun v => liState_things_2 N N v } biState_things_2 :=
 loop_fuel (d := diState_things_2) (os := oiState_things_2) (cxiState_things N) (loops_at (ids := []) (by kernel_rfl) (trivial)) (liState_things_2 N) (fun _ => rfl) (fun n v => liState_things_2_eq N n v) (fun _ => N)
theorem lpiState_things_0 (N : Nat) : LoopOk Try.prog { hd := diState_things_0, outs := oiState_things_0, run := fun v => liState_things_0 N N v } biState_things_0 :=
 loop_fuel (d := diState_things_0) (os := oiState_things_0) (cxiState_things N) (loops_at (ids := [2]) (by kernel_rfl) ⟨lp_of (lpiState_things_2 N), trivial⟩) (liState_things_0 N) (fun _ => rfl) (fun n v => liState_things_0_eq N n v) (fun _ => N)
theorem speciState_things (N : Nat) : Spec Try.prog (coniState_things N) :=
 Spec.of_eq (fn_spec (cxiState_things N) (f := 83) (fn := Try.f83) (c := codeOf Try.f83) (by kernel_rfl) (by kernel_rfl) (by kernel_rfl) (loops_at (ids := [0]) (by kernel_rfl) ⟨lp_of (lpiState_things_0 N), trivial⟩) (by kernel_rfl)) (fun x r h => (FiState_things_eq N x).trans h)
noncomputable def diniRegionOf : Desc := { n := 1, regs := [.one (.val (.int .i64))], bx := [], pins := [] }
noncomputable def outiRegionOf : Outs := [(.ret, { n := 1, regs := [.one (.val (.int .i64))], bx := [], pins := [] })]
noncomputable def HiRegionOf : Hints := []
noncomputable def EiRegionOf (_N : Nat) : Env := { te := TE, cs := [] }
noncomputable def FiRegionOf (N : Nat) (x : (Int × Unit)) : Option (Int × Unit) :=
 bif decide (x.1 < (0 : Int)) then
  some ((-1 : Int), ())
 else
 bif decide ((16 : Int) = 0) then
  none
 else
 some (w64 (Int.tdiv x.1 (16 : Int)), ())
noncomputable def coniRegionOf (N : Nat) : Con := { f := 93, din := diniRegionOf, outs := outiRegionOf, F := FiRegionOf N }
noncomputable def XiRegionOf (N : Nat) : Ctx := { E := EiRegionOf N, H := HiRegionOf, lp := [], jn := [] }
theorem FiRegionOf_eq (N : Nat) (x : (Int × Unit)) : evFn (XiRegionOf N) Try.f93 diniRegionOf outiRegionOf x = FiRegionOf N x := by kernel_rfl
theorem cxiRegionOf (N : Nat) : CtxOk Try.prog (XiRegionOf N) := ⟨⟨TE_ok, fun k hk => absurd hk List.not_mem_nil⟩, mixed⟩
theorem speciRegionOf (N : Nat) : Spec Try.prog (coniRegionOf N) :=
 Spec.of_eq (fn_spec (cxiRegionOf N) (f := 93) (fn := Try.f93) (c := codeOf Try.f93) (by kernel_rfl) (by kernel_rfl) (by kernel_rfl) (loops_at (ids := []) (by kernel_rfl) (trivial)) (by kernel_rfl)) (fun x r h => (FiRegionOf_eq N x).trans h)
noncomputable def diniState_from : Desc := { n := 2, regs := [.one (.val tyq8), .one (.val (.int .i64))], bx := [], pins := [] }
noncomputable def outiState_from : Outs := [(.ret, { n := 1, regs := [.one (.val .bool)], bx := [], pins := [] })]
noncomputable def HiState_from : Hints := [(0, [(0, { fz := true })])]
noncomputable def EiState_from (N : Nat) : Env := { te := TE, cs := [coniRegionOf N] }
noncomputable def FiState_from (N : Nat) (x : (tyq1 × (Int × Unit))) : Option (Bool × Unit) :=
 (FiRegionOf N (x.2.1, ())).bind fun r1 =>
 bif decide (r1.1 ≥ (0 : Int)) then
  let y2 := decide (r1.1 < (x.1.2.1.length : Int))
  bif y2 then
   bif decide (0 ≤ r1.1) then
   bif decide (r1.1.toNat < x.1.2.1.length) then
   let y3 := x.1.2.1.getD r1.1.toNat ((0 : Int), (0 : Int), (0 : Int), (0 : Int), (0 : Int), ())
   some (y3.1 == (4 : Int), ())
   else none
   else none
  else
  some (false, ())
 else
 some (false, ())
noncomputable def coniState_from (N : Nat) : Con := { f := 118, din := diniState_from, outs := outiState_from, F := FiState_from N }
noncomputable def XiState_from (N : Nat) : Ctx := { E := EiState_from N, H := HiState_from, lp := [], jn := [] }
theorem FiState_from_eq (N : Nat) (x : (tyq1 × (Int × Unit))) : evFn (XiState_from N) Try.f118 diniState_from outiState_from x = FiState_from N x := by kernel_rfl
theorem cxiState_from (N : Nat) : CtxOk Try.prog (XiState_from N) := ⟨⟨TE_ok, List.forall_mem_cons.2 ⟨(speciRegionOf N), fun k hk => absurd hk List.not_mem_nil⟩⟩, mixed⟩
theorem speciState_from (N : Nat) : Spec Try.prog (coniState_from N) :=
 Spec.of_eq (fn_spec (cxiState_from N) (f := 118) (fn := Try.f118) (c := codeOf Try.f118) (by kernel_rfl) (by kernel_rfl) (by kernel_rfl) (loops_at (ids := []) (by kernel_rfl) (trivial)) (by kernel_rfl)) (fun x r h => (FiState_from_eq N x).trans h)
noncomputable def diniState_settled : Desc := { n := 2, regs := [.one (.val tyq8), .one (.val (.mp tyq9))], bx := [], pins := [] }
noncomputable def outiState_settled : Outs := [(.ret, { n := 1, regs := [.one (.val .bool)], bx := [], pins := [] })]
noncomputable def HiState_settled : Hints := [(0, [(0, { fz := true })])]
noncomputable def EiState_settled (N : Nat) : Env := { te := TE, cs := [coniState_from N] }
noncomputable def diState_settled_0 : Desc := { n := 56, regs := [u, .one (.val (.mp tyq9)), .one (.fpt tyq8), u, u, u, u, u, u, u, .one (.lit (.it 1012864))], bx := [(1012864, .it tyq9)], pins := [] }
noncomputable def oiState_settled_0 : Outs := [(.exit 0, { n := 56, regs := [], bx := [], pins := [] }), (.ret, { n := 56, regs := [u, u, u, u, .one (.val .bool)], bx := [], pins := [] })]
noncomputable def liState_settled_0 (N : Nat) : Nat → ((List (Int × tyq2)) × (tyq1 × ((List (Int × tyq2)) × Unit))) → Option (Unit ⊕ (Bool × Unit))
 | 0, _ => none
 | n + 1, v =>
  bif v.2.2.1.isEmpty then
   some (.inl ())
  else
  anyOf (v.2.2.1.length) fun i1 =>
   let y2 := (v.2.2.1.getD i1 (0, ((0 : Int), (0 : Int), ((0 : Int), (0 : Int), ()), ([] : (List Int)), ([] : (List Int)), ()))).1
   let y3 := (v.2.2.1.getD i1 (0, ((0 : Int), (0 : Int), ((0 : Int), (0 : Int), ()), ([] : (List Int)), ([] : (List Int)), ()))).2
   bif y3.2.1 == y3.1 then
    liState_settled_0 N n (v.1, v.2.1, v.2.2.1.eraseIdx i1, ())
   else
   let y4 := (mget v.1 y3.2.1).getD ((0 : Int), (0 : Int), ((0 : Int), (0 : Int), ()), ([] : (List Int)), ([] : (List Int)), ())
   bif !((mget v.1 y3.2.1).isSome) then
    some (.inr ((false, ())))
   else
   let y5 := !((y4.2.2.1.1 == y3.2.2.1.1) && ((y4.2.2.1.2.1 == y3.2.2.1.2.1) && (true)))
   bif y5 then
    some (.inr ((false, ())))
   else
   bif y4.2.1 != y4.1 then
    some (.inr ((false, ())))
   else
   (FiState_from N (v.2.1, y4.1, ())).bind fun r6 =>
   bif r6.1 then
    some (.inr ((false, ())))
   else
   (FiState_from N (v.2.1, y3.1, ())).bind fun r7 =>
   bif !r7.1 then
    some (.inr ((false, ())))
   else
   liState_settled_0 N n (v.1, v.2.1, v.2.2.1.eraseIdx i1, ())
noncomputable def FiState_settled (N : Nat) (x : (tyq1 × ((List (Int × tyq2)) × Unit))) : Option (Bool × Unit) :=
 (liState_settled_0 N N (x.2.1, x.1, x.2.1, ())).bind fun o8 =>
 Sum.elim (fun o9 =>
  some (true, ())) (fun o10 =>
  some (o10.1, ())) o8
noncomputable def coniState_settled (N : Nat) : Con := { f := 86, din := diniState_settled, outs := outiState_settled, F := FiState_settled N }
noncomputable def XiState_settled (N : Nat) : Ctx := { E := EiState_settled N, H := HiState_settled, lp := [(0, { hd := diState_settled_0, outs := oiState_settled_0, run := fun v => liState_settled_0 N N v })], jn := [] }
noncomputable def biState_settled_0 : Code := loopBody (codeOf Try.f86) 0
theorem FiState_settled_eq (N : Nat) (x : (tyq1 × ((List (Int × tyq2)) × Unit))) : evFn (XiState_settled N) Try.f86 diniState_settled outiState_settled x = FiState_settled N x := by kernel_rfl
theorem liState_settled_0_eq (N n : Nat) (v : ((List (Int × tyq2)) × (tyq1 × ((List (Int × tyq2)) × Unit)))) : liState_settled_0 N (n + 1) v = ev (XiState_settled N) biState_settled_0 (roundK diState_settled_0 oiState_settled_0 (liState_settled_0 N n)) (diState_settled_0.mk' v) := by kernel_rfl
theorem cxiState_settled (N : Nat) : CtxOk Try.prog (XiState_settled N) := ⟨⟨TE_ok, List.forall_mem_cons.2 ⟨(speciState_from N), fun k hk => absurd hk List.not_mem_nil⟩⟩, mixed⟩
theorem lpiState_settled_0 (N : Nat) : LoopOk Try.prog { hd := diState_settled_0, outs := oiState_settled_0, run := fun v => liState_settled_0 N N v } biState_settled_0 :=
 loop_fuel (d := diState_settled_0) (os := oiState_settled_0) (cxiState_settled N) (loops_at (ids := []) (by kernel_rfl) (trivial)) (liState_settled_0 N) (fun _ => rfl) (fun n v => liState_settled_0_eq N n v) (fun _ => N)
theorem speciState_settled (N : Nat) : Spec Try.prog (coniState_settled N) :=
 Spec.of_eq (fn_spec (cxiState_settled N) (f := 86) (fn := Try.f86) (c := codeOf Try.f86) (by kernel_rfl) (by kernel_rfl) (by kernel_rfl) (loops_at (ids := [0]) (by kernel_rfl) ⟨lp_of (lpiState_settled_0 N), trivial⟩) (by kernel_rfl)) (fun x r h => (FiState_settled_eq N x).trans h)
noncomputable def diniState_roots : Desc := { n := 1, regs := [.one (.val tyq8)], bx := [], pins := [] }
noncomputable def outiState_roots : Outs := [(.ret, { n := 1, regs := [.one (.lit (.row 1012800))], bx := [(1012800, .row (.int .i64))], pins := [] })]
noncomputable def HiState_roots : Hints := [(0, [(0, { fz := true })]),
 (1, [(0, { nl := [(0, (.int .i64))] })])]
noncomputable def EiState_roots (_N : Nat) : Env := { te := TE, cs := [] }
noncomputable def diState_roots_0 : Desc := { n := 22, regs := [u, .one (.fpt tyq8), u, .one (.lit (.row 1012800)), u, u, u, .one (.val (.sl tyq11)), .one (.val (.int .i64)), .one (.val (.int .i64))], bx := [(1012800, .row (.int .i64))], pins := [] }
noncomputable def oiState_roots_0 : Outs := [(.exit 0, { n := 22, regs := [u, .one (.fpt tyq8), u, .one (.lit (.row 1012800))], bx := [(1012800, .row (.int .i64))], pins := [] })]
noncomputable def liState_roots_0 (N : Nat) : Nat → (tyq1 × ((List tyq4) × (Int × (Int × ((List Int) × Unit))))) → Option (tyq1 × ((List Int) × Unit))
 | 0, _ => none
 | n + 1, v =>
  bif decide (v.2.2.2.1 < v.2.2.1) then
   bif decide (0 ≤ v.2.2.2.1) then
   bif decide (v.2.2.2.1.toNat < v.2.1.length) then
   let y1 := v.2.1.getD v.2.2.2.1.toNat (([] : (List Int)), (0 : Int), false, (0 : Int), ())
   bif decide (v.2.2.2.2.1.length + y1.1.length ≤ lim) then
   liState_roots_0 N n (v.1, v.2.1, v.2.2.1, w64 (v.2.2.2.1 + (1 : Int)), v.2.2.2.2.1 ++ y1.1, ())
   else none
   else none
   else none
  else
  some (v.1, v.2.2.2.2.1, ())
noncomputable def FiState_roots (N : Nat) (x : (tyq1 × Unit)) : Option ((List Int) × Unit) :=
 (liState_roots_0 N N (x.1, x.1.2.2.2.2.2.2.2.2.1, (x.1.2.2.2.2.2.2.2.2.1.length : Int), (0 : Int), ([] : (List Int)), ())).bind fun o2 =>
 bif decide (o2.2.1.length + o2.1.2.2.2.2.2.2.2.2.2.2.1.length ≤ lim) then
 some (o2.2.1 ++ o2.1.2.2.2.2.2.2.2.2.2.2.1, ())
 else none
noncomputable def coniState_roots (N : Nat) : Con := { f := 88, din := diniState_roots, outs := outiState_roots, F := FiState_roots N }
noncomputable def XiState_roots (N : Nat) : Ctx := { E := EiState_roots N, H := HiState_roots, lp := [(0, { hd := diState_roots_0, outs := oiState_roots_0, run := fun v => liState_roots_0 N N v })], jn := [] }
noncomputable def biState_roots_0 : Code := loopBody (codeOf Try.f88) 0
theorem FiState_roots_eq (N : Nat) (x : (tyq1 × Unit)) : evFn (XiState_roots N) Try.f88 diniState_roots outiState_roots x = FiState_roots N x := by kernel_rfl
theorem liState_roots_0_eq (N n : Nat) (v : (tyq1 × ((List tyq4) × (Int × (Int × ((List Int) × Unit)))))) : liState_roots_0 N (n + 1) v = ev (XiState_roots N) biState_roots_0 (roundK diState_roots_0 oiState_roots_0 (liState_roots_0 N n)) (diState_roots_0.mk' v) := by kernel_rfl
theorem cxiState_roots (N : Nat) : CtxOk Try.prog (XiState_roots N) := ⟨⟨TE_ok, fun k hk => absurd hk List.not_mem_nil⟩, mixed⟩
theorem lpiState_roots_0 (N : Nat) : LoopOk Try.prog { hd := diState_roots_0, outs := oiState_roots_0, run := fun v => liState_roots_0 N N v } biState_roots_0 :=
 loop_fuel (d := diState_roots_0) (os := oiState_roots_0) (cxiState_roots N) (loops_at (ids := []) (by kernel_rfl) (trivial)) (liState_roots_0 N) (fun _ => rfl) (fun n v => liState_roots_0_eq N n v) (fun _ => N)
theorem speciState_roots (N : Nat) : Spec Try.prog (coniState_roots N) :=
 Spec.of_eq (fn_spec (cxiState_roots N) (f := 88) (fn := Try.f88) (c := codeOf Try.f88) (by kernel_rfl) (by kernel_rfl) (by kernel_rfl) (loops_at (ids := [0]) (by kernel_rfl) ⟨lp_of (lpiState_roots_0 N), trivial⟩) (by kernel_rfl)) (fun x r h => (FiState_roots_eq N x).trans h)
noncomputable def diniheap_now : Desc := { n := 2, regs := [.one (.fpt (.pair tyq8 (.pair (.mp tyq9) (.pair (.sl (.int .i64)) .unit)))), .one (.val (.int .i64))], bx := [], pins := [] }
noncomputable def outiheap_now : Outs := [(.ret, { n := 1, regs := [.one (.val (.int .i64))], bx := [], pins := [] })]
noncomputable def Hiheap_now : Hints := []
noncomputable def Eiheap_now (_N : Nat) : Env := { te := TE, cs := [] }
noncomputable def Fiheap_now (N : Nat) (x : ((tyq1 × ((List (Int × tyq2)) × ((List Int) × Unit))) × (Int × Unit))) : Option (Int × Unit) :=
 bif x.2.1 == (0 : Int) then
  some ((0 : Int), ())
 else
 let y1 := (mget x.1.2.1 x.2.1).getD ((0 : Int), (0 : Int), ((0 : Int), (0 : Int), ()), ([] : (List Int)), ([] : (List Int)), ())
 some (y1.2.1, ())
noncomputable def coniheap_now (N : Nat) : Con := { f := 128, din := diniheap_now, outs := outiheap_now, F := Fiheap_now N }
noncomputable def Xiheap_now (N : Nat) : Ctx := { E := Eiheap_now N, H := Hiheap_now, lp := [], jn := [] }
theorem Fiheap_now_eq (N : Nat) (x : ((tyq1 × ((List (Int × tyq2)) × ((List Int) × Unit))) × (Int × Unit))) : evFn (Xiheap_now N) Try.f128 diniheap_now outiheap_now x = Fiheap_now N x := by kernel_rfl
theorem cxiheap_now (N : Nat) : CtxOk Try.prog (Xiheap_now N) := ⟨⟨TE_ok, fun k hk => absurd hk List.not_mem_nil⟩, mixed⟩
theorem speciheap_now (N : Nat) : Spec Try.prog (coniheap_now N) :=
 Spec.of_eq (fn_spec (cxiheap_now N) (f := 128) (fn := Try.f128) (c := codeOf Try.f128) (by kernel_rfl) (by kernel_rfl) (by kernel_rfl) (loops_at (ids := []) (by kernel_rfl) (trivial)) (by kernel_rfl)) (fun x r h => (Fiheap_now_eq N x).trans h)
noncomputable def diniheap_reach_1 : Desc := { n := 3, regs := [.one (.val (.sl (.int .i64))), .one (.lit (.ptr 64 0)), .one (.lit (.ptr 128 0))], bx := [(64, .var [.lit (.ptr 65 0)]), (65, .var [.val (.sl (.int .i64)), .val (.sl tyq10), .val (.sl .bool), .val (.int .i64), .val .bool, .val .bool, .val .bool, .val (.int .i64), .val (.sl tyq11), .val (.sl (.int .i64)), .val (.sl (.int .i64)), .val (.int .i64), .val (.int .i64), .val (.mp tyq9), .lit (.row 66)]), (66, .row (.int .i64)), (128, .var [.lit (.mrow 129)]), (129, .mp .bool)], pins := [] }
noncomputable def outiheap_reach_1 : Outs := [(.ret, { n := 1, regs := [.one (.val .bool)], bx := [(64, .var [.lit (.ptr 65 0)]), (65, .var [.val (.sl (.int .i64)), .val (.sl tyq10), .val (.sl .bool), .val (.int .i64), .val .bool, .val .bool, .val .bool, .val (.int .i64), .val (.sl tyq11), .val (.sl (.int .i64)), .val (.sl (.int .i64)), .val (.int .i64), .val (.int .i64), .val (.mp tyq9), .lit (.row 66)]), (66, .row (.int .i64)), (128, .var [.lit (.mrow 129)]), (129, .mp .bool)], pins := [u, .one (.lit (.ptr 64 0)), .one (.lit (.ptr 128 0)), .one (.lit (.ptr 65 0))] })]
noncomputable def Hiheap_reach_1 : Hints := []
noncomputable def Eiheap_reach_1 (N : Nat) : Env := { te := TE, cs := [coniheap_now N] }
noncomputable def diheap_reach_1_0 : Desc := { n := 49, regs := [u, .one (.lit (.ptr 64 0)), .one (.lit (.ptr 128 0)), u, u, u, u, u, u, u, .one (.val (.sl (.int .i64))), .one (.val (.int .i64)), .one (.val (.int .i64))], bx := [(64, .var [.lit (.ptr 65 0)]), (65, .var [.val (.sl (.int .i64)), .val (.sl tyq10), .val (.sl .bool), .val (.int .i64), .val .bool, .val .bool, .val .bool, .val (.int .i64), .val (.sl tyq11), .val (.sl (.int .i64)), .val (.sl (.int .i64)), .val (.int .i64), .val (.int .i64), .val (.mp tyq9), .lit (.row 66)]), (66, .row (.int .i64)), (128, .var [.lit (.mrow 129)]), (129, .mp .bool)], pins := [u, .one (.lit (.ptr 64 0)), .one (.lit (.ptr 128 0)), .one (.lit (.ptr 65 0))] }
noncomputable def oiheap_reach_1_0 : Outs := [(.exit 0, { n := 49, regs := [], bx := [(64, .var [.lit (.ptr 65 0)]), (65, .var [.val (.sl (.int .i64)), .val (.sl tyq10), .val (.sl .bool), .val (.int .i64), .val .bool, .val .bool, .val .bool, .val (.int .i64), .val (.sl tyq11), .val (.sl (.int .i64)), .val (.sl (.int .i64)), .val (.int .i64), .val (.int .i64), .val (.mp tyq9), .lit (.row 66)]), (66, .row (.int .i64)), (128, .var [.lit (.mrow 129)]), (129, .mp .bool)], pins := [u, .one (.lit (.ptr 64 0)), .one (.lit (.ptr 128 0)), .one (.lit (.ptr 65 0))] }), (.ret, { n := 49, regs := [u, u, u, u, .one (.val .bool)], bx := [(64, .var [.lit (.ptr 65 0)]), (65, .var [.val (.sl (.int .i64)), .val (.sl tyq10), .val (.sl .bool), .val (.int .i64), .val .bool, .val .bool, .val .bool, .val (.int .i64), .val (.sl tyq11), .val (.sl (.int .i64)), .val (.sl (.int .i64)), .val (.int .i64), .val (.int .i64), .val (.mp tyq9), .lit (.row 66)]), (66, .row (.int .i64)), (128, .var [.lit (.mrow 129)]), (129, .mp .bool)], pins := [u, .one (.lit (.ptr 64 0)), .one (.lit (.ptr 128 0)), .one (.lit (.ptr 65 0))] })]
noncomputable def liheap_reach_1_0 (N : Nat) : Nat → ((List Int) × (Int × (Int × ((List Int) × ((List tyq3) × ((List Bool) × (Int × (Bool × (Bool × (Bool × (Int × ((List tyq4) × ((List Int) × ((List Int) × (Int × (Int × ((List (Int × tyq2)) × tyq7))))))))))))))))) → Option (((List Int) × ((List tyq3) × ((List Bool) × (Int × (Bool × (Bool × (Bool × (Int × ((List tyq4) × ((List Int) × ((List Int) × (Int × (Int × ((List (Int × tyq2)) × tyq7)))))))))))))) ⊕ (Bool × ((List Int) × ((List tyq3) × ((List Bool) × (Int × (Bool × (Bool × (Bool × (Int × ((List tyq4) × ((List Int) × ((List Int) × (Int × (Int × ((List (Int × tyq2)) × tyq7))))))))))))))))
 | 0, _ => none
 | n + 1, v =>
  bif decide (v.2.2.1 < v.2.1) then
   bif decide (0 ≤ v.2.2.1) then
   bif decide (v.2.2.1.toNat < v.1.length) then
   let y1 := (v.1.getD v.2.2.1.toNat (0 : Int)) == (0 : Int)
   bif y1 then
    liheap_reach_1_0 N n (v.1, v.2.1, w64 (v.2.2.1 + (1 : Int)), v.2.2.2.1, v.2.2.2.2.1, v.2.2.2.2.2.1, v.2.2.2.2.2.2.1, v.2.2.2.2.2.2.2.1, v.2.2.2.2.2.2.2.2.1, v.2.2.2.2.2.2.2.2.2.1, v.2.2.2.2.2.2.2.2.2.2.1, v.2.2.2.2.2.2.2.2.2.2.2.1, v.2.2.2.2.2.2.2.2.2.2.2.2.1, v.2.2.2.2.2.2.2.2.2.2.2.2.2.1, v.2.2.2.2.2.2.2.2.2.2.2.2.2.2.1, v.2.2.2.2.2.2.2.2.2.2.2.2.2.2.2.1, v.2.2.2.2.2.2.2.2.2.2.2.2.2.2.2.2.1, v.2.2.2.2.2.2.2.2.2.2.2.2.2.2.2.2.2.1, v.2.2.2.2.2.2.2.2.2.2.2.2.2.2.2.2.2.2.1, ())
   else
   let y2 := (mget v.2.2.2.2.2.2.2.2.2.2.2.2.2.2.2.2.1 (v.1.getD v.2.2.1.toNat (0 : Int))).getD ((0 : Int), (0 : Int), ((0 : Int), (0 : Int), ()), ([] : (List Int)), ([] : (List Int)), ())
   let y3 := (mget v.2.2.2.2.2.2.2.2.2.2.2.2.2.2.2.2.1 (v.1.getD v.2.2.1.toNat (0 : Int))).isSome
   bif !y3 then
    some (.inr ((false, v.2.2.2.1, v.2.2.2.2.1, v.2.2.2.2.2.1, v.2.2.2.2.2.2.1, v.2.2.2.2.2.2.2.1, v.2.2.2.2.2.2.2.2.1, v.2.2.2.2.2.2.2.2.2.1, v.2.2.2.2.2.2.2.2.2.2.1, v.2.2.2.2.2.2.2.2.2.2.2.1, v.2.2.2.2.2.2.2.2.2.2.2.2.1, v.2.2.2.2.2.2.2.2.2.2.2.2.2.1, v.2.2.2.2.2.2.2.2.2.2.2.2.2.2.1, v.2.2.2.2.2.2.2.2.2.2.2.2.2.2.2.1, v.2.2.2.2.2.2.2.2.2.2.2.2.2.2.2.2.1, v.2.2.2.2.2.2.2.2.2.2.2.2.2.2.2.2.2.1, v.2.2.2.2.2.2.2.2.2.2.2.2.2.2.2.2.2.2.1, ())))
   else
   (Fiheap_now N (((v.2.2.2.1, v.2.2.2.2.1, v.2.2.2.2.2.1, v.2.2.2.2.2.2.1, v.2.2.2.2.2.2.2.1, v.2.2.2.2.2.2.2.2.1, v.2.2.2.2.2.2.2.2.2.1, v.2.2.2.2.2.2.2.2.2.2.1, v.2.2.2.2.2.2.2.2.2.2.2.1, v.2.2.2.2.2.2.2.2.2.2.2.2.1, v.2.2.2.2.2.2.2.2.2.2.2.2.2.1, v.2.2.2.2.2.2.2.2.2.2.2.2.2.2.1, v.2.2.2.2.2.2.2.2.2.2.2.2.2.2.2.1, ()), v.2.2.2.2.2.2.2.2.2.2.2.2.2.2.2.2.1, v.2.2.2.2.2.2.2.2.2.2.2.2.2.2.2.2.2.1, ()), v.1.getD v.2.2.1.toNat (0 : Int), ())).bind fun r4 =>
   let y5 := (mget v.2.2.2.2.2.2.2.2.2.2.2.2.2.2.2.2.2.2.1 r4.1).getD false
   bif !y5 then
    let y6 := mset v.2.2.2.2.2.2.2.2.2.2.2.2.2.2.2.2.2.2.1 r4.1 true
    bif decide (v.2.2.2.2.2.2.2.2.2.2.2.2.2.2.2.2.2.1.length + [r4.1].length ≤ lim) then
    let y7 := v.2.2.2.2.2.2.2.2.2.2.2.2.2.2.2.2.2.1 ++ [r4.1]
    liheap_reach_1_0 N n (v.1, v.2.1, w64 (v.2.2.1 + (1 : Int)), v.2.2.2.1, v.2.2.2.2.1, v.2.2.2.2.2.1, v.2.2.2.2.2.2.1, v.2.2.2.2.2.2.2.1, v.2.2.2.2.2.2.2.2.1, v.2.2.2.2.2.2.2.2.2.1, v.2.2.2.2.2.2.2.2.2.2.1, v.2.2.2.2.2.2.2.2.2.2.2.1, v.2.2.2.2.2.2.2.2.2.2.2.2.1, v.2.2.2.2.2.2.2.2.2.2.2.2.2.1, v.2.2.2.2.2.2.2.2.2.2.2.2.2.2.1, v.2.2.2.2.2.2.2.2.2.2.2.2.2.2.2.1, v.2.2.2.2.2.2.2.2.2.2.2.2.2.2.2.2.1, y7, y6, ())
    else none
   else
   liheap_reach_1_0 N n (v.1, v.2.1, w64 (v.2.2.1 + (1 : Int)), v.2.2.2.1, v.2.2.2.2.1, v.2.2.2.2.2.1, v.2.2.2.2.2.2.1, v.2.2.2.2.2.2.2.1, v.2.2.2.2.2.2.2.2.1, v.2.2.2.2.2.2.2.2.2.1, v.2.2.2.2.2.2.2.2.2.2.1, v.2.2.2.2.2.2.2.2.2.2.2.1, v.2.2.2.2.2.2.2.2.2.2.2.2.1, v.2.2.2.2.2.2.2.2.2.2.2.2.2.1, v.2.2.2.2.2.2.2.2.2.2.2.2.2.2.1, v.2.2.2.2.2.2.2.2.2.2.2.2.2.2.2.1, v.2.2.2.2.2.2.2.2.2.2.2.2.2.2.2.2.1, v.2.2.2.2.2.2.2.2.2.2.2.2.2.2.2.2.2.1, v.2.2.2.2.2.2.2.2.2.2.2.2.2.2.2.2.2.2.1, ())
   else none
   else none
  else
  some (.inl (v.2.2.2.1, v.2.2.2.2.1, v.2.2.2.2.2.1, v.2.2.2.2.2.2.1, v.2.2.2.2.2.2.2.1, v.2.2.2.2.2.2.2.2.1, v.2.2.2.2.2.2.2.2.2.1, v.2.2.2.2.2.2.2.2.2.2.1, v.2.2.2.2.2.2.2.2.2.2.2.1, v.2.2.2.2.2.2.2.2.2.2.2.2.1, v.2.2.2.2.2.2.2.2.2.2.2.2.2.1, v.2.2.2.2.2.2.2.2.2.2.2.2.2.2.1, v.2.2.2.2.2.2.2.2.2.2.2.2.2.2.2.1, v.2.2.2.2.2.2.2.2.2.2.2.2.2.2.2.2.1, v.2.2.2.2.2.2.2.2.2.2.2.2.2.2.2.2.2.1, v.2.2.2.2.2.2.2.2.2.2.2.2.2.2.2.2.2.2.1, ()))
noncomputable def Fiheap_reach_1 (N : Nat) (x : ((List Int) × ((List Int) × ((List tyq3) × ((List Bool) × (Int × (Bool × (Bool × (Bool × (Int × ((List tyq4) × ((List Int) × ((List Int) × (Int × (Int × ((List (Int × tyq2)) × tyq7)))))))))))))))) : Option (Bool × ((List Int) × ((List tyq3) × ((List Bool) × (Int × (Bool × (Bool × (Bool × (Int × ((List tyq4) × ((List Int) × ((List Int) × (Int × (Int × ((List (Int × tyq2)) × tyq7))))))))))))))) :=
 (liheap_reach_1_0 N N (x.1, (x.1.length : Int), (0 : Int), x.2.1, x.2.2.1, x.2.2.2.1, x.2.2.2.2.1, x.2.2.2.2.2.1, x.2.2.2.2.2.2.1, x.2.2.2.2.2.2.2.1, x.2.2.2.2.2.2.2.2.1, x.2.2.2.2.2.2.2.2.2.1, x.2.2.2.2.2.2.2.2.2.2.1, x.2.2.2.2.2.2.2.2.2.2.2.1, x.2.2.2.2.2.2.2.2.2.2.2.2.1, x.2.2.2.2.2.2.2.2.2.2.2.2.2.1, x.2.2.2.2.2.2.2.2.2.2.2.2.2.2.1, x.2.2.2.2.2.2.2.2.2.2.2.2.2.2.2.1, x.2.2.2.2.2.2.2.2.2.2.2.2.2.2.2.2.1, ())).bind fun o8 =>
 Sum.elim (fun o9 =>
  some (true, o9.1, o9.2.1, o9.2.2.1, o9.2.2.2.1, o9.2.2.2.2.1, o9.2.2.2.2.2.1, o9.2.2.2.2.2.2.1, o9.2.2.2.2.2.2.2.1, o9.2.2.2.2.2.2.2.2.1, o9.2.2.2.2.2.2.2.2.2.1, o9.2.2.2.2.2.2.2.2.2.2.1, o9.2.2.2.2.2.2.2.2.2.2.2.1, o9.2.2.2.2.2.2.2.2.2.2.2.2.1, o9.2.2.2.2.2.2.2.2.2.2.2.2.2.1, o9.2.2.2.2.2.2.2.2.2.2.2.2.2.2.1, o9.2.2.2.2.2.2.2.2.2.2.2.2.2.2.2.1, ())) (fun o10 =>
  some (o10.1, o10.2.1, o10.2.2.1, o10.2.2.2.1, o10.2.2.2.2.1, o10.2.2.2.2.2.1, o10.2.2.2.2.2.2.1, o10.2.2.2.2.2.2.2.1, o10.2.2.2.2.2.2.2.2.1, o10.2.2.2.2.2.2.2.2.2.1, o10.2.2.2.2.2.2.2.2.2.2.1, o10.2.2.2.2.2.2.2.2.2.2.2.1, o10.2.2.2.2.2.2.2.2.2.2.2.2.1, o10.2.2.2.2.2.2.2.2.2.2.2.2.2.1, o10.2.2.2.2.2.2.2.2.2.2.2.2.2.2.1, o10.2.2.2.2.2.2.2.2.2.2.2.2.2.2.2.1, o10.2.2.2.2.2.2.2.2.2.2.2.2.2.2.2.2.1, ())) o8
noncomputable def coniheap_reach_1 (N : Nat) : Con := { f := 127, din := diniheap_reach_1, outs := outiheap_reach_1, F := Fiheap_reach_1 N }
noncomputable def Xiheap_reach_1 (N : Nat) : Ctx := { E := Eiheap_reach_1 N, H := Hiheap_reach_1, lp := [(0, { hd := diheap_reach_1_0, outs := oiheap_reach_1_0, run := fun v => liheap_reach_1_0 N N v })], jn := [] }
noncomputable def biheap_reach_1_0 : Code := loopBody (codeOf Try.f127) 0
theorem Fiheap_reach_1_eq (N : Nat) (x : ((List Int) × ((List Int) × ((List tyq3) × ((List Bool) × (Int × (Bool × (Bool × (Bool × (Int × ((List tyq4) × ((List Int) × ((List Int) × (Int × (Int × ((List (Int × tyq2)) × tyq7)))))))))))))))) : evFn (Xiheap_reach_1 N) Try.f127 diniheap_reach_1 outiheap_reach_1 x = Fiheap_reach_1 N x := by kernel_rfl
theorem liheap_reach_1_0_eq (N n : Nat) (v : ((List Int) × (Int × (Int × ((List Int) × ((List tyq3) × ((List Bool) × (Int × (Bool × (Bool × (Bool × (Int × ((List tyq4) × ((List Int) × ((List Int) × (Int × (Int × ((List (Int × tyq2)) × tyq7)))))))))))))))))) : liheap_reach_1_0 N (n + 1) v = ev (Xiheap_reach_1 N) biheap_reach_1_0 (roundK diheap_reach_1_0 oiheap_reach_1_0 (liheap_reach_1_0 N n)) (diheap_reach_1_0.mk' v) := by kernel_rfl
theorem cxiheap_reach_1 (N : Nat) : CtxOk Try.prog (Xiheap_reach_1 N) := ⟨⟨TE_ok, List.forall_mem_cons.2 ⟨(speciheap_now N), fun k hk => absurd hk List.not_mem_nil⟩⟩, mixed⟩
theorem lpiheap_reach_1_0 (N : Nat) : LoopOk Try.prog { hd := diheap_reach_1_0, outs := oiheap_reach_1_0, run := fun v => liheap_reach_1_0 N N v } biheap_reach_1_0 :=
 loop_fuel (d := diheap_reach_1_0) (os := oiheap_reach_1_0) (cxiheap_reach_1 N) (loops_at (ids := []) (by kernel_rfl) (trivial)) (liheap_reach_1_0 N) (fun _ => rfl) (fun n v => liheap_reach_1_0_eq N n v) (fun _ => N)
theorem speciheap_reach_1 (N : Nat) : Spec Try.prog (coniheap_reach_1 N) :=
 Spec.of_eq (fn_spec (cxiheap_reach_1 N) (f := 127) (fn := Try.f127) (c := codeOf Try.f127) (by kernel_rfl) (by kernel_rfl) (by kernel_rfl) (loops_at (ids := [0]) (by kernel_rfl) ⟨lp_of (lpiheap_reach_1_0 N), trivial⟩) (by kernel_rfl)) (fun x r h => (Fiheap_reach_1_eq N x).trans h)
noncomputable def diniheap_reach : Desc := { n := 1, regs := [.one (.lit (.ptr 0 0))], bx := [(0, .var [.val (.sl (.int .i64)), .val (.sl tyq10), .val (.sl .bool), .val (.int .i64), .val .bool, .val .bool, .val .bool, .val (.int .i64), .val (.sl tyq11), .val (.sl (.int .i64)), .val (.sl (.int .i64)), .val (.int .i64), .val (.int .i64), .val (.mp tyq9), .lit (.row 1)]), (1, .row (.int .i64))], pins := [] }
noncomputable def outiheap_reach : Outs := [(.ret, { n := 1, regs := [.one (.val .bool)], bx := [(0, .var [.val (.sl (.int .i64)), .val (.sl tyq10), .val (.sl .bool), .val (.int .i64), .val .bool, .val .bool, .val .bool, .val (.int .i64), .val (.sl tyq11), .val (.sl (.int .i64)), .val (.sl (.int .i64)), .val (.int .i64), .val (.int .i64), .val (.mp tyq9), .lit (.row 1)]), (1, .row (.int .i64))], pins := [.one (.lit (.ptr 0 0))] })]
noncomputable def Hiheap_reach : Hints := [(3, [(6, { con := 1, sg := [(64, 1000000), (65, 0), (66, 1), (128, 1012864), (129, 1012800)], pre := [.freeze 1038721] })]),
 (8, [(14, { con := 1, sg := [(64, 1000000), (65, 0), (66, 1), (128, 1012864), (129, 1012800)] })])]
noncomputable def Eiheap_reach (N : Nat) : Env := { te := TE, cs := [coniState_roots N, coniheap_reach_1 N] }
noncomputable def diheap_reach_0 : Desc := { n := 41, regs := [u, .one (.lit (.ptr 1000000 0)), u, u, .one (.clo 127 [.inl 1000000, .inl 1012864]), .one (.val (.int .i64))], bx := [(1000000, .var [.lit (.ptr 0 0)]), (0, .var [.val (.sl (.int .i64)), .val (.sl tyq10), .val (.sl .bool), .val (.int .i64), .val .bool, .val .bool, .val .bool, .val (.int .i64), .val (.sl tyq11), .val (.sl (.int .i64)), .val (.sl (.int .i64)), .val (.int .i64), .val (.int .i64), .val (.mp tyq9), .lit (.row 1)]), (1, .row (.int .i64)), (1012864, .var [.lit (.mrow 1012800)]), (1012800, .mp .bool)], pins := [.one (.lit (.ptr 0 0))] }
noncomputable def oiheap_reach_0 : Outs := [(.exit 0, { n := 41, regs := [], bx := [(0, .var [.val (.sl (.int .i64)), .val (.sl tyq10), .val (.sl .bool), .val (.int .i64), .val .bool, .val .bool, .val .bool, .val (.int .i64), .val (.sl tyq11), .val (.sl (.int .i64)), .val (.sl (.int .i64)), .val (.int .i64), .val (.int .i64), .val (.mp tyq9), .lit (.row 1)]), (1, .row (.int .i64))], pins := [.one (.lit (.ptr 0 0))] }), (.ret, { n := 41, regs := [u, u, .one (.val .bool)], bx := [(0, .var [.val (.sl (.int .i64)), .val (.sl tyq10), .val (.sl .bool), .val (.int .i64), .val .bool, .val .bool, .val .bool, .val (.int .i64), .val (.sl tyq11), .val (.sl (.int .i64)), .val (.sl (.int .i64)), .val (.int .i64), .val (.int .i64), .val (.mp tyq9), .lit (.row 1)]), (1, .row (.int .i64))], pins := [.one (.lit (.ptr 0 0))] })]
noncomputable def liheap_reach_0 (N : Nat) : Nat → (Int × ((List Int) × ((List tyq3) × ((List Bool) × (Int × (Bool × (Bool × (Bool × (Int × ((List tyq4) × ((List Int) × ((List Int) × (Int × (Int × ((List (Int × tyq2)) × tyq7))))))))))))))) → Option (((List Int) × ((List tyq3) × ((List Bool) × (Int × (Bool × (Bool × (Bool × (Int × ((List tyq4) × ((List Int) × ((List Int) × (Int × (Int × ((List (Int × tyq2)) × ((List Int) × Unit))))))))))))))) ⊕ (Bool × ((List Int) × ((List tyq3) × ((List Bool) × (Int × (Bool × (Bool × (Bool × (Int × ((List tyq4) × ((List Int) × ((List Int) × (Int × (Int × ((List (Int × tyq2)) × ((List Int) × Unit)))))))))))))))))
 | 0, _ => none
 | n + 1, v =>
  let y3 := (v.2.2.2.2.2.2.2.2.2.2.2.2.2.2.2.1.length : Int)
  bif decide (v.1 < y3) then
   bif decide (0 ≤ v.1) then
   bif decide (v.1.toNat < v.2.2.2.2.2.2.2.2.2.2.2.2.2.2.2.1.length) then
   let y4 := v.2.2.2.2.2.2.2.2.2.2.2.2.2.2.2.1.getD v.1.toNat (0 : Int)
   let y5 := (mget v.2.2.2.2.2.2.2.2.2.2.2.2.2.2.1 y4).getD ((0 : Int), (0 : Int), ((0 : Int), (0 : Int), ()), ([] : (List Int)), ([] : (List Int)), ())
   (Fiheap_reach_1 N (y5.2.2.2.1, v.2.1, v.2.2.1, v.2.2.2.1, v.2.2.2.2.1, v.2.2.2.2.2.1, v.2.2.2.2.2.2.1, v.2.2.2.2.2.2.2.1, v.2.2.2.2.2.2.2.2.1, v.2.2.2.2.2.2.2.2.2.1, v.2.2.2.2.2.2.2.2.2.2.1, v.2.2.2.2.2.2.2.2.2.2.2.1, v.2.2.2.2.2.2.2.2.2.2.2.2.1, v.2.2.2.2.2.2.2.2.2.2.2.2.2.1, v.2.2.2.2.2.2.2.2.2.2.2.2.2.2.1, v.2.2.2.2.2.2.2.2.2.2.2.2.2.2.2.1, v.2.2.2.2.2.2.2.2.2.2.2.2.2.2.2.2.1, ())).bind fun r6 =>
   bif !r6.1 then
    some (.inr ((false, r6.2.1, r6.2.2.1, r6.2.2.2.1, r6.2.2.2.2.1, r6.2.2.2.2.2.1, r6.2.2.2.2.2.2.1, r6.2.2.2.2.2.2.2.1, r6.2.2.2.2.2.2.2.2.1, r6.2.2.2.2.2.2.2.2.2.1, r6.2.2.2.2.2.2.2.2.2.2.1, r6.2.2.2.2.2.2.2.2.2.2.2.1, r6.2.2.2.2.2.2.2.2.2.2.2.2.1, r6.2.2.2.2.2.2.2.2.2.2.2.2.2.1, r6.2.2.2.2.2.2.2.2.2.2.2.2.2.2.1, r6.2.2.2.2.2.2.2.2.2.2.2.2.2.2.2.1, ())))
   else
   liheap_reach_0 N n (w64 (v.1 + (1 : Int)), r6.2.1, r6.2.2.1, r6.2.2.2.1, r6.2.2.2.2.1, r6.2.2.2.2.2.1, r6.2.2.2.2.2.2.1, r6.2.2.2.2.2.2.2.1, r6.2.2.2.2.2.2.2.2.1, r6.2.2.2.2.2.2.2.2.2.1, r6.2.2.2.2.2.2.2.2.2.2.1, r6.2.2.2.2.2.2.2.2.2.2.2.1, r6.2.2.2.2.2.2.2.2.2.2.2.2.1, r6.2.2.2.2.2.2.2.2.2.2.2.2.2.1, r6.2.2.2.2.2.2.2.2.2.2.2.2.2.2.1, r6.2.2.2.2.2.2.2.2.2.2.2.2.2.2.2.1, r6.2.2.2.2.2.2.2.2.2.2.2.2.2.2.2.2.1, ())
   else none
   else none
  else
  some (.inl (v.2.1, v.2.2.1, v.2.2.2.1, v.2.2.2.2.1, v.2.2.2.2.2.1, v.2.2.2.2.2.2.1, v.2.2.2.2.2.2.2.1, v.2.2.2.2.2.2.2.2.1, v.2.2.2.2.2.2.2.2.2.1, v.2.2.2.2.2.2.2.2.2.2.1, v.2.2.2.2.2.2.2.2.2.2.2.1, v.2.2.2.2.2.2.2.2.2.2.2.2.1, v.2.2.2.2.2.2.2.2.2.2.2.2.2.1, v.2.2.2.2.2.2.2.2.2.2.2.2.2.2.1, v.2.2.2.2.2.2.2.2.2.2.2.2.2.2.2.1, ()))
noncomputable def Fiheap_reach (N : Nat) (x : ((List Int) × ((List tyq3) × ((List Bool) × (Int × (Bool × (Bool × (Bool × (Int × ((List tyq4) × ((List Int) × ((List Int) × (Int × (Int × ((List (Int × tyq2)) × ((List Int) × Unit)))))))))))))))) : Option (Bool × ((List Int) × ((List tyq3) × ((List Bool) × (Int × (Bool × (Bool × (Bool × (Int × ((List tyq4) × ((List Int) × ((List Int) × (Int × (Int × ((List (Int × tyq2)) × ((List Int) × Unit)))))))))))))))) :=
 (FiState_roots N ((x.1, x.2.1, x.2.2.1, x.2.2.2.1, x.2.2.2.2.1, x.2.2.2.2.2.1, x.2.2.2.2.2.2.1, x.2.2.2.2.2.2.2.1, x.2.2.2.2.2.2.2.2.1, x.2.2.2.2.2.2.2.2.2.1, x.2.2.2.2.2.2.2.2.2.2.1, x.2.2.2.2.2.2.2.2.2.2.2.1, x.2.2.2.2.2.2.2.2.2.2.2.2.1, ()), ())).bind fun r1 =>
 (Fiheap_reach_1 N (r1.1, x.1, x.2.1, x.2.2.1, x.2.2.2.1, x.2.2.2.2.1, x.2.2.2.2.2.1, x.2.2.2.2.2.2.1, x.2.2.2.2.2.2.2.1, x.2.2.2.2.2.2.2.2.1, x.2.2.2.2.2.2.2.2.2.1, x.2.2.2.2.2.2.2.2.2.2.1, x.2.2.2.2.2.2.2.2.2.2.2.1, x.2.2.2.2.2.2.2.2.2.2.2.2.1, x.2.2.2.2.2.2.2.2.2.2.2.2.2.1, x.2.2.2.2.2.2.2.2.2.2.2.2.2.2.1, ([] : (List (Int × Bool))), ())).bind fun r2 =>
 bif !r2.1 then
  some (false, r2.2.1, r2.2.2.1, r2.2.2.2.1, r2.2.2.2.2.1, r2.2.2.2.2.2.1, r2.2.2.2.2.2.2.1, r2.2.2.2.2.2.2.2.1, r2.2.2.2.2.2.2.2.2.1, r2.2.2.2.2.2.2.2.2.2.1, r2.2.2.2.2.2.2.2.2.2.2.1, r2.2.2.2.2.2.2.2.2.2.2.2.1, r2.2.2.2.2.2.2.2.2.2.2.2.2.1, r2.2.2.2.2.2.2.2.2.2.2.2.2.2.1, r2.2.2.2.2.2.2.2.2.2.2.2.2.2.2.1, r2.2.2.2.2.2.2.2.2.2.2.2.2.2.2.2.1, ())
 else
 (liheap_reach_0 N N ((0 : Int), r2.2.1, r2.2.2.1, r2.2.2.2.1, r2.2.2.2.2.1, r2.2.2.2.2.2.1, r2.2.2.2.2.2.2.1, r2.2.2.2.2.2.2.2.1, r2.2.2.2.2.2.2.2.2.1, r2.2.2.2.2.2.2.2.2.2.1, r2.2.2.2.2.2.2.2.2.2.2.1, r2.2.2.2.2.2.2.2.2.2.2.2.1, r2.2.2.2.2.2.2.2.2.2.2.2.2.1, r2.2.2.2.2.2.2.2.2.2.2.2.2.2.1, r2.2.2.2.2.2.2.2.2.2.2.2.2.2.2.1, r2.2.2.2.2.2.2.2.2.2.2.2.2.2.2.2.1, r2.2.2.2.2.2.2.2.2.2.2.2.2.2.2.2.2.1, ())).bind fun o7 =>
 Sum.elim (fun o8 =>
  some (true, o8.1, o8.2.1, o8.2.2.1, o8.2.2.2.1, o8.2.2.2.2.1, o8.2.2.2.2.2.1, o8.2.2.2.2.2.2.1, o8.2.2.2.2.2.2.2.1, o8.2.2.2.2.2.2.2.2.1, o8.2.2.2.2.2.2.2.2.2.1, o8.2.2.2.2.2.2.2.2.2.2.1, o8.2.2.2.2.2.2.2.2.2.2.2.1, o8.2.2.2.2.2.2.2.2.2.2.2.2.1, o8.2.2.2.2.2.2.2.2.2.2.2.2.2.1, o8.2.2.2.2.2.2.2.2.2.2.2.2.2.2.1, ())) (fun o9 =>
  some (o9.1, o9.2.1, o9.2.2.1, o9.2.2.2.1, o9.2.2.2.2.1, o9.2.2.2.2.2.1, o9.2.2.2.2.2.2.1, o9.2.2.2.2.2.2.2.1, o9.2.2.2.2.2.2.2.2.1, o9.2.2.2.2.2.2.2.2.2.1, o9.2.2.2.2.2.2.2.2.2.2.1, o9.2.2.2.2.2.2.2.2.2.2.2.1, o9.2.2.2.2.2.2.2.2.2.2.2.2.1, o9.2.2.2.2.2.2.2.2.2.2.2.2.2.1, o9.2.2.2.2.2.2.2.2.2.2.2.2.2.2.1, o9.2.2.2.2.2.2.2.2.2.2.2.2.2.2.2.1, ())) o7
noncomputable def coniheap_reach (N : Nat) : Con := { f := 120, din := diniheap_reach, outs := outiheap_reach, F := Fiheap_reach N }
noncomputable def Xiheap_reach (N : Nat) : Ctx := { E := Eiheap_reach N, H := Hiheap_reach, lp := [(0, { hd := diheap_reach_0, outs := oiheap_reach_0, run := fun v => liheap_reach_0 N N v })], jn := [] }
noncomputable def biheap_reach_0 : Code := loopBody (codeOf Try.f120) 0
theorem Fiheap_reach_eq (N : Nat) (x : ((List Int) × ((List tyq3) × ((List Bool) × (Int × (Bool × (Bool × (Bool × (Int × ((List tyq4) × ((List Int) × ((List Int) × (Int × (Int × ((List (Int × tyq2)) × ((List Int) × Unit)))))))))))))))) : evFn (Xiheap_reach N) Try.f120 diniheap_reach outiheap_reach x = Fiheap_reach N x := by kernel_rfl
theorem liheap_reach_0_eq (N n : Nat) (v : (Int × ((List Int) × ((List tyq3) × ((List Bool) × (Int × (Bool × (Bool × (Bool × (Int × ((List tyq4) × ((List Int) × ((List Int) × (Int × (Int × ((List (Int × tyq2)) × tyq7)))))))))))))))) : liheap_reach_0 N (n + 1) v = ev (Xiheap_reach N) biheap_reach_0 (roundK diheap_reach_0 oiheap_reach_0 (liheap_reach_0 N n)) (diheap_reach_0.mk' v) := by kernel_rfl
theorem cxiheap_reach (N : Nat) : CtxOk Try.prog (Xiheap_reach N) := ⟨⟨TE_ok, List.forall_mem_cons.2 ⟨(speciState_roots N), List.forall_mem_cons.2 ⟨(speciheap_reach_1 N), fun k hk => absurd hk List.not_mem_nil⟩⟩⟩, mixed⟩
theorem lpiheap_reach_0 (N : Nat) : LoopOk Try.prog { hd := diheap_reach_0, outs := oiheap_reach_0, run := fun v => liheap_reach_0 N N v } biheap_reach_0 :=
 loop_fuel (d := diheap_reach_0) (os := oiheap_reach_0) (cxiheap_reach N) (loops_at (ids := []) (by kernel_rfl) (trivial)) (liheap_reach_0 N) (fun _ => rfl) (fun n v => liheap_reach_0_eq N n v) (fun _ => N)
theorem speciheap_reach (N : Nat) : Spec Try.prog (coniheap_reach N) :=
 Spec.of_eq (fn_spec (cxiheap_reach N) (f := 120) (fn := Try.f120) (c := codeOf Try.f120) (by kernel_rfl) (by kernel_rfl) (by kernel_rfl) (loops_at (ids := [0]) (by kernel_rfl) ⟨lp_of (lpiheap_reach_0 N), trivial⟩) (by kernel_rfl)) (fun x r h => (Fiheap_reach_eq N x).trans h)
noncomputable def diniheapOf : Desc := { n := 1, regs := [.one (.val tyq8)], bx := [], pins := [] }
noncomputable def outiheapOf : Outs := [(.ret, { n := 1, regs := [.one (.lit .pnil)], bx := [], pins := [] }), (.ret, { n := 1, regs := [.one (.lit (.ptr 1217792 0))], bx := [(1217792, .var [.val (.sl (.int .i64)), .val (.sl tyq10), .val (.sl .bool), .val (.int .i64), .val .bool, .val .bool, .val .bool, .val (.int .i64), .val (.sl tyq11), .val (.sl (.int .i64)), .val (.sl (.int .i64)), .val (.int .i64), .val (.int .i64), .val (.mp tyq9), .lit (.row 1217807)]), (1217807, .row (.int .i64))], pins := [] })]
noncomputable def HiheapOf : Hints := [(0, [(0, { fz := true })]),
 (2, [(5, { con := 1 })]),
 (14, [(11, { con := 2 })]),
 (17, [(3, { nl := [(14, (.int .i64))] })]),
 (18, [(1, { con := 3, sg := [(0, 1217792), (1, 1217807)] })])]
noncomputable def EiheapOf (N : Nat) : Env := { te := TE, cs := [coniState_things N, coniState_settled N, coniState_from N, coniheap_reach N] }
noncomputable def diheapOf_0 : Desc := { n := 110, regs := [u, .one (.fpt tyq8), u, .one (.val (.mp tyq9)), u, u, u, u, u, u, u, u, u, u, u, u, u, u, u, u, u, u, u, u, u, u, u, u, u, u, u, u, u, u, u, u, u, u, u, u, u, u, u, u, u, u, u, u, u, u, u, u, u, u, .one (.val (.sl tyq11)), .one (.val (.int .i64)), .one (.val (.int .i64))], bx := [], pins := [] }
noncomputable def oiheapOf_0 : Outs := [(.exit 0, { n := 110, regs := [u, .one (.fpt tyq8), u, .one (.val (.mp tyq9))], bx := [], pins := [] }), (.ret, { n := 110, regs := [u, u, .one (.lit .pnil)], bx := [], pins := [] })]
noncomputable def diheapOf_2 : Desc := { n := 110, regs := [u, .one (.fpt tyq8), u, .one (.val (.mp tyq9)), u, u, u, u, u, u, u, u, u, u, u, u, u, u, u, u, u, u, u, u, u, u, u, u, u, u, u, u, u, u, u, u, u, u, u, u, u, u, u, u, u, u, u, u, u, u, u, u, u, u, u, u, u, u, u, u, u, u, u, u, u, u, u, u, u, u, u, u, u, u, u, u, .one (.val (.sl (.int .i64))), .one (.val (.int .i64)), .one (.val (.int .i64))], bx := [], pins := [] }
noncomputable def oiheapOf_2 : Outs := [(.exit 2, { n := 110, regs := [u, .one (.fpt tyq8), u, .one (.val (.mp tyq9))], bx := [], pins := [] }), (.ret, { n := 110, regs := [u, u, .one (.lit .pnil)], bx := [], pins := [] })]
noncomputable def jiheapOf_4 : Outs := [(.normal, { n := 110, regs := [u, .one (.fpt tyq8), u, .one (.val (.mp tyq9))], bx := [], pins := [] }), (.ret, { n := 110, regs := [u, u, .one (.lit .pnil)], bx := [], pins := [] })]
noncomputable def liheapOf_0 (N : Nat) : Nat → (tyq1 × ((List (Int × tyq2)) × ((List tyq4) × (Int × (Int × Unit))))) → Option ((tyq1 × ((List (Int × tyq2)) × Unit)) ⊕ Unit)
 | 0, _ => none
 | n + 1, v =>
  bif decide (v.2.2.2.2.1 < v.2.2.2.1) then
   bif decide (0 ≤ v.2.2.2.2.1) then
   bif decide (v.2.2.2.2.1.toNat < v.2.2.1.length) then
   let y9 := v.2.2.1.getD v.2.2.2.2.1.toNat (([] : (List Int)), (0 : Int), false, (0 : Int), ())
   let y10 := decide ((y9.1.length : Int) > (8 : Int))
   bif y10 then
    some (.inr (()))
   else
   bif decide (y9.2.2.2.1 < (0 : Int)) then
    some (.inr (()))
   else
   bif decide (y9.2.2.2.1 > (2 : Int)) then
    some (.inr (()))
   else
   liheapOf_0 N n (v.1, v.2.1, v.2.2.1, v.2.2.2.1, w64 (v.2.2.2.2.1 + (1 : Int)), ())
   else none
   else none
  else
  some (.inl (v.1, v.2.1, ()))
noncomputable def liheapOf_2 (N : Nat) : Nat → (tyq1 × ((List (Int × tyq2)) × ((List Int) × (Int × (Int × Unit))))) → Option ((tyq1 × ((List (Int × tyq2)) × Unit)) ⊕ Unit)
 | 0, _ => none
 | n + 1, v =>
  bif decide (v.2.2.2.2.1 < v.2.2.2.1) then
   bif decide (0 ≤ v.2.2.2.2.1) then
   bif decide (v.2.2.2.2.1.toNat < v.2.2.1.length) then
   let y14 := v.2.2.1.getD v.2.2.2.2.1.toNat (0 : Int)
   let y15 := (mget v.2.1 y14).getD ((0 : Int), (0 : Int), ((0 : Int), (0 : Int), ()), ([] : (List Int)), ([] : (List Int)), ())
   bif !((mget v.2.1 y14).isSome) then
    some (.inr (()))
   else
   bif y15.2.1 != y14 then
    some (.inr (()))
   else
   (FiState_from N (v.1, y14, ())).bind fun r16 =>
   bif r16.1 then
    some (.inr (()))
   else
   liheapOf_2 N n (v.1, v.2.1, v.2.2.1, v.2.2.2.1, w64 (v.2.2.2.2.1 + (1 : Int)), ())
   else none
   else none
  else
  some (.inl (v.1, v.2.1, ()))
noncomputable def FiheapOf (N : Nat) (x : (tyq1 × Unit)) : Option (Unit ⊕ ((List Int) × ((List tyq3) × ((List Bool) × (Int × (Bool × (Bool × (Bool × (Int × ((List tyq4) × ((List Int) × ((List Int) × (Int × (Int × ((List (Int × tyq2)) × ((List Int) × Unit)))))))))))))))) :=
 (FiState_things N (x.1, ())).bind fun r1 =>
 Option.bind (
  bif !r1.2.1 then
   some (.inr (()))
  else
  (FiState_settled N (x.1, r1.1, ())).bind fun r2 =>
  bif !r2.1 then
   some (.inr (()))
  else
  bif decide (x.1.2.2.2.1 < (0 : Int)) then
   some (.inr (()))
  else
  bif decide (x.1.2.2.2.1 > (3 : Int)) then
   some (.inr (()))
  else
  let y3 := decide ((x.1.2.2.2.2.2.2.2.2.1.length : Int) < (1 : Int))
  bif y3 then
   some (.inr (()))
  else
  let y4 := decide ((x.1.2.2.2.2.2.2.2.2.1.length : Int) > (3 : Int))
  bif y4 then
   some (.inr (()))
  else
  let y5 := (x.1.2.2.2.2.2.2.2.2.2.2.1.length : Int)
  bif decide (y5 > (8 : Int)) then
   some (.inr (()))
  else
  some (.inl (x.1, r1.1, ()))) fun o6 =>
 Sum.elim (fun o7 =>
  let y8 := (o7.1.2.2.2.2.2.2.2.2.1.length : Int)
  (liheapOf_0 N N (o7.1, o7.2.1, o7.1.2.2.2.2.2.2.2.2.1, y8, (0 : Int), ())).bind fun o11 =>
  Sum.elim (fun o12 =>
   let y13 := (o12.1.2.2.2.2.2.2.2.2.2.2.1.length : Int)
   (liheapOf_2 N N (o12.1, o12.2.1, o12.1.2.2.2.2.2.2.2.2.2.2.1, y13, (0 : Int), ())).bind fun o17 =>
   Sum.elim (fun o18 =>
    (Fiheap_reach N (o18.1.1, o18.1.2.1, o18.1.2.2.1, o18.1.2.2.2.1, o18.1.2.2.2.2.1, o18.1.2.2.2.2.2.1, o18.1.2.2.2.2.2.2.1, o18.1.2.2.2.2.2.2.2.1, o18.1.2.2.2.2.2.2.2.2.1, o18.1.2.2.2.2.2.2.2.2.2.1, o18.1.2.2.2.2.2.2.2.2.2.2.1, o18.1.2.2.2.2.2.2.2.2.2.2.2.1, o18.1.2.2.2.2.2.2.2.2.2.2.2.2.1, o18.2.1, ([] : (List Int)), ())).bind fun r19 =>
    bif !r19.1 then
     some (.inl ())
    else
    some (.inr ((r19.2.1, r19.2.2.1, r19.2.2.2.1, r19.2.2.2.2.1, r19.2.2.2.2.2.1, r19.2.2.2.2.2.2.1, r19.2.2.2.2.2.2.2.1, r19.2.2.2.2.2.2.2.2.1, r19.2.2.2.2.2.2.2.2.2.1, r19.2.2.2.2.2.2.2.2.2.2.1, r19.2.2.2.2.2.2.2.2.2.2.2.1, r19.2.2.2.2.2.2.2.2.2.2.2.2.1, r19.2.2.2.2.2.2.2.2.2.2.2.2.2.1, r19.2.2.2.2.2.2.2.2.2.2.2.2.2.2.1, r19.2.2.2.2.2.2.2.2.2.2.2.2.2.2.2.1, ())))) (fun o20 =>
    some (.inl ())) o17) (fun o21 =>
   some (.inl ())) o11) (fun o22 =>
  some (.inl ())) o6
noncomputable def coniheapOf (N : Nat) : Con := { f := 91, din := diniheapOf, outs := outiheapOf, F := FiheapOf N }
noncomputable def XiheapOf (N : Nat) : Ctx := { E := EiheapOf N, H := HiheapOf, lp := [(0, { hd := diheapOf_0, outs := oiheapOf_0, run := fun v => liheapOf_0 N N v }), (2, { hd := diheapOf_2, outs := oiheapOf_2, run := fun v => liheapOf_2 N N v })], jn := [(4, jiheapOf_4)] }
noncomputable def biheapOf_2 : Code := loopBody (codeOf Try.f91) 1
noncomputable def biheapOf_0 : Code := loopBody (codeOf Try.f91) 0
theorem FiheapOf_eq (N : Nat) (x : (tyq1 × Unit)) : evFn (XiheapOf N) Try.f91 diniheapOf outiheapOf x = FiheapOf N x := by kernel_rfl
theorem liheapOf_0_eq (N n : Nat) (v : (tyq1 × ((List (Int × tyq2)) × ((List tyq4) × (Int × (Int × Unit)))))) : liheapOf_0 N (n + 1) v = ev (XiheapOf N) biheapOf_0 (roundK diheapOf_0 oiheapOf_0 (liheapOf_0 N n)) (diheapOf_0.mk' v) := by kernel_rfl
theorem liheapOf_2_eq (N n : Nat) (v : (tyq1 × ((List (Int × tyq2)) × ((List Int) × (Int × (Int × Unit)))))) : liheapOf_2 N (n + 1) v = ev (XiheapOf N) biheapOf_2 (roundK diheapOf_2 oiheapOf_2 (liheapOf_2 N n)) (diheapOf_2.mk' v) := by kernel_rfl
theorem cxiheapOf (N : Nat) : CtxOk Try.prog (XiheapOf N) := ⟨⟨TE_ok, List.forall_mem_cons.2 ⟨(speciState_things N), List.forall_mem_cons.2 ⟨(speciState_settled N), List.forall_mem_cons.2 ⟨(speciState_from N), List.forall_mem_cons.2 ⟨(speciheap_reach N), fun k hk => absurd hk List.not_mem_nil⟩⟩⟩⟩⟩, mixed⟩
theorem lpiheapOf_0 (N : Nat) : LoopOk Try.prog { hd := diheapOf_0, outs := oiheapOf_0, run := fun v => liheapOf_0 N N v } biheapOf_0 :=
 loop_fuel (d := diheapOf_0) (os := oiheapOf_0) (cxiheapOf N) (loops_at (ids := []) (by kernel_rfl) (trivial)) (liheapOf_0 N) (fun _ => rfl) (fun n v => liheapOf_0_eq N n v) (fun _ => N)
theorem lpiheapOf_2 (N : Nat) : LoopOk Try.prog { hd := diheapOf_2, outs := oiheapOf_2, run := fun v => liheapOf_2 N N v } biheapOf_2 :=
 loop_fuel (d := diheapOf_2) (os := oiheapOf_2) (cxiheapOf N) (loops_at (ids := []) (by kernel_rfl) (trivial)) (liheapOf_2 N) (fun _ => rfl) (fun n v => liheapOf_2_eq N n v) (fun _ => N)
theorem speciheapOf (N : Nat) : Spec Try.prog (coniheapOf N) :=
 Spec.of_eq (fn_spec (cxiheapOf N) (f := 91) (fn := Try.f91) (c := codeOf Try.f91) (by kernel_rfl) (by kernel_rfl) (by kernel_rfl) (loops_at (ids := [0, 2]) (by kernel_rfl) ⟨lp_of (lpiheapOf_0 N), ⟨lp_of (lpiheapOf_2 N), trivial⟩⟩) (by kernel_rfl)) (fun x r h => (FiheapOf_eq N x).trans h)
noncomputable def dinmath_bits_Len64 : Desc := { n := 1, regs := [.one (.val (.int .u64))], bx := [], pins := [] }
noncomputable def outmath_bits_Len64 : Outs := [(.ret, { n := 1, regs := [.one (.val (.int .i64))], bx := [], pins := [] })]
noncomputable def Hmath_bits_Len64 : Hints := []
noncomputable def Emath_bits_Len64 (_N : Nat) : Env := { te := TE, cs := [] }
noncomputable def jmath_bits_Len64_4 : Outs := [(.normal, { n := 25, regs := [.one (.val (.int .u64)), u, .one (.val (.int .i64))], bx := [], pins := [] })]
noncomputable def jmath_bits_Len64_7 : Outs := [(.normal, { n := 25, regs := [.one (.val (.int .u64)), u, .one (.val (.int .i64))], bx := [], pins := [] })]
noncomputable def jmath_bits_Len64_10 : Outs := [(.normal, { n := 25, regs := [.one (.val (.int .u64)), u, .one (.val (.int .i64))], bx := [], pins := [] })]
noncomputable def Fmath_bits_Len64 (N : Nat) (x : (Int × Unit)) : Option (Int × Unit) :=
 Option.bind (
  bif decide (x.1 ≥ (4294967296 : Int)) then
   bif decide (0 ≤ (32 : Int)) then
   let y1 := Int.fdiv x.1 (2 ^ min (32 : Int).toNat 64)
   some (y1, (32 : Int), ())
   else none
  else
  some (x.1, (0 : Int), ())) fun o2 =>
 Option.bind (
  bif decide (o2.1 ≥ (65536 : Int)) then
   bif decide (0 ≤ (16 : Int)) then
   let y3 := Int.fdiv o2.1 (2 ^ min (16 : Int).toNat 64)
   some (y3, w64 (o2.2.1 + (16 : Int)), ())
   else none
  else
  some (o2.1, o2.2.1, ())) fun o4 =>
 Option.bind (
  bif decide (o4.1 ≥ (256 : Int)) then
   bif decide (0 ≤ (8 : Int)) then
   let y5 := Int.fdiv o4.1 (2 ^ min (8 : Int).toNat 64)
   some (y5, w64 (o4.2.1 + (8 : Int)), ())
   else none
  else
  some (o4.1, o4.2.1, ())) fun o6 =>
 bif decide (0 ≤ (IntKind.wrap .u8 (o6.1))) then
 bif decide ((IntKind.wrap .u8 (o6.1)).toNat < (ByteArray.mk #[0, 1, 2, 2, 3, 3, 3, 3, 4, 4, 4, 4, 4, 4, 4, 4, 5, 5, 5, 5, 5, 5, 5, 5, 5, 5, 5, 5, 5, 5, 5, 5, 6, 6, 6, 6, 6, 6, 6, 6, 6, 6, 6, 6, 6, 6, 6, 6, 6, 6, 6, 6, 6, 6, 6, 6, 6, 6, 6, 6, 6, 6, 6, 6, 7, 7, 7, 7, 7, 7, 7, 7, 7, 7, 7, 7, 7, 7, 7, 7, 7, 7, 7, 7, 7, 7, 7, 7, 7, 7, 7, 7, 7, 7, 7, 7, 7, 7, 7, 7, 7, 7, 7, 7, 7, 7, 7, 7, 7, 7, 7, 7, 7, 7, 7, 7, 7, 7, 7, 7, 7, 7, 7, 7, 7, 7, 7, 7, 8, 8, 8, 8, 8, 8, 8, 8, 8, 8, 8, 8, 8, 8, 8, 8, 8, 8, 8, 8, 8, 8, 8, 8, 8, 8, 8, 8, 8, 8, 8, 8, 8, 8, 8, 8, 8, 8, 8, 8, 8, 8, 8, 8, 8, 8, 8, 8, 8, 8, 8, 8, 8, 8, 8, 8, 8, 8, 8, 8, 8, 8, 8, 8, 8, 8, 8, 8, 8, 8, 8, 8, 8, 8, 8, 8, 8, 8, 8, 8, 8, 8, 8, 8, 8, 8, 8, 8, 8, 8, 8, 8, 8, 8, 8, 8, 8, 8, 8, 8, 8, 8, 8, 8, 8, 8, 8, 8, 8, 8, 8, 8, 8, 8, 8, 8, 8, 8, 8, 8, 8, 8, 8, 8, 8, 8, 8, 8]).size) then
 let y7 := (((ByteArray.mk #[0, 1, 2, 2, 3, 3, 3, 3, 4, 4, 4, 4, 4, 4, 4, 4, 5, 5, 5, 5, 5, 5, 5, 5, 5, 5, 5, 5, 5, 5, 5, 5, 6, 6, 6, 6, 6, 6, 6, 6, 6, 6, 6, 6, 6, 6, 6, 6, 6, 6, 6, 6, 6, 6, 6, 6, 6, 6, 6, 6, 6, 6, 6, 6, 7, 7, 7, 7, 7, 7, 7, 7, 7, 7, 7, 7, 7, 7, 7, 7, 7, 7, 7, 7, 7, 7, 7, 7, 7, 7, 7, 7, 7, 7, 7, 7, 7, 7, 7, 7, 7, 7, 7, 7, 7, 7, 7, 7, 7, 7, 7, 7, 7, 7, 7, 7, 7, 7, 7, 7, 7, 7, 7, 7, 7, 7, 7, 7, 8, 8, 8, 8, 8, 8, 8, 8, 8, 8, 8, 8, 8, 8, 8, 8, 8, 8, 8, 8, 8, 8, 8, 8, 8, 8, 8, 8, 8, 8, 8, 8, 8, 8, 8, 8, 8, 8, 8, 8, 8, 8, 8, 8, 8, 8, 8, 8, 8, 8, 8, 8, 8, 8, 8, 8, 8, 8, 8, 8, 8, 8, 8, 8, 8, 8, 8, 8, 8, 8, 8, 8, 8, 8, 8, 8, 8, 8, 8, 8, 8, 8, 8, 8, 8, 8, 8, 8, 8, 8, 8, 8, 8, 8, 8, 8, 8, 8, 8, 8, 8, 8, 8, 8, 8, 8, 8, 8, 8, 8, 8, 8, 8, 8, 8, 8, 8, 8, 8, 8, 8, 8, 8, 8, 8, 8, 8, 8]).data.getD (IntKind.wrap .u8 (o6.1)).toNat 0).toNat : Int)
 some (w64 (o6.2.1 + (w64 (y7))), ())
 else none
 else none
noncomputable def conmath_bits_Len64 (N : Nat) : Con := { f := 143, din := dinmath_bits_Len64, outs := outmath_bits_Len64, F := Fmath_bits_Len64 N }
noncomputable def Xmath_bits_Len64 (N : Nat) : Ctx := { E := Emath_bits_Len64 N, H := Hmath_bits_Len64, lp := [], jn := [(4, jmath_bits_Len64_4), (7, jmath_bits_Len64_7), (10, jmath_bits_Len64_10)] }
theorem Fmath_bits_Len64_eq (N : Nat) (x : (Int × Unit)) : evFn (Xmath_bits_Len64 N) Try.f143 dinmath_bits_Len64 outmath_bits_Len64 x = Fmath_bits_Len64 N x := by kernel_rfl
theorem cxmath_bits_Len64 (N : Nat) : CtxOk Try.prog (Xmath_bits_Len64 N) := ⟨⟨TE_ok, fun k hk => absurd hk List.not_mem_nil⟩, mixed⟩
theorem specmath_bits_Len64 (N : Nat) : Spec Try.prog (conmath_bits_Len64 N) :=
 Spec.of_eq (fn_spec (cxmath_bits_Len64 N) (f := 143) (fn := Try.f143) (c := codeOf Try.f143) (by kernel_rfl) (by kernel_rfl) (by kernel_rfl) (loops_at (ids := []) (by kernel_rfl) (trivial)) (by kernel_rfl)) (fun x r h => (Fmath_bits_Len64_eq N x).trans h)
noncomputable def dinmath_bits_Len : Desc := { n := 1, regs := [.one (.val (.int .u64))], bx := [], pins := [] }
noncomputable def outmath_bits_Len : Outs := [(.ret, { n := 1, regs := [.one (.val (.int .i64))], bx := [], pins := [] })]
noncomputable def Hmath_bits_Len : Hints := []
noncomputable def Emath_bits_Len (N : Nat) : Env := { te := TE, cs := [conmath_bits_Len64 N] }
noncomputable def Fmath_bits_Len (N : Nat) (x : (Int × Unit)) : Option (Int × Unit) :=
 (Fmath_bits_Len64 N (x.1, ())).bind fun r1 =>
 some (r1.1, ())
noncomputable def conmath_bits_Len (N : Nat) : Con := { f := 130, din := dinmath_bits_Len, outs := outmath_bits_Len, F := Fmath_bits_Len N }
noncomputable def Xmath_bits_Len (N : Nat) : Ctx := { E := Emath_bits_Len N, H := Hmath_bits_Len, lp := [], jn := [] }
theorem Fmath_bits_Len_eq (N : Nat) (x : (Int × Unit)) : evFn (Xmath_bits_Len N) Try.f130 dinmath_bits_Len outmath_bits_Len x = Fmath_bits_Len N x := by kernel_rfl
theorem cxmath_bits_Len (N : Nat) : CtxOk Try.prog (Xmath_bits_Len N) := ⟨⟨TE_ok, List.forall_mem_cons.2 ⟨(specmath_bits_Len64 N), fun k hk => absurd hk List.not_mem_nil⟩⟩, mixed⟩
theorem specmath_bits_Len (N : Nat) : Spec Try.prog (conmath_bits_Len N) :=
 Spec.of_eq (fn_spec (cxmath_bits_Len N) (f := 130) (fn := Try.f130) (c := codeOf Try.f130) (by kernel_rfl) (by kernel_rfl) (by kernel_rfl) (loops_at (ids := []) (by kernel_rfl) (trivial)) (by kernel_rfl)) (fun x r h => (Fmath_bits_Len_eq N x).trans h)
noncomputable def dincmp_isNaN_int : Desc := { n := 1, regs := [.one (.val (.int .i64))], bx := [], pins := [] }
noncomputable def outcmp_isNaN_int : Outs := [(.ret, { n := 1, regs := [.one (.val .bool)], bx := [], pins := [] })]
noncomputable def Hcmp_isNaN_int : Hints := []
noncomputable def Ecmp_isNaN_int (_N : Nat) : Env := { te := TE, cs := [] }
noncomputable def Fcmp_isNaN_int (N : Nat) (x : (Int × Unit)) : Option (Bool × Unit) :=
 some (x.1 != x.1, ())
noncomputable def concmp_isNaN_int (N : Nat) : Con := { f := 103, din := dincmp_isNaN_int, outs := outcmp_isNaN_int, F := Fcmp_isNaN_int N }
noncomputable def Xcmp_isNaN_int (N : Nat) : Ctx := { E := Ecmp_isNaN_int N, H := Hcmp_isNaN_int, lp := [], jn := [] }
theorem Fcmp_isNaN_int_eq (N : Nat) (x : (Int × Unit)) : evFn (Xcmp_isNaN_int N) Try.f103 dincmp_isNaN_int outcmp_isNaN_int x = Fcmp_isNaN_int N x := by kernel_rfl
theorem cxcmp_isNaN_int (N : Nat) : CtxOk Try.prog (Xcmp_isNaN_int N) := ⟨⟨TE_ok, fun k hk => absurd hk List.not_mem_nil⟩, mixed⟩
theorem speccmp_isNaN_int (N : Nat) : Spec Try.prog (concmp_isNaN_int N) :=
 Spec.of_eq (fn_spec (cxcmp_isNaN_int N) (f := 103) (fn := Try.f103) (c := codeOf Try.f103) (by kernel_rfl) (by kernel_rfl) (by kernel_rfl) (loops_at (ids := []) (by kernel_rfl) (trivial)) (by kernel_rfl)) (fun x r h => (Fcmp_isNaN_int_eq N x).trans h)
noncomputable def dincmp_Less_int : Desc := { n := 2, regs := [.one (.val (.int .i64)), .one (.val (.int .i64))], bx := [], pins := [] }
noncomputable def outcmp_Less_int : Outs := [(.ret, { n := 1, regs := [.one (.val .bool)], bx := [], pins := [] })]
noncomputable def Hcmp_Less_int : Hints := []
noncomputable def Ecmp_Less_int (N : Nat) : Env := { te := TE, cs := [concmp_isNaN_int N] }
noncomputable def Fcmp_Less_int (N : Nat) (x : (Int × (Int × Unit))) : Option (Bool × Unit) :=
 (Fcmp_isNaN_int N (x.1, ())).bind fun r1 =>
 bif r1.1 then
  (Fcmp_isNaN_int N (x.2.1, ())).bind fun r2 =>
  bif !r2.1 then
   some (true, ())
  else
  some (decide (x.1 < x.2.1), ())
 else
 some (decide (x.1 < x.2.1), ())
noncomputable def concmp_Less_int (N : Nat) : Con := { f := 139, din := dincmp_Less_int, outs := outcmp_Less_int, F := Fcmp_Less_int N }
noncomputable def Xcmp_Less_int (N : Nat) : Ctx := { E := Ecmp_Less_int N, H := Hcmp_Less_int, lp := [], jn := [] }
theorem Fcmp_Less_int_eq (N : Nat) (x : (Int × (Int × Unit))) : evFn (Xcmp_Less_int N) Try.f139 dincmp_Less_int outcmp_Less_int x = Fcmp_Less_int N x := by kernel_rfl
theorem cxcmp_Less_int (N : Nat) : CtxOk Try.prog (Xcmp_Less_int N) := ⟨⟨TE_ok, List.forall_mem_cons.2 ⟨(speccmp_isNaN_int N), fun k hk => absurd hk List.not_mem_nil⟩⟩, mixed⟩
theorem speccmp_Less_int (N : Nat) : Spec Try.prog (concmp_Less_int N) :=
 Spec.of_eq (fn_spec (cxcmp_Less_int N) (f := 139) (fn := Try.f139) (c := codeOf Try.f139) (by kernel_rfl) (by kernel_rfl) (by kernel_rfl) (loops_at (ids := []) (by kernel_rfl) (trivial)) (by kernel_rfl)) (fun x r h => (Fcmp_Less_int_eq N x).trans h)
noncomputable def dinkinsertionSortOrdered_int : Desc := { n := 3, regs := [.one (.lit (.row 0)), .one (.val (.int .i64)), .one (.val (.int .i64))], bx := [(0, .row (.int .i64))], pins := [] }
noncomputable def outkinsertionSortOrdered_int : Outs := [(.ret, { n := 0, regs := [], bx := [(0, .row (.int .i64))], pins := [.one (.lit (.row 0))] })]
noncomputable def HkinsertionSortOrdered_int : Hints := []
noncomputable def EkinsertionSortOrdered_int (N : Nat) : Env := { te := TE, cs := [concmp_Less_int N] }
noncomputable def dkinsertionSortOrdered_int_2 : Desc := { n := 49, regs := [.one (.lit (.row 0)), .one (.val (.int .i64)), .one (.val (.int .i64)), u, u, u, .one (.val (.int .i64)), .one (.val (.int .i64))], bx := [(0, .row (.int .i64))], pins := [.one (.lit (.row 0))] }
noncomputable def okinsertionSortOrdered_int_2 : Outs := [(.exit 2, { n := 49, regs := [.one (.lit (.row 0)), .one (.val (.int .i64)), .one (.val (.int .i64)), u, u, u, .one (.val (.int .i64))], bx := [(0, .row (.int .i64))], pins := [.one (.lit (.row 0))] })]
noncomputable def dkinsertionSortOrdered_int_0 : Desc := { n := 49, regs := [.one (.lit (.row 0)), .one (.val (.int .i64)), .one (.val (.int .i64)), u, u, u, .one (.val (.int .i64))], bx := [(0, .row (.int .i64))], pins := [.one (.lit (.row 0))] }
noncomputable def okinsertionSortOrdered_int_0 : Outs := [(.exit 0, { n := 49, regs := [], bx := [(0, .row (.int .i64))], pins := [.one (.lit (.row 0))] })]
noncomputable def jkinsertionSortOrdered_int_6 : Outs := [(.exit 2, { n := 49, regs := [.one (.lit (.row 0)), .one (.val (.int .i64)), .one (.val (.int .i64)), u, u, u, .one (.val (.int .i64))], bx := [(0, .row (.int .i64))], pins := [.one (.lit (.row 0))] }), (.normal, { n := 49, regs := [.one (.lit (.row 0)), .one (.val (.int .i64)), .one (.val (.int .i64)), u, u, u, .one (.val (.int .i64)), .one (.val (.int .i64))], bx := [(0, .row (.int .i64))], pins := [.one (.lit (.row 0))] })]
noncomputable def lkinsertionSortOrdered_int_2 (N : Nat) : Nat → (Int × tyq5) → Option tyq5
 | 0, _ => none
 | n + 1, v =>
  Option.bind (
   bif decide (v.2.2.2.1 > v.1) then
    bif decide (0 ≤ v.2.2.2.1) then
    bif decide (v.2.2.2.1.toNat < v.2.2.2.2.1.length) then
    let y1 := v.2.2.2.2.1.getD v.2.2.2.1.toNat (0 : Int)
    bif decide (0 ≤ (w64 (v.2.2.2.1 - (1 : Int)))) then
    bif decide ((w64 (v.2.2.2.1 - (1 : Int))).toNat < v.2.2.2.2.1.length) then
    let y2 := v.2.2.2.2.1.getD ((w64 (v.2.2.2.1 - (1 : Int))).toNat) (0 : Int)
    (Fcmp_Less_int N (y1, y2, ())).bind fun r3 =>
    bif r3.1 then
     some (.inr ((v.1, v.2.1, v.2.2.1, v.2.2.2.1, v.2.2.2.2.1, ())))
    else
    some (.inl (v.1, v.2.1, v.2.2.1, v.2.2.2.2.1, ()))
    else none
    else none
    else none
    else none
   else
   some (.inl (v.1, v.2.1, v.2.2.1, v.2.2.2.2.1, ()))) fun o4 =>
  Sum.elim (fun o5 =>
   some (o5.1, o5.2.1, o5.2.2.1, o5.2.2.2.1, ())) (fun o6 =>
   bif decide (0 ≤ (w64 (o6.2.2.2.1 - (1 : Int)))) then
   bif decide ((w64 (o6.2.2.2.1 - (1 : Int))).toNat < o6.2.2.2.2.1.length) then
   let y7 := o6.2.2.2.2.1.getD ((w64 (o6.2.2.2.1 - (1 : Int))).toNat) (0 : Int)
   bif decide (0 ≤ o6.2.2.2.1) then
   bif decide (o6.2.2.2.1.toNat < o6.2.2.2.2.1.length) then
   let y8 := o6.2.2.2.2.1.getD o6.2.2.2.1.toNat (0 : Int)
   bif decide (0 ≤ o6.2.2.2.1) then
   bif decide (o6.2.2.2.1.toNat < o6.2.2.2.2.1.length) then
   bif decide (0 ≤ (w64 (o6.2.2.2.1 - (1 : Int)))) then
   bif decide ((w64 (o6.2.2.2.1 - (1 : Int))).toNat < (o6.2.2.2.2.1.set o6.2.2.2.1.toNat y7).length) then
   let y9 := (o6.2.2.2.2.1.set o6.2.2.2.1.toNat y7).set ((w64 (o6.2.2.2.1 - (1 : Int))).toNat) y8
   lkinsertionSortOrdered_int_2 N n (o6.1, o6.2.1, o6.2.2.1, w64 (o6.2.2.2.1 - (1 : Int)), y9, ())
   else none
   else none
   else none
   else none
   else none
   else none
   else none
   else none) o4
noncomputable def lkinsertionSortOrdered_int_0 (N : Nat) : Nat → tyq5 → Option ((List Int) × Unit)
 | 0, _ => none
 | n + 1, v =>
  bif decide (v.2.2.1 < v.2.1) then
   (lkinsertionSortOrdered_int_2 N N (v.1, v.2.1, v.2.2.1, v.2.2.1, v.2.2.2.1, ())).bind fun o10 =>
   lkinsertionSortOrdered_int_0 N n (o10.1, o10.2.1, w64 (o10.2.2.1 + (1 : Int)), o10.2.2.2.1, ())
  else
  some (v.2.2.2.1, ())
noncomputable def FkinsertionSortOrdered_int (N : Nat) (x : (Int × (Int × ((List Int) × Unit)))) : Option ((List Int) × Unit) :=
 (lkinsertionSortOrdered_int_0 N N (x.1, x.2.1, w64 (x.1 + (1 : Int)), x.2.2.1, ())).bind fun o11 =>
 some (o11.1, ())
noncomputable def conkinsertionSortOrdered_int (N : Nat) : Con := { f := 133, din := dinkinsertionSortOrdered_int, outs := outkinsertionSortOrdered_int, F := FkinsertionSortOrdered_int N }
noncomputable def XkinsertionSortOrdered_int (N : Nat) : Ctx := { E := EkinsertionSortOrdered_int N, H := HkinsertionSortOrdered_int, lp := [(2, { hd := dkinsertionSortOrdered_int_2, outs := okinsertionSortOrdered_int_2, run := fun v => lkinsertionSortOrdered_int_2 N N v }), (0, { hd := dkinsertionSortOrdered_int_0, outs := okinsertionSortOrdered_int_0, run := fun v => lkinsertionSortOrdered_int_0 N N v })], jn := [(6, jkinsertionSortOrdered_int_6)] }
noncomputable def bkinsertionSortOrdered_int_0 : Code := loopBody (codeOf Try.f133) 0
noncomputable def bkinsertionSortOrdered_int_2 : Code := loopBody bkinsertionSortOrdered_int_0 0
theorem FkinsertionSortOrdered_int_eq (N : Nat) (x : (Int × (Int × ((List Int) × Unit)))) : evFn (XkinsertionSortOrdered_int N) Try.f133 dinkinsertionSortOrdered_int outkinsertionSortOrdered_int x = FkinsertionSortOrdered_int N x := by kernel_rfl
theorem lkinsertionSortOrdered_int_2_eq (N n : Nat) (v : (Int × tyq5)) : lkinsertionSortOrdered_int_2 N (n + 1) v = ev (XkinsertionSortOrdered_int N) bkinsertionSortOrdered_int_2 (roundK dkinsertionSortOrdered_int_2 okinsertionSortOrdered_int_2 (lkinsertionSortOrdered_int_2 N n)) (dkinsertionSortOrdered_int_2.mk' v) := by kernel_rfl
theorem lkinsertionSortOrdered_int_0_eq (N n : Nat) (v : tyq5) : lkinsertionSortOrdered_int_0 N (n + 1) v = ev (XkinsertionSortOrdered_int N) bkinsertionSortOrdered_int_0 (roundK dkinsertionSortOrdered_int_0 okinsertionSortOrdered_int_0 (lkinsertionSortOrdered_int_0 N n)) (dkinsertionSortOrdered_int_0.mk' v) := by kernel_rfl
theorem cxkinsertionSortOrdered_int (N : Nat) : CtxOk Try.prog (XkinsertionSortOrdered_int N) := ⟨⟨TE_ok, List.forall_mem_cons.2 ⟨(speccmp_Less_int N), fun k hk => absurd hk List.not_mem_nil⟩⟩, mixed⟩
theorem lpkinsertionSortOrdered_int_2 (N : Nat) : LoopOk Try.prog { hd := dkinsertionSortOrdered_int_2, outs := okinsertionSortOrdered_int_2, run := fun v => lkinsertionSortOrdered_int_2 N N v } bkinsertionSortOrdered_int_2 :=
 loop_fuel (d := dkinsertionSortOrdered_int_2) (os := okinsertionSortOrdered_int_2) (cxkinsertionSortOrdered_int N) (loops_at (ids := []) (by kernel_rfl) (trivial)) (lkinsertionSortOrdered_int_2 N) (fun _ => rfl) (fun n v => lkinsertionSortOrdered_int_2_eq N n v) (fun _ => N)
theorem lpkinsertionSortOrdered_int_0 (N : Nat) : LoopOk Try.prog { hd := dkinsertionSortOrdered_int_0, outs := okinsertionSortOrdered_int_0, run := fun v => lkinsertionSortOrdered_int_0 N N v } bkinsertionSortOrdered_int_0 :=
 loop_fuel (d := dkinsertionSortOrdered_int_0) (os := okinsertionSortOrdered_int_0) (cxkinsertionSortOrdered_int N) (loops_at (ids := [2]) (by kernel_rfl) ⟨lp_of (lpkinsertionSortOrdered_int_2 N), trivial⟩) (lkinsertionSortOrdered_int_0 N) (fun _ => rfl) (fun n v => lkinsertionSortOrdered_int_0_eq N n v) (fun _ => N)
theorem speckinsertionSortOrdered_int (N : Nat) : Spec Try.prog (conkinsertionSortOrdered_int N) :=
 Spec.of_eq (fn_spec (cxkinsertionSortOrdered_int N) (f := 133) (fn := Try.f133) (c := codeOf Try.f133) (by kernel_rfl) (by kernel_rfl) (by kernel_rfl) (loops_at (ids := [0]) (by kernel_rfl) ⟨lp_of (lpkinsertionSortOrdered_int_0 N), trivial⟩) (by kernel_rfl)) (fun x r h => (FkinsertionSortOrdered_int_eq N x).trans h)
noncomputable def dinksiftDownOrdered_int : Desc := { n := 4, regs := [.one (.lit (.row 0)), .one (.val (.int .i64)), .one (.val (.int .i64)), .one (.val (.int .i64))], bx := [(0, .row (.int .i64))], pins := [] }
noncomputable def outksiftDownOrdered_int : Outs := [(.ret, { n := 0, regs := [], bx := [(0, .row (.int .i64))], pins := [.one (.lit (.row 0))] })]
noncomputable def HksiftDownOrdered_int : Hints := []
noncomputable def EksiftDownOrdered_int (N : Nat) : Env := { te := TE, cs := [concmp_Less_int N] }
noncomputable def dksiftDownOrdered_int_0 : Desc := { n := 76, regs := [.one (.lit (.row 0)), u, .one (.val (.int .i64)), .one (.val (.int .i64)), u, u, u, u, .one (.val (.int .i64))], bx := [(0, .row (.int .i64))], pins := [.one (.lit (.row 0))] }
noncomputable def oksiftDownOrdered_int_0 : Outs := [(.exit 0, { n := 76, regs := [], bx := [(0, .row (.int .i64))], pins := [.one (.lit (.row 0))] }), (.ret, { n := 76, regs := [], bx := [(0, .row (.int .i64))], pins := [.one (.lit (.row 0))] })]
noncomputable def jksiftDownOrdered_int_5 : Outs := [(.normal, { n := 76, regs := [.one (.lit (.row 0)), u, .one (.val (.int .i64)), .one (.val (.int .i64)), u, u, u, u, .one (.val (.int .i64)), .one (.val (.int .i64))], bx := [(0, .row (.int .i64))], pins := [.one (.lit (.row 0))] })]
noncomputable def lksiftDownOrdered_int_0 (N : Nat) : Nat → tyq5 → Option (((List Int) × Unit) ⊕ ((List Int) × Unit))
 | 0, _ => none
 | n + 1, v =>
  let y1 := w64 ((w64 ((2 : Int) * v.2.2.1)) + (1 : Int))
  bif decide (y1 ≥ v.1) then
   some (.inl (v.2.2.2.1, ()))
  else
  Option.bind (
   let y2 := decide ((w64 (y1 + (1 : Int))) < v.1)
   bif y2 then
    bif decide (0 ≤ (w64 (v.2.1 + y1))) then
    bif decide ((w64 (v.2.1 + y1)).toNat < v.2.2.2.1.length) then
    let y3 := v.2.2.2.1.getD ((w64 (v.2.1 + y1)).toNat) (0 : Int)
    bif decide (0 ≤ (w64 ((w64 (v.2.1 + y1)) + (1 : Int)))) then
    bif decide ((w64 ((w64 (v.2.1 + y1)) + (1 : Int))).toNat < v.2.2.2.1.length) then
    let y4 := (w64 ((w64 (v.2.1 + y1)) + (1 : Int))).toNat
    (Fcmp_Less_int N (y3, v.2.2.2.1.getD y4 (0 : Int), ())).bind fun r5 =>
    bif r5.1 then
     some (v.1, v.2.1, v.2.2.1, w64 (y1 + (1 : Int)), v.2.2.2.1, ())
    else
    some (v.1, v.2.1, v.2.2.1, y1, v.2.2.2.1, ())
    else none
    else none
    else none
    else none
   else
   some (v.1, v.2.1, v.2.2.1, y1, v.2.2.2.1, ())) fun o6 =>
  bif decide (0 ≤ (w64 (o6.2.1 + o6.2.2.1))) then
  bif decide ((w64 (o6.2.1 + o6.2.2.1)).toNat < o6.2.2.2.2.1.length) then
  let y7 := o6.2.2.2.2.1.getD ((w64 (o6.2.1 + o6.2.2.1)).toNat) (0 : Int)
  bif decide (0 ≤ (w64 (o6.2.1 + o6.2.2.2.1))) then
  bif decide ((w64 (o6.2.1 + o6.2.2.2.1)).toNat < o6.2.2.2.2.1.length) then
  let y8 := o6.2.2.2.2.1.getD ((w64 (o6.2.1 + o6.2.2.2.1)).toNat) (0 : Int)
  (Fcmp_Less_int N (y7, y8, ())).bind fun r9 =>
  bif !r9.1 then
   some (.inr ((o6.2.2.2.2.1, ())))
  else
  bif decide (0 ≤ (w64 (o6.2.1 + o6.2.2.2.1))) then
  bif decide ((w64 (o6.2.1 + o6.2.2.2.1)).toNat < o6.2.2.2.2.1.length) then
  let y10 := o6.2.2.2.2.1.getD ((w64 (o6.2.1 + o6.2.2.2.1)).toNat) (0 : Int)
  bif decide (0 ≤ (w64 (o6.2.1 + o6.2.2.1))) then
  bif decide ((w64 (o6.2.1 + o6.2.2.1)).toNat < o6.2.2.2.2.1.length) then
  let y11 := o6.2.2.2.2.1.getD ((w64 (o6.2.1 + o6.2.2.1)).toNat) (0 : Int)
  bif decide (0 ≤ (w64 (o6.2.1 + o6.2.2.1))) then
  bif decide ((w64 (o6.2.1 + o6.2.2.1)).toNat < o6.2.2.2.2.1.length) then
  let y12 := o6.2.2.2.2.1.set ((w64 (o6.2.1 + o6.2.2.1)).toNat) y10
  bif decide (0 ≤ (w64 (o6.2.1 + o6.2.2.2.1))) then
  bif decide ((w64 (o6.2.1 + o6.2.2.2.1)).toNat < y12.length) then
  let y13 := y12.set ((w64 (o6.2.1 + o6.2.2.2.1)).toNat) y11
  lksiftDownOrdered_int_0 N n (o6.1, o6.2.1, o6.2.2.2.1, y13, ())
  else none
  else none
  else none
  else none
  else none
  else none
  else none
  else none
  else none
  else none
  else none
  else none
noncomputable def FksiftDownOrdered_int (N : Nat) (x : tyq5) : Option ((List Int) × Unit) :=
 (lksiftDownOrdered_int_0 N N (x.2.1, x.2.2.1, x.1, x.2.2.2.1, ())).bind fun o14 =>
 Sum.elim (fun o15 =>
  some (o15.1, ())) (fun o16 =>
  some (o16.1, ())) o14
noncomputable def conksiftDownOrdered_int (N : Nat) : Con := { f := 145, din := dinksiftDownOrdered_int, outs := outksiftDownOrdered_int, F := FksiftDownOrdered_int N }
noncomputable def XksiftDownOrdered_int (N : Nat) : Ctx := { E := EksiftDownOrdered_int N, H := HksiftDownOrdered_int, lp := [(0, { hd := dksiftDownOrdered_int_0, outs := oksiftDownOrdered_int_0, run := fun v => lksiftDownOrdered_int_0 N N v })], jn := [(5, jksiftDownOrdered_int_5)] }
noncomputable def bksiftDownOrdered_int_0 : Code := loopBody (codeOf Try.f145) 0
theorem FksiftDownOrdered_int_eq (N : Nat) (x : tyq5) : evFn (XksiftDownOrdered_int N) Try.f145 dinksiftDownOrdered_int outksiftDownOrdered_int x = FksiftDownOrdered_int N x := by kernel_rfl
theorem lksiftDownOrdered_int_0_eq (N n : Nat) (v : tyq5) : lksiftDownOrdered_int_0 N (n + 1) v = ev (XksiftDownOrdered_int N) bksiftDownOrdered_int_0 (roundK dksiftDownOrdered_int_0 oksiftDownOrdered_int_0 (lksiftDownOrdered_int_0 N n)) (dksiftDownOrdered_int_0.mk' v) := by kernel_rfl
theorem cxksiftDownOrdered_int (N : Nat) : CtxOk Try.prog (XksiftDownOrdered_int N) := ⟨⟨TE_ok, List.forall_mem_cons.2 ⟨(speccmp_Less_int N), fun k hk => absurd hk List.not_mem_nil⟩⟩, mixed⟩
theorem lpksiftDownOrdered_int_0 (N : Nat) : LoopOk Try.prog { hd := dksiftDownOrdered_int_0, outs := oksiftDownOrdered_int_0, run := fun v => lksiftDownOrdered_int_0 N N v } bksiftDownOrdered_int_0 :=
 loop_fuel (d := dksiftDownOrdered_int_0) (os := oksiftDownOrdered_int_0) (cxksiftDownOrdered_int N) (loops_at (ids := []) (by kernel_rfl) (trivial)) (lksiftDownOrdered_int_0 N) (fun _ => rfl) (fun n v => lksiftDownOrdered_int_0_eq N n v) (fun _ => N)
theorem specksiftDownOrdered_int (N : Nat) : Spec Try.prog (conksiftDownOrdered_int N) :=
 Spec.of_eq (fn_spec (cxksiftDownOrdered_int N) (f := 145) (fn := Try.f145) (c := codeOf Try.f145) (by kernel_rfl) (by kernel_rfl) (by kernel_rfl) (loops_at (ids := [0]) (by kernel_rfl) ⟨lp_of (lpksiftDownOrdered_int_0 N), trivial⟩) (by kernel_rfl)) (fun x r h => (FksiftDownOrdered_int_eq N x).trans h)
noncomputable def dinkheapSortOrdered_int : Desc := { n := 3, regs := [.one (.lit (.row 0)), .one (.val (.int .i64)), .one (.val (.int .i64))], bx := [(0, .row (.int .i64))], pins := [] }
noncomputable def outkheapSortOrdered_int : Outs := [(.ret, { n := 0, regs := [], bx := [(0, .row (.int .i64))], pins := [.one (.lit (.row 0))] })]
noncomputable def HkheapSortOrdered_int : Hints := []
noncomputable def EkheapSortOrdered_int (N : Nat) : Env := { te := TE, cs := [conksiftDownOrdered_int N] }
noncomputable def dkheapSortOrdered_int_0 : Desc := { n := 56, regs := [.one (.lit (.row 0)), u, u, u, u, u, .one (.val (.int .i64)), .one (.val (.int .i64)), .one (.val (.int .i64)), .one (.val (.int .i64))], bx := [(0, .row (.int .i64))], pins := [.one (.lit (.row 0))] }
noncomputable def okheapSortOrdered_int_0 : Outs := [(.exit 0, { n := 56, regs := [.one (.lit (.row 0)), u, u, u, u, u, .one (.val (.int .i64)), .one (.val (.int .i64)), .one (.val (.int .i64))], bx := [(0, .row (.int .i64))], pins := [.one (.lit (.row 0))] })]
noncomputable def dkheapSortOrdered_int_2 : Desc := { n := 56, regs := [.one (.lit (.row 0)), u, u, u, u, u, .one (.val (.int .i64)), .one (.val (.int .i64)), u, u, .one (.val (.int .i64))], bx := [(0, .row (.int .i64))], pins := [.one (.lit (.row 0))] }
noncomputable def okheapSortOrdered_int_2 : Outs := [(.exit 2, { n := 56, regs := [], bx := [(0, .row (.int .i64))], pins := [.one (.lit (.row 0))] })]
noncomputable def lkheapSortOrdered_int_0 (N : Nat) : Nat → (Int × tyq5) → Option tyq5
 | 0, _ => none
 | n + 1, v =>
  bif decide (v.2.2.2.1 ≥ (0 : Int)) then
   (FksiftDownOrdered_int N (v.2.2.2.1, v.2.2.1, v.1, v.2.2.2.2.1, ())).bind fun r2 =>
   lkheapSortOrdered_int_0 N n (v.1, v.2.1, v.2.2.1, w64 (v.2.2.2.1 - (1 : Int)), r2.1, ())
  else
  some (v.1, v.2.1, v.2.2.1, v.2.2.2.2.1, ())
noncomputable def lkheapSortOrdered_int_2 (N : Nat) : Nat → tyq5 → Option ((List Int) × Unit)
 | 0, _ => none
 | n + 1, v =>
  bif decide (v.2.2.1 ≥ (0 : Int)) then
   bif decide (0 ≤ (w64 (v.1 + v.2.2.1))) then
   bif decide ((w64 (v.1 + v.2.2.1)).toNat < v.2.2.2.1.length) then
   let y4 := v.2.2.2.1.getD ((w64 (v.1 + v.2.2.1)).toNat) (0 : Int)
   bif decide (0 ≤ v.1) then
   bif decide (v.1.toNat < v.2.2.2.1.length) then
   bif decide (0 ≤ v.1) then
   bif decide (v.1.toNat < v.2.2.2.1.length) then
   bif decide (0 ≤ (w64 (v.1 + v.2.2.1))) then
   bif decide ((w64 (v.1 + v.2.2.1)).toNat < (v.2.2.2.1.set v.1.toNat y4).length) then
   let y5 := (v.2.2.2.1.set v.1.toNat y4).set ((w64 (v.1 + v.2.2.1)).toNat) (v.2.2.2.1.getD v.1.toNat (0 : Int))
   (FksiftDownOrdered_int N (v.2.1, v.2.2.1, v.1, y5, ())).bind fun r6 =>
   lkheapSortOrdered_int_2 N n (v.1, v.2.1, w64 (v.2.2.1 - (1 : Int)), r6.1, ())
   else none
   else none
   else none
   else none
   else none
   else none
   else none
   else none
  else
  some (v.2.2.2.1, ())
noncomputable def FkheapSortOrdered_int (N : Nat) (x : (Int × (Int × ((List Int) × Unit)))) : Option ((List Int) × Unit) :=
 let y1 := w64 ((w64 (x.2.1 - x.1)) - (1 : Int))
 bif decide ((2 : Int) = 0) then
  none
 else
 (lkheapSortOrdered_int_0 N N (x.1, (0 : Int), w64 (x.2.1 - x.1), w64 (Int.tdiv y1 (2 : Int)), x.2.2.1, ())).bind fun o3 =>
 (lkheapSortOrdered_int_2 N N (o3.1, o3.2.1, w64 (o3.2.2.1 - (1 : Int)), o3.2.2.2.1, ())).bind fun o7 =>
 some (o7.1, ())
noncomputable def conkheapSortOrdered_int (N : Nat) : Con := { f := 134, din := dinkheapSortOrdered_int, outs := outkheapSortOrdered_int, F := FkheapSortOrdered_int N }
noncomputable def XkheapSortOrdered_int (N : Nat) : Ctx := { E := EkheapSortOrdered_int N, H := HkheapSortOrdered_int, lp := [(0, { hd := dkheapSortOrdered_int_0, outs := okheapSortOrdered_int_0, run := fun v => lkheapSortOrdered_int_0 N N v }), (2, { hd := dkheapSortOrdered_int_2, outs := okheapSortOrdered_int_2, run := fun v => lkheapSortOrdered_int_2 N N v })], jn := [] }
noncomputable def bkheapSortOrdered_int_2 : Code := loopBody (codeOf Try.f134) 1
noncomputable def bkheapSortOrdered_int_0 : Code := loopBody (codeOf Try.f134) 0
theorem FkheapSortOrdered_int_eq (N : Nat) (x : (Int × (Int × ((List Int) × Unit)))) : evFn (XkheapSortOrdered_int N) Try.f134 dinkheapSortOrdered_int outkheapSortOrdered_int x = FkheapSortOrdered_int N x := by kernel_rfl
theorem lkheapSortOrdered_int_0_eq (N n : Nat) (v : (Int × tyq5)) : lkheapSortOrdered_int_0 N (n + 1) v = ev (XkheapSortOrdered_int N) bkheapSortOrdered_int_0 (roundK dkheapSortOrdered_int_0 okheapSortOrdered_int_0 (lkheapSortOrdered_int_0 N n)) (dkheapSortOrdered_int_0.mk' v) := by kernel_rfl
theorem lkheapSortOrdered_int_2_eq (N n : Nat) (v : tyq5) : lkheapSortOrdered_int_2 N (n + 1) v = ev (XkheapSortOrdered_int N) bkheapSortOrdered_int_2 (roundK dkheapSortOrdered_int_2 okheapSortOrdered_int_2 (lkheapSortOrdered_int_2 N n)) (dkheapSortOrdered_int_2.mk' v) := by kernel_rfl
theorem cxkheapSortOrdered_int (N : Nat) : CtxOk Try.prog (XkheapSortOrdered_int N) := ⟨⟨TE_ok, List.forall_mem_cons.2 ⟨(specksiftDownOrdered_int N), fun k hk => absurd hk List.not_mem_nil⟩⟩, mixed⟩
theorem lpkheapSortOrdered_int_0 (N : Nat) : LoopOk Try.prog { hd := dkheapSortOrdered_int_0, outs := okheapSortOrdered_int_0, run := fun v => lkheapSortOrdered_int_0 N N v } bkheapSortOrdered_int_0 :=
 loop_fuel (d := dkheapSortOrdered_int_0) (os := okheapSortOrdered_int_0) (cxkheapSortOrdered_int N) (loops_at (ids := []) (by kernel_rfl) (trivial)) (lkheapSortOrdered_int_0 N) (fun _ => rfl) (fun n v => lkheapSortOrdered_int_0_eq N n v) (fun _ => N)
theorem lpkheapSortOrdered_int_2 (N : Nat) : LoopOk Try.prog { hd := dkheapSortOrdered_int_2, outs := okheapSortOrdered_int_2, run := fun v => lkheapSortOrdered_int_2 N N v } bkheapSortOrdered_int_2 :=
 loop_fuel (d := dkheapSortOrdered_int_2) (os := okheapSortOrdered_int_2) (cxkheapSortOrdered_int N) (loops_at (ids := []) (by kernel_rfl) (trivial)) (lkheapSortOrdered_int_2 N) (fun _ => rfl) (fun n v => lkheapSortOrdered_int_2_eq N n v) (fun _ => N)
theorem speckheapSortOrdered_int (N : Nat) : Spec Try.prog (conkheapSortOrdered_int N) :=
 Spec.of_eq (fn_spec (cxkheapSortOrdered_int N) (f := 134) (fn := Try.f134) (c := codeOf Try.f134) (by kernel_rfl) (by kernel_rfl) (by kernel_rfl) (loops_at (ids := [0, 2]) (by kernel_rfl) ⟨lp_of (lpkheapSortOrdered_int_0 N), ⟨lp_of (lpkheapSortOrdered_int_2 N), trivial⟩⟩) (by kernel_rfl)) (fun x r h => (FkheapSortOrdered_int_eq N x).trans h)
noncomputable def dinknextPowerOfTwo : Desc := { n := 1, regs := [.one (.val (.int .i64))], bx := [], pins := [] }
noncomputable def outknextPowerOfTwo : Outs := [(.ret, { n := 1, regs := [.one (.val (.int .u64))], bx := [], pins := [] })]
noncomputable def HknextPowerOfTwo : Hints := []
noncomputable def EknextPowerOfTwo (N : Nat) : Env := { te := TE, cs := [conmath_bits_Len N] }
noncomputable def FknextPowerOfTwo (N : Nat) (x : (Int × Unit)) : Option (Int × Unit) :=
 (Fmath_bits_Len N (IntKind.wrap .u64 (x.1), ())).bind fun r1 =>
 bif decide (0 ≤ r1.1) then
 let y2 := IntKind.wrap .u64 ((1 : Int) * 2 ^ min r1.1.toNat 64)
 some (y2, ())
 else none
noncomputable def conknextPowerOfTwo (N : Nat) : Con := { f := 146, din := dinknextPowerOfTwo, outs := outknextPowerOfTwo, F := FknextPowerOfTwo N }
noncomputable def XknextPowerOfTwo (N : Nat) : Ctx := { E := EknextPowerOfTwo N, H := HknextPowerOfTwo, lp := [], jn := [] }
theorem FknextPowerOfTwo_eq (N : Nat) (x : (Int × Unit)) : evFn (XknextPowerOfTwo N) Try.f146 dinknextPowerOfTwo outknextPowerOfTwo x = FknextPowerOfTwo N x := by kernel_rfl
theorem cxknextPowerOfTwo (N : Nat) : CtxOk Try.prog (XknextPowerOfTwo N) := ⟨⟨TE_ok, List.forall_mem_cons.2 ⟨(specmath_bits_Len N), fun k hk => absurd hk List.not_mem_nil⟩⟩, mixed⟩
theorem specknextPowerOfTwo (N : Nat) : Spec Try.prog (conknextPowerOfTwo N) :=
 Spec.of_eq (fn_spec (cxknextPowerOfTwo N) (f := 146) (fn := Try.f146) (c := codeOf Try.f146) (by kernel_rfl) (by kernel_rfl) (by kernel_rfl) (loops_at (ids := []) (by kernel_rfl) (trivial)) (by kernel_rfl)) (fun x r h => (FknextPowerOfTwo_eq N x).trans h)
noncomputable def dinkxorshift_Next : Desc := { n := 1, regs := [.one (.lit (.ptr 0 0))], bx := [(0, .var [.val (.int .u64)])], pins := [] }
noncomputable def outkxorshift_Next : Outs := [(.ret, { n := 1, regs := [.one (.val (.int .u64))], bx := [(0, .var [.val (.int .u64)])], pins := [.one (.lit (.ptr 0 0))] })]
noncomputable def Hkxorshift_Next : Hints := []
noncomputable def Ekxorshift_Next (_N : Nat) : Env := { te := TE, cs := [] }
noncomputable def Fkxorshift_Next (N : Nat) (x : (Int × Unit)) : Option (Int × (Int × Unit)) :=
 bif decide (0 ≤ (13 : Int)) then
 let y1 := IntKind.wrap .u64 (x.1 * 2 ^ min (13 : Int).toNat 64)
 let y2 := IntKind.wrap .u64 (((bitsOf .u64 x.1 ^^^ bitsOf .u64 y1).toNat : Int))
 bif decide (0 ≤ (7 : Int)) then
 let y3 := Int.fdiv y2 (2 ^ min (7 : Int).toNat 64)
 let y4 := IntKind.wrap .u64 (((bitsOf .u64 y2 ^^^ bitsOf .u64 y3).toNat : Int))
 bif decide (0 ≤ (17 : Int)) then
 let y5 := IntKind.wrap .u64 (y4 * 2 ^ min (17 : Int).toNat 64)
 let y6 := IntKind.wrap .u64 (((bitsOf .u64 y4 ^^^ bitsOf .u64 y5).toNat : Int))
 some (y6, y6, ())
 else none
 else none
 else none
noncomputable def conkxorshift_Next (N : Nat) : Con := { f := 147, din := dinkxorshift_Next, outs := outkxorshift_Next, F := Fkxorshift_Next N }
noncomputable def Xkxorshift_Next (N : Nat) : Ctx := { E := Ekxorshift_Next N, H := Hkxorshift_Next, lp := [], jn := [] }
theorem Fkxorshift_Next_eq (N : Nat) (x : (Int × Unit)) : evFn (Xkxorshift_Next N) Try.f147 dinkxorshift_Next outkxorshift_Next x = Fkxorshift_Next N x := by kernel_rfl
theorem cxkxorshift_Next (N : Nat) : CtxOk Try.prog (Xkxorshift_Next N) := ⟨⟨TE_ok, fun k hk => absurd hk List.not_mem_nil⟩, mixed⟩
theorem speckxorshift_Next (N : Nat) : Spec Try.prog (conkxorshift_Next N) :=
 Spec.of_eq (fn_spec (cxkxorshift_Next N) (f := 147) (fn := Try.f147) (c := codeOf Try.f147) (by kernel_rfl) (by kernel_rfl) (by kernel_rfl) (loops_at (ids := []) (by kernel_rfl) (trivial)) (by kernel_rfl)) (fun x r h => (Fkxorshift_Next_eq N x).trans h)
noncomputable def dinkbreakPatternsOrdered_int : Desc := { n := 3, regs := [.one (.lit (.row 0)), .one (.val (.int .i64)), .one (.val (.int .i64))], bx := [(0, .row (.int .i64))], pins := [] }
noncomputable def outkbreakPatternsOrdered_int : Outs := [(.ret, { n := 0, regs := [], bx := [(0, .row (.int .i64))], pins := [.one (.lit (.row 0))] })]
noncomputable def HkbreakPatternsOrdered_int : Hints := [(7, [(0, { con := 1, sg := [(0, 1025728)] })])]
noncomputable def EkbreakPatternsOrdered_int (N : Nat) : Env := { te := TE, cs := [conknextPowerOfTwo N, conkxorshift_Next N] }
noncomputable def dkbreakPatternsOrdered_int_0 : Desc := { n := 65, regs := [.one (.lit (.row 0)), .one (.val (.int .i64)), u, u, u, u, .one (.val (.int .i64)), .one (.lit (.ptr 1025728 0)), .one (.val (.int .u64)), .one (.val (.int .i64))], bx := [(0, .row (.int .i64)), (1025728, .var [.val (.int .u64)])], pins := [.one (.lit (.row 0))] }
noncomputable def okbreakPatternsOrdered_int_0 : Outs := [(.exit 0, { n := 65, regs := [], bx := [(0, .row (.int .i64))], pins := [.one (.lit (.row 0))] })]
noncomputable def jkbreakPatternsOrdered_int_10 : Outs := [(.normal, { n := 65, regs := [.one (.lit (.row 0)), .one (.val (.int .i64)), u, u, u, u, .one (.val (.int .i64)), .one (.lit (.ptr 1025728 0)), .one (.val (.int .u64)), .one (.val (.int .i64)), .one (.val (.int .i64))], bx := [(0, .row (.int .i64)), (1025728, .var [.val (.int .u64)])], pins := [.one (.lit (.row 0))] })]
noncomputable def lkbreakPatternsOrdered_int_0 (N : Nat) : Nat → (Int × (Int × (Int × (Int × ((List Int) × (Int × Unit)))))) → Option ((List Int) × Unit)
 | 0, _ => none
 | n + 1, v =>
  bif decide ((4 : Int) = 0) then
   none
  else
  let y6 := w64 ((w64 (Int.tdiv v.2.1 (4 : Int))) * (2 : Int))
  let y7 := decide (v.2.2.2.1 ≤ (w64 ((w64 (v.1 + y6)) + (1 : Int))))
  bif y7 then
   (Fkxorshift_Next N (v.2.2.2.2.2.1, ())).bind fun r8 =>
   let y9 := IntKind.wrap .u64 (v.2.2.1 - (1 : Int))
   let y10 := IntKind.wrap .u64 (((bitsOf .u64 r8.1 &&& bitsOf .u64 y9).toNat : Int))
   Option.bind (
    bif decide ((w64 (y10)) ≥ v.2.1) then
     some (v.1, v.2.1, v.2.2.1, v.2.2.2.1, w64 ((w64 (y10)) - v.2.1), v.2.2.2.2.1, r8.2.1, ())
    else
    some (v.1, v.2.1, v.2.2.1, v.2.2.2.1, w64 (y10), v.2.2.2.2.1, r8.2.1, ())) fun o11 =>
   bif decide (0 ≤ (w64 (o11.1 + o11.2.2.2.2.1))) then
   bif decide ((w64 (o11.1 + o11.2.2.2.2.1)).toNat < o11.2.2.2.2.2.1.length) then
   let y12 := o11.2.2.2.2.2.1.getD ((w64 (o11.1 + o11.2.2.2.2.1)).toNat) (0 : Int)
   bif decide (0 ≤ o11.2.2.2.1) then
   bif decide (o11.2.2.2.1.toNat < o11.2.2.2.2.2.1.length) then
   let y13 := o11.2.2.2.2.2.1.getD o11.2.2.2.1.toNat (0 : Int)
   bif decide (0 ≤ o11.2.2.2.1) then
   bif decide (o11.2.2.2.1.toNat < o11.2.2.2.2.2.1.length) then
   let y14 := o11.2.2.2.2.2.1.set o11.2.2.2.1.toNat y12
   bif decide (0 ≤ (w64 (o11.1 + o11.2.2.2.2.1))) then
   bif decide ((w64 (o11.1 + o11.2.2.2.2.1)).toNat < y14.length) then
   let y15 := y14.set ((w64 (o11.1 + o11.2.2.2.2.1)).toNat) y13
   lkbreakPatternsOrdered_int_0 N n (o11.1, o11.2.1, o11.2.2.1, w64 (o11.2.2.2.1 + (1 : Int)), y15, o11.2.2.2.2.2.2.1, ())
   else none
   else none
   else none
   else none
   else none
   else none
   else none
   else none
  else
  some (v.2.2.2.2.1, ())
noncomputable def FkbreakPatternsOrdered_int (N : Nat) (x : (Int × (Int × ((List Int) × Unit)))) : Option ((List Int) × Unit) :=
 let y1 := decide ((w64 (x.2.1 - x.1)) ≥ (8 : Int))
 bif y1 then
  let y2 := IntKind.wrap .u64 (w64 (x.2.1 - x.1))
  (FknextPowerOfTwo N (w64 (x.2.1 - x.1), ())).bind fun r3 =>
  bif decide ((4 : Int) = 0) then
   none
  else
  let y4 := w64 (Int.tdiv (w64 (x.2.1 - x.1)) (4 : Int))
  let y5 := w64 ((w64 (x.1 + (w64 (y4 * (2 : Int))))) - (1 : Int))
  (lkbreakPatternsOrdered_int_0 N N (x.1, w64 (x.2.1 - x.1), r3.1, y5, x.2.2.1, y2, ())).bind fun o16 =>
  some (o16.1, ())
 else
 some (x.2.2.1, ())
noncomputable def conkbreakPatternsOrdered_int (N : Nat) : Con := { f := 135, din := dinkbreakPatternsOrdered_int, outs := outkbreakPatternsOrdered_int, F := FkbreakPatternsOrdered_int N }
noncomputable def XkbreakPatternsOrdered_int (N : Nat) : Ctx := { E := EkbreakPatternsOrdered_int N, H := HkbreakPatternsOrdered_int, lp := [(0, { hd := dkbreakPatternsOrdered_int_0, outs := okbreakPatternsOrdered_int_0, run := fun v => lkbreakPatternsOrdered_int_0 N N v })], jn := [(10, jkbreakPatternsOrdered_int_10)] }
noncomputable def bkbreakPatternsOrdered_int_0 : Code := loopBody (codeOf Try.f135) 0
theorem FkbreakPatternsOrdered_int_eq (N : Nat) (x : (Int × (Int × ((List Int) × Unit)))) : evFn (XkbreakPatternsOrdered_int N) Try.f135 dinkbreakPatternsOrdered_int outkbreakPatternsOrdered_int x = FkbreakPatternsOrdered_int N x := by kernel_rfl
theorem lkbreakPatternsOrdered_int_0_eq (N n : Nat) (v : (Int × (Int × (Int × (Int × ((List Int) × (Int × Unit))))))) : lkbreakPatternsOrdered_int_0 N (n + 1) v = ev (XkbreakPatternsOrdered_int N) bkbreakPatternsOrdered_int_0 (roundK dkbreakPatternsOrdered_int_0 okbreakPatternsOrdered_int_0 (lkbreakPatternsOrdered_int_0 N n)) (dkbreakPatternsOrdered_int_0.mk' v) := by kernel_rfl
theorem cxkbreakPatternsOrdered_int (N : Nat) : CtxOk Try.prog (XkbreakPatternsOrdered_int N) := ⟨⟨TE_ok, List.forall_mem_cons.2 ⟨(specknextPowerOfTwo N), List.forall_mem_cons.2 ⟨(speckxorshift_Next N), fun k hk => absurd hk List.not_mem_nil⟩⟩⟩, mixed⟩
theorem lpkbreakPatternsOrdered_int_0 (N : Nat) : LoopOk Try.prog { hd := dkbreakPatternsOrdered_int_0, outs := okbreakPatternsOrdered_int_0, run := fun v => lkbreakPatternsOrdered_int_0 N N v } bkbreakPatternsOrdered_int_0 :=
 loop_fuel (d := dkbreakPatternsOrdered_int_0) (os := okbreakPatternsOrdered_int_0) (cxkbreakPatternsOrdered_int N) (loops_at (ids := []) (by kernel_rfl) (trivial)) (lkbreakPatternsOrdered_int_0 N) (fun _ => rfl) (fun n v => lkbreakPatternsOrdered_int_0_eq N n v) (fun _ => N)
theorem speckbreakPatternsOrdered_int (N : Nat) : Spec Try.prog (conkbreakPatternsOrdered_int N) :=
 Spec.of_eq (fn_spec (cxkbreakPatternsOrdered_int N) (f := 135) (fn := Try.f135) (c := codeOf Try.f135) (by kernel_rfl) (by kernel_rfl) (by kernel_rfl) (loops_at (ids := [0]) (by kernel_rfl) ⟨lp_of (lpkbreakPatternsOrdered_int_0 N), trivial⟩) (by kernel_rfl)) (fun x r h => (FkbreakPatternsOrdered_int_eq N x).trans h)
noncomputable def dinkorder2Ordered_int : Desc := { n := 4, regs := [.one (.val (.sl (.int .i64))), .one (.val (.int .i64)), .one (.val (.int .i64)), .one (.lit (.ptr 192 0))], bx := [(192, .var [.val (.int .i64)])], pins := [] }
noncomputable def outkorder2Ordered_int : Outs := [(.ret, { n := 2, regs := [.one (.val (.int .i64)), .one (.val (.int .i64))], bx := [(192, .var [.val (.int .i64)])], pins := [u, u, u, .one (.lit (.ptr 192 0))] })]
noncomputable def Hkorder2Ordered_int : Hints := []
noncomputable def Ekorder2Ordered_int (N : Nat) : Env := { te := TE, cs := [concmp_Less_int N] }
noncomputable def Fkorder2Ordered_int (N : Nat) (x : ((List Int) × (Int × (Int × (Int × Unit))))) : Option (Int × (Int × (Int × Unit))) :=
 bif decide (0 ≤ x.2.2.1) then
 bif decide (x.2.2.1.toNat < x.1.length) then
 bif decide (0 ≤ x.2.1) then
 bif decide (x.2.1.toNat < x.1.length) then
 (Fcmp_Less_int N (x.1.getD x.2.2.1.toNat (0 : Int), x.1.getD x.2.1.toNat (0 : Int), ())).bind fun r1 =>
 bif r1.1 then
  some (x.2.2.1, x.2.1, w64 (x.2.2.2.1 + (1 : Int)), ())
 else
 some (x.2.1, x.2.2.1, x.2.2.2.1, ())
 else none
 else none
 else none
 else none
noncomputable def conkorder2Ordered_int (N : Nat) : Con := { f := 150, din := dinkorder2Ordered_int, outs := outkorder2Ordered_int, F := Fkorder2Ordered_int N }
noncomputable def Xkorder2Ordered_int (N : Nat) : Ctx := { E := Ekorder2Ordered_int N, H := Hkorder2Ordered_int, lp := [], jn := [] }
theorem Fkorder2Ordered_int_eq (N : Nat) (x : ((List Int) × (Int × (Int × (Int × Unit))))) : evFn (Xkorder2Ordered_int N) Try.f150 dinkorder2Ordered_int outkorder2Ordered_int x = Fkorder2Ordered_int N x := by kernel_rfl
theorem cxkorder2Ordered_int (N : Nat) : CtxOk Try.prog (Xkorder2Ordered_int N) := ⟨⟨TE_ok, List.forall_mem_cons.2 ⟨(speccmp_Less_int N), fun k hk => absurd hk List.not_mem_nil⟩⟩, mixed⟩
theorem speckorder2Ordered_int (N : Nat) : Spec Try.prog (conkorder2Ordered_int N) :=
 Spec.of_eq (fn_spec (cxkorder2Ordered_int N) (f := 150) (fn := Try.f150) (c := codeOf Try.f150) (by kernel_rfl) (by kernel_rfl) (by kernel_rfl) (loops_at (ids := []) (by kernel_rfl) (trivial)) (by kernel_rfl)) (fun x r h => (Fkorder2Ordered_int_eq N x).trans h)
noncomputable def dinkmedianOrdered_int : Desc := { n := 5, regs := [.one (.val (.sl (.int .i64))), .one (.val (.int .i64)), .one (.val (.int .i64)), .one (.val (.int .i64)), .one (.lit (.ptr 256 0))], bx := [(256, .var [.val (.int .i64)])], pins := [] }
noncomputable def outkmedianOrdered_int : Outs := [(.ret, { n := 1, regs := [.one (.val (.int .i64))], bx := [(256, .var [.val (.int .i64)])], pins := [u, u, u, u, .one (.lit (.ptr 256 0))] })]
noncomputable def HkmedianOrdered_int : Hints := [(1, [(4, { sg := [(192, 256)] })]),
 (2, [(4, { sg := [(192, 256)] })]),
 (3, [(4, { sg := [(192, 256)] })])]
noncomputable def EkmedianOrdered_int (N : Nat) : Env := { te := TE, cs := [conkorder2Ordered_int N] }
noncomputable def FkmedianOrdered_int (N : Nat) (x : ((List Int) × (Int × (Int × (Int × (Int × Unit)))))) : Option (Int × (Int × Unit)) :=
 (Fkorder2Ordered_int N (x.1, x.2.1, x.2.2.1, x.2.2.2.2.1, ())).bind fun r1 =>
 (Fkorder2Ordered_int N (x.1, r1.2.1, x.2.2.2.1, r1.2.2.1, ())).bind fun r2 =>
 (Fkorder2Ordered_int N (x.1, r1.1, r2.1, r2.2.2.1, ())).bind fun r3 =>
 some (r3.2.1, r3.2.2.1, ())
noncomputable def conkmedianOrdered_int (N : Nat) : Con := { f := 149, din := dinkmedianOrdered_int, outs := outkmedianOrdered_int, F := FkmedianOrdered_int N }
noncomputable def XkmedianOrdered_int (N : Nat) : Ctx := { E := EkmedianOrdered_int N, H := HkmedianOrdered_int, lp := [], jn := [] }
theorem FkmedianOrdered_int_eq (N : Nat) (x : ((List Int) × (Int × (Int × (Int × (Int × Unit)))))) : evFn (XkmedianOrdered_int N) Try.f149 dinkmedianOrdered_int outkmedianOrdered_int x = FkmedianOrdered_int N x := by kernel_rfl
theorem cxkmedianOrdered_int (N : Nat) : CtxOk Try.prog (XkmedianOrdered_int N) := ⟨⟨TE_ok, List.forall_mem_cons.2 ⟨(speckorder2Ordered_int N), fun k hk => absurd hk List.not_mem_nil⟩⟩, mixed⟩
theorem speckmedianOrdered_int (N : Nat) : Spec Try.prog (conkmedianOrdered_int N) :=
 Spec.of_eq (fn_spec (cxkmedianOrdered_int N) (f := 149) (fn := Try.f149) (c := codeOf Try.f149) (by kernel_rfl) (by kernel_rfl) (by kernel_rfl) (loops_at (ids := []) (by kernel_rfl) (trivial)) (by kernel_rfl)) (fun x r h => (FkmedianOrdered_int_eq N x).trans h)
noncomputable def dinkmedianAdjacentOrdered_int : Desc := { n := 3, regs := [.one (.val (.sl (.int .i64))), .one (.val (.int .i64)), .one (.lit (.ptr 128 0))], bx := [(128, .var [.val (.int .i64)])], pins := [] }
noncomputable def outkmedianAdjacentOrdered_int : Outs := [(.ret, { n := 1, regs := [.one (.val (.int .i64))], bx := [(128, .var [.val (.int .i64)])], pins := [u, u, .one (.lit (.ptr 128 0))] })]
noncomputable def HkmedianAdjacentOrdered_int : Hints := [(1, [(7, { sg := [(256, 128)] })])]
noncomputable def EkmedianAdjacentOrdered_int (N : Nat) : Env := { te := TE, cs := [conkmedianOrdered_int N] }
noncomputable def FkmedianAdjacentOrdered_int (N : Nat) (x : ((List Int) × (Int × (Int × Unit)))) : Option (Int × (Int × Unit)) :=
 (FkmedianOrdered_int N (x.1, w64 (x.2.1 - (1 : Int)), x.2.1, w64 (x.2.1 + (1 : Int)), x.2.2.1, ())).bind fun r1 =>
 some (r1.1, r1.2.1, ())
noncomputable def conkmedianAdjacentOrdered_int (N : Nat) : Con := { f := 148, din := dinkmedianAdjacentOrdered_int, outs := outkmedianAdjacentOrdered_int, F := FkmedianAdjacentOrdered_int N }
noncomputable def XkmedianAdjacentOrdered_int (N : Nat) : Ctx := { E := EkmedianAdjacentOrdered_int N, H := HkmedianAdjacentOrdered_int, lp := [], jn := [] }
theorem FkmedianAdjacentOrdered_int_eq (N : Nat) (x : ((List Int) × (Int × (Int × Unit)))) : evFn (XkmedianAdjacentOrdered_int N) Try.f148 dinkmedianAdjacentOrdered_int outkmedianAdjacentOrdered_int x = FkmedianAdjacentOrdered_int N x := by kernel_rfl
theorem cxkmedianAdjacentOrdered_int (N : Nat) : CtxOk Try.prog (XkmedianAdjacentOrdered_int N) := ⟨⟨TE_ok, List.forall_mem_cons.2 ⟨(speckmedianOrdered_int N), fun k hk => absurd hk List.not_mem_nil⟩⟩, mixed⟩
theorem speckmedianAdjacentOrdered_int (N : Nat) : Spec Try.prog (conkmedianAdjacentOrdered_int N) :=
 Spec.of_eq (fn_spec (cxkmedianAdjacentOrdered_int N) (f := 148) (fn := Try.f148) (c := codeOf Try.f148) (by kernel_rfl) (by kernel_rfl) (by kernel_rfl) (loops_at (ids := []) (by kernel_rfl) (trivial)) (by kernel_rfl)) (fun x r h => (FkmedianAdjacentOrdered_int_eq N x).trans h)
noncomputable def dinkchoosePivotOrdered_int : Desc := { n := 3, regs := [.one (.val (.sl (.int .i64))), .one (.val (.int .i64)), .one (.val (.int .i64))], bx := [], pins := [] }
noncomputable def outkchoosePivotOrdered_int : Outs := [(.ret, { n := 2, regs := [.one (.val (.int .i64)), .one (.val (.int .i64))], bx := [], pins := [] })]
noncomputable def HkchoosePivotOrdered_int : Hints := [(8, [(2, { sg := [(128, 1025600)] })]),
 (9, [(2, { sg := [(128, 1025600)] })]),
 (10, [(2, { sg := [(128, 1025600)] })]),
 (11, [(4, { con := 1, sg := [(256, 1025600)] })])]
noncomputable def EkchoosePivotOrdered_int (N : Nat) : Env := { te := TE, cs := [conkmedianAdjacentOrdered_int N, conkmedianOrdered_int N] }
noncomputable def jkchoosePivotOrdered_int_11 : Outs := [(.normal, { n := 57, regs := [.one (.val (.sl (.int .i64))), u, u, u, u, u, u, u, u, .one (.lit (.ptr 1025600 0)), .one (.val (.int .i64)), .one (.val (.int .i64)), .one (.val (.int .i64))], bx := [(1025600, .var [.val (.int .i64)])], pins := [] })]
noncomputable def jkchoosePivotOrdered_int_12 : Outs := [(.normal, { n := 57, regs := [u, u, u, u, u, u, u, u, u, .one (.lit (.ptr 1025600 0)), u, .one (.val (.int .i64))], bx := [(1025600, .var [.val (.int .i64)])], pins := [] })]
noncomputable def FkchoosePivotOrdered_int (N : Nat) (x : ((List Int) × (Int × (Int × Unit)))) : Option (Int × (Int × Unit)) :=
 bif decide ((4 : Int) = 0) then
  none
 else
 let y1 := w64 (Int.tdiv (w64 (x.2.2.1 - x.2.1)) (4 : Int))
 bif decide ((4 : Int) = 0) then
  none
 else
 let y2 := w64 (Int.tdiv (w64 (x.2.2.1 - x.2.1)) (4 : Int))
 bif decide ((4 : Int) = 0) then
  none
 else
 let y3 := w64 (Int.tdiv (w64 (x.2.2.1 - x.2.1)) (4 : Int))
 Option.bind (
  let y4 := decide ((w64 (x.2.2.1 - x.2.1)) ≥ (8 : Int))
  bif y4 then
   Option.bind (
    let y5 := decide ((w64 (x.2.2.1 - x.2.1)) ≥ (50 : Int))
    bif y5 then
     (FkmedianAdjacentOrdered_int N (x.1, w64 (x.2.1 + (w64 (y1 * (1 : Int)))), (0 : Int), ())).bind fun r6 =>
     (FkmedianAdjacentOrdered_int N (x.1, w64 (x.2.1 + (w64 (y2 * (2 : Int)))), r6.2.1, ())).bind fun r7 =>
     (FkmedianAdjacentOrdered_int N (x.1, w64 (x.2.1 + (w64 (y3 * (3 : Int)))), r7.2.1, ())).bind fun r8 =>
     some (x.1, r6.1, r7.1, r8.1, r8.2.1, ())
    else
    some (x.1, w64 (x.2.1 + (w64 (y1 * (1 : Int)))), w64 (x.2.1 + (w64 (y2 * (2 : Int)))), w64 (x.2.1 + (w64 (y3 * (3 : Int)))), (0 : Int), ())) fun o9 =>
   (FkmedianOrdered_int N (o9.1, o9.2.1, o9.2.2.1, o9.2.2.2.1, o9.2.2.2.2.1, ())).bind fun r10 =>
   some (r10.1, r10.2.1, ())
  else
  some (w64 (x.2.1 + (w64 (y2 * (2 : Int)))), (0 : Int), ())) fun o11 =>
 bif o11.2.1 == (0 : Int) then
  some (o11.1, (1 : Int), ())
 else
 bif o11.2.1 == (12 : Int) then
  some (o11.1, (2 : Int), ())
 else
 some (o11.1, (0 : Int), ())
noncomputable def conkchoosePivotOrdered_int (N : Nat) : Con := { f := 136, din := dinkchoosePivotOrdered_int, outs := outkchoosePivotOrdered_int, F := FkchoosePivotOrdered_int N }
noncomputable def XkchoosePivotOrdered_int (N : Nat) : Ctx := { E := EkchoosePivotOrdered_int N, H := HkchoosePivotOrdered_int, lp := [], jn := [(11, jkchoosePivotOrdered_int_11), (12, jkchoosePivotOrdered_int_12)] }
theorem FkchoosePivotOrdered_int_eq (N : Nat) (x : ((List Int) × (Int × (Int × Unit)))) : evFn (XkchoosePivotOrdered_int N) Try.f136 dinkchoosePivotOrdered_int outkchoosePivotOrdered_int x = FkchoosePivotOrdered_int N x := by kernel_rfl
theorem cxkchoosePivotOrdered_int (N : Nat) : CtxOk Try.prog (XkchoosePivotOrdered_int N) := ⟨⟨TE_ok, List.forall_mem_cons.2 ⟨(speckmedianAdjacentOrdered_int N), List.forall_mem_cons.2 ⟨(speckmedianOrdered_int N), fun k hk => absurd hk List.not_mem_nil⟩⟩⟩, mixed⟩
theorem speckchoosePivotOrdered_int (N : Nat) : Spec Try.prog (conkchoosePivotOrdered_int N) :=
 Spec.of_eq (fn_spec (cxkchoosePivotOrdered_int N) (f := 136) (fn := Try.f136) (c := codeOf Try.f136) (by kernel_rfl) (by kernel_rfl) (by kernel_rfl) (loops_at (ids := []) (by kernel_rfl) (trivial)) (by kernel_rfl)) (fun x r h => (FkchoosePivotOrdered_int_eq N x).trans h)
noncomputable def dinkreverseRangeOrdered_int : Desc := { n := 3, regs := [.one (.lit (.row 0)), .one (.val (.int .i64)), .one (.val (.int .i64))], bx := [(0, .row (.int .i64))], pins := [] }
noncomputable def outkreverseRangeOrdered_int : Outs := [(.ret, { n := 0, regs := [], bx := [(0, .row (.int .i64))], pins := [.one (.lit (.row 0))] })]
noncomputable def HkreverseRangeOrdered_int : Hints := []
noncomputable def EkreverseRangeOrdered_int (_N : Nat) : Env := { te := TE, cs := [] }
noncomputable def dkreverseRangeOrdered_int_0 : Desc := { n := 32, regs := [.one (.lit (.row 0)), u, u, u, u, u, .one (.val (.int .i64)), .one (.val (.int .i64))], bx := [(0, .row (.int .i64))], pins := [.one (.lit (.row 0))] }
noncomputable def okreverseRangeOrdered_int_0 : Outs := [(.exit 0, { n := 32, regs := [], bx := [(0, .row (.int .i64))], pins := [.one (.lit (.row 0))] })]
noncomputable def lkreverseRangeOrdered_int_0 (N : Nat) : Nat → (Int × (Int × ((List Int) × Unit))) → Option ((List Int) × Unit)
 | 0, _ => none
 | n + 1, v =>
  bif decide (v.1 < v.2.1) then
   bif decide (0 ≤ v.2.1) then
   bif decide (v.2.1.toNat < v.2.2.1.length) then
   bif decide (0 ≤ v.1) then
   bif decide (v.1.toNat < v.2.2.1.length) then
   bif decide (0 ≤ v.1) then
   bif decide (v.1.toNat < v.2.2.1.length) then
   let y1 := v.2.2.1.set v.1.toNat (v.2.2.1.getD v.2.1.toNat (0 : Int))
   bif decide (0 ≤ v.2.1) then
   bif decide (v.2.1.toNat < y1.length) then
   let y2 := y1.set v.2.1.toNat (v.2.2.1.getD v.1.toNat (0 : Int))
   lkreverseRangeOrdered_int_0 N n (w64 (v.1 + (1 : Int)), w64 (v.2.1 - (1 : Int)), y2, ())
   else none
   else none
   else none
   else none
   else none
   else none
   else none
   else none
  else
  some (v.2.2.1, ())
noncomputable def FkreverseRangeOrdered_int (N : Nat) (x : (Int × (Int × ((List Int) × Unit)))) : Option ((List Int) × Unit) :=
 (lkreverseRangeOrdered_int_0 N N (x.1, w64 (x.2.1 - (1 : Int)), x.2.2.1, ())).bind fun o3 =>
 some (o3.1, ())
noncomputable def conkreverseRangeOrdered_int (N : Nat) : Con := { f := 137, din := dinkreverseRangeOrdered_int, outs := outkreverseRangeOrdered_int, F := FkreverseRangeOrdered_int N }
noncomputable def XkreverseRangeOrdered_int (N : Nat) : Ctx := { E := EkreverseRangeOrdered_int N, H := HkreverseRangeOrdered_int, lp := [(0, { hd := dkreverseRangeOrdered_int_0, outs := okreverseRangeOrdered_int_0, run := fun v => lkreverseRangeOrdered_int_0 N N v })], jn := [] }
noncomputable def bkreverseRangeOrdered_int_0 : Code := loopBody (codeOf Try.f137) 0
theorem FkreverseRangeOrdered_int_eq (N : Nat) (x : (Int × (Int × ((List Int) × Unit)))) : evFn (XkreverseRangeOrdered_int N) Try.f137 dinkreverseRangeOrdered_int outkreverseRangeOrdered_int x = FkreverseRangeOrdered_int N x := by kernel_rfl
theorem lkreverseRangeOrdered_int_0_eq (N n : Nat) (v : (Int × (Int × ((List Int) × Unit)))) : lkreverseRangeOrdered_int_0 N (n + 1) v = ev (XkreverseRangeOrdered_int N) bkreverseRangeOrdered_int_0 (roundK dkreverseRangeOrdered_int_0 okreverseRangeOrdered_int_0 (lkreverseRangeOrdered_int_0 N n)) (dkreverseRangeOrdered_int_0.mk' v) := by kernel_rfl
theorem cxkreverseRangeOrdered_int (N : Nat) : CtxOk Try.prog (XkreverseRangeOrdered_int N) := ⟨⟨TE_ok, fun k hk => absurd hk List.not_mem_nil⟩, mixed⟩
theorem lpkreverseRangeOrdered_int_0 (N : Nat) : LoopOk Try.prog { hd := dkreverseRangeOrdered_int_0, outs := okreverseRangeOrdered_int_0, run := fun v => lkreverseRangeOrdered_int_0 N N v } bkreverseRangeOrdered_int_0 :=
 loop_fuel (d := dkreverseRangeOrdered_int_0) (os := okreverseRangeOrdered_int_0) (cxkreverseRangeOrdered_int N) (loops_at (ids := []) (by kernel_rfl) (trivial)) (lkreverseRangeOrdered_int_0 N) (fun _ => rfl) (fun n v => lkreverseRangeOrdered_int_0_eq N n v) (fun _ => N)
theorem speckreverseRangeOrdered_int (N : Nat) : Spec Try.prog (conkreverseRangeOrdered_int N) :=
 Spec.of_eq (fn_spec (cxkreverseRangeOrdered_int N) (f := 137) (fn := Try.f137) (c := codeOf Try.f137) (by kernel_rfl) (by kernel_rfl) (by kernel_rfl) (loops_at (ids := [0]) (by kernel_rfl) ⟨lp_of (lpkreverseRangeOrdered_int_0 N), trivial⟩) (by kernel_rfl)) (fun x r h => (FkreverseRangeOrdered_int_eq N x).trans h)
noncomputable def dinkpartialInsertionSortOrdered_int : Desc := { n := 3, regs := [.one (.lit (.row 0)), .one (.val (.int .i64)), .one (.val (.int .i64))], bx := [(0, .row (.int .i64))], pins := [] }
noncomputable def outkpartialInsertionSortOrdered_int : Outs := [(.ret, { n := 1, regs := [.one (.val .bool)], bx := [(0, .row (.int .i64))], pins := [.one (.lit (.row 0))] })]
noncomputable def HkpartialInsertionSortOrdered_int : Hints := []
noncomputable def EkpartialInsertionSortOrdered_int (N : Nat) : Env := { te := TE, cs := [concmp_Less_int N] }
noncomputable def dkpartialInsertionSortOrdered_int_2 : Desc := { n := 133, regs := [.one (.lit (.row 0)), .one (.val (.int .i64)), .one (.val (.int .i64)), u, u, u, u, .one (.val (.int .i64)), .one (.val (.int .i64))], bx := [(0, .row (.int .i64))], pins := [.one (.lit (.row 0))] }
noncomputable def okpartialInsertionSortOrdered_int_2 : Outs := [(.exit 2, { n := 133, regs := [.one (.lit (.row 0)), .one (.val (.int .i64)), .one (.val (.int .i64)), u, u, u, u, .one (.val (.int .i64)), .one (.val (.int .i64))], bx := [(0, .row (.int .i64))], pins := [.one (.lit (.row 0))] })]
noncomputable def dkpartialInsertionSortOrdered_int_4 : Desc := { n := 133, regs := [.one (.lit (.row 0)), .one (.val (.int .i64)), .one (.val (.int .i64)), u, u, u, u, .one (.val (.int .i64)), .one (.val (.int .i64)), .one (.val (.int .i64))], bx := [(0, .row (.int .i64))], pins := [.one (.lit (.row 0))] }
noncomputable def okpartialInsertionSortOrdered_int_4 : Outs := [(.exit 4, { n := 133, regs := [.one (.lit (.row 0)), .one (.val (.int .i64)), .one (.val (.int .i64)), u, u, u, u, .one (.val (.int .i64)), .one (.val (.int .i64))], bx := [(0, .row (.int .i64))], pins := [.one (.lit (.row 0))] })]
noncomputable def dkpartialInsertionSortOrdered_int_6 : Desc := { n := 133, regs := [.one (.lit (.row 0)), .one (.val (.int .i64)), .one (.val (.int .i64)), u, u, u, u, .one (.val (.int .i64)), .one (.val (.int .i64)), u, .one (.val (.int .i64))], bx := [(0, .row (.int .i64))], pins := [.one (.lit (.row 0))] }
noncomputable def okpartialInsertionSortOrdered_int_6 : Outs := [(.exit 6, { n := 133, regs := [.one (.lit (.row 0)), .one (.val (.int .i64)), .one (.val (.int .i64)), u, u, u, u, .one (.val (.int .i64)), .one (.val (.int .i64))], bx := [(0, .row (.int .i64))], pins := [.one (.lit (.row 0))] })]
noncomputable def dkpartialInsertionSortOrdered_int_0 : Desc := { n := 133, regs := [.one (.lit (.row 0)), .one (.val (.int .i64)), .one (.val (.int .i64)), u, u, u, u, .one (.val (.int .i64)), .one (.val (.int .i64))], bx := [(0, .row (.int .i64))], pins := [.one (.lit (.row 0))] }
noncomputable def okpartialInsertionSortOrdered_int_0 : Outs := [(.exit 0, { n := 133, regs := [], bx := [(0, .row (.int .i64))], pins := [.one (.lit (.row 0))] }), (.ret, { n := 133, regs := [u, u, u, u, u, u, .one (.val .bool)], bx := [(0, .row (.int .i64))], pins := [.one (.lit (.row 0))] })]
noncomputable def jkpartialInsertionSortOrdered_int_18 : Outs := [(.normal, { n := 133, regs := [.one (.lit (.row 0)), .one (.val (.int .i64)), .one (.val (.int .i64)), u, u, u, u, .one (.val (.int .i64)), .one (.val (.int .i64))], bx := [(0, .row (.int .i64))], pins := [.one (.lit (.row 0))] })]
noncomputable def lkpartialInsertionSortOrdered_int_2 (N : Nat) : Nat → (Int × tyq5) → Option (Int × tyq5)
 | 0, _ => none
 | n + 1, v =>
  bif decide (v.2.2.1 < v.2.1) then
   bif decide (0 ≤ v.2.2.1) then
   bif decide (v.2.2.1.toNat < v.2.2.2.2.1.length) then
   let y1 := v.2.2.2.2.1.getD v.2.2.1.toNat (0 : Int)
   bif decide (0 ≤ (w64 (v.2.2.1 - (1 : Int)))) then
   bif decide ((w64 (v.2.2.1 - (1 : Int))).toNat < v.2.2.2.2.1.length) then
   let y2 := v.2.2.2.2.1.getD ((w64 (v.2.2.1 - (1 : Int))).toNat) (0 : Int)
   (Fcmp_Less_int N (y1, y2, ())).bind fun r3 =>
   bif !r3.1 then
    lkpartialInsertionSortOrdered_int_2 N n (v.1, v.2.1, w64 (v.2.2.1 + (1 : Int)), v.2.2.2.1, v.2.2.2.2.1, ())
   else
   some (v.1, v.2.1, v.2.2.1, v.2.2.2.1, v.2.2.2.2.1, ())
   else none
   else none
   else none
   else none
  else
  some (v.1, v.2.1, v.2.2.1, v.2.2.2.1, v.2.2.2.2.1, ())
noncomputable def lkpartialInsertionSortOrdered_int_4 (N : Nat) : Nat → (Int × (Int × tyq5)) → Option (Int × tyq5)
 | 0, _ => none
 | n + 1, v =>
  bif decide (v.2.2.2.2.1 ≥ (1 : Int)) then
   bif decide (0 ≤ v.2.2.2.2.1) then
   bif decide (v.2.2.2.2.1.toNat < v.2.2.2.2.2.1.length) then
   let y10 := v.2.2.2.2.2.1.getD v.2.2.2.2.1.toNat (0 : Int)
   bif decide (0 ≤ (w64 (v.2.2.2.2.1 - (1 : Int)))) then
   bif decide ((w64 (v.2.2.2.2.1 - (1 : Int))).toNat < v.2.2.2.2.2.1.length) then
   let y11 := (w64 (v.2.2.2.2.1 - (1 : Int))).toNat
   (Fcmp_Less_int N (y10, v.2.2.2.2.2.1.getD y11 (0 : Int), ())).bind fun r12 =>
   bif !r12.1 then
    some (v.1, v.2.1, v.2.2.1, v.2.2.2.1, v.2.2.2.2.2.1, ())
   else
   bif decide (0 ≤ (w64 (v.2.2.2.2.1 - (1 : Int)))) then
   bif decide ((w64 (v.2.2.2.2.1 - (1 : Int))).toNat < v.2.2.2.2.2.1.length) then
   let y13 := (w64 (v.2.2.2.2.1 - (1 : Int))).toNat
   bif decide (0 ≤ v.2.2.2.2.1) then
   bif decide (v.2.2.2.2.1.toNat < v.2.2.2.2.2.1.length) then
   let y14 := v.2.2.2.2.2.1.getD v.2.2.2.2.1.toNat (0 : Int)
   bif decide (0 ≤ v.2.2.2.2.1) then
   bif decide (v.2.2.2.2.1.toNat < v.2.2.2.2.2.1.length) then
   let y15 := v.2.2.2.2.2.1.set v.2.2.2.2.1.toNat (v.2.2.2.2.2.1.getD y13 (0 : Int))
   bif decide (0 ≤ (w64 (v.2.2.2.2.1 - (1 : Int)))) then
   bif decide ((w64 (v.2.2.2.2.1 - (1 : Int))).toNat < y15.length) then
   let y16 := (w64 (v.2.2.2.2.1 - (1 : Int))).toNat
   lkpartialInsertionSortOrdered_int_4 N n (v.1, v.2.1, v.2.2.1, v.2.2.2.1, w64 (v.2.2.2.2.1 - (1 : Int)), y15.set y16 y14, ())
   else none
   else none
   else none
   else none
   else none
   else none
   else none
   else none
   else none
   else none
   else none
   else none
  else
  some (v.1, v.2.1, v.2.2.1, v.2.2.2.1, v.2.2.2.2.2.1, ())
noncomputable def lkpartialInsertionSortOrdered_int_6 (N : Nat) : Nat → (Int × (Int × tyq5)) → Option (Int × tyq5)
 | 0, _ => none
 | n + 1, v =>
  bif decide (v.2.2.2.2.1 < v.2.1) then
   bif decide (0 ≤ v.2.2.2.2.1) then
   bif decide (v.2.2.2.2.1.toNat < v.2.2.2.2.2.1.length) then
   let y20 := v.2.2.2.2.2.1.getD v.2.2.2.2.1.toNat (0 : Int)
   bif decide (0 ≤ (w64 (v.2.2.2.2.1 - (1 : Int)))) then
   bif decide ((w64 (v.2.2.2.2.1 - (1 : Int))).toNat < v.2.2.2.2.2.1.length) then
   let y21 := (w64 (v.2.2.2.2.1 - (1 : Int))).toNat
   (Fcmp_Less_int N (y20, v.2.2.2.2.2.1.getD y21 (0 : Int), ())).bind fun r22 =>
   bif !r22.1 then
    some (v.1, v.2.1, v.2.2.1, v.2.2.2.1, v.2.2.2.2.2.1, ())
   else
   bif decide (0 ≤ (w64 (v.2.2.2.2.1 - (1 : Int)))) then
   bif decide ((w64 (v.2.2.2.2.1 - (1 : Int))).toNat < v.2.2.2.2.2.1.length) then
   let y23 := (w64 (v.2.2.2.2.1 - (1 : Int))).toNat
   bif decide (0 ≤ v.2.2.2.2.1) then
   bif decide (v.2.2.2.2.1.toNat < v.2.2.2.2.2.1.length) then
   let y24 := v.2.2.2.2.2.1.getD v.2.2.2.2.1.toNat (0 : Int)
   bif decide (0 ≤ v.2.2.2.2.1) then
   bif decide (v.2.2.2.2.1.toNat < v.2.2.2.2.2.1.length) then
   let y25 := v.2.2.2.2.2.1.set v.2.2.2.2.1.toNat (v.2.2.2.2.2.1.getD y23 (0 : Int))
   bif decide (0 ≤ (w64 (v.2.2.2.2.1 - (1 : Int)))) then
   bif decide ((w64 (v.2.2.2.2.1 - (1 : Int))).toNat < y25.length) then
   let y26 := (w64 (v.2.2.2.2.1 - (1 : Int))).toNat
   lkpartialInsertionSortOrdered_int_6 N n (v.1, v.2.1, v.2.2.1, v.2.2.2.1, w64 (v.2.2.2.2.1 + (1 : Int)), y25.set y26 y24, ())
   else none
   else none
   else none
   else none
   else none
   else none
   else none
   else none
   else none
   else none
   else none
   else none
  else
  some (v.1, v.2.1, v.2.2.1, v.2.2.2.1, v.2.2.2.2.2.1, ())
noncomputable def lkpartialInsertionSortOrdered_int_0 (N : Nat) : Nat → (Int × tyq5) → Option (((List Int) × Unit) ⊕ (Bool × ((List Int) × Unit)))
 | 0, _ => none
 | n + 1, v =>
  bif decide (v.2.2.2.1 < (5 : Int)) then
   (lkpartialInsertionSortOrdered_int_2 N N (v.1, v.2.1, v.2.2.1, v.2.2.2.1, v.2.2.2.2.1, ())).bind fun o4 =>
   bif o4.2.2.1 == o4.2.1 then
    some (.inr ((true, o4.2.2.2.2.1, ())))
   else
   let y5 := decide ((w64 (o4.2.1 - o4.1)) < (50 : Int))
   bif y5 then
    some (.inr ((false, o4.2.2.2.2.1, ())))
   else
   bif decide (0 ≤ (w64 (o4.2.2.1 - (1 : Int)))) then
   bif decide ((w64 (o4.2.2.1 - (1 : Int))).toNat < o4.2.2.2.2.1.length) then
   let y6 := o4.2.2.2.2.1.getD ((w64 (o4.2.2.1 - (1 : Int))).toNat) (0 : Int)
   bif decide (0 ≤ o4.2.2.1) then
   bif decide (o4.2.2.1.toNat < o4.2.2.2.2.1.length) then
   let y7 := o4.2.2.2.2.1.getD o4.2.2.1.toNat (0 : Int)
   bif decide (0 ≤ o4.2.2.1) then
   bif decide (o4.2.2.1.toNat < o4.2.2.2.2.1.length) then
   bif decide (0 ≤ (w64 (o4.2.2.1 - (1 : Int)))) then
   bif decide ((w64 (o4.2.2.1 - (1 : Int))).toNat < (o4.2.2.2.2.1.set o4.2.2.1.toNat y6).length) then
   let y8 := (o4.2.2.2.2.1.set o4.2.2.1.toNat y6).set ((w64 (o4.2.2.1 - (1 : Int))).toNat) y7
   Option.bind (
    let y9 := decide ((w64 (o4.2.2.1 - o4.1)) ≥ (2 : Int))
    bif y9 then
     (lkpartialInsertionSortOrdered_int_4 N N (o4.1, o4.2.1, o4.2.2.1, o4.2.2.2.1, w64 (o4.2.2.1 - (1 : Int)), y8, ())).bind fun o17 =>
     some (o17.1, o17.2.1, o17.2.2.1, o17.2.2.2.1, o17.2.2.2.2.1, ())
    else
    some (o4.1, o4.2.1, o4.2.2.1, o4.2.2.2.1, y8, ())) fun o18 =>
   let y19 := decide ((w64 (o18.2.1 - o18.2.2.1)) ≥ (2 : Int))
   bif y19 then
    (lkpartialInsertionSortOrdered_int_6 N N (o18.1, o18.2.1, o18.2.2.1, o18.2.2.2.1, w64 (o18.2.2.1 + (1 : Int)), o18.2.2.2.2.1, ())).bind fun o27 =>
    lkpartialInsertionSortOrdered_int_0 N n (o27.1, o27.2.1, o27.2.2.1, w64 (o27.2.2.2.1 + (1 : Int)), o27.2.2.2.2.1, ())
   else
   lkpartialInsertionSortOrdered_int_0 N n (o18.1, o18.2.1, o18.2.2.1, w64 (o18.2.2.2.1 + (1 : Int)), o18.2.2.2.2.1, ())
   else none
   else none
   else none
   else none
   else none
   else none
   else none
   else none
  else
  some (.inl (v.2.2.2.2.1, ()))
noncomputable def FkpartialInsertionSortOrdered_int (N : Nat) (x : (Int × (Int × ((List Int) × Unit)))) : Option (Bool × ((List Int) × Unit)) :=
 (lkpartialInsertionSortOrdered_int_0 N N (x.1, x.2.1, w64 (x.1 + (1 : Int)), (0 : Int), x.2.2.1, ())).bind fun o28 =>
 Sum.elim (fun o29 =>
  some (false, o29.1, ())) (fun o30 =>
  some (o30.1, o30.2.1, ())) o28
noncomputable def conkpartialInsertionSortOrdered_int (N : Nat) : Con := { f := 138, din := dinkpartialInsertionSortOrdered_int, outs := outkpartialInsertionSortOrdered_int, F := FkpartialInsertionSortOrdered_int N }
noncomputable def XkpartialInsertionSortOrdered_int (N : Nat) : Ctx := { E := EkpartialInsertionSortOrdered_int N, H := HkpartialInsertionSortOrdered_int, lp := [(2, { hd := dkpartialInsertionSortOrdered_int_2, outs := okpartialInsertionSortOrdered_int_2, run := fun v => lkpartialInsertionSortOrdered_int_2 N N v }), (4, { hd := dkpartialInsertionSortOrdered_int_4, outs := okpartialInsertionSortOrdered_int_4, run := fun v => lkpartialInsertionSortOrdered_int_4 N N v }), (6, { hd := dkpartialInsertionSortOrdered_int_6, outs := okpartialInsertionSortOrdered_int_6, run := fun v => lkpartialInsertionSortOrdered_int_6 N N v }), (0, { hd := dkpartialInsertionSortOrdered_int_0, outs := okpartialInsertionSortOrdered_int_0, run := fun v => lkpartialInsertionSortOrdered_int_0 N N v })], jn := [(18, jkpartialInsertionSortOrdered_int_18)] }
noncomputable def bkpartialInsertionSortOrdered_int_0 : Code := loopBody (codeOf Try.f138) 0
noncomputable def bkpartialInsertionSortOrdered_int_6 : Code := loopBody bkpartialInsertionSortOrdered_int_0 2
noncomputable def bkpartialInsertionSortOrdered_int_4 : Code := loopBody bkpartialInsertionSortOrdered_int_0 1
noncomputable def bkpartialInsertionSortOrdered_int_2 : Code := loopBody bkpartialInsertionSortOrdered_int_0 0
theorem FkpartialInsertionSortOrdered_int_eq (N : Nat) (x : (Int × (Int × ((List Int) × Unit)))) : evFn (XkpartialInsertionSortOrdered_int N) Try.f138 dinkpartialInsertionSortOrdered_int outkpartialInsertionSortOrdered_int x = FkpartialInsertionSortOrdered_int N x := by kernel_rfl
theorem lkpartialInsertionSortOrdered_int_2_eq (N n : Nat) (v : (Int × tyq5)) : lkpartialInsertionSortOrdered_int_2 N (n + 1) v = ev (XkpartialInsertionSortOrdered_int N) bkpartialInsertionSortOrdered_int_2 (roundK dkpartialInsertionSortOrdered_int_2 okpartialInsertionSortOrdered_int_2 (lkpartialInsertionSortOrdered_int_2 N n)) (dkpartialInsertionSortOrdered_int_2.mk' v) := by kernel_rfl
theorem lkpartialInsertionSortOrdered_int_4_eq (N n : Nat) (v : (Int × (Int × tyq5))) : lkpartialInsertionSortOrdered_int_4 N (n + 1) v = ev (XkpartialInsertionSortOrdered_int N) bkpartialInsertionSortOrdered_int_4 (roundK dkpartialInsertionSortOrdered_int_4 okpartialInsertionSortOrdered_int_4 (lkpartialInsertionSortOrdered_int_4 N n)) (dkpartialInsertionSortOrdered_int_4.mk' v) := by kernel_rfl
theorem lkpartialInsertionSortOrdered_int_6_eq (N n : Nat) (v : (Int × (Int × tyq5))) : lkpartialInsertionSortOrdered_int_6 N (n + 1) v = ev (XkpartialInsertionSortOrdered_int N) bkpartialInsertionSortOrdered_int_6 (roundK dkpartialInsertionSortOrdered_int_6 okpartialInsertionSortOrdered_int_6 (lkpartialInsertionSortOrdered_int_6 N n)) (dkpartialInsertionSortOrdered_int_6.mk' v) := by kernel_rfl
theorem lkpartialInsertionSortOrdered_int_0_eq (N n : Nat) (v : (Int × tyq5)) : lkpartialInsertionSortOrdered_int_0 N (n + 1) v = ev (XkpartialInsertionSortOrdered_int N) bkpartialInsertionSortOrdered_int_0 (roundK dkpartialInsertionSortOrdered_int_0 okpartialInsertionSortOrdered_int_0 (lkpartialInsertionSortOrdered_int_0 N n)) (dkpartialInsertionSortOrdered_int_0.mk' v) := by kernel_rfl
theorem cxkpartialInsertionSortOrdered_int (N : Nat) : CtxOk Try.prog (XkpartialInsertionSortOrdered_int N) := ⟨⟨TE_ok, List.forall_mem_cons.2 ⟨(speccmp_Less_int N), fun k hk => absurd hk List.not_mem_nil⟩⟩, mixed⟩
theorem lpkpartialInsertionSortOrdered_int_2 (N : Nat) : LoopOk Try.prog { hd := dkpartialInsertionSortOrdered_int_2, outs := okpartialInsertionSortOrdered_int_2, run := fun v => lkpartialInsertionSortOrdered_int_2 N N v } bkpartialInsertionSortOrdered_int_2 :=
 loop_fuel (d := dkpartialInsertionSortOrdered_int_2) (os := okpartialInsertionSortOrdered_int_2) (cxkpartialInsertionSortOrdered_int N) (loops_at (ids := []) (by kernel_rfl) (trivial)) (lkpartialInsertionSortOrdered_int_2 N) (fun _ => rfl) (fun n v => lkpartialInsertionSortOrdered_int_2_eq N n v) (fun _ => N)
theorem lpkpartialInsertionSortOrdered_int_4 (N : Nat) : LoopOk Try.prog { hd := dkpartialInsertionSortOrdered_int_4, outs := okpartialInsertionSortOrdered_int_4, run := fun v => lkpartialInsertionSortOrdered_int_4 N N v } bkpartialInsertionSortOrdered_int_4 :=
 loop_fuel (d := dkpartialInsertionSortOrdered_int_4) (os := okpartialInsertionSortOrdered_int_4) (cxkpartialInsertionSortOrdered_int N) (loops_at (ids := []) (by kernel_rfl) (trivial)) (lkpartialInsertionSortOrdered_int_4 N) (fun _ => rfl) (fun n v => lkpartialInsertionSortOrdered_int_4_eq N n v) (fun _ => N)
theorem lpkpartialInsertionSortOrdered_int_6 (N : Nat) : LoopOk Try.prog { hd := dkpartialInsertionSortOrdered_int_6, outs := okpartialInsertionSortOrdered_int_6, run := fun v => lkpartialInsertionSortOrdered_int_6 N N v } bkpartialInsertionSortOrdered_int_6 :=
 loop_fuel (d := dkpartialInsertionSortOrdered_int_6) (os := okpartialInsertionSortOrdered_int_6) (cxkpartialInsertionSortOrdered_int N) (loops_at (ids := []) (by kernel_rfl) (trivial)) (lkpartialInsertionSortOrdered_int_6 N) (fun _ => rfl) (fun n v => lkpartialInsertionSortOrdered_int_6_eq N n v) (fun _ => N)
theorem lpkpartialInsertionSortOrdered_int_0 (N : Nat) : LoopOk Try.prog { hd := dkpartialInsertionSortOrdered_int_0, outs := okpartialInsertionSortOrdered_int_0, run := fun v => lkpartialInsertionSortOrdered_int_0 N N v } bkpartialInsertionSortOrdered_int_0 :=
 loop_fuel (d := dkpartialInsertionSortOrdered_int_0) (os := okpartialInsertionSortOrdered_int_0) (cxkpartialInsertionSortOrdered_int N) (loops_at (ids := [2, 4, 6]) (by kernel_rfl) ⟨lp_of (lpkpartialInsertionSortOrdered_int_2 N), ⟨lp_of (lpkpartialInsertionSortOrdered_int_4 N), ⟨lp_of (lpkpartialInsertionSortOrdered_int_6 N), trivial⟩⟩⟩) (lkpartialInsertionSortOrdered_int_0 N) (fun _ => rfl) (fun n v => lkpartialInsertionSortOrdered_int_0_eq N n v) (fun _ => N)
theorem speckpartialInsertionSortOrdered_int (N : Nat) : Spec Try.prog (conkpartialInsertionSortOrdered_int N) :=
 Spec.of_eq (fn_spec (cxkpartialInsertionSortOrdered_int N) (f := 138) (fn := Try.f138) (c := codeOf Try.f138) (by kernel_rfl) (by kernel_rfl) (by kernel_rfl) (loops_at (ids := [0]) (by kernel_rfl) ⟨lp_of (lpkpartialInsertionSortOrdered_int_0 N), trivial⟩) (by kernel_rfl)) (fun x r h => (FkpartialInsertionSortOrdered_int_eq N x).trans h)
noncomputable def dinkpartitionEqualOrdered_int : Desc := { n := 4, regs := [.one (.lit (.row 0)), .one (.val (.int .i64)), .one (.val (.int .i64)), .one (.val (.int .i64))], bx := [(0, .row (.int .i64))], pins := [] }
noncomputable def outkpartitionEqualOrdered_int : Outs := [(.ret, { n := 1, regs := [.one (.val (.int .i64))], bx := [(0, .row (.int .i64))], pins := [.one (.lit (.row 0))] })]
noncomputable def HkpartitionEqualOrdered_int : Hints := []
noncomputable def EkpartitionEqualOrdered_int (N : Nat) : Env := { te := TE, cs := [concmp_Less_int N] }
noncomputable def dkpartitionEqualOrdered_int_2 : Desc := { n := 84, regs := [.one (.lit (.row 0)), .one (.val (.int .i64)), u, u, u, u, u, u, u, .one (.val (.int .i64)), .one (.val (.int .i64))], bx := [(0, .row (.int .i64))], pins := [.one (.lit (.row 0))] }
noncomputable def okpartitionEqualOrdered_int_2 : Outs := [(.exit 2, { n := 84, regs := [.one (.lit (.row 0)), .one (.val (.int .i64)), u, u, u, u, u, u, u, .one (.val (.int .i64)), .one (.val (.int .i64))], bx := [(0, .row (.int .i64))], pins := [.one (.lit (.row 0))] })]
noncomputable def dkpartitionEqualOrdered_int_4 : Desc := { n := 84, regs := [.one (.lit (.row 0)), .one (.val (.int .i64)), u, u, u, u, u, u, u, .one (.val (.int .i64)), .one (.val (.int .i64))], bx := [(0, .row (.int .i64))], pins := [.one (.lit (.row 0))] }
noncomputable def okpartitionEqualOrdered_int_4 : Outs := [(.exit 4, { n := 84, regs := [.one (.lit (.row 0)), .one (.val (.int .i64)), u, u, u, u, u, u, u, .one (.val (.int .i64)), .one (.val (.int .i64))], bx := [(0, .row (.int .i64))], pins := [.one (.lit (.row 0))] })]
noncomputable def dkpartitionEqualOrdered_int_0 : Desc := { n := 84, regs := [.one (.lit (.row 0)), .one (.val (.int .i64)), u, u, u, u, u, u, u, .one (.val (.int .i64)), .one (.val (.int .i64))], bx := [(0, .row (.int .i64))], pins := [.one (.lit (.row 0))] }
noncomputable def okpartitionEqualOrdered_int_0 : Outs := [(.exit 0, { n := 84, regs := [u, u, u, u, u, u, u, u, u, .one (.val (.int .i64))], bx := [(0, .row (.int .i64))], pins := [.one (.lit (.row 0))] })]
noncomputable def lkpartitionEqualOrdered_int_2 (N : Nat) : Nat → tyq5 → Option tyq5
 | 0, _ => none
 | n + 1, v =>
  bif decide (v.2.1 ≤ v.2.2.1) then
   bif decide (0 ≤ v.1) then
   bif decide (v.1.toNat < v.2.2.2.1.length) then
   bif decide (0 ≤ v.2.1) then
   bif decide (v.2.1.toNat < v.2.2.2.1.length) then
   (Fcmp_Less_int N (v.2.2.2.1.getD v.1.toNat (0 : Int), v.2.2.2.1.getD v.2.1.toNat (0 : Int), ())).bind fun r3 =>
   bif !r3.1 then
    lkpartitionEqualOrdered_int_2 N n (v.1, w64 (v.2.1 + (1 : Int)), v.2.2.1, v.2.2.2.1, ())
   else
   some (v.1, v.2.1, v.2.2.1, v.2.2.2.1, ())
   else none
   else none
   else none
   else none
  else
  some (v.1, v.2.1, v.2.2.1, v.2.2.2.1, ())
noncomputable def lkpartitionEqualOrdered_int_4 (N : Nat) : Nat → tyq5 → Option tyq5
 | 0, _ => none
 | n + 1, v =>
  bif decide (v.2.1 ≤ v.2.2.1) then
   bif decide (0 ≤ v.1) then
   bif decide (v.1.toNat < v.2.2.2.1.length) then
   bif decide (0 ≤ v.2.2.1) then
   bif decide (v.2.2.1.toNat < v.2.2.2.1.length) then
   let y5 := v.2.2.2.1.getD v.2.2.1.toNat (0 : Int)
   (Fcmp_Less_int N (v.2.2.2.1.getD v.1.toNat (0 : Int), y5, ())).bind fun r6 =>
   bif r6.1 then
    lkpartitionEqualOrdered_int_4 N n (v.1, v.2.1, w64 (v.2.2.1 - (1 : Int)), v.2.2.2.1, ())
   else
   some (v.1, v.2.1, v.2.2.1, v.2.2.2.1, ())
   else none
   else none
   else none
   else none
  else
  some (v.1, v.2.1, v.2.2.1, v.2.2.2.1, ())
noncomputable def lkpartitionEqualOrdered_int_0 (N : Nat) : Nat → tyq5 → Option (Int × ((List Int) × Unit))
 | 0, _ => none
 | n + 1, v =>
  (lkpartitionEqualOrdered_int_2 N N (v.1, v.2.1, v.2.2.1, v.2.2.2.1, ())).bind fun o4 =>
  (lkpartitionEqualOrdered_int_4 N N (o4.1, o4.2.1, o4.2.2.1, o4.2.2.2.1, ())).bind fun o7 =>
  bif decide (o7.2.1 > o7.2.2.1) then
   some (o7.2.1, o7.2.2.2.1, ())
  else
  bif decide (0 ≤ o7.2.2.1) then
  bif decide (o7.2.2.1.toNat < o7.2.2.2.1.length) then
  let y8 := o7.2.2.2.1.getD o7.2.2.1.toNat (0 : Int)
  bif decide (0 ≤ o7.2.1) then
  bif decide (o7.2.1.toNat < o7.2.2.2.1.length) then
  let y9 := o7.2.2.2.1.getD o7.2.1.toNat (0 : Int)
  bif decide (0 ≤ o7.2.1) then
  bif decide (o7.2.1.toNat < o7.2.2.2.1.length) then
  bif decide (0 ≤ o7.2.2.1) then
  bif decide (o7.2.2.1.toNat < (o7.2.2.2.1.set o7.2.1.toNat y8).length) then
  let y10 := (o7.2.2.2.1.set o7.2.1.toNat y8).set o7.2.2.1.toNat y9
  lkpartitionEqualOrdered_int_0 N n (o7.1, w64 (o7.2.1 + (1 : Int)), w64 (o7.2.2.1 - (1 : Int)), y10, ())
  else none
  else none
  else none
  else none
  else none
  else none
  else none
  else none
noncomputable def FkpartitionEqualOrdered_int (N : Nat) (x : tyq5) : Option (Int × ((List Int) × Unit)) :=
 bif decide (0 ≤ x.2.2.1) then
 bif decide (x.2.2.1.toNat < x.2.2.2.1.length) then
 let y1 := x.2.2.2.1.getD x.2.2.1.toNat (0 : Int)
 bif decide (0 ≤ x.1) then
 bif decide (x.1.toNat < x.2.2.2.1.length) then
 bif decide (0 ≤ x.1) then
 bif decide (x.1.toNat < x.2.2.2.1.length) then
 bif decide (0 ≤ x.2.2.1) then
 bif decide (x.2.2.1.toNat < (x.2.2.2.1.set x.1.toNat y1).length) then
 let y2 := (x.2.2.2.1.set x.1.toNat y1).set x.2.2.1.toNat (x.2.2.2.1.getD x.1.toNat (0 : Int))
 (lkpartitionEqualOrdered_int_0 N N (x.1, w64 (x.1 + (1 : Int)), w64 (x.2.1 - (1 : Int)), y2, ())).bind fun o11 =>
 some (o11.1, o11.2.1, ())
 else none
 else none
 else none
 else none
 else none
 else none
 else none
 else none
noncomputable def conkpartitionEqualOrdered_int (N : Nat) : Con := { f := 140, din := dinkpartitionEqualOrdered_int, outs := outkpartitionEqualOrdered_int, F := FkpartitionEqualOrdered_int N }
noncomputable def XkpartitionEqualOrdered_int (N : Nat) : Ctx := { E := EkpartitionEqualOrdered_int N, H := HkpartitionEqualOrdered_int, lp := [(2, { hd := dkpartitionEqualOrdered_int_2, outs := okpartitionEqualOrdered_int_2, run := fun v => lkpartitionEqualOrdered_int_2 N N v }), (4, { hd := dkpartitionEqualOrdered_int_4, outs := okpartitionEqualOrdered_int_4, run := fun v => lkpartitionEqualOrdered_int_4 N N v }), (0, { hd := dkpartitionEqualOrdered_int_0, outs := okpartitionEqualOrdered_int_0, run := fun v => lkpartitionEqualOrdered_int_0 N N v })], jn := [] }
noncomputable def bkpartitionEqualOrdered_int_0 : Code := loopBody (codeOf Try.f140) 0
noncomputable def bkpartitionEqualOrdered_int_4 : Code := loopBody bkpartitionEqualOrdered_int_0 1
noncomputable def bkpartitionEqualOrdered_int_2 : Code := loopBody bkpartitionEqualOrdered_int_0 0
theorem FkpartitionEqualOrdered_int_eq (N : Nat) (x : tyq5) : evFn (XkpartitionEqualOrdered_int N) Try.f140 dinkpartitionEqualOrdered_int outkpartitionEqualOrdered_int x = FkpartitionEqualOrdered_int N x := by kernel_rfl
theorem lkpartitionEqualOrdered_int_2_eq (N n : Nat) (v : tyq5) : lkpartitionEqualOrdered_int_2 N (n + 1) v = ev (XkpartitionEqualOrdered_int N) bkpartitionEqualOrdered_int_2 (roundK dkpartitionEqualOrdered_int_2 okpartitionEqualOrdered_int_2 (lkpartitionEqualOrdered_int_2 N n)) (dkpartitionEqualOrdered_int_2.mk' v) := by kernel_rfl
theorem lkpartitionEqualOrdered_int_4_eq (N n : Nat) (v : tyq5) : lkpartitionEqualOrdered_int_4 N (n + 1) v = ev (XkpartitionEqualOrdered_int N) bkpartitionEqualOrdered_int_4 (roundK dkpartitionEqualOrdered_int_4 okpartitionEqualOrdered_int_4 (lkpartitionEqualOrdered_int_4 N n)) (dkpartitionEqualOrdered_int_4.mk' v) := by kernel_rfl
theorem lkpartitionEqualOrdered_int_0_eq (N n : Nat) (v : tyq5) : lkpartitionEqualOrdered_int_0 N (n + 1) v = ev (XkpartitionEqualOrdered_int N) bkpartitionEqualOrdered_int_0 (roundK dkpartitionEqualOrdered_int_0 okpartitionEqualOrdered_int_0 (lkpartitionEqualOrdered_int_0 N n)) (dkpartitionEqualOrdered_int_0.mk' v) := by kernel_rfl
theorem cxkpartitionEqualOrdered_int (N : Nat) : CtxOk Try.prog (XkpartitionEqualOrdered_int N) := ⟨⟨TE_ok, List.forall_mem_cons.2 ⟨(speccmp_Less_int N), fun k hk => absurd hk List.not_mem_nil⟩⟩, mixed⟩
theorem lpkpartitionEqualOrdered_int_2 (N : Nat) : LoopOk Try.prog { hd := dkpartitionEqualOrdered_int_2, outs := okpartitionEqualOrdered_int_2, run := fun v => lkpartitionEqualOrdered_int_2 N N v } bkpartitionEqualOrdered_int_2 :=
 loop_fuel (d := dkpartitionEqualOrdered_int_2) (os := okpartitionEqualOrdered_int_2) (cxkpartitionEqualOrdered_int N) (loops_at (ids := []) (by kernel_rfl) (trivial)) (lkpartitionEqualOrdered_int_2 N) (fun _ => rfl) (fun n v => lkpartitionEqualOrdered_int_2_eq N n v) (fun _ => N)
theorem lpkpartitionEqualOrdered_int_4 (N : Nat) : LoopOk Try.prog { hd := dkpartitionEqualOrdered_int_4, outs := okpartitionEqualOrdered_int_4, run := fun v => lkpartitionEqualOrdered_int_4 N N v } bkpartitionEqualOrdered_int_4 :=
 loop_fuel (d := dkpartitionEqualOrdered_int_4) (os := okpartitionEqualOrdered_int_4) (cxkpartitionEqualOrdered_int N) (loops_at (ids := []) (by kernel_rfl) (trivial)) (lkpartitionEqualOrdered_int_4 N) (fun _ => rfl) (fun n v => lkpartitionEqualOrdered_int_4_eq N n v) (fun _ => N)
theorem lpkpartitionEqualOrdered_int_0 (N : Nat) : LoopOk Try.prog { hd := dkpartitionEqualOrdered_int_0, outs := okpartitionEqualOrdered_int_0, run := fun v => lkpartitionEqualOrdered_int_0 N N v } bkpartitionEqualOrdered_int_0 :=
 loop_fuel (d := dkpartitionEqualOrdered_int_0) (os := okpartitionEqualOrdered_int_0) (cxkpartitionEqualOrdered_int N) (loops_at (ids := [2, 4]) (by kernel_rfl) ⟨lp_of (lpkpartitionEqualOrdered_int_2 N), ⟨lp_of (lpkpartitionEqualOrdered_int_4 N), trivial⟩⟩) (lkpartitionEqualOrdered_int_0 N) (fun _ => rfl) (fun n v => lkpartitionEqualOrdered_int_0_eq N n v) (fun _ => N)
theorem speckpartitionEqualOrdered_int (N : Nat) : Spec Try.prog (conkpartitionEqualOrdered_int N) :=
 Spec.of_eq (fn_spec (cxkpartitionEqualOrdered_int N) (f := 140) (fn := Try.f140) (c := codeOf Try.f140) (by kernel_rfl) (by kernel_rfl) (by kernel_rfl) (loops_at (ids := [0]) (by kernel_rfl) ⟨lp_of (lpkpartitionEqualOrdered_int_0 N), trivial⟩) (by kernel_rfl)) (fun x r h => (FkpartitionEqualOrdered_int_eq N x).trans h)
noncomputable def dinkpartitionOrdered_int : Desc := { n := 4, regs := [.one (.lit (.row 0)), .one (.val (.int .i64)), .one (.val (.int .i64)), .one (.val (.int .i64))], bx := [(0, .row (.int .i64))], pins := [] }
noncomputable def outkpartitionOrdered_int : Outs := [(.ret, { n := 2, regs := [.one (.val (.int .i64)), .one (.val .bool)], bx := [(0, .row (.int .i64))], pins := [.one (.lit (.row 0))] })]
noncomputable def HkpartitionOrdered_int : Hints := []
noncomputable def EkpartitionOrdered_int (N : Nat) : Env := { te := TE, cs := [concmp_Less_int N] }
noncomputable def dkpartitionOrdered_int_0 : Desc := { n := 168, regs := [.one (.lit (.row 0)), .one (.val (.int .i64)), u, u, u, u, u, u, u, u, .one (.val (.int .i64)), .one (.val (.int .i64))], bx := [(0, .row (.int .i64))], pins := [.one (.lit (.row 0))] }
noncomputable def okpartitionOrdered_int_0 : Outs := [(.exit 0, { n := 168, regs := [.one (.lit (.row 0)), .one (.val (.int .i64)), u, u, u, u, u, u, u, u, .one (.val (.int .i64)), .one (.val (.int .i64))], bx := [(0, .row (.int .i64))], pins := [.one (.lit (.row 0))] })]
noncomputable def dkpartitionOrdered_int_2 : Desc := { n := 168, regs := [.one (.lit (.row 0)), .one (.val (.int .i64)), u, u, u, u, u, u, u, u, .one (.val (.int .i64)), .one (.val (.int .i64))], bx := [(0, .row (.int .i64))], pins := [.one (.lit (.row 0))] }
noncomputable def okpartitionOrdered_int_2 : Outs := [(.exit 2, { n := 168, regs := [.one (.lit (.row 0)), .one (.val (.int .i64)), u, u, u, u, u, u, u, u, .one (.val (.int .i64)), .one (.val (.int .i64))], bx := [(0, .row (.int .i64))], pins := [.one (.lit (.row 0))] })]
noncomputable def dkpartitionOrdered_int_6 : Desc := { n := 168, regs := [.one (.lit (.row 0)), .one (.val (.int .i64)), u, u, u, u, u, u, u, u, .one (.val (.int .i64)), .one (.val (.int .i64))], bx := [(0, .row (.int .i64))], pins := [.one (.lit (.row 0))] }
noncomputable def okpartitionOrdered_int_6 : Outs := [(.exit 6, { n := 168, regs := [.one (.lit (.row 0)), .one (.val (.int .i64)), u, u, u, u, u, u, u, u, .one (.val (.int .i64)), .one (.val (.int .i64))], bx := [(0, .row (.int .i64))], pins := [.one (.lit (.row 0))] })]
noncomputable def dkpartitionOrdered_int_8 : Desc := { n := 168, regs := [.one (.lit (.row 0)), .one (.val (.int .i64)), u, u, u, u, u, u, u, u, .one (.val (.int .i64)), .one (.val (.int .i64))], bx := [(0, .row (.int .i64))], pins := [.one (.lit (.row 0))] }
noncomputable def okpartitionOrdered_int_8 : Outs := [(.exit 8, { n := 168, regs := [.one (.lit (.row 0)), .one (.val (.int .i64)), u, u, u, u, u, u, u, u, .one (.val (.int .i64)), .one (.val (.int .i64))], bx := [(0, .row (.int .i64))], pins := [.one (.lit (.row 0))] })]
noncomputable def dkpartitionOrdered_int_4 : Desc := { n := 168, regs := [.one (.lit (.row 0)), .one (.val (.int .i64)), u, u, u, u, u, u, u, u, .one (.val (.int .i64)), .one (.val (.int .i64))], bx := [(0, .row (.int .i64))], pins := [.one (.lit (.row 0))] }
noncomputable def okpartitionOrdered_int_4 : Outs := [(.exit 4, { n := 168, regs := [.one (.lit (.row 0)), .one (.val (.int .i64)), u, u, u, u, u, u, u, u, u, .one (.val (.int .i64))], bx := [(0, .row (.int .i64))], pins := [.one (.lit (.row 0))] })]
noncomputable def lkpartitionOrdered_int_0 (N : Nat) : Nat → tyq5 → Option tyq5
 | 0, _ => none
 | n + 1, v =>
  bif decide (v.2.1 ≤ v.2.2.1) then
   bif decide (0 ≤ v.2.1) then
   bif decide (v.2.1.toNat < v.2.2.2.1.length) then
   bif decide (0 ≤ v.1) then
   bif decide (v.1.toNat < v.2.2.2.1.length) then
   (Fcmp_Less_int N (v.2.2.2.1.getD v.2.1.toNat (0 : Int), v.2.2.2.1.getD v.1.toNat (0 : Int), ())).bind fun r3 =>
   bif r3.1 then
    lkpartitionOrdered_int_0 N n (v.1, w64 (v.2.1 + (1 : Int)), v.2.2.1, v.2.2.2.1, ())
   else
   some (v.1, v.2.1, v.2.2.1, v.2.2.2.1, ())
   else none
   else none
   else none
   else none
  else
  some (v.1, v.2.1, v.2.2.1, v.2.2.2.1, ())
noncomputable def lkpartitionOrdered_int_2 (N : Nat) : Nat → tyq5 → Option tyq5
 | 0, _ => none
 | n + 1, v =>
  bif decide (v.2.1 ≤ v.2.2.1) then
   bif decide (0 ≤ v.2.2.1) then
   bif decide (v.2.2.1.toNat < v.2.2.2.1.length) then
   let y5 := v.2.2.2.1.getD v.2.2.1.toNat (0 : Int)
   bif decide (0 ≤ v.1) then
   bif decide (v.1.toNat < v.2.2.2.1.length) then
   (Fcmp_Less_int N (y5, v.2.2.2.1.getD v.1.toNat (0 : Int), ())).bind fun r6 =>
   bif !r6.1 then
    lkpartitionOrdered_int_2 N n (v.1, v.2.1, w64 (v.2.2.1 - (1 : Int)), v.2.2.2.1, ())
   else
   some (v.1, v.2.1, v.2.2.1, v.2.2.2.1, ())
   else none
   else none
   else none
   else none
  else
  some (v.1, v.2.1, v.2.2.1, v.2.2.2.1, ())
noncomputable def lkpartitionOrdered_int_6 (N : Nat) : Nat → tyq5 → Option tyq5
 | 0, _ => none
 | n + 1, v =>
  bif decide (v.2.1 ≤ v.2.2.1) then
   bif decide (0 ≤ v.2.1) then
   bif decide (v.2.1.toNat < v.2.2.2.1.length) then
   bif decide (0 ≤ v.1) then
   bif decide (v.1.toNat < v.2.2.2.1.length) then
   (Fcmp_Less_int N (v.2.2.2.1.getD v.2.1.toNat (0 : Int), v.2.2.2.1.getD v.1.toNat (0 : Int), ())).bind fun r13 =>
   bif r13.1 then
    lkpartitionOrdered_int_6 N n (v.1, w64 (v.2.1 + (1 : Int)), v.2.2.1, v.2.2.2.1, ())
   else
   some (v.1, v.2.1, v.2.2.1, v.2.2.2.1, ())
   else none
   else none
   else none
   else none
  else
  some (v.1, v.2.1, v.2.2.1, v.2.2.2.1, ())
noncomputable def lkpartitionOrdered_int_8 (N : Nat) : Nat → tyq5 → Option tyq5
 | 0, _ => none
 | n + 1, v =>
  bif decide (v.2.1 ≤ v.2.2.1) then
   bif decide (0 ≤ v.2.2.1) then
   bif decide (v.2.2.1.toNat < v.2.2.2.1.length) then
   let y15 := v.2.2.2.1.getD v.2.2.1.toNat (0 : Int)
   bif decide (0 ≤ v.1) then
   bif decide (v.1.toNat < v.2.2.2.1.length) then
   (Fcmp_Less_int N (y15, v.2.2.2.1.getD v.1.toNat (0 : Int), ())).bind fun r16 =>
   bif !r16.1 then
    lkpartitionOrdered_int_8 N n (v.1, v.2.1, w64 (v.2.2.1 - (1 : Int)), v.2.2.2.1, ())
   else
   some (v.1, v.2.1, v.2.2.1, v.2.2.2.1, ())
   else none
   else none
   else none
   else none
  else
  some (v.1, v.2.1, v.2.2.1, v.2.2.2.1, ())
noncomputable def lkpartitionOrdered_int_4 (N : Nat) : Nat → tyq5 → Option (Int × (Int × ((List Int) × Unit)))
 | 0, _ => none
 | n + 1, v =>
  (lkpartitionOrdered_int_6 N N (v.1, v.2.1, v.2.2.1, v.2.2.2.1, ())).bind fun o14 =>
  (lkpartitionOrdered_int_8 N N (o14.1, o14.2.1, o14.2.2.1, o14.2.2.2.1, ())).bind fun o17 =>
  bif decide (o17.2.1 > o17.2.2.1) then
   some (o17.1, o17.2.2.1, o17.2.2.2.1, ())
  else
  bif decide (0 ≤ o17.2.2.1) then
  bif decide (o17.2.2.1.toNat < o17.2.2.2.1.length) then
  let y18 := o17.2.2.2.1.getD o17.2.2.1.toNat (0 : Int)
  bif decide (0 ≤ o17.2.1) then
  bif decide (o17.2.1.toNat < o17.2.2.2.1.length) then
  let y19 := o17.2.2.2.1.getD o17.2.1.toNat (0 : Int)
  bif decide (0 ≤ o17.2.1) then
  bif decide (o17.2.1.toNat < o17.2.2.2.1.length) then
  bif decide (0 ≤ o17.2.2.1) then
  bif decide (o17.2.2.1.toNat < (o17.2.2.2.1.set o17.2.1.toNat y18).length) then
  let y20 := (o17.2.2.2.1.set o17.2.1.toNat y18).set o17.2.2.1.toNat y19
  lkpartitionOrdered_int_4 N n (o17.1, w64 (o17.2.1 + (1 : Int)), w64 (o17.2.2.1 - (1 : Int)), y20, ())
  else none
  else none
  else none
  else none
  else none
  else none
  else none
  else none
noncomputable def FkpartitionOrdered_int (N : Nat) (x : tyq5) : Option (Int × (Bool × ((List Int) × Unit))) :=
 bif decide (0 ≤ x.2.2.1) then
 bif decide (x.2.2.1.toNat < x.2.2.2.1.length) then
 let y1 := x.2.2.2.1.getD x.2.2.1.toNat (0 : Int)
 bif decide (0 ≤ x.1) then
 bif decide (x.1.toNat < x.2.2.2.1.length) then
 bif decide (0 ≤ x.1) then
 bif decide (x.1.toNat < x.2.2.2.1.length) then
 bif decide (0 ≤ x.2.2.1) then
 bif decide (x.2.2.1.toNat < (x.2.2.2.1.set x.1.toNat y1).length) then
 let y2 := (x.2.2.2.1.set x.1.toNat y1).set x.2.2.1.toNat (x.2.2.2.1.getD x.1.toNat (0 : Int))
 (lkpartitionOrdered_int_0 N N (x.1, w64 (x.1 + (1 : Int)), w64 (x.2.1 - (1 : Int)), y2, ())).bind fun o4 =>
 (lkpartitionOrdered_int_2 N N (o4.1, o4.2.1, o4.2.2.1, o4.2.2.2.1, ())).bind fun o7 =>
 bif decide (o7.2.1 > o7.2.2.1) then
  bif decide (0 ≤ o7.1) then
  bif decide (o7.1.toNat < o7.2.2.2.1.length) then
  bif decide (0 ≤ o7.2.2.1) then
  bif decide (o7.2.2.1.toNat < o7.2.2.2.1.length) then
  let y8 := o7.2.2.2.1.getD o7.2.2.1.toNat (0 : Int)
  bif decide (0 ≤ o7.2.2.1) then
  bif decide (o7.2.2.1.toNat < o7.2.2.2.1.length) then
  let y9 := o7.2.2.2.1.set o7.2.2.1.toNat (o7.2.2.2.1.getD o7.1.toNat (0 : Int))
  bif decide (0 ≤ o7.1) then
  bif decide (o7.1.toNat < y9.length) then
  some (o7.2.2.1, true, y9.set o7.1.toNat y8, ())
  else none
  else none
  else none
  else none
  else none
  else none
  else none
  else none
 else
 bif decide (0 ≤ o7.2.2.1) then
 bif decide (o7.2.2.1.toNat < o7.2.2.2.1.length) then
 let y10 := o7.2.2.2.1.getD o7.2.2.1.toNat (0 : Int)
 bif decide (0 ≤ o7.2.1) then
 bif decide (o7.2.1.toNat < o7.2.2.2.1.length) then
 let y11 := o7.2.2.2.1.getD o7.2.1.toNat (0 : Int)
 bif decide (0 ≤ o7.2.1) then
 bif decide (o7.2.1.toNat < o7.2.2.2.1.length) then
 bif decide (0 ≤ o7.2.2.1) then
 bif decide (o7.2.2.1.toNat < (o7.2.2.2.1.set o7.2.1.toNat y10).length) then
 let y12 := (o7.2.2.2.1.set o7.2.1.toNat y10).set o7.2.2.1.toNat y11
 (lkpartitionOrdered_int_4 N N (o7.1, w64 (o7.2.1 + (1 : Int)), w64 (o7.2.2.1 - (1 : Int)), y12, ())).bind fun o21 =>
 bif decide (0 ≤ o21.1) then
 bif decide (o21.1.toNat < o21.2.2.1.length) then
 bif decide (0 ≤ o21.2.1) then
 bif decide (o21.2.1.toNat < o21.2.2.1.length) then
 let y22 := o21.2.2.1.getD o21.2.1.toNat (0 : Int)
 bif decide (0 ≤ o21.2.1) then
 bif decide (o21.2.1.toNat < o21.2.2.1.length) then
 let y23 := o21.2.2.1.set o21.2.1.toNat (o21.2.2.1.getD o21.1.toNat (0 : Int))
 bif decide (0 ≤ o21.1) then
 bif decide (o21.1.toNat < y23.length) then
 some (o21.2.1, false, y23.set o21.1.toNat y22, ())
 else none
 else none
 else none
 else none
 else none
 else none
 else none
 else none
 else none
 else none
 else none
 else none
 else none
 else none
 else none
 else none
 else none
 else none
 else none
 else none
 else none
 else none
 else none
 else none
noncomputable def conkpartitionOrdered_int (N : Nat) : Con := { f := 141, din := dinkpartitionOrdered_int, outs := outkpartitionOrdered_int, F := FkpartitionOrdered_int N }
noncomputable def XkpartitionOrdered_int (N : Nat) : Ctx := { E := EkpartitionOrdered_int N, H := HkpartitionOrdered_int, lp := [(0, { hd := dkpartitionOrdered_int_0, outs := okpartitionOrdered_int_0, run := fun v => lkpartitionOrdered_int_0 N N v }), (2, { hd := dkpartitionOrdered_int_2, outs := okpartitionOrdered_int_2, run := fun v => lkpartitionOrdered_int_2 N N v }), (6, { hd := dkpartitionOrdered_int_6, outs := okpartitionOrdered_int_6, run := fun v => lkpartitionOrdered_int_6 N N v }), (8, { hd := dkpartitionOrdered_int_8, outs := okpartitionOrdered_int_8, run := fun v => lkpartitionOrdered_int_8 N N v }), (4, { hd := dkpartitionOrdered_int_4, outs := okpartitionOrdered_int_4, run := fun v => lkpartitionOrdered_int_4 N N v })], jn := [] }
noncomputable def bkpartitionOrdered_int_4 : Code := loopBody (codeOf Try.f141) 2
noncomputable def bkpartitionOrdered_int_8 : Code := loopBody bkpartitionOrdered_int_4 1
noncomputable def bkpartitionOrdered_int_6 : Code := loopBody bkpartitionOrdered_int_4 0
noncomputable def bkpartitionOrdered_int_2 : Code := loopBody (codeOf Try.f141) 1
noncomputable def bkpartitionOrdered_int_0 : Code := loopBody (codeOf Try.f141) 0
theorem FkpartitionOrdered_int_eq (N : Nat) (x : tyq5) : evFn (XkpartitionOrdered_int N) Try.f141 dinkpartitionOrdered_int outkpartitionOrdered_int x = FkpartitionOrdered_int N x := by kernel_rfl
theorem lkpartitionOrdered_int_0_eq (N n : Nat) (v : tyq5) : lkpartitionOrdered_int_0 N (n + 1) v = ev (XkpartitionOrdered_int N) bkpartitionOrdered_int_0 (roundK dkpartitionOrdered_int_0 okpartitionOrdered_int_0 (lkpartitionOrdered_int_0 N n)) (dkpartitionOrdered_int_0.mk' v) := by kernel_rfl
theorem lkpartitionOrdered_int_2_eq (N n : Nat) (v : tyq5) : lkpartitionOrdered_int_2 N (n + 1) v = ev (XkpartitionOrdered_int N) bkpartitionOrdered_int_2 (roundK dkpartitionOrdered_int_2 okpartitionOrdered_int_2 (lkpartitionOrdered_int_2 N n)) (dkpartitionOrdered_int_2.mk' v) := by kernel_rfl
theorem lkpartitionOrdered_int_6_eq (N n : Nat) (v : tyq5) : lkpartitionOrdered_int_6 N (n + 1) v = ev (XkpartitionOrdered_int N) bkpartitionOrdered_int_6 (roundK dkpartitionOrdered_int_6 okpartitionOrdered_int_6 (lkpartitionOrdered_int_6 N n)) (dkpartitionOrdered_int_6.mk' v) := by kernel_rfl
theorem lkpartitionOrdered_int_8_eq (N n : Nat) (v : tyq5) : lkpartitionOrdered_int_8 N (n + 1) v = ev (XkpartitionOrdered_int N) bkpartitionOrdered_int_8 (roundK dkpartitionOrdered_int_8 okpartitionOrdered_int_8 (lkpartitionOrdered_int_8 N n)) (dkpartitionOrdered_int_8.mk' v) := by kernel_rfl
theorem lkpartitionOrdered_int_4_eq (N n : Nat) (v : tyq5) : lkpartitionOrdered_int_4 N (n + 1) v = ev (XkpartitionOrdered_int N) bkpartitionOrdered_int_4 (roundK dkpartitionOrdered_int_4 okpartitionOrdered_int_4 (lkpartitionOrdered_int_4 N n)) (dkpartitionOrdered_int_4.mk' v) := by kernel_rfl
theorem cxkpartitionOrdered_int (N : Nat) : CtxOk Try.prog (XkpartitionOrdered_int N) := ⟨⟨TE_ok, List.forall_mem_cons.2 ⟨(speccmp_Less_int N), fun k hk => absurd hk List.not_mem_nil⟩⟩, mixed⟩
theorem lpkpartitionOrdered_int_0 (N : Nat) : LoopOk Try.prog { hd := dkpartitionOrdered_int_0, outs := okpartitionOrdered_int_0, run := fun v => lkpartitionOrdered_int_0 N N v } bkpartitionOrdered_int_0 :=
 loop_fuel (d := dkpartitionOrdered_int_0) (os := okpartitionOrdered_int_0) (cxkpartitionOrdered_int N) (loops_at (ids := []) (by kernel_rfl) (trivial)) (lkpartitionOrdered_int_0 N) (fun _ => rfl) (fun n v => lkpartitionOrdered_int_0_eq N n v) (fun _ => N)
theorem lpkpartitionOrdered_int_2 (N : Nat) : LoopOk Try.prog { hd := dkpartitionOrdered_int_2, outs := okpartitionOrdered_int_2, run := fun v => lkpartitionOrdered_int_2 N N v } bkpartitionOrdered_int_2 :=
 loop_fuel (d := dkpartitionOrdered_int_2) (os := okpartitionOrdered_int_2) (cxkpartitionOrdered_int N) (loops_at (ids := []) (by kernel_rfl) (trivial)) (lkpartitionOrdered_int_2 N) (fun _ => rfl) (fun n v => lkpartitionOrdered_int_2_eq N n v) (fun _ => N)
theorem lpkpartitionOrdered_int_6 (N : Nat) : LoopOk Try.prog { hd := dkpartitionOrdered_int_6, outs := okpartitionOrdered_int_6, run := fun v => lkpartitionOrdered_int_6 N N v } bkpartitionOrdered_int_6 :=
 loop_fuel (d := dkpartitionOrdered_int_6) (os := okpartitionOrdered_int_6) (cxkpartitionOrdered_int N) (loops_at (ids := []) (by kernel_rfl) (trivial)) (lkpartitionOrdered_int_6 N) (fun _ => rfl) (fun n v => lkpartitionOrdered_int_6_eq N n v) (fun _ => N)
theorem lpkpartitionOrdered_int_8 (N : Nat) : LoopOk Try.prog { hd := dkpartitionOrdered_int_8, outs := okpartitionOrdered_int_8, run := fun v => lkpartitionOrdered_int_8 N N v } bkpartitionOrdered_int_8 :=
 loop_fuel (d := dkpartitionOrdered_int_8) (os := okpartitionOrdered_int_8) (cxkpartitionOrdered_int N) (loops_at (ids := []) (by kernel_rfl) (trivial)) (lkpartitionOrdered_int_8 N) (fun _ => rfl) (fun n v => lkpartitionOrdered_int_8_eq N n v) (fun _ => N)
theorem lpkpartitionOrdered_int_4 (N : Nat) : LoopOk Try.prog { hd := dkpartitionOrdered_int_4, outs := okpartitionOrdered_int_4, run := fun v => lkpartitionOrdered_int_4 N N v } bkpartitionOrdered_int_4 :=
 loop_fuel (d := dkpartitionOrdered_int_4) (os := okpartitionOrdered_int_4) (cxkpartitionOrdered_int N) (loops_at (ids := [6, 8]) (by kernel_rfl) ⟨lp_of (lpkpartitionOrdered_int_6 N), ⟨lp_of (lpkpartitionOrdered_int_8 N), trivial⟩⟩) (lkpartitionOrdered_int_4 N) (fun _ => rfl) (fun n v => lkpartitionOrdered_int_4_eq N n v) (fun _ => N)
theorem speckpartitionOrdered_int (N : Nat) : Spec Try.prog (conkpartitionOrdered_int N) :=
 Spec.of_eq (fn_spec (cxkpartitionOrdered_int N) (f := 141) (fn := Try.f141) (c := codeOf Try.f141) (by kernel_rfl) (by kernel_rfl) (by kernel_rfl) (loops_at (ids := [0, 2, 4]) (by kernel_rfl) ⟨lp_of (lpkpartitionOrdered_int_0 N), ⟨lp_of (lpkpartitionOrdered_int_2 N), ⟨lp_of (lpkpartitionOrdered_int_4 N), trivial⟩⟩⟩) (by kernel_rfl)) (fun x r h => (FkpartitionOrdered_int_eq N x).trans h)
end Go.Fl
set_option maxRecDepth 100000
set_option linter.all false
namespace Go.Fl
open Go Go.Proofs
noncomputable def dinkpdqsortOrdered_int : Desc := { n := 4, regs := [.one (.lit (.row 0)), .one (.val (.int .i64)), .one (.val (.int .i64)), .one (.val (.int .i64))], bx := [(0, .row (.int .i64))], pins := [] }
noncomputable def outkpdqsortOrdered_int : Outs := [(.ret, { n := 0, regs := [], bx := [(0, .row (.int .i64))], pins := [.one (.lit (.row 0))] })]
noncomputable def HkpdqsortOrdered_int : Hints := [(6, [(3, { con := 1 })]),
 (8, [(3, { con := 2 })]),
 (10, [(3, { con := 3 })]),
 (12, [(3, { con := 4 })]),
 (16, [(3, { con := 5 })]),
 (17, [(12, { con := 6 })]),
 (18, [(4, { con := 7 })]),
 (20, [(4, { con := 8 })]),
 (26, [(4, { con := 9 })]),
 (29, [(5, { con := 9 })])]
noncomputable def dkpdqsortOrdered_int_0 : Desc := { n := 134, regs := [.one (.lit (.row 0)), .one (.val (.int .i64)), .one (.val (.int .i64)), .one (.val (.int .i64)), u, u, u, u, .one (.val .bool), .one (.val .bool)], bx := [(0, .row (.int .i64))], pins := [.one (.lit (.row 0))] }
noncomputable def okpdqsortOrdered_int_0 : Outs := [(.ret, { n := 134, regs := [], bx := [(0, .row (.int .i64))], pins := [.one (.lit (.row 0))] })]
noncomputable def jkpdqsortOrdered_int_10 : Outs := [(.normal, { n := 134, regs := [.one (.lit (.row 0)), .one (.val (.int .i64)), .one (.val (.int .i64)), .one (.val (.int .i64)), u, u, u, u, .one (.val .bool), .one (.val .bool), .one (.val (.int .i64))], bx := [(0, .row (.int .i64))], pins := [.one (.lit (.row 0))] })]
noncomputable def jkpdqsortOrdered_int_15 : Outs := [(.normal, { n := 134, regs := [.one (.lit (.row 0)), .one (.val (.int .i64)), .one (.val (.int .i64)), .one (.val (.int .i64)), u, u, u, u, .one (.val .bool), .one (.val .bool), .one (.val (.int .i64)), .one (.val (.int .i64)), .one (.val (.int .i64))], bx := [(0, .row (.int .i64))], pins := [.one (.lit (.row 0))] })]
noncomputable def jkpdqsortOrdered_int_17 : Outs := [(.normal, { n := 134, regs := [.one (.lit (.row 0)), .one (.val (.int .i64)), .one (.val (.int .i64)), .one (.val (.int .i64)), u, u, u, u, .one (.val .bool), .one (.val .bool), .one (.val (.int .i64)), .one (.val (.int .i64))], bx := [(0, .row (.int .i64))], pins := [.one (.lit (.row 0))] }), (.ret, { n := 134, regs := [], bx := [(0, .row (.int .i64))], pins := [.one (.lit (.row 0))] })]
noncomputable def jkpdqsortOrdered_int_20 : Outs := [(.exit 1, { n := 134, regs := [.one (.lit (.row 0)), .one (.val (.int .i64)), .one (.val (.int .i64)), .one (.val (.int .i64)), u, u, u, u, .one (.val .bool), .one (.val .bool)], bx := [(0, .row (.int .i64))], pins := [.one (.lit (.row 0))] }), (.normal, { n := 134, regs := [.one (.lit (.row 0)), .one (.val (.int .i64)), .one (.val (.int .i64)), .one (.val (.int .i64)), u, u, u, u, u, u, .one (.val (.int .i64)), .one (.val (.int .i64))], bx := [(0, .row (.int .i64))], pins := [.one (.lit (.row 0))] })]
noncomputable def lkpdqsortOrdered_int_0 (N : Nat) (f_ : tyq5 → Option ((List Int) × Unit)) : Nat → (Int × (Int × (Int × (Bool × (Bool × ((List Int) × Unit)))))) → Option ((List Int) × Unit)
 | 0, _ => none
 | n + 1, v =>
  let y1 := decide ((w64 (v.2.1 - v.1)) ≤ (12 : Int))
  bif y1 then
   (FkinsertionSortOrdered_int N (v.1, v.2.1, v.2.2.2.2.2.1, ())).bind fun r2 =>
   some (r2.1, ())
  else
  bif v.2.2.1 == (0 : Int) then
   (FkheapSortOrdered_int N (v.1, v.2.1, v.2.2.2.2.2.1, ())).bind fun r3 =>
   some (r3.1, ())
  else
  Option.bind (
   bif !v.2.2.2.1 then
    (FkbreakPatternsOrdered_int N (v.1, v.2.1, v.2.2.2.2.2.1, ())).bind fun r4 =>
    some (v.1, v.2.1, w64 (v.2.2.1 - (1 : Int)), v.2.2.2.1, v.2.2.2.2.1, w64 (v.2.1 - v.1), r4.1, ())
   else
   some (v.1, v.2.1, v.2.2.1, v.2.2.2.1, v.2.2.2.2.1, w64 (v.2.1 - v.1), v.2.2.2.2.2.1, ())) fun o5 =>
  (FkchoosePivotOrdered_int N (o5.2.2.2.2.2.2.1, o5.1, o5.2.1, ())).bind fun r6 =>
  Option.bind (
   bif r6.2.1 == (2 : Int) then
    (FkreverseRangeOrdered_int N (o5.1, o5.2.1, o5.2.2.2.2.2.2.1, ())).bind fun r7 =>
    let y8 := w64 ((w64 (o5.2.1 - (1 : Int))) - (w64 (r6.1 - o5.1)))
    some (o5.1, o5.2.1, o5.2.2.1, o5.2.2.2.1, o5.2.2.2.2.1, o5.2.2.2.2.2.1, y8, (1 : Int), r7.1, ())
   else
   some (o5.1, o5.2.1, o5.2.2.1, o5.2.2.2.1, o5.2.2.2.2.1, o5.2.2.2.2.2.1, r6.1, r6.2.1, o5.2.2.2.2.2.2.1, ())) fun o9 =>
  Option.bind (
   bif o9.2.2.2.1 then
    bif o9.2.2.2.2.1 then
     bif o9.2.2.2.2.2.2.2.1 == (1 : Int) then
      (FkpartialInsertionSortOrdered_int N (o9.1, o9.2.1, o9.2.2.2.2.2.2.2.2.1, ())).bind fun r10 =>
      bif r10.1 then
       some (.inr ((r10.2.1, ())))
      else
      some (.inl (o9.1, o9.2.1, o9.2.2.1, o9.2.2.2.1, o9.2.2.2.2.1, o9.2.2.2.2.2.1, o9.2.2.2.2.2.2.1, r10.2.1, ()))
     else
     some (.inl (o9.1, o9.2.1, o9.2.2.1, o9.2.2.2.1, o9.2.2.2.2.1, o9.2.2.2.2.2.1, o9.2.2.2.2.2.2.1, o9.2.2.2.2.2.2.2.2.1, ()))
    else
    some (.inl (o9.1, o9.2.1, o9.2.2.1, o9.2.2.2.1, o9.2.2.2.2.1, o9.2.2.2.2.2.1, o9.2.2.2.2.2.2.1, o9.2.2.2.2.2.2.2.2.1, ()))
   else
   some (.inl (o9.1, o9.2.1, o9.2.2.1, o9.2.2.2.1, o9.2.2.2.2.1, o9.2.2.2.2.2.1, o9.2.2.2.2.2.2.1, o9.2.2.2.2.2.2.2.2.1, ()))) fun o11 =>
  Sum.elim (fun o12 =>
   Option.bind (
    bif decide (o12.1 > (0 : Int)) then
     bif decide (0 ≤ (w64 (o12.1 - (1 : Int)))) then
     bif decide ((w64 (o12.1 - (1 : Int))).toNat < o12.2.2.2.2.2.2.2.1.length) then
     let y13 := o12.2.2.2.2.2.2.2.1.getD ((w64 (o12.1 - (1 : Int))).toNat) (0 : Int)
     bif decide (0 ≤ o12.2.2.2.2.2.2.1) then
     bif decide (o12.2.2.2.2.2.2.1.toNat < o12.2.2.2.2.2.2.2.1.length) then
     let y14 := o12.2.2.2.2.2.2.2.1.getD o12.2.2.2.2.2.2.1.toNat (0 : Int)
     (Fcmp_Less_int N (y13, y14, ())).bind fun r15 =>
     bif !r15.1 then
      (FkpartitionEqualOrdered_int N (o12.1, o12.2.1, o12.2.2.2.2.2.2.1, o12.2.2.2.2.2.2.2.1, ())).bind fun r16 =>
      some (.inl (r16.1, o12.2.1, o12.2.2.1, o12.2.2.2.1, o12.2.2.2.2.1, r16.2.1, ()))
     else
     some (.inr ((o12.1, o12.2.1, o12.2.2.1, o12.2.2.2.2.2.1, o12.2.2.2.2.2.2.1, o12.2.2.2.2.2.2.2.1, ())))
     else none
     else none
     else none
     else none
    else
    some (.inr ((o12.1, o12.2.1, o12.2.2.1, o12.2.2.2.2.2.1, o12.2.2.2.2.2.2.1, o12.2.2.2.2.2.2.2.1, ())))) fun o17 =>
   Sum.elim (fun o18 =>
    lkpdqsortOrdered_int_0 N f_ n (o18.1, o18.2.1, o18.2.2.1, o18.2.2.2.1, o18.2.2.2.2.1, o18.2.2.2.2.2.1, ())) (fun o19 =>
    (FkpartitionOrdered_int N (o19.1, o19.2.1, o19.2.2.2.2.1, o19.2.2.2.2.2.1, ())).bind fun r20 =>
    bif decide ((8 : Int) = 0) then
     none
    else
    let y21 := decide ((w64 (r20.1 - o19.1)) < (w64 (o19.2.1 - r20.1)))
    bif y21 then
     let y22 := decide ((w64 (r20.1 - o19.1)) ≥ (w64 (Int.tdiv o19.2.2.2.1 (8 : Int))))
     (f_ (o19.1, r20.1, o19.2.2.1, r20.2.2.1, ())).bind fun r23 =>
     lkpdqsortOrdered_int_0 N f_ n (w64 (r20.1 + (1 : Int)), o19.2.1, o19.2.2.1, y22, r20.2.1, r23.1, ())
    else
    let y24 := decide ((w64 (o19.2.1 - r20.1)) ≥ (w64 (Int.tdiv o19.2.2.2.1 (8 : Int))))
    (f_ (w64 (r20.1 + (1 : Int)), o19.2.1, o19.2.2.1, r20.2.2.1, ())).bind fun r25 =>
    lkpdqsortOrdered_int_0 N f_ n (o19.1, r20.1, o19.2.2.1, y24, r20.2.1, r25.1, ())) o17) (fun o26 =>
   some (o26.1, ())) o11
noncomputable def FkpdqsortOrdered_int (N : Nat) : Nat → tyq5 → Option ((List Int) × Unit)
 | 0, _ => none
 | m_ + 1, x =>
 (lkpdqsortOrdered_int_0 N (fun x_ => FkpdqsortOrdered_int N m_ x_) N (x.1, x.2.1, x.2.2.1, true, true, x.2.2.2.1, ())).bind fun o27 =>
 some (o27.1, ())
noncomputable def conkpdqsortOrdered_int (N : Nat) (m_ : Nat) : Con := { f := 129, din := dinkpdqsortOrdered_int, outs := outkpdqsortOrdered_int, F := FkpdqsortOrdered_int N m_ }
noncomputable def EkpdqsortOrdered_int (N : Nat) (m_ : Nat) : Env := { te := TE, cs := [conkinsertionSortOrdered_int N, conkheapSortOrdered_int N, conkbreakPatternsOrdered_int N, conkchoosePivotOrdered_int N, conkreverseRangeOrdered_int N, conkpartialInsertionSortOrdered_int N, concmp_Less_int N, conkpartitionEqualOrdered_int N, conkpartitionOrdered_int N, conkpdqsortOrdered_int N m_] }
noncomputable def XkpdqsortOrdered_int (N : Nat) (m_ : Nat) : Ctx := { E := EkpdqsortOrdered_int N m_, H := HkpdqsortOrdered_int, lp := [(0, { hd := dkpdqsortOrdered_int_0, outs := okpdqsortOrdered_int_0, run := fun v => lkpdqsortOrdered_int_0 N (fun x_ => FkpdqsortOrdered_int N m_ x_) N v })], jn := [(10, jkpdqsortOrdered_int_10), (15, jkpdqsortOrdered_int_15), (17, jkpdqsortOrdered_int_17), (20, jkpdqsortOrdered_int_20)] }
noncomputable def bkpdqsortOrdered_int_0 : Code := loopBody (codeOf Try.f129) 0
theorem FkpdqsortOrdered_int_eq (N m_ : Nat) (x : tyq5) : evFn (XkpdqsortOrdered_int N m_) Try.f129 dinkpdqsortOrdered_int outkpdqsortOrdered_int x = FkpdqsortOrdered_int N (m_ + 1) x := by kernel_rfl
theorem lkpdqsortOrdered_int_0_eq (N m_ n : Nat) (v : (Int × (Int × (Int × (Bool × (Bool × ((List Int) × Unit))))))) : lkpdqsortOrdered_int_0 N (fun x_ => FkpdqsortOrdered_int N m_ x_) (n + 1) v = ev (XkpdqsortOrdered_int N m_) bkpdqsortOrdered_int_0 (roundK dkpdqsortOrdered_int_0 okpdqsortOrdered_int_0 (lkpdqsortOrdered_int_0 N (fun x_ => FkpdqsortOrdered_int N m_ x_) n)) (dkpdqsortOrdered_int_0.mk' v) := by kernel_rfl
theorem cxkpdqsortOrdered_int (N : Nat) (m_ : Nat) (hs : Spec Try.prog (conkpdqsortOrdered_int N m_)) : CtxOk Try.prog (XkpdqsortOrdered_int N m_) := ⟨⟨TE_ok, List.forall_mem_cons.2 ⟨(speckinsertionSortOrdered_int N), List.forall_mem_cons.2 ⟨(speckheapSortOrdered_int N), List.forall_mem_cons.2 ⟨(speckbreakPatternsOrdered_int N), List.forall_mem_cons.2 ⟨(speckchoosePivotOrdered_int N), List.forall_mem_cons.2 ⟨(speckreverseRangeOrdered_int N), List.forall_mem_cons.2 ⟨(speckpartialInsertionSortOrdered_int N), List.forall_mem_cons.2 ⟨(speccmp_Less_int N), List.forall_mem_cons.2 ⟨(speckpartitionEqualOrdered_int N), List.forall_mem_cons.2 ⟨(speckpartitionOrdered_int N), List.forall_mem_cons.2 ⟨hs, fun k hk => absurd hk List.not_mem_nil⟩⟩⟩⟩⟩⟩⟩⟩⟩⟩⟩, mixed⟩
theorem lpkpdqsortOrdered_int_0 (N : Nat) (m_ : Nat) (hs : Spec Try.prog (conkpdqsortOrdered_int N m_)) : LoopOk Try.prog { hd := dkpdqsortOrdered_int_0, outs := okpdqsortOrdered_int_0, run := fun v => lkpdqsortOrdered_int_0 N (fun x_ => FkpdqsortOrdered_int N m_ x_) N v } bkpdqsortOrdered_int_0 :=
 loop_fuel (d := dkpdqsortOrdered_int_0) (os := okpdqsortOrdered_int_0) (cxkpdqsortOrdered_int N m_ hs) (loops_at (ids := []) (by kernel_rfl) (trivial)) (lkpdqsortOrdered_int_0 N (fun x_ => FkpdqsortOrdered_int N m_ x_)) (fun _ => rfl) (fun n v => lkpdqsortOrdered_int_0_eq N m_ n v) (fun _ => N)
theorem czkpdqsortOrdered_int : CtxOk Try.prog { E := { te := TE, cs := [] }, H := [], lp := [], jn := [] } := ⟨⟨TE_ok, fun k hk => absurd hk List.not_mem_nil⟩, mixed⟩
theorem speckpdqsortOrdered_int (N : Nat) : ∀ m_ : Nat, Spec Try.prog (conkpdqsortOrdered_int N m_)
 | 0 => Spec.of_eq (fn_spec (czkpdqsortOrdered_int) (f := 129) (fn := Try.f129) (din := dinkpdqsortOrdered_int) (os := outkpdqsortOrdered_int) (c := codeOf Try.f129) (by kernel_rfl) (by kernel_rfl) (by kernel_rfl) (loops_at (ids := [0]) (by kernel_rfl) ⟨lp_none, trivial⟩) (by kernel_rfl)) (fun x r h => nomatch (show (none : Option _) = some r from h))
 | m_ + 1 => Spec.of_eq (fn_spec (cxkpdqsortOrdered_int N m_ (speckpdqsortOrdered_int N m_)) (f := 129) (fn := Try.f129) (c := codeOf Try.f129) (by kernel_rfl) (by kernel_rfl) (by kernel_rfl) (loops_at (ids := [0]) (by kernel_rfl) ⟨lp_of (lpkpdqsortOrdered_int_0 N m_ (speckpdqsortOrdered_int N m_)), trivial⟩) (by kernel_rfl)) (fun x r h => (FkpdqsortOrdered_int_eq N m_ x).trans h)
noncomputable def dinkSort_Sint_int : Desc := { n := 1, regs := [.one (.lit (.row 0))], bx := [(0, .row (.int .i64))], pins := [] }
noncomputable def outkSort_Sint_int : Outs := [(.ret, { n := 0, regs := [], bx := [(0, .row (.int .i64))], pins := [.one (.lit (.row 0))] })]
noncomputable def HkSort_Sint_int : Hints := [(1, [(5, { con := 1 })])]
noncomputable def EkSort_Sint_int (N : Nat) : Env := { te := TE, cs := [conmath_bits_Len N, conkpdqsortOrdered_int N N] }
noncomputable def FkSort_Sint_int (N : Nat) (x : ((List Int) × Unit)) : Option ((List Int) × Unit) :=
 let y1 := IntKind.wrap .u64 ((x.1.length : Int))
 (Fmath_bits_Len N (y1, ())).bind fun r2 =>
 (FkpdqsortOrdered_int N N ((0 : Int), (x.1.length : Int), r2.1, x.1, ())).bind fun r3 =>
 some (r3.1, ())
noncomputable def conkSort_Sint_int (N : Nat) : Con := { f := 122, din := dinkSort_Sint_int, outs := outkSort_Sint_int, F := FkSort_Sint_int N }
noncomputable def XkSort_Sint_int (N : Nat) : Ctx := { E := EkSort_Sint_int N, H := HkSort_Sint_int, lp := [], jn := [] }
theorem FkSort_Sint_int_eq (N : Nat) (x : ((List Int) × Unit)) : evFn (XkSort_Sint_int N) Try.f122 dinkSort_Sint_int outkSort_Sint_int x = FkSort_Sint_int N x := by kernel_rfl
theorem cxkSort_Sint_int (N : Nat) : CtxOk Try.prog (XkSort_Sint_int N) := ⟨⟨TE_ok, List.forall_mem_cons.2 ⟨(specmath_bits_Len N), List.forall_mem_cons.2 ⟨(speckpdqsortOrdered_int N N), fun k hk => absurd hk List.not_mem_nil⟩⟩⟩, mixed⟩
theorem speckSort_Sint_int (N : Nat) : Spec Try.prog (conkSort_Sint_int N) :=
 Spec.of_eq (fn_spec (cxkSort_Sint_int N) (f := 122) (fn := Try.f122) (c := codeOf Try.f122) (by kernel_rfl) (by kernel_rfl) (by kernel_rfl) (loops_at (ids := []) (by kernel_rfl) (trivial)) (by kernel_rfl)) (fun x r h => (FkSort_Sint_int_eq N x).trans h)
noncomputable def diniheap_live : Desc := { n := 1, regs := [.one (.fpt (.pair tyq8 (.pair (.mp tyq9) (.pair (.sl (.int .i64)) .unit))))], bx := [], pins := [] }
noncomputable def outiheap_live : Outs := [(.ret, { n := 1, regs := [.one (.lit (.row 1013057))], bx := [(1013057, .row (.int .i64))], pins := [] })]
noncomputable def Hiheap_live : Hints := [(2, [(1, { con := 1, sg := [(0, 1013057)] })])]
noncomputable def Eiheap_live (N : Nat) : Env := { te := TE, cs := [conkClone_Sint_int N, conkSort_Sint_int N] }
noncomputable def Fiheap_live (N : Nat) (x : ((tyq1 × ((List (Int × tyq2)) × ((List Int) × Unit))) × Unit)) : Option ((List Int) × Unit) :=
 (FkClone_Sint_int N (x.1.2.2.1, ())).bind fun r1 =>
 (FkSort_Sint_int N (r1.1, ())).bind fun r2 =>
 some (r2.1, ())
noncomputable def coniheap_live (N : Nat) : Con := { f := 98, din := diniheap_live, outs := outiheap_live, F := Fiheap_live N }
noncomputable def Xiheap_live (N : Nat) : Ctx := { E := Eiheap_live N, H := Hiheap_live, lp := [], jn := [] }
theorem Fiheap_live_eq (N : Nat) (x : ((tyq1 × ((List (Int × tyq2)) × ((List Int) × Unit))) × Unit)) : evFn (Xiheap_live N) Try.f98 diniheap_live outiheap_live x = Fiheap_live N x := by kernel_rfl
theorem cxiheap_live (N : Nat) : CtxOk Try.prog (Xiheap_live N) := ⟨⟨TE_ok, List.forall_mem_cons.2 ⟨(speckClone_Sint_int N), List.forall_mem_cons.2 ⟨(speckSort_Sint_int N), fun k hk => absurd hk List.not_mem_nil⟩⟩⟩, mixed⟩
theorem speciheap_live (N : Nat) : Spec Try.prog (coniheap_live N) :=
 Spec.of_eq (fn_spec (cxiheap_live N) (f := 98) (fn := Try.f98) (c := codeOf Try.f98) (by kernel_rfl) (by kernel_rfl) (by kernel_rfl) (loops_at (ids := []) (by kernel_rfl) (trivial)) (by kernel_rfl)) (fun x r h => (Fiheap_live_eq N x).trans h)
noncomputable def diniFullLive : Desc := { n := 1, regs := [.one (.val tyq8)], bx := [], pins := [] }
noncomputable def outiFullLive : Outs := [(.ret, { n := 2, regs := [.one (.lit (.row 1038400)), .one (.val .bool)], bx := [(1038400, .row (.int .i64))], pins := [] })]
noncomputable def HiFullLive : Hints := [(0, [(0, { fz := true })]),
 (3, [(0, { nl := [(0, (.int .i64))] })]),
 (4, [(1, { con := 1 })])]
noncomputable def EiFullLive (N : Nat) : Env := { te := TE, cs := [coniheapOf N, coniheap_live N] }
noncomputable def FiFullLive (N : Nat) (x : (tyq1 × Unit)) : Option (Bool × ((List Int) × Unit)) :=
 (FiheapOf N (x.1, ())).bind fun r1 =>
 Sum.elim (fun r2 =>
  some (false, ([] : (List Int)), ())) (fun r3 =>
  (Fiheap_live N (((r3.1, r3.2.1, r3.2.2.1, r3.2.2.2.1, r3.2.2.2.2.1, r3.2.2.2.2.2.1, r3.2.2.2.2.2.2.1, r3.2.2.2.2.2.2.2.1, r3.2.2.2.2.2.2.2.2.1, r3.2.2.2.2.2.2.2.2.2.1, r3.2.2.2.2.2.2.2.2.2.2.1, r3.2.2.2.2.2.2.2.2.2.2.2.1, r3.2.2.2.2.2.2.2.2.2.2.2.2.1, ()), r3.2.2.2.2.2.2.2.2.2.2.2.2.2.1, r3.2.2.2.2.2.2.2.2.2.2.2.2.2.2.1, ()), ())).bind fun r4 =>
  some (true, r4.1, ())) r1
noncomputable def coniFullLive (N : Nat) : Con := { f := 52, din := diniFullLive, outs := outiFullLive, F := FiFullLive N }
noncomputable def XiFullLive (N : Nat) : Ctx := { E := EiFullLive N, H := HiFullLive, lp := [], jn := [] }
theorem FiFullLive_eq (N : Nat) (x : (tyq1 × Unit)) : evFn (XiFullLive N) Try.f52 diniFullLive outiFullLive x = FiFullLive N x := by kernel_rfl
theorem cxiFullLive (N : Nat) : CtxOk Try.prog (XiFullLive N) := ⟨⟨TE_ok, List.forall_mem_cons.2 ⟨(speciheapOf N), List.forall_mem_cons.2 ⟨(speciheap_live N), fun k hk => absurd hk List.not_mem_nil⟩⟩⟩, mixed⟩
theorem speciFullLive (N : Nat) : Spec Try.prog (coniFullLive N) :=
 Spec.of_eq (fn_spec (cxiFullLive N) (f := 52) (fn := Try.f52) (c := codeOf Try.f52) (by kernel_rfl) (by kernel_rfl) (by kernel_rfl) (loops_at (ids := []) (by kernel_rfl) (trivial)) (by kernel_rfl)) (fun x r h => (FiFullLive_eq N x).trans h)
noncomputable def dinveqIntS : Desc := { n := 2, regs := [.one (.val (.sl (.int .i64))), .one (.val (.sl (.int .i64)))], bx := [], pins := [] }
noncomputable def outveqIntS : Outs := [(.ret, { n := 1, regs := [.one (.val .bool)], bx := [], pins := [] })]
noncomputable def HveqIntS : Hints := []
noncomputable def EveqIntS (_N : Nat) : Env := { te := TE, cs := [] }
noncomputable def dveqIntS_0 : Desc := { n := 26, regs := [.one (.val (.sl (.int .i64))), .one (.val (.sl (.int .i64))), u, u, u, .one (.val (.int .i64))], bx := [], pins := [] }
noncomputable def oveqIntS_0 : Outs := [(.exit 0, { n := 26, regs := [], bx := [], pins := [] }), (.ret, { n := 26, regs := [u, u, u, u, .one (.val .bool)], bx := [], pins := [] })]
noncomputable def lveqIntS_0 (N : Nat) : Nat → ((List Int) × ((List Int) × (Int × Unit))) → Option (Unit ⊕ (Bool × Unit))
 | 0, _ => none
 | n + 1, v =>
  let y2 := decide (v.2.2.1 < (v.1.length : Int))
  bif y2 then
   bif decide (0 ≤ v.2.2.1) then
   bif decide (v.2.2.1.toNat < v.1.length) then
   bif decide (0 ≤ v.2.2.1) then
   bif decide (v.2.2.1.toNat < v.2.1.length) then
   let y3 := (v.1.getD v.2.2.1.toNat (0 : Int)) != (v.2.1.getD v.2.2.1.toNat (0 : Int))
   bif y3 then
    some (.inr ((false, ())))
   else
   lveqIntS_0 N n (v.1, v.2.1, w64 (v.2.2.1 + (1 : Int)), ())
   else none
   else none
   else none
   else none
  else
  some (.inl ())
noncomputable def FveqIntS (N : Nat) (x : ((List Int) × ((List Int) × Unit))) : Option (Bool × Unit) :=
 let y1 := (x.1.length : Int) != (x.2.1.length : Int)
 bif y1 then
  some (false, ())
 else
 (lveqIntS_0 N N (x.1, x.2.1, (0 : Int), ())).bind fun o4 =>
 Sum.elim (fun o5 =>
  some (true, ())) (fun o6 =>
  some (o6.1, ())) o4
noncomputable def conveqIntS (N : Nat) : Con := { f := 19, din := dinveqIntS, outs := outveqIntS, F := FveqIntS N }
noncomputable def XveqIntS (N : Nat) : Ctx := { E := EveqIntS N, H := HveqIntS, lp := [(0, { hd := dveqIntS_0, outs := oveqIntS_0, run := fun v => lveqIntS_0 N N v })], jn := [] }
noncomputable def bveqIntS_0 : Code := loopBody (codeOf Try.f19) 0
theorem FveqIntS_eq (N : Nat) (x : ((List Int) × ((List Int) × Unit))) : evFn (XveqIntS N) Try.f19 dinveqIntS outveqIntS x = FveqIntS N x := by kernel_rfl
theorem lveqIntS_0_eq (N n : Nat) (v : ((List Int) × ((List Int) × (Int × Unit)))) : lveqIntS_0 N (n + 1) v = ev (XveqIntS N) bveqIntS_0 (roundK dveqIntS_0 oveqIntS_0 (lveqIntS_0 N n)) (dveqIntS_0.mk' v) := by kernel_rfl
theorem cxveqIntS (N : Nat) : CtxOk Try.prog (XveqIntS N) := ⟨⟨TE_ok, fun k hk => absurd hk List.not_mem_nil⟩, mixed⟩
theorem lpveqIntS_0 (N : Nat) : LoopOk Try.prog { hd := dveqIntS_0, outs := oveqIntS_0, run := fun v => lveqIntS_0 N N v } bveqIntS_0 :=
 loop_fuel (d := dveqIntS_0) (os := oveqIntS_0) (cxveqIntS N) (loops_at (ids := []) (by kernel_rfl) (trivial)) (lveqIntS_0 N) (fun _ => rfl) (fun n v => lveqIntS_0_eq N n v) (fun _ => N)
theorem specveqIntS (N : Nat) : Spec Try.prog (conveqIntS N) :=
 Spec.of_eq (fn_spec (cxveqIntS N) (f := 19) (fn := Try.f19) (c := codeOf Try.f19) (by kernel_rfl) (by kernel_rfl) (by kernel_rfl) (loops_at (ids := [0]) (by kernel_rfl) ⟨lp_of (lpveqIntS_0 N), trivial⟩) (by kernel_rfl)) (fun x r h => (FveqIntS_eq N x).trans h)
noncomputable def dinveqRegion : Desc := { n := 2, regs := [.one (.val tyq10), .one (.val tyq10)], bx := [], pins := [] }
noncomputable def outveqRegion : Outs := [(.ret, { n := 1, regs := [.one (.val .bool)], bx := [], pins := [] })]
noncomputable def HveqRegion : Hints := [(0, [(0, { fz := true }), (1, { fz := true })])]
noncomputable def EveqRegion (_N : Nat) : Env := { te := TE, cs := [] }
noncomputable def FveqRegion (N : Nat) (x : (tyq3 × (tyq3 × Unit))) : Option (Bool × Unit) :=
 bif x.1.1 != x.2.1.1 then
  some (false, ())
 else
 bif x.1.2.1 != x.2.1.2.1 then
  some (false, ())
 else
 bif x.1.2.2.1 != x.2.1.2.2.1 then
  some (false, ())
 else
 bif x.1.2.2.2.1 != x.2.1.2.2.2.1 then
  some (false, ())
 else
 bif x.1.2.2.2.2.1 != x.2.1.2.2.2.2.1 then
  some (false, ())
 else
 some (true, ())
noncomputable def conveqRegion (N : Nat) : Con := { f := 63, din := dinveqRegion, outs := outveqRegion, F := FveqRegion N }
noncomputable def XveqRegion (N : Nat) : Ctx := { E := EveqRegion N, H := HveqRegion, lp := [], jn := [] }
theorem FveqRegion_eq (N : Nat) (x : (tyq3 × (tyq3 × Unit))) : evFn (XveqRegion N) Try.f63 dinveqRegion outveqRegion x = FveqRegion N x := by kernel_rfl
theorem cxveqRegion (N : Nat) : CtxOk Try.prog (XveqRegion N) := ⟨⟨TE_ok, fun k hk => absurd hk List.not_mem_nil⟩, mixed⟩
theorem specveqRegion (N : Nat) : Spec Try.prog (conveqRegion N) :=
 Spec.of_eq (fn_spec (cxveqRegion N) (f := 63) (fn := Try.f63) (c := codeOf Try.f63) (by kernel_rfl) (by kernel_rfl) (by kernel_rfl) (loops_at (ids := []) (by kernel_rfl) (trivial)) (by kernel_rfl)) (fun x r h => (FveqRegion_eq N x).trans h)
noncomputable def dinveqRegionS : Desc := { n := 2, regs := [.one (.val (.sl tyq10)), .one (.val (.sl tyq10))], bx := [], pins := [] }
noncomputable def outveqRegionS : Outs := [(.ret, { n := 1, regs := [.one (.val .bool)], bx := [], pins := [] })]
noncomputable def HveqRegionS : Hints := []
noncomputable def EveqRegionS (N : Nat) : Env := { te := TE, cs := [conveqRegion N] }
noncomputable def dveqRegionS_0 : Desc := { n := 27, regs := [.one (.val (.sl tyq10)), .one (.val (.sl tyq10)), u, u, u, .one (.val (.int .i64))], bx := [], pins := [] }
noncomputable def oveqRegionS_0 : Outs := [(.exit 0, { n := 27, regs := [], bx := [], pins := [] }), (.ret, { n := 27, regs := [u, u, u, u, .one (.val .bool)], bx := [], pins := [] })]
noncomputable def lveqRegionS_0 (N : Nat) : Nat → ((List tyq3) × ((List tyq3) × (Int × Unit))) → Option (Unit ⊕ (Bool × Unit))
 | 0, _ => none
 | n + 1, v =>
  let y2 := decide (v.2.2.1 < (v.1.length : Int))
  bif y2 then
   bif decide (0 ≤ v.2.2.1) then
   bif decide (v.2.2.1.toNat < v.1.length) then
   let y3 := v.1.getD v.2.2.1.toNat ((0 : Int), (0 : Int), (0 : Int), (0 : Int), (0 : Int), ())
   bif decide (0 ≤ v.2.2.1) then
   bif decide (v.2.2.1.toNat < v.2.1.length) then
   let y4 := v.2.1.getD v.2.2.1.toNat ((0 : Int), (0 : Int), (0 : Int), (0 : Int), (0 : Int), ())
   (FveqRegion N (y3, y4, ())).bind fun r5 =>
   bif !r5.1 then
    some (.inr ((false, ())))
   else
   lveqRegionS_0 N n (v.1, v.2.1, w64 (v.2.2.1 + (1 : Int)), ())
   else none
   else none
   else none
   else none
  else
  some (.inl ())
noncomputable def FveqRegionS (N : Nat) (x : ((List tyq3) × ((List tyq3) × Unit))) : Option (Bool × Unit) :=
 let y1 := (x.1.length : Int) != (x.2.1.length : Int)
 bif y1 then
  some (false, ())
 else
 (lveqRegionS_0 N N (x.1, x.2.1, (0 : Int), ())).bind fun o6 =>
 Sum.elim (fun o7 =>
  some (true, ())) (fun o8 =>
  some (o8.1, ())) o6
noncomputable def conveqRegionS (N : Nat) : Con := { f := 20, din := dinveqRegionS, outs := outveqRegionS, F := FveqRegionS N }
noncomputable def XveqRegionS (N : Nat) : Ctx := { E := EveqRegionS N, H := HveqRegionS, lp := [(0, { hd := dveqRegionS_0, outs := oveqRegionS_0, run := fun v => lveqRegionS_0 N N v })], jn := [] }
noncomputable def bveqRegionS_0 : Code := loopBody (codeOf Try.f20) 0
theorem FveqRegionS_eq (N : Nat) (x : ((List tyq3) × ((List tyq3) × Unit))) : evFn (XveqRegionS N) Try.f20 dinveqRegionS outveqRegionS x = FveqRegionS N x := by kernel_rfl
theorem lveqRegionS_0_eq (N n : Nat) (v : ((List tyq3) × ((List tyq3) × (Int × Unit)))) : lveqRegionS_0 N (n + 1) v = ev (XveqRegionS N) bveqRegionS_0 (roundK dveqRegionS_0 oveqRegionS_0 (lveqRegionS_0 N n)) (dveqRegionS_0.mk' v) := by kernel_rfl
theorem cxveqRegionS (N : Nat) : CtxOk Try.prog (XveqRegionS N) := ⟨⟨TE_ok, List.forall_mem_cons.2 ⟨(specveqRegion N), fun k hk => absurd hk List.not_mem_nil⟩⟩, mixed⟩
theorem lpveqRegionS_0 (N : Nat) : LoopOk Try.prog { hd := dveqRegionS_0, outs := oveqRegionS_0, run := fun v => lveqRegionS_0 N N v } bveqRegionS_0 :=
 loop_fuel (d := dveqRegionS_0) (os := oveqRegionS_0) (cxveqRegionS N) (loops_at (ids := []) (by kernel_rfl) (trivial)) (lveqRegionS_0 N) (fun _ => rfl) (fun n v => lveqRegionS_0_eq N n v) (fun _ => N)
theorem specveqRegionS (N : Nat) : Spec Try.prog (conveqRegionS N) :=
 Spec.of_eq (fn_spec (cxveqRegionS N) (f := 20) (fn := Try.f20) (c := codeOf Try.f20) (by kernel_rfl) (by kernel_rfl) (by kernel_rfl) (loops_at (ids := [0]) (by kernel_rfl) ⟨lp_of (lpveqRegionS_0 N), trivial⟩) (by kernel_rfl)) (fun x r h => (FveqRegionS_eq N x).trans h)
noncomputable def dinveqBoolS : Desc := { n := 2, regs := [.one (.val (.sl .bool)), .one (.val (.sl .bool))], bx := [], pins := [] }
noncomputable def outveqBoolS : Outs := [(.ret, { n := 1, regs := [.one (.val .bool)], bx := [], pins := [] })]
noncomputable def HveqBoolS : Hints := []
noncomputable def EveqBoolS (_N : Nat) : Env := { te := TE, cs := [] }
noncomputable def dveqBoolS_0 : Desc := { n := 26, regs := [.one (.val (.sl .bool)), .one (.val (.sl .bool)), u, u, u, .one (.val (.int .i64))], bx := [], pins := [] }
noncomputable def oveqBoolS_0 : Outs := [(.exit 0, { n := 26, regs := [], bx := [], pins := [] }), (.ret, { n := 26, regs := [u, u, u, u, .one (.val .bool)], bx := [], pins := [] })]
noncomputable def lveqBoolS_0 (N : Nat) : Nat → ((List Bool) × ((List Bool) × (Int × Unit))) → Option (Unit ⊕ (Bool × Unit))
 | 0, _ => none
 | n + 1, v =>
  let y2 := decide (v.2.2.1 < (v.1.length : Int))
  bif y2 then
   bif decide (0 ≤ v.2.2.1) then
   bif decide (v.2.2.1.toNat < v.1.length) then
   bif decide (0 ≤ v.2.2.1) then
   bif decide (v.2.2.1.toNat < v.2.1.length) then
   let y3 := !((v.1.getD v.2.2.1.toNat false) == (v.2.1.getD v.2.2.1.toNat false))
   bif y3 then
    some (.inr ((false, ())))
   else
   lveqBoolS_0 N n (v.1, v.2.1, w64 (v.2.2.1 + (1 : Int)), ())
   else none
   else none
   else none
   else none
  else
  some (.inl ())
noncomputable def FveqBoolS (N : Nat) (x : ((List Bool) × ((List Bool) × Unit))) : Option (Bool × Unit) :=
 let y1 := (x.1.length : Int) != (x.2.1.length : Int)
 bif y1 then
  some (false, ())
 else
 (lveqBoolS_0 N N (x.1, x.2.1, (0 : Int), ())).bind fun o4 =>
 Sum.elim (fun o5 =>
  some (true, ())) (fun o6 =>
  some (o6.1, ())) o4
noncomputable def conveqBoolS (N : Nat) : Con := { f := 48, din := dinveqBoolS, outs := outveqBoolS, F := FveqBoolS N }
noncomputable def XveqBoolS (N : Nat) : Ctx := { E := EveqBoolS N, H := HveqBoolS, lp := [(0, { hd := dveqBoolS_0, outs := oveqBoolS_0, run := fun v => lveqBoolS_0 N N v })], jn := [] }
noncomputable def bveqBoolS_0 : Code := loopBody (codeOf Try.f48) 0
theorem FveqBoolS_eq (N : Nat) (x : ((List Bool) × ((List Bool) × Unit))) : evFn (XveqBoolS N) Try.f48 dinveqBoolS outveqBoolS x = FveqBoolS N x := by kernel_rfl
theorem lveqBoolS_0_eq (N n : Nat) (v : ((List Bool) × ((List Bool) × (Int × Unit)))) : lveqBoolS_0 N (n + 1) v = ev (XveqBoolS N) bveqBoolS_0 (roundK dveqBoolS_0 oveqBoolS_0 (lveqBoolS_0 N n)) (dveqBoolS_0.mk' v) := by kernel_rfl
theorem cxveqBoolS (N : Nat) : CtxOk Try.prog (XveqBoolS N) := ⟨⟨TE_ok, fun k hk => absurd hk List.not_mem_nil⟩, mixed⟩
theorem lpveqBoolS_0 (N : Nat) : LoopOk Try.prog { hd := dveqBoolS_0, outs := oveqBoolS_0, run := fun v => lveqBoolS_0 N N v } bveqBoolS_0 :=
 loop_fuel (d := dveqBoolS_0) (os := oveqBoolS_0) (cxveqBoolS N) (loops_at (ids := []) (by kernel_rfl) (trivial)) (lveqBoolS_0 N) (fun _ => rfl) (fun n v => lveqBoolS_0_eq N n v) (fun _ => N)
theorem specveqBoolS (N : Nat) : Spec Try.prog (conveqBoolS N) :=
 Spec.of_eq (fn_spec (cxveqBoolS N) (f := 48) (fn := Try.f48) (c := codeOf Try.f48) (by kernel_rfl) (by kernel_rfl) (by kernel_rfl) (loops_at (ids := [0]) (by kernel_rfl) ⟨lp_of (lpveqBoolS_0 N), trivial⟩) (by kernel_rfl)) (fun x r h => (FveqBoolS_eq N x).trans h)
noncomputable def dinveqThread : Desc := { n := 2, regs := [.one (.val tyq11), .one (.val tyq11)], bx := [], pins := [] }
noncomputable def outveqThread : Outs := [(.ret, { n := 1, regs := [.one (.val .bool)], bx := [], pins := [] })]
noncomputable def HveqThread : Hints := [(0, [(0, { fz := true }), (1, { fz := true })])]
noncomputable def EveqThread (N : Nat) : Env := { te := TE, cs := [conveqIntS N] }
noncomputable def FveqThread (N : Nat) (x : (tyq4 × (tyq4 × Unit))) : Option (Bool × Unit) :=
 (FveqIntS N (x.1.1, x.2.1.1, ())).bind fun r1 =>
 bif !r1.1 then
  some (false, ())
 else
 bif x.1.2.1 != x.2.1.2.1 then
  some (false, ())
 else
 bif !(x.1.2.2.1 == x.2.1.2.2.1) then
  some (false, ())
 else
 bif x.1.2.2.2.1 != x.2.1.2.2.2.1 then
  some (false, ())
 else
 some (true, ())
noncomputable def conveqThread (N : Nat) : Con := { f := 112, din := dinveqThread, outs := outveqThread, F := FveqThread N }
noncomputable def XveqThread (N : Nat) : Ctx := { E := EveqThread N, H := HveqThread, lp := [], jn := [] }
theorem FveqThread_eq (N : Nat) (x : (tyq4 × (tyq4 × Unit))) : evFn (XveqThread N) Try.f112 dinveqThread outveqThread x = FveqThread N x := by kernel_rfl
theorem cxveqThread (N : Nat) : CtxOk Try.prog (XveqThread N) := ⟨⟨TE_ok, List.forall_mem_cons.2 ⟨(specveqIntS N), fun k hk => absurd hk List.not_mem_nil⟩⟩, mixed⟩
theorem specveqThread (N : Nat) : Spec Try.prog (conveqThread N) :=
 Spec.of_eq (fn_spec (cxveqThread N) (f := 112) (fn := Try.f112) (c := codeOf Try.f112) (by kernel_rfl) (by kernel_rfl) (by kernel_rfl) (loops_at (ids := []) (by kernel_rfl) (trivial)) (by kernel_rfl)) (fun x r h => (FveqThread_eq N x).trans h)
noncomputable def dinveqThreadS : Desc := { n := 2, regs := [.one (.val (.sl tyq11)), .one (.val (.sl tyq11))], bx := [], pins := [] }
noncomputable def outveqThreadS : Outs := [(.ret, { n := 1, regs := [.one (.val .bool)], bx := [], pins := [] })]
noncomputable def HveqThreadS : Hints := []
noncomputable def EveqThreadS (N : Nat) : Env := { te := TE, cs := [conveqThread N] }
noncomputable def dveqThreadS_0 : Desc := { n := 27, regs := [.one (.val (.sl tyq11)), .one (.val (.sl tyq11)), u, u, u, .one (.val (.int .i64))], bx := [], pins := [] }
noncomputable def oveqThreadS_0 : Outs := [(.exit 0, { n := 27, regs := [], bx := [], pins := [] }), (.ret, { n := 27, regs := [u, u, u, u, .one (.val .bool)], bx := [], pins := [] })]
noncomputable def lveqThreadS_0 (N : Nat) : Nat → ((List tyq4) × ((List tyq4) × (Int × Unit))) → Option (Unit ⊕ (Bool × Unit))
 | 0, _ => none
 | n + 1, v =>
  let y2 := decide (v.2.2.1 < (v.1.length : Int))
  bif y2 then
   bif decide (0 ≤ v.2.2.1) then
   bif decide (v.2.2.1.toNat < v.1.length) then
   let y3 := v.1.getD v.2.2.1.toNat (([] : (List Int)), (0 : Int), false, (0 : Int), ())
   bif decide (0 ≤ v.2.2.1) then
   bif decide (v.2.2.1.toNat < v.2.1.length) then
   let y4 := v.2.1.getD v.2.2.1.toNat (([] : (List Int)), (0 : Int), false, (0 : Int), ())
   (FveqThread N (y3, y4, ())).bind fun r5 =>
   bif !r5.1 then
    some (.inr ((false, ())))
   else
   lveqThreadS_0 N n (v.1, v.2.1, w64 (v.2.2.1 + (1 : Int)), ())
   else none
   else none
   else none
   else none
  else
  some (.inl ())
noncomputable def FveqThreadS (N : Nat) (x : ((List tyq4) × ((List tyq4) × Unit))) : Option (Bool × Unit) :=
 let y1 := (x.1.length : Int) != (x.2.1.length : Int)
 bif y1 then
  some (false, ())
 else
 (lveqThreadS_0 N N (x.1, x.2.1, (0 : Int), ())).bind fun o6 =>
 Sum.elim (fun o7 =>
  some (true, ())) (fun o8 =>
  some (o8.1, ())) o6
noncomputable def conveqThreadS (N : Nat) : Con := { f := 72, din := dinveqThreadS, outs := outveqThreadS, F := FveqThreadS N }
noncomputable def XveqThreadS (N : Nat) : Ctx := { E := EveqThreadS N, H := HveqThreadS, lp := [(0, { hd := dveqThreadS_0, outs := oveqThreadS_0, run := fun v => lveqThreadS_0 N N v })], jn := [] }
noncomputable def bveqThreadS_0 : Code := loopBody (codeOf Try.f72) 0
theorem FveqThreadS_eq (N : Nat) (x : ((List tyq4) × ((List tyq4) × Unit))) : evFn (XveqThreadS N) Try.f72 dinveqThreadS outveqThreadS x = FveqThreadS N x := by kernel_rfl
theorem lveqThreadS_0_eq (N n : Nat) (v : ((List tyq4) × ((List tyq4) × (Int × Unit)))) : lveqThreadS_0 N (n + 1) v = ev (XveqThreadS N) bveqThreadS_0 (roundK dveqThreadS_0 oveqThreadS_0 (lveqThreadS_0 N n)) (dveqThreadS_0.mk' v) := by kernel_rfl
theorem cxveqThreadS (N : Nat) : CtxOk Try.prog (XveqThreadS N) := ⟨⟨TE_ok, List.forall_mem_cons.2 ⟨(specveqThread N), fun k hk => absurd hk List.not_mem_nil⟩⟩, mixed⟩
theorem lpveqThreadS_0 (N : Nat) : LoopOk Try.prog { hd := dveqThreadS_0, outs := oveqThreadS_0, run := fun v => lveqThreadS_0 N N v } bveqThreadS_0 :=
 loop_fuel (d := dveqThreadS_0) (os := oveqThreadS_0) (cxveqThreadS N) (loops_at (ids := []) (by kernel_rfl) (trivial)) (lveqThreadS_0 N) (fun _ => rfl) (fun n v => lveqThreadS_0_eq N n v) (fun _ => N)
theorem specveqThreadS (N : Nat) : Spec Try.prog (conveqThreadS N) :=
 Spec.of_eq (fn_spec (cxveqThreadS N) (f := 72) (fn := Try.f72) (c := codeOf Try.f72) (by kernel_rfl) (by kernel_rfl) (by kernel_rfl) (loops_at (ids := [0]) (by kernel_rfl) ⟨lp_of (lpveqThreadS_0 N), trivial⟩) (by kernel_rfl)) (fun x r h => (FveqThreadS_eq N x).trans h)
noncomputable def dinveqState : Desc := { n := 2, regs := [.one (.val tyq8), .one (.val tyq8)], bx := [], pins := [] }
noncomputable def outveqState : Outs := [(.ret, { n := 1, regs := [.one (.val .bool)], bx := [], pins := [] })]
noncomputable def HveqState : Hints := [(0, [(0, { fz := true }), (1, { fz := true })]),
 (3, [(4, { con := 1 })]),
 (5, [(4, { con := 2 })]),
 (17, [(4, { con := 3 })])]
noncomputable def EveqState (N : Nat) : Env := { te := TE, cs := [conveqIntS N, conveqRegionS N, conveqBoolS N, conveqThreadS N] }
noncomputable def FveqState (N : Nat) (x : (tyq1 × (tyq1 × Unit))) : Option (Bool × Unit) :=
 (FveqIntS N (x.1.1, x.2.1.1, ())).bind fun r1 =>
 bif !r1.1 then
  some (false, ())
 else
 (FveqRegionS N (x.1.2.1, x.2.1.2.1, ())).bind fun r2 =>
 bif !r2.1 then
  some (false, ())
 else
 (FveqBoolS N (x.1.2.2.1, x.2.1.2.2.1, ())).bind fun r3 =>
 bif !r3.1 then
  some (false, ())
 else
 bif x.1.2.2.2.1 != x.2.1.2.2.2.1 then
  some (false, ())
 else
 bif !(x.1.2.2.2.2.1 == x.2.1.2.2.2.2.1) then
  some (false, ())
 else
 let y4 := !(x.1.2.2.2.2.2.1 == x.2.1.2.2.2.2.2.1)
 bif y4 then
  some (false, ())
 else
 let y5 := !(x.1.2.2.2.2.2.2.1 == x.2.1.2.2.2.2.2.2.1)
 bif y5 then
  some (false, ())
 else
 let y6 := x.1.2.2.2.2.2.2.2.1 != x.2.1.2.2.2.2.2.2.2.1
 bif y6 then
  some (false, ())
 else
 (FveqThreadS N (x.1.2.2.2.2.2.2.2.2.1, x.2.1.2.2.2.2.2.2.2.2.1, ())).bind fun r7 =>
 bif !r7.1 then
  some (false, ())
 else
 (FveqIntS N (x.1.2.2.2.2.2.2.2.2.2.1, x.2.1.2.2.2.2.2.2.2.2.2.1, ())).bind fun r8 =>
 bif !r8.1 then
  some (false, ())
 else
 (FveqIntS N (x.1.2.2.2.2.2.2.2.2.2.2.1, x.2.1.2.2.2.2.2.2.2.2.2.2.1, ())).bind fun r9 =>
 bif !r9.1 then
  some (false, ())
 else
 let y10 := x.1.2.2.2.2.2.2.2.2.2.2.2.1 != x.2.1.2.2.2.2.2.2.2.2.2.2.2.1
 bif y10 then
  some (false, ())
 else
 let y11 := x.1.2.2.2.2.2.2.2.2.2.2.2.2.1 != x.2.1.2.2.2.2.2.2.2.2.2.2.2.2.1
 bif y11 then
  some (false, ())
 else
 some (true, ())
noncomputable def conveqState (N : Nat) : Con := { f := 27, din := dinveqState, outs := outveqState, F := FveqState N }
noncomputable def XveqState (N : Nat) : Ctx := { E := EveqState N, H := HveqState, lp := [], jn := [] }
theorem FveqState_eq (N : Nat) (x : (tyq1 × (tyq1 × Unit))) : evFn (XveqState N) Try.f27 dinveqState outveqState x = FveqState N x := by kernel_rfl
theorem cxveqState (N : Nat) : CtxOk Try.prog (XveqState N) := ⟨⟨TE_ok, List.forall_mem_cons.2 ⟨(specveqIntS N), List.forall_mem_cons.2 ⟨(specveqRegionS N), List.forall_mem_cons.2 ⟨(specveqBoolS N), List.forall_mem_cons.2 ⟨(specveqThreadS N), fun k hk => absurd hk List.not_mem_nil⟩⟩⟩⟩⟩, mixed⟩
theorem specveqState (N : Nat) : Spec Try.prog (conveqState N) :=
 Spec.of_eq (fn_spec (cxveqState N) (f := 27) (fn := Try.f27) (c := codeOf Try.f27) (by kernel_rfl) (by kernel_rfl) (by kernel_rfl) (loops_at (ids := []) (by kernel_rfl) (trivial)) (by kernel_rfl)) (fun x r h => (FveqState_eq N x).trans h)
noncomputable def dinvmarkIntS : Desc := { n := 2, regs := [.one (.lit (.row 0)), .one (.val (.int .i64))], bx := [(0, .row (.int .i64))], pins := [] }
noncomputable def outvmarkIntS : Outs := [(.ret, { n := 1, regs := [.one (.val (.int .i64))], bx := [(0, .row (.int .i64))], pins := [.one (.lit (.row 0))] })]
noncomputable def HvmarkIntS : Hints := []
noncomputable def EvmarkIntS (_N : Nat) : Env := { te := TE, cs := [] }
noncomputable def dvmarkIntS_0 : Desc := { n := 19, regs := [.one (.lit (.row 0)), .one (.val (.int .i64)), u, u, u, .one (.val (.int .i64))], bx := [(0, .row (.int .i64))], pins := [.one (.lit (.row 0))] }
noncomputable def ovmarkIntS_0 : Outs := [(.exit 0, { n := 19, regs := [u, .one (.val (.int .i64))], bx := [(0, .row (.int .i64))], pins := [.one (.lit (.row 0))] })]
noncomputable def lvmarkIntS_0 (N : Nat) : Nat → (Int × (Int × ((List Int) × Unit))) → Option (Int × ((List Int) × Unit))
 | 0, _ => none
 | n + 1, v =>
  let y1 := decide (v.2.1 < (v.2.2.1.length : Int))
  bif y1 then
   bif decide (0 ≤ v.2.1) then
   bif decide (v.2.1.toNat < v.2.2.1.length) then
   lvmarkIntS_0 N n (w64 (v.1 + (1 : Int)), w64 (v.2.1 + (1 : Int)), v.2.2.1.set v.2.1.toNat v.1, ())
   else none
   else none
  else
  some (v.1, v.2.2.1, ())
noncomputable def FvmarkIntS (N : Nat) (x : (Int × ((List Int) × Unit))) : Option (Int × ((List Int) × Unit)) :=
 (lvmarkIntS_0 N N (x.1, (0 : Int), x.2.1, ())).bind fun o2 =>
 some (o2.1, o2.2.1, ())
noncomputable def convmarkIntS (N : Nat) : Con := { f := 22, din := dinvmarkIntS, outs := outvmarkIntS, F := FvmarkIntS N }
noncomputable def XvmarkIntS (N : Nat) : Ctx := { E := EvmarkIntS N, H := HvmarkIntS, lp := [(0, { hd := dvmarkIntS_0, outs := ovmarkIntS_0, run := fun v => lvmarkIntS_0 N N v })], jn := [] }
noncomputable def bvmarkIntS_0 : Code := loopBody (codeOf Try.f22) 0
theorem FvmarkIntS_eq (N : Nat) (x : (Int × ((List Int) × Unit))) : evFn (XvmarkIntS N) Try.f22 dinvmarkIntS outvmarkIntS x = FvmarkIntS N x := by kernel_rfl
theorem lvmarkIntS_0_eq (N n : Nat) (v : (Int × (Int × ((List Int) × Unit)))) : lvmarkIntS_0 N (n + 1) v = ev (XvmarkIntS N) bvmarkIntS_0 (roundK dvmarkIntS_0 ovmarkIntS_0 (lvmarkIntS_0 N n)) (dvmarkIntS_0.mk' v) := by kernel_rfl
theorem cxvmarkIntS (N : Nat) : CtxOk Try.prog (XvmarkIntS N) := ⟨⟨TE_ok, fun k hk => absurd hk List.not_mem_nil⟩, mixed⟩
theorem lpvmarkIntS_0 (N : Nat) : LoopOk Try.prog { hd := dvmarkIntS_0, outs := ovmarkIntS_0, run := fun v => lvmarkIntS_0 N N v } bvmarkIntS_0 :=
 loop_fuel (d := dvmarkIntS_0) (os := ovmarkIntS_0) (cxvmarkIntS N) (loops_at (ids := []) (by kernel_rfl) (trivial)) (lvmarkIntS_0 N) (fun _ => rfl) (fun n v => lvmarkIntS_0_eq N n v) (fun _ => N)
theorem specvmarkIntS (N : Nat) : Spec Try.prog (convmarkIntS N) :=
 Spec.of_eq (fn_spec (cxvmarkIntS N) (f := 22) (fn := Try.f22) (c := codeOf Try.f22) (by kernel_rfl) (by kernel_rfl) (by kernel_rfl) (loops_at (ids := [0]) (by kernel_rfl) ⟨lp_of (lpvmarkIntS_0 N), trivial⟩) (by kernel_rfl)) (fun x r h => (FvmarkIntS_eq N x).trans h)
noncomputable def dinvmarkRegionS : Desc := { n := 2, regs := [.one (.lit (.row 0)), .one (.val (.int .i64))], bx := [(0, .row tyq10)], pins := [] }
noncomputable def outvmarkRegionS : Outs := [(.ret, { n := 1, regs := [.one (.val (.int .i64))], bx := [(0, .row tyq10)], pins := [.one (.lit (.row 0))] })]
noncomputable def HvmarkRegionS : Hints := []
noncomputable def EvmarkRegionS (_N : Nat) : Env := { te := TE, cs := [] }
noncomputable def dvmarkRegionS_0 : Desc := { n := 48, regs := [.one (.lit (.row 0)), .one (.val (.int .i64)), u, u, u, .one (.val (.int .i64))], bx := [(0, .row tyq10)], pins := [.one (.lit (.row 0))] }
noncomputable def ovmarkRegionS_0 : Outs := [(.exit 0, { n := 48, regs := [u, .one (.val (.int .i64))], bx := [(0, .row tyq10)], pins := [.one (.lit (.row 0))] })]
noncomputable def lvmarkRegionS_0 (N : Nat) : Nat → (Int × (Int × ((List tyq3) × Unit))) → Option (Int × ((List tyq3) × Unit))
 | 0, _ => none
 | n + 1, v =>
  let y1 := decide (v.2.1 < (v.2.2.1.length : Int))
  bif y1 then
   bif decide (0 ≤ v.2.1) then
   bif decide (v.2.1.toNat < v.2.2.1.length) then
   let y2 := v.2.2.1.set v.2.1.toNat (v.1, (v.2.2.1.getD v.2.1.toNat ((0 : Int), (0 : Int), (0 : Int), (0 : Int), (0 : Int), ())).2)
   bif decide (0 ≤ v.2.1) then
   bif decide (v.2.1.toNat < y2.length) then
   let y3 := y2.set v.2.1.toNat ((y2.getD v.2.1.toNat ((0 : Int), (0 : Int), (0 : Int), (0 : Int), (0 : Int), ())).1, w64 (v.1 + (1 : Int)), ((y2.getD v.2.1.toNat ((0 : Int), (0 : Int), (0 : Int), (0 : Int), (0 : Int), ())).2).2)
   let y4 := w64 ((w64 (v.1 + (1 : Int))) + (1 : Int))
   bif decide (0 ≤ v.2.1) then
   bif decide (v.2.1.toNat < y3.length) then
   let y5 := y3.set v.2.1.toNat ((y3.getD v.2.1.toNat ((0 : Int), (0 : Int), (0 : Int), (0 : Int), (0 : Int), ())).1, ((y3.getD v.2.1.toNat ((0 : Int), (0 : Int), (0 : Int), (0 : Int), (0 : Int), ())).2).1, y4, (((y3.getD v.2.1.toNat ((0 : Int), (0 : Int), (0 : Int), (0 : Int), (0 : Int), ())).2).2).2)
   bif decide (0 ≤ v.2.1) then
   bif decide (v.2.1.toNat < y5.length) then
   let y6 := y5.set v.2.1.toNat ((y5.getD v.2.1.toNat ((0 : Int), (0 : Int), (0 : Int), (0 : Int), (0 : Int), ())).1, ((y5.getD v.2.1.toNat ((0 : Int), (0 : Int), (0 : Int), (0 : Int), (0 : Int), ())).2).1, (((y5.getD v.2.1.toNat ((0 : Int), (0 : Int), (0 : Int), (0 : Int), (0 : Int), ())).2).2).1, w64 (y4 + (1 : Int)), ((((y5.getD v.2.1.toNat ((0 : Int), (0 : Int), (0 : Int), (0 : Int), (0 : Int), ())).2).2).2).2)
   let y7 := w64 ((w64 (y4 + (1 : Int))) + (1 : Int))
   bif decide (0 ≤ v.2.1) then
   bif decide (v.2.1.toNat < y6.length) then
   let y8 := y6.set v.2.1.toNat ((y6.getD v.2.1.toNat ((0 : Int), (0 : Int), (0 : Int), (0 : Int), (0 : Int), ())).1, ((y6.getD v.2.1.toNat ((0 : Int), (0 : Int), (0 : Int), (0 : Int), (0 : Int), ())).2).1, (((y6.getD v.2.1.toNat ((0 : Int), (0 : Int), (0 : Int), (0 : Int), (0 : Int), ())).2).2).1, ((((y6.getD v.2.1.toNat ((0 : Int), (0 : Int), (0 : Int), (0 : Int), (0 : Int), ())).2).2).2).1, y7, (((((y6.getD v.2.1.toNat ((0 : Int), (0 : Int), (0 : Int), (0 : Int), (0 : Int), ())).2).2).2).2).2)
   lvmarkRegionS_0 N n (w64 (y7 + (1 : Int)), w64 (v.2.1 + (1 : Int)), y8, ())
   else none
   else none
   else none
   else none
   else none
   else none
   else none
   else none
   else none
   else none
  else
  some (v.1, v.2.2.1, ())
noncomputable def FvmarkRegionS (N : Nat) (x : (Int × ((List tyq3) × Unit))) : Option (Int × ((List tyq3) × Unit)) :=
 (lvmarkRegionS_0 N N (x.1, (0 : Int), x.2.1, ())).bind fun o9 =>
 some (o9.1, o9.2.1, ())
noncomputable def convmarkRegionS (N : Nat) : Con := { f := 21, din := dinvmarkRegionS, outs := outvmarkRegionS, F := FvmarkRegionS N }
noncomputable def XvmarkRegionS (N : Nat) : Ctx := { E := EvmarkRegionS N, H := HvmarkRegionS, lp := [(0, { hd := dvmarkRegionS_0, outs := ovmarkRegionS_0, run := fun v => lvmarkRegionS_0 N N v })], jn := [] }
noncomputable def bvmarkRegionS_0 : Code := loopBody (codeOf Try.f21) 0
theorem FvmarkRegionS_eq (N : Nat) (x : (Int × ((List tyq3) × Unit))) : evFn (XvmarkRegionS N) Try.f21 dinvmarkRegionS outvmarkRegionS x = FvmarkRegionS N x := by kernel_rfl
theorem lvmarkRegionS_0_eq (N n : Nat) (v : (Int × (Int × ((List tyq3) × Unit)))) : lvmarkRegionS_0 N (n + 1) v = ev (XvmarkRegionS N) bvmarkRegionS_0 (roundK dvmarkRegionS_0 ovmarkRegionS_0 (lvmarkRegionS_0 N n)) (dvmarkRegionS_0.mk' v) := by kernel_rfl
theorem cxvmarkRegionS (N : Nat) : CtxOk Try.prog (XvmarkRegionS N) := ⟨⟨TE_ok, fun k hk => absurd hk List.not_mem_nil⟩, mixed⟩
theorem lpvmarkRegionS_0 (N : Nat) : LoopOk Try.prog { hd := dvmarkRegionS_0, outs := ovmarkRegionS_0, run := fun v => lvmarkRegionS_0 N N v } bvmarkRegionS_0 :=
 loop_fuel (d := dvmarkRegionS_0) (os := ovmarkRegionS_0) (cxvmarkRegionS N) (loops_at (ids := []) (by kernel_rfl) (trivial)) (lvmarkRegionS_0 N) (fun _ => rfl) (fun n v => lvmarkRegionS_0_eq N n v) (fun _ => N)
theorem specvmarkRegionS (N : Nat) : Spec Try.prog (convmarkRegionS N) :=
 Spec.of_eq (fn_spec (cxvmarkRegionS N) (f := 21) (fn := Try.f21) (c := codeOf Try.f21) (by kernel_rfl) (by kernel_rfl) (by kernel_rfl) (loops_at (ids := [0]) (by kernel_rfl) ⟨lp_of (lpvmarkRegionS_0 N), trivial⟩) (by kernel_rfl)) (fun x r h => (FvmarkRegionS_eq N x).trans h)
noncomputable def dinvmarkBoolS : Desc := { n := 2, regs := [.one (.lit (.row 0)), .one (.val (.int .i64))], bx := [(0, .row .bool)], pins := [] }
noncomputable def outvmarkBoolS : Outs := [(.ret, { n := 1, regs := [.one (.val (.int .i64))], bx := [(0, .row .bool)], pins := [.one (.lit (.row 0))] })]
noncomputable def HvmarkBoolS : Hints := []
noncomputable def EvmarkBoolS (_N : Nat) : Env := { te := TE, cs := [] }
noncomputable def dvmarkBoolS_0 : Desc := { n := 21, regs := [.one (.lit (.row 0)), .one (.val (.int .i64)), u, u, u, .one (.val (.int .i64))], bx := [(0, .row .bool)], pins := [.one (.lit (.row 0))] }
noncomputable def ovmarkBoolS_0 : Outs := [(.exit 0, { n := 21, regs := [u, .one (.val (.int .i64))], bx := [(0, .row .bool)], pins := [.one (.lit (.row 0))] })]
noncomputable def lvmarkBoolS_0 (N : Nat) : Nat → (Int × (Int × ((List Bool) × Unit))) → Option (Int × ((List Bool) × Unit))
 | 0, _ => none
 | n + 1, v =>
  let y1 := decide (v.2.1 < (v.2.2.1.length : Int))
  bif y1 then
   bif decide ((3 : Int) = 0) then
    none
   else
   let y2 := (Int.tmod v.1 (3 : Int)) == (0 : Int)
   bif decide (0 ≤ v.2.1) then
   bif decide (v.2.1.toNat < v.2.2.1.length) then
   lvmarkBoolS_0 N n (w64 (v.1 + (1 : Int)), w64 (v.2.1 + (1 : Int)), v.2.2.1.set v.2.1.toNat y2, ())
   else none
   else none
  else
  some (v.1, v.2.2.1, ())
noncomputable def FvmarkBoolS (N : Nat) (x : (Int × ((List Bool) × Unit))) : Option (Int × ((List Bool) × Unit)) :=
 (lvmarkBoolS_0 N N (x.1, (0 : Int), x.2.1, ())).bind fun o3 =>
 some (o3.1, o3.2.1, ())
noncomputable def convmarkBoolS (N : Nat) : Con := { f := 49, din := dinvmarkBoolS, outs := outvmarkBoolS, F := FvmarkBoolS N }
noncomputable def XvmarkBoolS (N : Nat) : Ctx := { E := EvmarkBoolS N, H := HvmarkBoolS, lp := [(0, { hd := dvmarkBoolS_0, outs := ovmarkBoolS_0, run := fun v => lvmarkBoolS_0 N N v })], jn := [] }
noncomputable def bvmarkBoolS_0 : Code := loopBody (codeOf Try.f49) 0
theorem FvmarkBoolS_eq (N : Nat) (x : (Int × ((List Bool) × Unit))) : evFn (XvmarkBoolS N) Try.f49 dinvmarkBoolS outvmarkBoolS x = FvmarkBoolS N x := by kernel_rfl
theorem lvmarkBoolS_0_eq (N n : Nat) (v : (Int × (Int × ((List Bool) × Unit)))) : lvmarkBoolS_0 N (n + 1) v = ev (XvmarkBoolS N) bvmarkBoolS_0 (roundK dvmarkBoolS_0 ovmarkBoolS_0 (lvmarkBoolS_0 N n)) (dvmarkBoolS_0.mk' v) := by kernel_rfl
theorem cxvmarkBoolS (N : Nat) : CtxOk Try.prog (XvmarkBoolS N) := ⟨⟨TE_ok, fun k hk => absurd hk List.not_mem_nil⟩, mixed⟩
theorem lpvmarkBoolS_0 (N : Nat) : LoopOk Try.prog { hd := dvmarkBoolS_0, outs := ovmarkBoolS_0, run := fun v => lvmarkBoolS_0 N N v } bvmarkBoolS_0 :=
 loop_fuel (d := dvmarkBoolS_0) (os := ovmarkBoolS_0) (cxvmarkBoolS N) (loops_at (ids := []) (by kernel_rfl) (trivial)) (lvmarkBoolS_0 N) (fun _ => rfl) (fun n v => lvmarkBoolS_0_eq N n v) (fun _ => N)
theorem specvmarkBoolS (N : Nat) : Spec Try.prog (convmarkBoolS N) :=
 Spec.of_eq (fn_spec (cxvmarkBoolS N) (f := 49) (fn := Try.f49) (c := codeOf Try.f49) (by kernel_rfl) (by kernel_rfl) (by kernel_rfl) (loops_at (ids := [0]) (by kernel_rfl) ⟨lp_of (lpvmarkBoolS_0 N), trivial⟩) (by kernel_rfl)) (fun x r h => (FvmarkBoolS_eq N x).trans h)
noncomputable def dinvmarkThreadS : Desc := { n := 2, regs := [.one (.lit (.row 0)), .one (.val (.int .i64))], bx := [(0, .row tyq11)], pins := [] }
noncomputable def outvmarkThreadS : Outs := [(.ret, { n := 1, regs := [.one (.val (.int .i64))], bx := [(0, .row tyq11)], pins := [.one (.lit (.row 0))] })]
noncomputable def HvmarkThreadS : Hints := [(4, [(6, { sg := [(0, 1051624)], pre := [.take 16 1051624], post := [.give 1051624 0] })])]
noncomputable def EvmarkThreadS (N : Nat) : Env := { te := TE, cs := [convmarkIntS N] }
noncomputable def dvmarkThreadS_0 : Desc := { n := 43, regs := [.one (.lit (.row 0)), .one (.val (.int .i64)), u, u, u, .one (.val (.int .i64))], bx := [(0, .row tyq11)], pins := [.one (.lit (.row 0))] }
noncomputable def ovmarkThreadS_0 : Outs := [(.exit 0, { n := 43, regs := [u, .one (.val (.int .i64))], bx := [(0, .row tyq11)], pins := [.one (.lit (.row 0))] })]
noncomputable def lvmarkThreadS_0 (N : Nat) : Nat → (Int × (Int × ((List tyq4) × Unit))) → Option (Int × ((List tyq4) × Unit))
 | 0, _ => none
 | n + 1, v =>
  let y1 := decide (v.2.1 < (v.2.2.1.length : Int))
  bif y1 then
   bif decide (0 ≤ v.2.1) then
   bif decide (v.2.1.toNat < v.2.2.1.length) then
   (FvmarkIntS N (v.1, (v.2.2.1.getD v.2.1.toNat (([] : (List Int)), (0 : Int), false, (0 : Int), ())).1, ())).bind fun r2 =>
   bif decide (0 ≤ v.2.1) then
   bif decide (v.2.1.toNat < (v.2.2.1.set v.2.1.toNat (r2.2.1, (v.2.2.1.getD v.2.1.toNat (([] : (List Int)), (0 : Int), false, (0 : Int), ())).2)).length) then
   let y3 := (v.2.2.1.set v.2.1.toNat (r2.2.1, (v.2.2.1.getD v.2.1.toNat (([] : (List Int)), (0 : Int), false, (0 : Int), ())).2)).set v.2.1.toNat (((v.2.2.1.set v.2.1.toNat (r2.2.1, (v.2.2.1.getD v.2.1.toNat (([] : (List Int)), (0 : Int), false, (0 : Int), ())).2)).getD v.2.1.toNat (([] : (List Int)), (0 : Int), false, (0 : Int), ())).1, r2.1, (((v.2.2.1.set v.2.1.toNat (r2.2.1, (v.2.2.1.getD v.2.1.toNat (([] : (List Int)), (0 : Int), false, (0 : Int), ())).2)).getD v.2.1.toNat (([] : (List Int)), (0 : Int), false, (0 : Int), ())).2).2)
   bif decide ((3 : Int) = 0) then
    none
   else
   let y4 := Int.tmod (w64 (r2.1 + (1 : Int))) (3 : Int)
   bif decide (0 ≤ v.2.1) then
   bif decide (v.2.1.toNat < y3.length) then
   let y5 := y3.set v.2.1.toNat ((y3.getD v.2.1.toNat (([] : (List Int)), (0 : Int), false, (0 : Int), ())).1, ((y3.getD v.2.1.toNat (([] : (List Int)), (0 : Int), false, (0 : Int), ())).2).1, y4 == (0 : Int), (((y3.getD v.2.1.toNat (([] : (List Int)), (0 : Int), false, (0 : Int), ())).2).2).2)
   let y6 := w64 ((w64 (r2.1 + (1 : Int))) + (1 : Int))
   bif decide (0 ≤ v.2.1) then
   bif decide (v.2.1.toNat < y5.length) then
   let y7 := y5.set v.2.1.toNat ((y5.getD v.2.1.toNat (([] : (List Int)), (0 : Int), false, (0 : Int), ())).1, ((y5.getD v.2.1.toNat (([] : (List Int)), (0 : Int), false, (0 : Int), ())).2).1, (((y5.getD v.2.1.toNat (([] : (List Int)), (0 : Int), false, (0 : Int), ())).2).2).1, y6, ((((y5.getD v.2.1.toNat (([] : (List Int)), (0 : Int), false, (0 : Int), ())).2).2).2).2)
   lvmarkThreadS_0 N n (w64 (y6 + (1 : Int)), w64 (v.2.1 + (1 : Int)), y7, ())
   else none
   else none
   else none
   else none
   else none
   else none
   else none
   else none
  else
  some (v.1, v.2.2.1, ())
noncomputable def FvmarkThreadS (N : Nat) (x : (Int × ((List tyq4) × Unit))) : Option (Int × ((List tyq4) × Unit)) :=
 (lvmarkThreadS_0 N N (x.1, (0 : Int), x.2.1, ())).bind fun o8 =>
 some (o8.1, o8.2.1, ())
noncomputable def convmarkThreadS (N : Nat) : Con := { f := 73, din := dinvmarkThreadS, outs := outvmarkThreadS, F := FvmarkThreadS N }
noncomputable def XvmarkThreadS (N : Nat) : Ctx := { E := EvmarkThreadS N, H := HvmarkThreadS, lp := [(0, { hd := dvmarkThreadS_0, outs := ovmarkThreadS_0, run := fun v => lvmarkThreadS_0 N N v })], jn := [] }
noncomputable def bvmarkThreadS_0 : Code := loopBody (codeOf Try.f73) 0
theorem FvmarkThreadS_eq (N : Nat) (x : (Int × ((List tyq4) × Unit))) : evFn (XvmarkThreadS N) Try.f73 dinvmarkThreadS outvmarkThreadS x = FvmarkThreadS N x := by kernel_rfl
theorem lvmarkThreadS_0_eq (N n : Nat) (v : (Int × (Int × ((List tyq4) × Unit)))) : lvmarkThreadS_0 N (n + 1) v = ev (XvmarkThreadS N) bvmarkThreadS_0 (roundK dvmarkThreadS_0 ovmarkThreadS_0 (lvmarkThreadS_0 N n)) (dvmarkThreadS_0.mk' v) := by kernel_rfl
theorem cxvmarkThreadS (N : Nat) : CtxOk Try.prog (XvmarkThreadS N) := ⟨⟨TE_ok, List.forall_mem_cons.2 ⟨(specvmarkIntS N), fun k hk => absurd hk List.not_mem_nil⟩⟩, mixed⟩
theorem lpvmarkThreadS_0 (N : Nat) : LoopOk Try.prog { hd := dvmarkThreadS_0, outs := ovmarkThreadS_0, run := fun v => lvmarkThreadS_0 N N v } bvmarkThreadS_0 :=
 loop_fuel (d := dvmarkThreadS_0) (os := ovmarkThreadS_0) (cxvmarkThreadS N) (loops_at (ids := []) (by kernel_rfl) (trivial)) (lvmarkThreadS_0 N) (fun _ => rfl) (fun n v => lvmarkThreadS_0_eq N n v) (fun _ => N)
theorem specvmarkThreadS (N : Nat) : Spec Try.prog (convmarkThreadS N) :=
 Spec.of_eq (fn_spec (cxvmarkThreadS N) (f := 73) (fn := Try.f73) (c := codeOf Try.f73) (by kernel_rfl) (by kernel_rfl) (by kernel_rfl) (loops_at (ids := [0]) (by kernel_rfl) ⟨lp_of (lpvmarkThreadS_0 N), trivial⟩) (by kernel_rfl)) (fun x r h => (FvmarkThreadS_eq N x).trans h)
noncomputable def dinvmarkState : Desc := { n := 2, regs := [.agg [.lit (.row 0), .lit (.row 1), .lit (.row 2), .val (.int .i64), .val .bool, .val .bool, .val .bool, .val (.int .i64), .lit (.row 3), .lit (.row 4), .lit (.row 5), .val (.int .i64), .val (.int .i64)], .one (.val (.int .i64))], bx := [(0, .row (.int .i64)), (1, .row tyq10), (2, .row .bool), (3, .row tyq11), (4, .row (.int .i64)), (5, .row (.int .i64))], pins := [] }
noncomputable def outvmarkState : Outs := [(.ret, { n := 1, regs := [.one (.val (.int .i64))], bx := [(0, .row (.int .i64)), (1, .row tyq10), (2, .row .bool), (3, .row tyq11), (4, .row (.int .i64)), (5, .row (.int .i64))], pins := [.agg [.lit (.row 0), .lit (.row 1), .lit (.row 2), .un, .un, .un, .un, .un, .lit (.row 3), .lit (.row 4), .lit (.row 5), .un, .un]] })]
noncomputable def HvmarkState : Hints := [(2, [(3, { con := 1, sg := [(0, 1)] })]),
 (3, [(3, { con := 2, sg := [(0, 2)] })]),
 (4, [(3, { con := 3, sg := [(0, 3)] })]),
 (5, [(3, { sg := [(0, 4)] })]),
 (6, [(3, { sg := [(0, 5)] })])]
noncomputable def EvmarkState (N : Nat) : Env := { te := TE, cs := [convmarkIntS N, convmarkRegionS N, convmarkBoolS N, convmarkThreadS N] }
noncomputable def FvmarkState (N : Nat) (x : (Int × (Bool × (Bool × (Bool × (Int × (Int × (Int × (Int × ((List Int) × ((List tyq3) × ((List Bool) × ((List tyq4) × ((List Int) × ((List Int) × Unit))))))))))))))) : Option (Int × ((List Int) × ((List tyq3) × ((List Bool) × ((List tyq4) × ((List Int) × ((List Int) × Unit))))))) :=
 (FvmarkIntS N (x.2.2.2.2.2.2.2.1, x.2.2.2.2.2.2.2.2.1, ())).bind fun r1 =>
 (FvmarkRegionS N (r1.1, x.2.2.2.2.2.2.2.2.2.1, ())).bind fun r2 =>
 (FvmarkBoolS N (r2.1, x.2.2.2.2.2.2.2.2.2.2.1, ())).bind fun r3 =>
 (FvmarkThreadS N (r3.1, x.2.2.2.2.2.2.2.2.2.2.2.1, ())).bind fun r4 =>
 (FvmarkIntS N (r4.1, x.2.2.2.2.2.2.2.2.2.2.2.2.1, ())).bind fun r5 =>
 (FvmarkIntS N (r5.1, x.2.2.2.2.2.2.2.2.2.2.2.2.2.1, ())).bind fun r6 =>
 some (r6.1, r1.2.1, r2.2.1, r3.2.1, r4.2.1, r5.2.1, r6.2.1, ())
noncomputable def convmarkState (N : Nat) : Con := { f := 28, din := dinvmarkState, outs := outvmarkState, F := FvmarkState N }
noncomputable def XvmarkState (N : Nat) : Ctx := { E := EvmarkState N, H := HvmarkState, lp := [], jn := [] }
theorem FvmarkState_eq (N : Nat) (x : (Int × (Bool × (Bool × (Bool × (Int × (Int × (Int × (Int × ((List Int) × ((List tyq3) × ((List Bool) × ((List tyq4) × ((List Int) × ((List Int) × Unit))))))))))))))) : evFn (XvmarkState N) Try.f28 dinvmarkState outvmarkState x = FvmarkState N x := by kernel_rfl
theorem cxvmarkState (N : Nat) : CtxOk Try.prog (XvmarkState N) := ⟨⟨TE_ok, List.forall_mem_cons.2 ⟨(specvmarkIntS N), List.forall_mem_cons.2 ⟨(specvmarkRegionS N), List.forall_mem_cons.2 ⟨(specvmarkBoolS N), List.forall_mem_cons.2 ⟨(specvmarkThreadS N), fun k hk => absurd hk List.not_mem_nil⟩⟩⟩⟩⟩, mixed⟩
theorem specvmarkState (N : Nat) : Spec Try.prog (convmarkState N) :=
 Spec.of_eq (fn_spec (cxvmarkState N) (f := 28) (fn := Try.f28) (c := codeOf Try.f28) (by kernel_rfl) (by kernel_rfl) (by kernel_rfl) (loops_at (ids := []) (by kernel_rfl) (trivial)) (by kernel_rfl)) (fun x r h => (FvmarkState_eq N x).trans h)
noncomputable def dinvheldIntS : Desc := { n := 2, regs := [.one (.val (.sl (.int .i64))), .one (.val (.int .i64))], bx := [], pins := [] }
noncomputable def outvheldIntS : Outs := [(.ret, { n := 1, regs := [.one (.val (.int .i64))], bx := [], pins := [] })]
noncomputable def HvheldIntS : Hints := []
noncomputable def EvheldIntS (_N : Nat) : Env := { te := TE, cs := [] }
noncomputable def dvheldIntS_0 : Desc := { n := 21, regs := [.one (.val (.sl (.int .i64))), .one (.val (.int .i64)), u, u, u, .one (.val (.int .i64))], bx := [], pins := [] }
noncomputable def ovheldIntS_0 : Outs := [(.exit 0, { n := 21, regs := [u, .one (.val (.int .i64))], bx := [], pins := [] }), (.ret, { n := 21, regs := [u, u, u, u, .one (.val (.int .i64))], bx := [], pins := [] })]
noncomputable def lvheldIntS_0 (N : Nat) : Nat → ((List Int) × (Int × (Int × Unit))) → Option ((Int × Unit) ⊕ (Int × Unit))
 | 0, _ => none
 | n + 1, v =>
  let y1 := decide (v.2.2.1 < (v.1.length : Int))
  bif y1 then
   bif decide (0 ≤ v.2.2.1) then
   bif decide (v.2.2.1.toNat < v.1.length) then
   let y2 := (v.1.getD v.2.2.1.toNat (0 : Int)) != v.2.1
   bif y2 then
    some (.inr (((-1 : Int), ())))
   else
   lvheldIntS_0 N n (v.1, w64 (v.2.1 + (1 : Int)), w64 (v.2.2.1 + (1 : Int)), ())
   else none
   else none
  else
  some (.inl (v.2.1, ()))
noncomputable def FvheldIntS (N : Nat) (x : ((List Int) × (Int × Unit))) : Option (Int × Unit) :=
 (lvheldIntS_0 N N (x.1, x.2.1, (0 : Int), ())).bind fun o3 =>
 Sum.elim (fun o4 =>
  some (o4.1, ())) (fun o5 =>
  some (o5.1, ())) o3
noncomputable def convheldIntS (N : Nat) : Con := { f := 23, din := dinvheldIntS, outs := outvheldIntS, F := FvheldIntS N }
noncomputable def XvheldIntS (N : Nat) : Ctx := { E := EvheldIntS N, H := HvheldIntS, lp := [(0, { hd := dvheldIntS_0, outs := ovheldIntS_0, run := fun v => lvheldIntS_0 N N v })], jn := [] }
noncomputable def bvheldIntS_0 : Code := loopBody (codeOf Try.f23) 0
theorem FvheldIntS_eq (N : Nat) (x : ((List Int) × (Int × Unit))) : evFn (XvheldIntS N) Try.f23 dinvheldIntS outvheldIntS x = FvheldIntS N x := by kernel_rfl
theorem lvheldIntS_0_eq (N n : Nat) (v : ((List Int) × (Int × (Int × Unit)))) : lvheldIntS_0 N (n + 1) v = ev (XvheldIntS N) bvheldIntS_0 (roundK dvheldIntS_0 ovheldIntS_0 (lvheldIntS_0 N n)) (dvheldIntS_0.mk' v) := by kernel_rfl
theorem cxvheldIntS (N : Nat) : CtxOk Try.prog (XvheldIntS N) := ⟨⟨TE_ok, fun k hk => absurd hk List.not_mem_nil⟩, mixed⟩
theorem lpvheldIntS_0 (N : Nat) : LoopOk Try.prog { hd := dvheldIntS_0, outs := ovheldIntS_0, run := fun v => lvheldIntS_0 N N v } bvheldIntS_0 :=
 loop_fuel (d := dvheldIntS_0) (os := ovheldIntS_0) (cxvheldIntS N) (loops_at (ids := []) (by kernel_rfl) (trivial)) (lvheldIntS_0 N) (fun _ => rfl) (fun n v => lvheldIntS_0_eq N n v) (fun _ => N)
theorem specvheldIntS (N : Nat) : Spec Try.prog (convheldIntS N) :=
 Spec.of_eq (fn_spec (cxvheldIntS N) (f := 23) (fn := Try.f23) (c := codeOf Try.f23) (by kernel_rfl) (by kernel_rfl) (by kernel_rfl) (loops_at (ids := [0]) (by kernel_rfl) ⟨lp_of (lpvheldIntS_0 N), trivial⟩) (by kernel_rfl)) (fun x r h => (FvheldIntS_eq N x).trans h)
noncomputable def dinvFnExactFullLive : Desc := { n := 1, regs := [.one (.val tyq8)], bx := [], pins := [] }
noncomputable def outvFnExactFullLive : Outs := [(.ret, { n := 1, regs := [.one (.val .bool)], bx := [], pins := [] })]
noncomputable def HvFnExactFullLive : Hints := [(0, [(0, { fz := true })]),
 (5, [(1, { con := 1 }), (2, { con := 2 })]),
 (6, [(1, { con := 1 })]),
 (7, [(1, { con := 3 })]),
 (8, [(2, { con := 4 })]),
 (10, [(2, { con := 1 }), (3, { con := 5 })]),
 (13, [(2, { con := 6, sg := [(0, 1076865), (1, 1076866), (2, 1076867), (3, 1076868), (4, 1076869), (5, 1076870)] })]),
 (14, [(5, { con := 4 })]),
 (17, [(2, { con := 7, sg := [(0, 1089665)] })]),
 (19, [(2, { con := 8 })]),
 (24, [(1, { con := 1 }), (2, { con := 3 })]),
 (25, [(2, { con := 4 })]),
 (28, [(2, { con := 8 })])]
noncomputable def EvFnExactFullLive (N : Nat) : Env := { te := TE, cs := [convszState N, convtoState N, consFullLive N, coniFullLive N, conveqIntS N, conveqState N, convmarkState N, convmarkIntS N, convheldIntS N] }
noncomputable def jvFnExactFullLive_10 : Outs := [(.normal, { n := 96, regs := [u, .one (.fpt tyq8), u, u, .one (.lit (.row 1064129)), .one (.val .bool), .one (.lit (.ptr 1076928 0)), .one (.lit (.row 1089665)), .one (.val .bool)], bx := [(1064129, .row (.int .i64)), (1076928, .var [.lit (.row 1076865), .lit (.row 1076866), .lit (.row 1076867), .val (.int .i64), .val .bool, .val .bool, .val .bool, .val (.int .i64), .lit (.row 1076868), .lit (.row 1076869), .lit (.row 1076870), .val (.int .i64), .val (.int .i64)]), (1076865, .row (.int .i64)), (1076866, .row tyq10), (1076867, .row .bool), (1076868, .row tyq11), (1076869, .row (.int .i64)), (1076870, .row (.int .i64)), (1089665, .row (.int .i64))], pins := [] }), (.ret, { n := 96, regs := [u, u, .one (.val .bool)], bx := [], pins := [] })]
noncomputable def jvFnExactFullLive_16 : Outs := [(.normal, { n := 96, regs := [u, .one (.fpt tyq8), u, u, .one (.lit (.row 1064129)), .one (.val .bool), u, .one (.lit (.row 1089665))], bx := [(1064129, .row (.int .i64)), (1089665, .row (.int .i64))], pins := [] }), (.ret, { n := 96, regs := [u, u, .one (.val .bool)], bx := [], pins := [] })]
noncomputable def jvFnExactFullLive_27 : Outs := [(.normal, { n := 96, regs := [u, u, u, u, u, u, u, .one (.lit (.row 1089665)), u, u, .one (.val (.int .i64))], bx := [(1089665, .row (.int .i64))], pins := [] }), (.ret, { n := 96, regs := [u, u, .one (.val .bool)], bx := [], pins := [] })]
noncomputable def FvFnExactFullLive (N : Nat) (x : (tyq1 × Unit)) : Option (Bool × Unit) :=
 (FvszState N (x.1, (1048576 : Int), ())).bind fun r1 =>
 bif decide (r1.1 < (0 : Int)) then
  some (true, ())
 else
 (FvtoState N (x.1, ())).bind fun r2 =>
 (FsFullLive N ((r2.2.2.2.2.2.2.2.1, r2.2.2.2.2.2.2.2.2.1, r2.2.2.2.2.2.2.2.2.2.1, r2.1, r2.2.1, r2.2.2.1, r2.2.2.2.1, r2.2.2.2.2.1, r2.2.2.2.2.2.2.2.2.2.2.1, r2.2.2.2.2.2.2.2.2.2.2.2.1, r2.2.2.2.2.2.2.2.2.2.2.2.2.1, r2.2.2.2.2.2.1, r2.2.2.2.2.2.2.1, ()), ())).bind fun r3 =>
 (FvtoState N (x.1, ())).bind fun r4 =>
 (FiFullLive N ((r4.2.2.2.2.2.2.2.1, r4.2.2.2.2.2.2.2.2.1, r4.2.2.2.2.2.2.2.2.2.1, r4.1, r4.2.1, r4.2.2.1, r4.2.2.2.1, r4.2.2.2.2.1, r4.2.2.2.2.2.2.2.2.2.2.1, r4.2.2.2.2.2.2.2.2.2.2.2.1, r4.2.2.2.2.2.2.2.2.2.2.2.2.1, r4.2.2.2.2.2.1, r4.2.2.2.2.2.2.1, ()), ())).bind fun r5 =>
 Option.bind (
  (FveqIntS N (r5.2.1, r3.2.1, ())).bind fun r6 =>
  bif !r6.1 then
   some (.inr ((false, ())))
  else
  bif !(r5.1 == r3.1) then
   some (.inr ((false, ())))
  else
  some (.inl (x.1, r3.1, r5.1, r3.2.1, r4.1, r4.2.1, r4.2.2.1, r4.2.2.2.1, r4.2.2.2.2.1, r4.2.2.2.2.2.1, r4.2.2.2.2.2.2.1, r4.2.2.2.2.2.2.2.1, r4.2.2.2.2.2.2.2.2.1, r4.2.2.2.2.2.2.2.2.2.1, r4.2.2.2.2.2.2.2.2.2.2.1, r4.2.2.2.2.2.2.2.2.2.2.2.1, r4.2.2.2.2.2.2.2.2.2.2.2.2.1, r5.2.1, ()))) fun o7 =>
 Sum.elim (fun o8 =>
  (FvtoState N (o8.1, ())).bind fun r9 =>
  (FveqState N ((o8.2.2.2.2.2.2.2.2.2.2.2.1, o8.2.2.2.2.2.2.2.2.2.2.2.2.1, o8.2.2.2.2.2.2.2.2.2.2.2.2.2.1, o8.2.2.2.2.1, o8.2.2.2.2.2.1, o8.2.2.2.2.2.2.1, o8.2.2.2.2.2.2.2.1, o8.2.2.2.2.2.2.2.2.1, o8.2.2.2.2.2.2.2.2.2.2.2.2.2.2.1, o8.2.2.2.2.2.2.2.2.2.2.2.2.2.2.2.1, o8.2.2.2.2.2.2.2.2.2.2.2.2.2.2.2.2.1, o8.2.2.2.2.2.2.2.2.2.1, o8.2.2.2.2.2.2.2.2.2.2.1, ()), (r9.2.2.2.2.2.2.2.1, r9.2.2.2.2.2.2.2.2.1, r9.2.2.2.2.2.2.2.2.2.1, r9.1, r9.2.1, r9.2.2.1, r9.2.2.2.1, r9.2.2.2.2.1, r9.2.2.2.2.2.2.2.2.2.2.1, r9.2.2.2.2.2.2.2.2.2.2.2.1, r9.2.2.2.2.2.2.2.2.2.2.2.2.1, r9.2.2.2.2.2.1, r9.2.2.2.2.2.2.1, ()), ())).bind fun r10 =>
  bif !r10.1 then
   some (false, ())
  else
  (FvmarkState N (o8.2.2.2.2.1, o8.2.2.2.2.2.1, o8.2.2.2.2.2.2.1, o8.2.2.2.2.2.2.2.1, o8.2.2.2.2.2.2.2.2.1, o8.2.2.2.2.2.2.2.2.2.1, o8.2.2.2.2.2.2.2.2.2.2.1, (1 : Int), o8.2.2.2.2.2.2.2.2.2.2.2.1, o8.2.2.2.2.2.2.2.2.2.2.2.2.1, o8.2.2.2.2.2.2.2.2.2.2.2.2.2.1, o8.2.2.2.2.2.2.2.2.2.2.2.2.2.2.1, o8.2.2.2.2.2.2.2.2.2.2.2.2.2.2.2.1, o8.2.2.2.2.2.2.2.2.2.2.2.2.2.2.2.2.1, ())).bind fun r11 =>
  Option.bind (
   bif decide (r11.1 < (0 : Int)) then
    some (.inr ((false, ())))
   else
   (FveqIntS N (o8.2.2.2.2.2.2.2.2.2.2.2.2.2.2.2.2.2.1, o8.2.2.2.1, ())).bind fun r12 =>
   bif !r12.1 then
    some (.inr ((false, ())))
   else
   bif !(o8.2.2.1 == o8.2.1) then
    some (.inr ((false, ())))
   else
   some (.inl (o8.1, o8.2.1, o8.2.2.2.1, o8.2.2.2.2.2.2.2.2.2.2.2.2.2.2.2.2.2.1, ()))) fun o13 =>
  Sum.elim (fun o14 =>
   (FvmarkIntS N ((1 : Int), o14.2.2.2.1, ())).bind fun r15 =>
   (FvheldIntS N (r15.2.1, (1 : Int), ())).bind fun r16 =>
   bif decide (r16.1 < (0 : Int)) then
    some (false, ())
   else
   bif r16.1 != r15.1 then
    some (false, ())
   else
   (FvtoState N (o14.1, ())).bind fun r17 =>
   (FiFullLive N ((r17.2.2.2.2.2.2.2.1, r17.2.2.2.2.2.2.2.2.1, r17.2.2.2.2.2.2.2.2.2.1, r17.1, r17.2.1, r17.2.2.1, r17.2.2.2.1, r17.2.2.2.2.1, r17.2.2.2.2.2.2.2.2.2.2.1, r17.2.2.2.2.2.2.2.2.2.2.2.1, r17.2.2.2.2.2.2.2.2.2.2.2.2.1, r17.2.2.2.2.2.1, r17.2.2.2.2.2.2.1, ()), ())).bind fun r18 =>
   Option.bind (
    (FveqIntS N (r18.2.1, o14.2.2.1, ())).bind fun r19 =>
    bif !r19.1 then
     some (.inr ((false, ())))
    else
    bif !(r18.1 == o14.2.1) then
     some (.inr ((false, ())))
    else
    some (.inl (r15.1, r15.2.1, ()))) fun o20 =>
   Sum.elim (fun o21 =>
    (FvheldIntS N (o21.2.1, (1 : Int), ())).bind fun r22 =>
    bif decide (r22.1 < (0 : Int)) then
     some (false, ())
    else
    bif r22.1 != o21.1 then
     some (false, ())
    else
    some (true, ())) (fun o23 =>
    some (o23.1, ())) o20) (fun o24 =>
   some (o24.1, ())) o13) (fun o25 =>
  some (o25.1, ())) o7
noncomputable def convFnExactFullLive (N : Nat) : Con := { f := 13, din := dinvFnExactFullLive, outs := outvFnExactFullLive, F := FvFnExactFullLive N }
noncomputable def XvFnExactFullLive (N : Nat) : Ctx := { E := EvFnExactFullLive N, H := HvFnExactFullLive, lp := [], jn := [(10, jvFnExactFullLive_10), (16, jvFnExactFullLive_16), (27, jvFnExactFullLive_27)] }
theorem FvFnExactFullLive_eq (N : Nat) (x : (tyq1 × Unit)) : evFn (XvFnExactFullLive N) Try.f13 dinvFnExactFullLive outvFnExactFullLive x = FvFnExactFullLive N x := by kernel_rfl
theorem cxvFnExactFullLive (N : Nat) : CtxOk Try.prog (XvFnExactFullLive N) := ⟨⟨TE_ok, List.forall_mem_cons.2 ⟨(specvszState N), List.forall_mem_cons.2 ⟨(specvtoState N), List.forall_mem_cons.2 ⟨(specsFullLive N), List.forall_mem_cons.2 ⟨(speciFullLive N), List.forall_mem_cons.2 ⟨(specveqIntS N), List.forall_mem_cons.2 ⟨(specveqState N), List.forall_mem_cons.2 ⟨(specvmarkState N), List.forall_mem_cons.2 ⟨(specvmarkIntS N), List.forall_mem_cons.2 ⟨(specvheldIntS N), fun k hk => absurd hk List.not_mem_nil⟩⟩⟩⟩⟩⟩⟩⟩⟩⟩, mixed⟩
theorem specvFnExactFullLive (N : Nat) : Spec Try.prog (convFnExactFullLive N) :=
 Spec.of_eq (fn_spec (cxvFnExactFullLive N) (f := 13) (fn := Try.f13) (c := codeOf Try.f13) (by kernel_rfl) (by kernel_rfl) (by kernel_rfl) (loops_at (ids := []) (by kernel_rfl) (trivial)) (by kernel_rfl)) (fun x r h => (FvFnExactFullLive_eq N x).trans h)
end Go.Fl

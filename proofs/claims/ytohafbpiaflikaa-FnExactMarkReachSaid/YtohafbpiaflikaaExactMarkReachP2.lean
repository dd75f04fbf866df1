/- Proved: for every input the law FnExactMarkReach returns true and leaves its arguments as they were. Part 2: the functions that the law reaches, as plain functions, and plain laws about them; no conditions. -/
import Derived.Test.YtohafbpiaflikaaExactMarkReachP1
set_option linter.all false
-- FUNCS vszIntS vszRegionS vszBoolS vszThread vszThreadS vszState vtoIntS vtoRegion vtoRegionS vtoBoolS vtoThread vtoThreadS vtoState sWordsOk sRegionBase sTableOk sRegionOf sl3Fits sShapeOk sShapeWord sShapeOf sShapeSize sThingAt sThingsIn sl6Things sl6Find sl6Now sl5Place sl6Put sStateOk sl7Reached sl7Sorted sFullLive sMarkReach iWordsOk iedge iRegionBase iRegion_ok iTableOk iState_whole ifits iShapeOk iShapeOf iShapeSize kClone_Sint_int iThingAt_r_ iThing_size iThingsIn iState_things iRegionOf iState_from iState_settled iState_roots iheap_now iheap_reach_1 iheap_reach iheapOf iMarkReach veqBoolS veqIntS veqRegion veqRegionS veqThread veqThreadS veqState vmarkIntS vmarkRegionS vmarkBoolS vmarkThreadS vmarkState vheldBoolS vFnExactMarkReach
set_option maxRecDepth 100000
set_option linter.all false
namespace Go.Fl
open Go Go.Proofs
/-! ### 108: impl.fits -/

noncomputable def dinifits : Desc := { n := 3, regs := [.one (.val (.sl (.int .i64))), .one (.val (.int .i64)), .one (.val (.int .i64))], bx := [], pins := [] }
noncomputable def outifits : Outs := [(.ret, { n := 1, regs := [.one (.val .bool)], bx := [], pins := [] })]
noncomputable def Hifits : Hints := []
noncomputable def Eifits (N : Nat) : Env := { te := TE, cs := [coniWordsOk N] }
noncomputable def Fifits (N : Nat) (x : ((List Int) × (Int × (Int × Unit)))) : Option (Bool × Unit) :=
  (FiWordsOk N (x.1, ())).bind fun r1 =>
  bif r1.1 then
   bif decide (x.2.1 ≥ (16 : Int)) then
    bif decide (x.2.1 < (x.1.length : Int)) then
     bif decide ((16 : Int) = 0) then
      none
     else
     let y2 := w64 ((Int.tmod x.2.1 (16 : Int)) + x.2.2.1)
     some (decide (y2 ≤ (16 : Int)), ())
    else
    some (false, ())
   else
   some (false, ())
  else
  some (false, ())
noncomputable def conifits (N : Nat) : Con := { f := 108, din := dinifits, outs := outifits, F := Fifits N }
noncomputable def Xifits (N : Nat) : Ctx := { E := Eifits N, H := Hifits, lp := [], jn := [] }
theorem Fifits_eq (N : Nat) (x : ((List Int) × (Int × (Int × Unit)))) : evFn (Xifits N) Try.f108 dinifits outifits x = Fifits N x := by kernel_rfl
theorem cxifits (N : Nat) : CtxOk Try.prog (Xifits N) := ⟨⟨TE_ok, List.forall_mem_cons.2 ⟨(speciWordsOk N), fun k hk => absurd hk List.not_mem_nil⟩⟩, mixed⟩
theorem specifits (N : Nat) : Spec Try.prog (conifits N) :=
  Spec.of_eq (fn_spec (cxifits N) (f := 108) (fn := Try.f108) (c := codeOf Try.f108) (by kernel_rfl) (by kernel_rfl) (by kernel_rfl) (loops_at (ids := []) (by kernel_rfl) (trivial)) (by kernel_rfl)) (fun x r h => (Fifits_eq N x).trans h)

/-! ### 107: impl.ShapeOk -/

noncomputable def diniShapeOk : Desc := { n := 1, regs := [.one (.val (.pair (.int .i64) (.pair (.int .i64) .unit)))], bx := [], pins := [] }
noncomputable def outiShapeOk : Outs := [(.ret, { n := 1, regs := [.one (.val .bool)], bx := [], pins := [] })]
noncomputable def HiShapeOk : Hints := [(0, [(0, { fz := true })])]
noncomputable def EiShapeOk (_N : Nat) : Env := { te := TE, cs := [] }
noncomputable def FiShapeOk (N : Nat) (x : ((Int × (Int × Unit)) × Unit)) : Option (Bool × Unit) :=
  bif decide (x.1.1 ≥ (0 : Int)) then
   bif decide (x.1.1 ≤ (4 : Int)) then
    bif decide (x.1.2.1 ≥ (0 : Int)) then
     some (decide (x.1.2.1 ≤ (4 : Int)), ())
    else
    some (false, ())
   else
   some (false, ())
  else
  some (false, ())
noncomputable def coniShapeOk (N : Nat) : Con := { f := 107, din := diniShapeOk, outs := outiShapeOk, F := FiShapeOk N }
noncomputable def XiShapeOk (N : Nat) : Ctx := { E := EiShapeOk N, H := HiShapeOk, lp := [], jn := [] }
theorem FiShapeOk_eq (N : Nat) (x : ((Int × (Int × Unit)) × Unit)) : evFn (XiShapeOk N) Try.f107 diniShapeOk outiShapeOk x = FiShapeOk N x := by kernel_rfl
theorem cxiShapeOk (N : Nat) : CtxOk Try.prog (XiShapeOk N) := ⟨⟨TE_ok, fun k hk => absurd hk List.not_mem_nil⟩, mixed⟩
theorem speciShapeOk (N : Nat) : Spec Try.prog (coniShapeOk N) :=
  Spec.of_eq (fn_spec (cxiShapeOk N) (f := 107) (fn := Try.f107) (c := codeOf Try.f107) (by kernel_rfl) (by kernel_rfl) (by kernel_rfl) (loops_at (ids := []) (by kernel_rfl) (trivial)) (by kernel_rfl)) (fun x r h => (FiShapeOk_eq N x).trans h)

/-! ### 132: impl.ShapeOf -/

noncomputable def diniShapeOf : Desc := { n := 1, regs := [.one (.val (.int .i64))], bx := [], pins := [] }
noncomputable def outiShapeOf : Outs := [(.ret, { n := 2, regs := [.agg [.val (.int .i64), .val (.int .i64)], .one (.val .bool)], bx := [], pins := [] })]
noncomputable def HiShapeOf : Hints := []
noncomputable def EiShapeOf (N : Nat) : Env := { te := TE, cs := [coniShapeOk N] }
noncomputable def FiShapeOf (N : Nat) (x : (Int × Unit)) : Option (Int × (Int × (Bool × Unit))) :=
  bif decide (x.1 < (0 : Int)) then
   some ((0 : Int), (0 : Int), false, ())
  else
  bif decide ((16 : Int) = 0) then
   none
  else
  bif decide ((16 : Int) = 0) then
   none
  else
  (FiShapeOk N ((w64 (Int.tdiv x.1 (16 : Int)), Int.tmod x.1 (16 : Int), ()), ())).bind fun r1 =>
  bif !r1.1 then
   some ((0 : Int), (0 : Int), false, ())
  else
  some (w64 (Int.tdiv x.1 (16 : Int)), Int.tmod x.1 (16 : Int), true, ())
noncomputable def coniShapeOf (N : Nat) : Con := { f := 132, din := diniShapeOf, outs := outiShapeOf, F := FiShapeOf N }
noncomputable def XiShapeOf (N : Nat) : Ctx := { E := EiShapeOf N, H := HiShapeOf, lp := [], jn := [] }
theorem FiShapeOf_eq (N : Nat) (x : (Int × Unit)) : evFn (XiShapeOf N) Try.f132 diniShapeOf outiShapeOf x = FiShapeOf N x := by kernel_rfl
theorem cxiShapeOf (N : Nat) : CtxOk Try.prog (XiShapeOf N) := ⟨⟨TE_ok, List.forall_mem_cons.2 ⟨(speciShapeOk N), fun k hk => absurd hk List.not_mem_nil⟩⟩, mixed⟩
theorem speciShapeOf (N : Nat) : Spec Try.prog (coniShapeOf N) :=
  Spec.of_eq (fn_spec (cxiShapeOf N) (f := 132) (fn := Try.f132) (c := codeOf Try.f132) (by kernel_rfl) (by kernel_rfl) (by kernel_rfl) (loops_at (ids := []) (by kernel_rfl) (trivial)) (by kernel_rfl)) (fun x r h => (FiShapeOf_eq N x).trans h)

/-! ### 71: impl.ShapeSize -/

noncomputable def diniShapeSize : Desc := { n := 1, regs := [.one (.val (.pair (.int .i64) (.pair (.int .i64) .unit)))], bx := [], pins := [] }
noncomputable def outiShapeSize : Outs := [(.ret, { n := 1, regs := [.one (.val (.int .i64))], bx := [], pins := [] })]
noncomputable def HiShapeSize : Hints := [(0, [(0, { fz := true })])]
noncomputable def EiShapeSize (N : Nat) : Env := { te := TE, cs := [coniShapeOk N] }
noncomputable def FiShapeSize (N : Nat) (x : ((Int × (Int × Unit)) × Unit)) : Option (Int × Unit) :=
  (FiShapeOk N (x.1, ())).bind fun r1 =>
  bif !r1.1 then
   some ((0 : Int), ())
  else
  let y2 := w64 ((w64 ((2 : Int) + x.1.1)) + x.1.2.1)
  some (y2, ())
noncomputable def coniShapeSize (N : Nat) : Con := { f := 71, din := diniShapeSize, outs := outiShapeSize, F := FiShapeSize N }
noncomputable def XiShapeSize (N : Nat) : Ctx := { E := EiShapeSize N, H := HiShapeSize, lp := [], jn := [] }
theorem FiShapeSize_eq (N : Nat) (x : ((Int × (Int × Unit)) × Unit)) : evFn (XiShapeSize N) Try.f71 diniShapeSize outiShapeSize x = FiShapeSize N x := by kernel_rfl
theorem cxiShapeSize (N : Nat) : CtxOk Try.prog (XiShapeSize N) := ⟨⟨TE_ok, List.forall_mem_cons.2 ⟨(speciShapeOk N), fun k hk => absurd hk List.not_mem_nil⟩⟩, mixed⟩
theorem speciShapeSize (N : Nat) : Spec Try.prog (coniShapeSize N) :=
  Spec.of_eq (fn_spec (cxiShapeSize N) (f := 71) (fn := Try.f71) (c := codeOf Try.f71) (by kernel_rfl) (by kernel_rfl) (by kernel_rfl) (loops_at (ids := []) (by kernel_rfl) (trivial)) (by kernel_rfl)) (fun x r h => (FiShapeSize_eq N x).trans h)

/-! ### 109: slices.Clone[[]int,int] -/

noncomputable def dinkClone_Sint_int : Desc := { n := 1, regs := [.one (.val (.sl (.int .i64)))], bx := [], pins := [] }
noncomputable def outkClone_Sint_int : Outs := [(.ret, { n := 1, regs := [.one (.lit (.row 1025600))], bx := [(1025600, .row (.int .i64))], pins := [] })]
noncomputable def HkClone_Sint_int : Hints := [(2, [(0, { nl := [(0, (.int .i64))] })])]
noncomputable def EkClone_Sint_int (_N : Nat) : Env := { te := TE, cs := [] }
noncomputable def FkClone_Sint_int (N : Nat) (x : ((List Int) × Unit)) : Option ((List Int) × Unit) :=
  bif x.1.isEmpty then
   anyOf (2) fun i1 =>
    bif bif i1 == 0 then false else true then
     some (([] : (List Int)), ())
    else
    bif decide (([] : (List Int)).length + x.1.length ≤ lim) then
    some (([] : (List Int)) ++ x.1, ())
    else none
  else
  bif decide (([] : (List Int)).length + x.1.length ≤ lim) then
  some (([] : (List Int)) ++ x.1, ())
  else none
noncomputable def conkClone_Sint_int (N : Nat) : Con := { f := 109, din := dinkClone_Sint_int, outs := outkClone_Sint_int, F := FkClone_Sint_int N }
noncomputable def XkClone_Sint_int (N : Nat) : Ctx := { E := EkClone_Sint_int N, H := HkClone_Sint_int, lp := [], jn := [] }
theorem FkClone_Sint_int_eq (N : Nat) (x : ((List Int) × Unit)) : evFn (XkClone_Sint_int N) Try.f109 dinkClone_Sint_int outkClone_Sint_int x = FkClone_Sint_int N x := by kernel_rfl
theorem cxkClone_Sint_int (N : Nat) : CtxOk Try.prog (XkClone_Sint_int N) := ⟨⟨TE_ok, fun k hk => absurd hk List.not_mem_nil⟩, mixed⟩
theorem speckClone_Sint_int (N : Nat) : Spec Try.prog (conkClone_Sint_int N) :=
  Spec.of_eq (fn_spec (cxkClone_Sint_int N) (f := 109) (fn := Try.f109) (c := codeOf Try.f109) (by kernel_rfl) (by kernel_rfl) (by kernel_rfl) (loops_at (ids := []) (by kernel_rfl) (trivial)) (by kernel_rfl)) (fun x r h => (FkClone_Sint_int_eq N x).trans h)

/-! ### 126: impl.ThingAt -/

noncomputable def diniThingAt_r_ : Desc := { n := 2, regs := [.one (.val (.sl (.int .i64))), .one (.val (.int .i64))], bx := [], pins := [] }
noncomputable def outiThingAt_r_ : Outs := [(.ret, { n := 2, regs := [.agg [.val (.int .i64), .val (.int .i64), .val (.int .i64), .val (.int .i64), .val (.sl (.int .i64)), .val (.sl (.int .i64))], .one (.val .bool)], bx := [], pins := [] })]
noncomputable def HiThingAt_r_ : Hints := [(3, [(5, { con := 1 })]),
  (4, [(6, { con := 2 })]),
  (8, [(10, { con := 3 }), (18, { con := 3 })])]
noncomputable def EiThingAt_r_ (N : Nat) : Env := { te := TE, cs := [conifits N, coniShapeOf N, coniShapeSize N, conkClone_Sint_int N] }
noncomputable def jiThingAt_r__6 : Outs := [(.normal, { n := 61, regs := [.one (.val (.sl (.int .i64))), .one (.val (.int .i64)), u, u, .one (.lit (.ptr 1000000 0)), u, .one (.lit (.ptr 1038976 0))], bx := [(1000000, .var [.val (.int .i64), .val (.int .i64), .val (.int .i64), .val (.int .i64), .lit .nil, .lit .nil]), (1038976, .var [.val (.int .i64), .val (.int .i64)])], pins := [] }), (.ret, { n := 61, regs := [u, u, u, u, .one (.lit (.ptr 1000000 0)), .one (.val .bool)], bx := [(1000000, .var [.val (.int .i64), .val (.int .i64), .val (.int .i64), .val (.int .i64), .lit .nil, .lit .nil])], pins := [] })]
noncomputable def FiThingAt_r_ (N : Nat) (x : ((List Int) × (Int × Unit))) : Option (Int × (Int × (Int × (Int × ((List Int) × ((List Int) × (Bool × Unit))))))) :=
  (Fifits N (x.1, x.2.1, (2 : Int), ())).bind fun r1 =>
  bif !r1.1 then
   some ((0 : Int), (0 : Int), (0 : Int), (0 : Int), ([] : (List Int)), ([] : (List Int)), false, ())
  else
  bif decide (0 ≤ (w64 (x.2.1 + (1 : Int)))) then
  bif decide ((w64 (x.2.1 + (1 : Int))).toNat < x.1.length) then
  let y2 := x.1.getD ((w64 (x.2.1 + (1 : Int))).toNat) (0 : Int)
  (FiShapeOf N (y2, ())).bind fun r3 =>
  Option.bind (
   bif !r3.2.2.1 then
    some (.inr ((false, (0 : Int), (0 : Int), (0 : Int), (0 : Int), ())))
   else
   (FiShapeSize N ((r3.1, r3.2.1, ()), ())).bind fun r4 =>
   (Fifits N (x.1, x.2.1, r4.1, ())).bind fun r5 =>
   bif !r5.1 then
    some (.inr ((false, (0 : Int), (0 : Int), (0 : Int), (0 : Int), ())))
   else
   some (.inl (x.1, x.2.1, (0 : Int), (0 : Int), (0 : Int), (0 : Int), r3.1, r3.2.1, ()))) fun o6 =>
  Sum.elim (fun o7 =>
   let y8 := w64 ((w64 (o7.2.1 + (2 : Int))) + o7.2.2.2.2.2.2.1)
   bif decide (0 ≤ o7.2.1) then
   bif decide (o7.2.1.toNat < o7.1.length) then
   bif decide (0 ≤ y8) then
   bif decide (y8 ≤ (o7.1.length : Int)) then
   bif decide (0 ≤ (w64 (o7.2.1 + (2 : Int)))) then
   bif decide ((w64 (o7.2.1 + (2 : Int))) ≤ y8) then
   let y9 := (o7.1.drop (w64 (o7.2.1 + (2 : Int))).toNat).take (y8.toNat - (w64 (o7.2.1 + (2 : Int))).toNat)
   (FkClone_Sint_int N (y9, ())).bind fun r10 =>
   bif decide (0 ≤ (w64 (y8 + o7.2.2.2.2.2.2.2.1))) then
   bif decide ((w64 (y8 + o7.2.2.2.2.2.2.2.1)) ≤ (o7.1.length : Int)) then
   bif decide (0 ≤ y8) then
   bif decide (y8 ≤ (w64 (y8 + o7.2.2.2.2.2.2.2.1))) then
   let y11 := (o7.1.drop y8.toNat).take ((w64 (y8 + o7.2.2.2.2.2.2.2.1)).toNat - y8.toNat)
   (FkClone_Sint_int N (y11, ())).bind fun r12 =>
   some (o7.2.1, o7.1.getD o7.2.1.toNat (0 : Int), o7.2.2.2.2.2.2.1, o7.2.2.2.2.2.2.2.1, r10.1, r12.1, true, ())
   else none
   else none
   else none
   else none
   else none
   else none
   else none
   else none
   else none
   else none) (fun o13 =>
   some (o13.2.1, o13.2.2.1, o13.2.2.2.1, o13.2.2.2.2.1, ([] : (List Int)), ([] : (List Int)), o13.1, ())) o6
  else none
  else none
noncomputable def coniThingAt_r_ (N : Nat) : Con := { f := 126, din := diniThingAt_r_, outs := outiThingAt_r_, F := FiThingAt_r_ N }
noncomputable def XiThingAt_r_ (N : Nat) : Ctx := { E := EiThingAt_r_ N, H := HiThingAt_r_, lp := [], jn := [(6, jiThingAt_r__6)] }
theorem FiThingAt_r__eq (N : Nat) (x : ((List Int) × (Int × Unit))) : evFn (XiThingAt_r_ N) Try.f126 diniThingAt_r_ outiThingAt_r_ x = FiThingAt_r_ N x := by kernel_rfl
theorem cxiThingAt_r_ (N : Nat) : CtxOk Try.prog (XiThingAt_r_ N) := ⟨⟨TE_ok, List.forall_mem_cons.2 ⟨(specifits N), List.forall_mem_cons.2 ⟨(speciShapeOf N), List.forall_mem_cons.2 ⟨(speciShapeSize N), List.forall_mem_cons.2 ⟨(speckClone_Sint_int N), fun k hk => absurd hk List.not_mem_nil⟩⟩⟩⟩⟩, mixed⟩
theorem speciThingAt_r_ (N : Nat) : Spec Try.prog (coniThingAt_r_ N) :=
  Spec.of_eq (fn_spec (cxiThingAt_r_ N) (f := 126) (fn := Try.f126) (c := codeOf Try.f126) (by kernel_rfl) (by kernel_rfl) (by kernel_rfl) (loops_at (ids := []) (by kernel_rfl) (trivial)) (by kernel_rfl)) (fun x r h => (FiThingAt_r__eq N x).trans h)

/-! ### 95: impl.Thing).size -/

noncomputable def diniThing_size : Desc := { n := 1, regs := [.one (.val (.pair (.int .i64) (.pair (.int .i64) (.pair (.pair (.int .i64) (.pair (.int .i64) .unit)) (.pair (.sl (.int .i64)) (.pair (.sl (.int .i64)) .unit))))))], bx := [], pins := [] }
noncomputable def outiThing_size : Outs := [(.ret, { n := 1, regs := [.one (.val (.int .i64))], bx := [], pins := [] })]
noncomputable def HiThing_size : Hints := [(0, [(0, { fz := true })])]
noncomputable def EiThing_size (N : Nat) : Env := { te := TE, cs := [coniShapeSize N] }
noncomputable def FiThing_size (N : Nat) (x : ((Int × (Int × ((Int × (Int × Unit)) × ((List Int) × ((List Int) × Unit))))) × Unit)) : Option (Int × Unit) :=
  (FiShapeSize N (x.1.2.2.1, ())).bind fun r1 =>
  some (r1.1, ())
noncomputable def coniThing_size (N : Nat) : Con := { f := 95, din := diniThing_size, outs := outiThing_size, F := FiThing_size N }
noncomputable def XiThing_size (N : Nat) : Ctx := { E := EiThing_size N, H := HiThing_size, lp := [], jn := [] }
theorem FiThing_size_eq (N : Nat) (x : ((Int × (Int × ((Int × (Int × Unit)) × ((List Int) × ((List Int) × Unit))))) × Unit)) : evFn (XiThing_size N) Try.f95 diniThing_size outiThing_size x = FiThing_size N x := by kernel_rfl
theorem cxiThing_size (N : Nat) : CtxOk Try.prog (XiThing_size N) := ⟨⟨TE_ok, List.forall_mem_cons.2 ⟨(speciShapeSize N), fun k hk => absurd hk List.not_mem_nil⟩⟩, mixed⟩
theorem speciThing_size (N : Nat) : Spec Try.prog (coniThing_size N) :=
  Spec.of_eq (fn_spec (cxiThing_size N) (f := 95) (fn := Try.f95) (c := codeOf Try.f95) (by kernel_rfl) (by kernel_rfl) (by kernel_rfl) (loops_at (ids := []) (by kernel_rfl) (trivial)) (by kernel_rfl)) (fun x r h => (FiThing_size_eq N x).trans h)

/-! ### 117: impl.ThingsIn -/

noncomputable def diniThingsIn : Desc := { n := 3, regs := [.one (.val (.sl (.int .i64))), .one (.val (.int .i64)), .one (.val (.int .i64))], bx := [], pins := [] }
noncomputable def outiThingsIn : Outs := [(.ret, { n := 2, regs := [.one (.lit (.row 1038400)), .one (.val .bool)], bx := [(1038400, .row (.fz (.pair (.int .i64) (.pair (.int .i64) (.pair (.pair (.int .i64) (.pair (.int .i64) .unit)) (.pair (.sl (.int .i64)) (.pair (.sl (.int .i64)) .unit)))))))], pins := [] })]
noncomputable def HiThingsIn : Hints := [(1, [(17, { con := 1 }), (23, { con := 1 })]),
  (2, [(0, { nl := [(0, (.fz (.pair (.int .i64) (.pair (.int .i64) (.pair (.pair (.int .i64) (.pair (.int .i64) .unit)) (.pair (.sl (.int .i64)) (.pair (.sl (.int .i64)) .unit)))))))] })]),
  (3, [(0, { nl := [(0, (.fz (.pair (.int .i64) (.pair (.int .i64) (.pair (.pair (.int .i64) (.pair (.int .i64) .unit)) (.pair (.sl (.int .i64)) (.pair (.sl (.int .i64)) .unit)))))))] })]),
  (4, [(1, { con := 1 })]),
  (6, [(2, { con := 2 })]),
  (7, [(5, { con := 3 })]),
  (8, [(0, { nl := [(0, (.fz (.pair (.int .i64) (.pair (.int .i64) (.pair (.pair (.int .i64) (.pair (.int .i64) .unit)) (.pair (.sl (.int .i64)) (.pair (.sl (.int .i64)) .unit)))))))] })]),
  (10, [(2, { con := 3 })])]
noncomputable def EiThingsIn (N : Nat) : Env := { te := TE, cs := [coniWordsOk N, coniRegionBase N, coniThingAt_r_ N, coniThing_size N] }
noncomputable def diThingsIn_0 : Desc := { n := 69, regs := [.one (.val (.sl (.int .i64))), u, .one (.val (.int .i64)), u, u, u, u, u, .one (.lit (.row 1038400)), .one (.val (.int .i64))], bx := [(1038400, .row (.fz (.pair (.int .i64) (.pair (.int .i64) (.pair (.pair (.int .i64) (.pair (.int .i64) .unit)) (.pair (.sl (.int .i64)) (.pair (.sl (.int .i64)) .unit)))))))], pins := [] }
noncomputable def oiThingsIn_0 : Outs := [(.exit 0, { n := 69, regs := [u, u, u, u, u, u, u, u, .one (.lit (.row 1038400))], bx := [(1038400, .row (.fz (.pair (.int .i64) (.pair (.int .i64) (.pair (.pair (.int .i64) (.pair (.int .i64) .unit)) (.pair (.sl (.int .i64)) (.pair (.sl (.int .i64)) .unit)))))))], pins := [] }), (.ret, { n := 69, regs := [u, u, u, u, u, u, .one (.lit (.row 1102400)), .one (.val .bool)], bx := [(1102400, .row (.fz (.pair (.int .i64) (.pair (.int .i64) (.pair (.pair (.int .i64) (.pair (.int .i64) .unit)) (.pair (.sl (.int .i64)) (.pair (.sl (.int .i64)) .unit)))))))], pins := [] })]
noncomputable def jiThingsIn_3 : Outs := [(.normal, { n := 69, regs := [.one (.val (.sl (.int .i64))), .one (.val (.int .i64)), .one (.val (.int .i64))], bx := [], pins := [] }), (.ret, { n := 69, regs := [u, u, u, u, u, u, .one (.lit (.row 1025600)), .one (.val .bool)], bx := [(1025600, .row (.fz (.pair (.int .i64) (.pair (.int .i64) (.pair (.pair (.int .i64) (.pair (.int .i64) .unit)) (.pair (.sl (.int .i64)) (.pair (.sl (.int .i64)) .unit)))))))], pins := [] })]
noncomputable def jiThingsIn_9 : Outs := [(.normal, { n := 69, regs := [.one (.val (.sl (.int .i64))), u, .one (.val (.int .i64)), u, u, u, u, u, .one (.lit (.row 1038400)), .one (.val (.int .i64)), .one (.lit (.ptr 1077184 0))], bx := [(1038400, .row (.fz (.pair (.int .i64) (.pair (.int .i64) (.pair (.pair (.int .i64) (.pair (.int .i64) .unit)) (.pair (.sl (.int .i64)) (.pair (.sl (.int .i64)) .unit))))))), (1077184, .var [.val (.int .i64), .val (.int .i64), .val (.int .i64), .val (.int .i64), .val (.sl (.int .i64)), .val (.sl (.int .i64))])], pins := [] }), (.ret, { n := 69, regs := [u, u, u, u, u, u, .one (.lit (.row 1102400)), .one (.val .bool)], bx := [(1102400, .row (.fz (.pair (.int .i64) (.pair (.int .i64) (.pair (.pair (.int .i64) (.pair (.int .i64) .unit)) (.pair (.sl (.int .i64)) (.pair (.sl (.int .i64)) .unit)))))))], pins := [] })]
noncomputable def liThingsIn_0 (N : Nat) : Nat → ((List Int) × (Int × (Int × ((List (Int × (Int × ((Int × (Int × Unit)) × ((List Int) × ((List Int) × Unit)))))) × Unit)))) → Option (((List (Int × (Int × ((Int × (Int × Unit)) × ((List Int) × ((List Int) × Unit)))))) × Unit) ⊕ (Bool × ((List (Int × (Int × ((Int × (Int × Unit)) × ((List Int) × ((List Int) × Unit)))))) × Unit)))
  | 0, _ => none
  | n + 1, v =>
    bif decide (v.2.2.1 < v.2.1) then
     (FiThingAt_r_ N (v.1, v.2.2.1, ())).bind fun r15 =>
     Option.bind (
      bif !r15.2.2.2.2.2.2.1 then
       let y16 := ([] : (List (Int × (Int × ((Int × (Int × Unit)) × ((List Int) × ((List Int) × Unit)))))))
       some (.inr ((false, y16, ())))
      else
      (FiThing_size N ((r15.1, r15.2.1, (r15.2.2.1, r15.2.2.2.1, ()), r15.2.2.2.2.1, r15.2.2.2.2.2.1, ()), ())).bind fun r17 =>
      let y18 := decide ((w64 (v.2.2.1 + r17.1)) > v.2.1)
      bif y18 then
       let y19 := ([] : (List (Int × (Int × ((Int × (Int × Unit)) × ((List Int) × ((List Int) × Unit)))))))
       some (.inr ((false, y19, ())))
      else
      some (.inl (v.1, v.2.1, v.2.2.1, v.2.2.2.1, r15.1, r15.2.1, r15.2.2.1, r15.2.2.2.1, r15.2.2.2.2.1, r15.2.2.2.2.2.1, ()))) fun o20 =>
     Sum.elim (fun o21 =>
      let y22 := [(o21.2.2.2.2.1, o21.2.2.2.2.2.1, (o21.2.2.2.2.2.2.1, o21.2.2.2.2.2.2.2.1, ()), o21.2.2.2.2.2.2.2.2.1, o21.2.2.2.2.2.2.2.2.2.1, ())]
      bif decide (o21.2.2.2.1.length + y22.length ≤ lim) then
      (FiThing_size N ((o21.2.2.2.2.1, o21.2.2.2.2.2.1, (o21.2.2.2.2.2.2.1, o21.2.2.2.2.2.2.2.1, ()), o21.2.2.2.2.2.2.2.2.1, o21.2.2.2.2.2.2.2.2.2.1, ()), ())).bind fun r23 =>
      liThingsIn_0 N n (o21.1, o21.2.1, w64 (o21.2.2.1 + r23.1), o21.2.2.2.1 ++ y22, ())
      else none) (fun o24 =>
      some (.inr ((o24.1, o24.2.1, ())))) o20
    else
    some (.inl (v.2.2.2.1, ()))
noncomputable def FiThingsIn (N : Nat) (x : ((List Int) × (Int × (Int × Unit)))) : Option (Bool × ((List (Int × (Int × ((Int × (Int × Unit)) × ((List Int) × ((List Int) × Unit)))))) × Unit)) :=
  Option.bind (
   (FiWordsOk N (x.1, ())).bind fun r1 =>
   bif !r1.1 then
    let y2 := ([] : (List (Int × (Int × ((Int × (Int × Unit)) × ((List Int) × ((List Int) × Unit)))))))
    some (.inr ((false, y2, ())))
   else
   bif decide (x.2.1 < (1 : Int)) then
    let y3 := ([] : (List (Int × (Int × ((Int × (Int × Unit)) × ((List Int) × ((List Int) × Unit)))))))
    some (.inr ((false, y3, ())))
   else
   bif decide ((16 : Int) = 0) then
    none
   else
   let y4 := w64 (Int.tdiv (x.1.length : Int) (16 : Int))
   bif decide (x.2.1 ≥ y4) then
    let y5 := ([] : (List (Int × (Int × ((Int × (Int × Unit)) × ((List Int) × ((List Int) × Unit)))))))
    some (.inr ((false, y5, ())))
   else
   (FiRegionBase N (x.2.1, ())).bind fun r6 =>
   bif decide (x.2.2.1 < r6.1) then
    let y7 := ([] : (List (Int × (Int × ((Int × (Int × Unit)) × ((List Int) × ((List Int) × Unit)))))))
    some (.inr ((false, y7, ())))
   else
   (FiRegionBase N (x.2.1, ())).bind fun r8 =>
   let y9 := decide (x.2.2.1 > (w64 (r8.1 + (16 : Int))))
   bif y9 then
    let y10 := ([] : (List (Int × (Int × ((Int × (Int × Unit)) × ((List Int) × ((List Int) × Unit)))))))
    some (.inr ((false, y10, ())))
   else
   some (.inl (x.1, x.2.1, x.2.2.1, ()))) fun o11 =>
  Sum.elim (fun o12 =>
   let y13 := ([] : (List (Int × (Int × ((Int × (Int × Unit)) × ((List Int) × ((List Int) × Unit)))))))
   (FiRegionBase N (o12.2.1, ())).bind fun r14 =>
   (liThingsIn_0 N N (o12.1, o12.2.2.1, r14.1, y13, ())).bind fun o25 =>
   Sum.elim (fun o26 =>
    some (true, o26.1, ())) (fun o27 =>
    some (o27.1, o27.2.1, ())) o25) (fun o28 =>
   some (o28.1, o28.2.1, ())) o11
noncomputable def coniThingsIn (N : Nat) : Con := { f := 117, din := diniThingsIn, outs := outiThingsIn, F := FiThingsIn N }
noncomputable def XiThingsIn (N : Nat) : Ctx := { E := EiThingsIn N, H := HiThingsIn, lp := [(0, { hd := diThingsIn_0, outs := oiThingsIn_0, run := fun v => liThingsIn_0 N N v })], jn := [(3, jiThingsIn_3), (9, jiThingsIn_9)] }
noncomputable def biThingsIn_0 : Code := loopBody (codeOf Try.f117) 0
theorem FiThingsIn_eq (N : Nat) (x : ((List Int) × (Int × (Int × Unit)))) : evFn (XiThingsIn N) Try.f117 diniThingsIn outiThingsIn x = FiThingsIn N x := by kernel_rfl
theorem liThingsIn_0_eq (N n : Nat) (v : ((List Int) × (Int × (Int × ((List (Int × (Int × ((Int × (Int × Unit)) × ((List Int) × ((List Int) × Unit)))))) × Unit))))) : liThingsIn_0 N (n + 1) v = ev (XiThingsIn N) biThingsIn_0 (roundK diThingsIn_0 oiThingsIn_0 (liThingsIn_0 N n)) (diThingsIn_0.mk' v) := by kernel_rfl
theorem cxiThingsIn (N : Nat) : CtxOk Try.prog (XiThingsIn N) := ⟨⟨TE_ok, List.forall_mem_cons.2 ⟨(speciWordsOk N), List.forall_mem_cons.2 ⟨(speciRegionBase N), List.forall_mem_cons.2 ⟨(speciThingAt_r_ N), List.forall_mem_cons.2 ⟨(speciThing_size N), fun k hk => absurd hk List.not_mem_nil⟩⟩⟩⟩⟩, mixed⟩
theorem lpiThingsIn_0 (N : Nat) : LoopOk Try.prog { hd := diThingsIn_0, outs := oiThingsIn_0, run := fun v => liThingsIn_0 N N v } biThingsIn_0 :=
  loop_fuel (d := diThingsIn_0) (os := oiThingsIn_0) (cxiThingsIn N) (loops_at (ids := []) (by kernel_rfl) (trivial)) (liThingsIn_0 N) (fun _ => rfl) (fun n v => liThingsIn_0_eq N n v) (fun _ => N)
theorem speciThingsIn (N : Nat) : Spec Try.prog (coniThingsIn N) :=
  Spec.of_eq (fn_spec (cxiThingsIn N) (f := 117) (fn := Try.f117) (c := codeOf Try.f117) (by kernel_rfl) (by kernel_rfl) (by kernel_rfl) (loops_at (ids := [0]) (by kernel_rfl) ⟨lp_of (lpiThingsIn_0 N), trivial⟩) (by kernel_rfl)) (fun x r h => (FiThingsIn_eq N x).trans h)

/-! ### 83: impl.State).things -/

noncomputable def diniState_things : Desc := { n := 1, regs := [.one (.val (.pair (.sl (.int .i64)) (.pair (.sl (.pair (.int .i64) (.pair (.int .i64) (.pair (.int .i64) (.pair (.int .i64) (.pair (.int .i64) .unit)))))) (.pair (.sl .bool) (.pair (.int .i64) (.pair .bool (.pair .bool (.pair .bool (.pair (.int .i64) (.pair (.sl (.pair (.sl (.int .i64)) (.pair (.int .i64) (.pair .bool (.pair (.int .i64) .unit))))) (.pair (.sl (.int .i64)) (.pair (.sl (.int .i64)) (.pair (.int .i64) (.pair (.int .i64) .unit))))))))))))))], bx := [], pins := [] }
noncomputable def outiState_things : Outs := [(.ret, { n := 2, regs := [.one (.val (.mp (.pair (.int .i64) (.pair (.int .i64) (.pair (.pair (.int .i64) (.pair (.int .i64) .unit)) (.pair (.sl (.int .i64)) (.pair (.sl (.int .i64)) .unit))))))), .one (.val .bool)], bx := [], pins := [] })]
noncomputable def HiState_things : Hints := [(0, [(0, { fz := true })]),
  (7, [(9, { con := 1 })])]
noncomputable def EiState_things (N : Nat) : Env := { te := TE, cs := [coniState_whole N, coniThingsIn N] }
noncomputable def diState_things_2 : Desc := { n := 48, regs := [u, .one (.fpt (.pair (.sl (.int .i64)) (.pair (.sl (.pair (.int .i64) (.pair (.int .i64) (.pair (.int .i64) (.pair (.int .i64) (.pair (.int .i64) .unit)))))) (.pair (.sl .bool) (.pair (.int .i64) (.pair .bool (.pair .bool (.pair .bool (.pair (.int .i64) (.pair (.sl (.pair (.sl (.int .i64)) (.pair (.int .i64) (.pair .bool (.pair (.int .i64) .unit))))) (.pair (.sl (.int .i64)) (.pair (.sl (.int .i64)) (.pair (.int .i64) (.pair (.int .i64) .unit)))))))))))))), u, u, .one (.lit (.mrow 1038400)), .one (.val (.int .i64)), u, u, u, u, u, u, u, u, u, u, u, u, u, u, u, u, u, u, u, u, u, u, u, u, u, u, u, u, u, u, .one (.lit (.row 1090177)), .one (.val (.int .i64)), .one (.val (.int .i64))], bx := [(1038400, .mp (.pair (.int .i64) (.pair (.int .i64) (.pair (.pair (.int .i64) (.pair (.int .i64) .unit)) (.pair (.sl (.int .i64)) (.pair (.sl (.int .i64)) .unit)))))), (1090177, .row (.fz (.pair (.int .i64) (.pair (.int .i64) (.pair (.pair (.int .i64) (.pair (.int .i64) .unit)) (.pair (.sl (.int .i64)) (.pair (.sl (.int .i64)) .unit)))))))], pins := [] }
noncomputable def oiState_things_2 : Outs := [(.exit 2, { n := 48, regs := [u, .one (.fpt (.pair (.sl (.int .i64)) (.pair (.sl (.pair (.int .i64) (.pair (.int .i64) (.pair (.int .i64) (.pair (.int .i64) (.pair (.int .i64) .unit)))))) (.pair (.sl .bool) (.pair (.int .i64) (.pair .bool (.pair .bool (.pair .bool (.pair (.int .i64) (.pair (.sl (.pair (.sl (.int .i64)) (.pair (.int .i64) (.pair .bool (.pair (.int .i64) .unit))))) (.pair (.sl (.int .i64)) (.pair (.sl (.int .i64)) (.pair (.int .i64) (.pair (.int .i64) .unit)))))))))))))), u, u, .one (.lit (.mrow 1038400)), .one (.val (.int .i64))], bx := [(1038400, .mp (.pair (.int .i64) (.pair (.int .i64) (.pair (.pair (.int .i64) (.pair (.int .i64) .unit)) (.pair (.sl (.int .i64)) (.pair (.sl (.int .i64)) .unit))))))], pins := [] })]
noncomputable def diState_things_0 : Desc := { n := 48, regs := [u, .one (.fpt (.pair (.sl (.int .i64)) (.pair (.sl (.pair (.int .i64) (.pair (.int .i64) (.pair (.int .i64) (.pair (.int .i64) (.pair (.int .i64) .unit)))))) (.pair (.sl .bool) (.pair (.int .i64) (.pair .bool (.pair .bool (.pair .bool (.pair (.int .i64) (.pair (.sl (.pair (.sl (.int .i64)) (.pair (.int .i64) (.pair .bool (.pair (.int .i64) .unit))))) (.pair (.sl (.int .i64)) (.pair (.sl (.int .i64)) (.pair (.int .i64) (.pair (.int .i64) .unit)))))))))))))), u, u, .one (.lit (.mrow 1038400)), .one (.val (.int .i64))], bx := [(1038400, .mp (.pair (.int .i64) (.pair (.int .i64) (.pair (.pair (.int .i64) (.pair (.int .i64) .unit)) (.pair (.sl (.int .i64)) (.pair (.sl (.int .i64)) .unit))))))], pins := [] }
noncomputable def oiState_things_0 : Outs := [(.exit 0, { n := 48, regs := [u, u, u, u, .one (.lit (.mrow 1038400))], bx := [(1038400, .mp (.pair (.int .i64) (.pair (.int .i64) (.pair (.pair (.int .i64) (.pair (.int .i64) .unit)) (.pair (.sl (.int .i64)) (.pair (.sl (.int .i64)) .unit))))))], pins := [] }), (.ret, { n := 48, regs := [u, u, .one (.lit .mnil), .one (.val .bool)], bx := [], pins := [] })]
noncomputable def liState_things_2 (N : Nat) : Nat → (((List Int) × ((List (Int × (Int × (Int × (Int × (Int × Unit)))))) × ((List Bool) × (Int × (Bool × (Bool × (Bool × (Int × ((List ((List Int) × (Int × (Bool × (Int × Unit))))) × ((List Int) × ((List Int) × (Int × (Int × Unit))))))))))))) × (Int × (Int × (Int × ((List (Int × (Int × (Int × ((Int × (Int × Unit)) × ((List Int) × ((List Int) × Unit))))))) × ((List (Int × (Int × ((Int × (Int × Unit)) × ((List Int) × ((List Int) × Unit)))))) × Unit)))))) → Option (((List Int) × ((List (Int × (Int × (Int × (Int × (Int × Unit)))))) × ((List Bool) × (Int × (Bool × (Bool × (Bool × (Int × ((List ((List Int) × (Int × (Bool × (Int × Unit))))) × ((List Int) × ((List Int) × (Int × (Int × Unit))))))))))))) × (Int × ((List (Int × (Int × (Int × ((Int × (Int × Unit)) × ((List Int) × ((List Int) × Unit))))))) × Unit)))
  | 0, _ => none
  | n + 1, v =>
    bif decide (v.2.2.2.1 < v.2.2.1) then
     bif decide (0 ≤ v.2.2.2.1) then
     bif decide (v.2.2.2.1.toNat < v.2.2.2.2.2.1.length) then
     let y6 := v.2.2.2.2.2.1.getD v.2.2.2.1.toNat ((0 : Int), (0 : Int), ((0 : Int), (0 : Int), ()), ([] : (List Int)), ([] : (List Int)), ())
     let y7 := mset v.2.2.2.2.1 y6.1 (y6.1, y6.2.1, (y6.2.2.1.1, y6.2.2.1.2.1, ()), y6.2.2.2.1, y6.2.2.2.2.1, ())
     liState_things_2 N n (v.1, v.2.1, v.2.2.1, w64 (v.2.2.2.1 + (1 : Int)), y7, v.2.2.2.2.2.1, ())
     else none
     else none
    else
    some (v.1, v.2.1, v.2.2.2.2.1, ())
noncomputable def liState_things_0 (N : Nat) : Nat → (((List Int) × ((List (Int × (Int × (Int × (Int × (Int × Unit)))))) × ((List Bool) × (Int × (Bool × (Bool × (Bool × (Int × ((List ((List Int) × (Int × (Bool × (Int × Unit))))) × ((List Int) × ((List Int) × (Int × (Int × Unit))))))))))))) × (Int × ((List (Int × (Int × (Int × ((Int × (Int × Unit)) × ((List Int) × ((List Int) × Unit))))))) × Unit))) → Option (((List (Int × (Int × (Int × ((Int × (Int × Unit)) × ((List Int) × ((List Int) × Unit))))))) × Unit) ⊕ (Bool × Unit))
  | 0, _ => none
  | n + 1, v =>
    let y3 := decide (v.2.1 < (v.1.2.1.length : Int))
    bif y3 then
     bif decide (0 ≤ v.2.1) then
     bif decide (v.2.1.toNat < v.1.2.1.length) then
     let y4 := v.1.2.1.getD v.2.1.toNat ((0 : Int), (0 : Int), (0 : Int), (0 : Int), (0 : Int), ())
     (FiThingsIn N (v.1.1, v.2.1, y4.2.2.1, ())).bind fun r5 =>
     bif !r5.1 then
      some (.inr ((false, ())))
     else
     (liState_things_2 N N (v.1, v.2.1, (r5.2.1.length : Int), (0 : Int), v.2.2.1, r5.2.1, ())).bind fun o8 =>
     liState_things_0 N n (o8.1, w64 (o8.2.1 + (1 : Int)), o8.2.2.1, ())
     else none
     else none
    else
    some (.inl (v.2.2.1, ()))
noncomputable def FiState_things (N : Nat) (x : (((List Int) × ((List (Int × (Int × (Int × (Int × (Int × Unit)))))) × ((List Bool) × (Int × (Bool × (Bool × (Bool × (Int × ((List ((List Int) × (Int × (Bool × (Int × Unit))))) × ((List Int) × ((List Int) × (Int × (Int × Unit))))))))))))) × Unit)) : Option ((List (Int × (Int × (Int × ((Int × (Int × Unit)) × ((List Int) × ((List Int) × Unit))))))) × (Bool × Unit)) :=
  (FiState_whole N (x.1, ())).bind fun r1 =>
  bif !r1.1 then
   some (([] : (List (Int × (Int × (Int × ((Int × (Int × Unit)) × ((List Int) × ((List Int) × Unit)))))))), false, ())
  else
  let y2 := ([] : (List (Int × (Int × (Int × ((Int × (Int × Unit)) × ((List Int) × ((List Int) × Unit))))))))
  (liState_things_0 N N (x.1, (1 : Int), y2, ())).bind fun o9 =>
  Sum.elim (fun o10 =>
   some (o10.1, true, ())) (fun o11 =>
   some (([] : (List (Int × (Int × (Int × ((Int × (Int × Unit)) × ((List Int) × ((List Int) × Unit)))))))), o11.1, ())) o9
noncomputable def coniState_things (N : Nat) : Con := { f := 83, din := diniState_things, outs := outiState_things, F := FiState_things N }
noncomputable def XiState_things (N : Nat) : Ctx := { E := EiState_things N, H := HiState_things, lp := [(2, { hd := diState_things_2, outs := oiState_things_2, run := fun v => liState_things_2 N N v }), (0, { hd := diState_things_0, outs := oiState_things_0, run := fun v => liState_things_0 N N v })], jn := [] }
noncomputable def biState_things_0 : Code := loopBody (codeOf Try.f83) 0
noncomputable def biState_things_2 : Code := loopBody biState_things_0 0
theorem FiState_things_eq (N : Nat) (x : (((List Int) × ((List (Int × (Int × (Int × (Int × (Int × Unit)))))) × ((List Bool) × (Int × (Bool × (Bool × (Bool × (Int × ((List ((List Int) × (Int × (Bool × (Int × Unit))))) × ((List Int) × ((List Int) × (Int × (Int × Unit))))))))))))) × Unit)) : evFn (XiState_things N) Try.f83 diniState_things outiState_things x = FiState_things N x := by kernel_rfl
theorem liState_things_2_eq (N n : Nat) (v : (((List Int) × ((List (Int × (Int × (Int × (Int × (Int × Unit)))))) × ((List Bool) × (Int × (Bool × (Bool × (Bool × (Int × ((List ((List Int) × (Int × (Bool × (Int × Unit))))) × ((List Int) × ((List Int) × (Int × (Int × Unit))))))))))))) × (Int × (Int × (Int × ((List (Int × (Int × (Int × ((Int × (Int × Unit)) × ((List Int) × ((List Int) × Unit))))))) × ((List (Int × (Int × ((Int × (Int × Unit)) × ((List Int) × ((List Int) × Unit)))))) × Unit))))))) : liState_things_2 N (n + 1) v = ev (XiState_things N) biState_things_2 (roundK diState_things_2 oiState_things_2 (liState_things_2 N n)) (diState_things_2.mk' v) := by kernel_rfl
theorem liState_things_0_eq (N n : Nat) (v : (((List Int) × ((List (Int × (Int × (Int × (Int × (Int × Unit)))))) × ((List Bool) × (Int × (Bool × (Bool × (Bool × (Int × ((List ((List Int) × (Int × (Bool × (Int × Unit))))) × ((List Int) × ((List Int) × (Int × (Int × Unit))))))))))))) × (Int × ((List (Int × (Int × (Int × ((Int × (Int × Unit)) × ((List Int) × ((List Int) × Unit))))))) × Unit)))) : liState_things_0 N (n + 1) v = ev (XiState_things N) biState_things_0 (roundK diState_things_0 oiState_things_0 (liState_things_0 N n)) (diState_things_0.mk' v) := by kernel_rfl
theorem cxiState_things (N : Nat) : CtxOk Try.prog (XiState_things N) := ⟨⟨TE_ok, List.forall_mem_cons.2 ⟨(speciState_whole N), List.forall_mem_cons.2 ⟨(speciThingsIn N), fun k hk => absurd hk List.not_mem_nil⟩⟩⟩, mixed⟩
theorem lpiState_things_2 (N : Nat) : LoopOk Try.prog { hd := diState_things_2, outs := oiState_things_2, run := fun v => liState_things_2 N N v } biState_things_2 :=
  loop_fuel (d := diState_things_2) (os := oiState_things_2) (cxiState_things N) (loops_at (ids := []) (by kernel_rfl) (trivial)) (liState_things_2 N) (fun _ => rfl) (fun n v => liState_things_2_eq N n v) (fun _ => N)
theorem lpiState_things_0 (N : Nat) : LoopOk Try.prog { hd := diState_things_0, outs := oiState_things_0, run := fun v => liState_things_0 N N v } biState_things_0 :=
  loop_fuel (d := diState_things_0) (os := oiState_things_0) (cxiState_things N) (loops_at (ids := [2]) (by kernel_rfl) ⟨lp_of (lpiState_things_2 N), trivial⟩) (liState_things_0 N) (fun _ => rfl) (fun n v => liState_things_0_eq N n v) (fun _ => N)
theorem speciState_things (N : Nat) : Spec Try.prog (coniState_things N) :=
  Spec.of_eq (fn_spec (cxiState_things N) (f := 83) (fn := Try.f83) (c := codeOf Try.f83) (by kernel_rfl) (by kernel_rfl) (by kernel_rfl) (loops_at (ids := [0]) (by kernel_rfl) ⟨lp_of (lpiState_things_0 N), trivial⟩) (by kernel_rfl)) (fun x r h => (FiState_things_eq N x).trans h)

/-! ### 93: impl.RegionOf -/

noncomputable def diniRegionOf : Desc := { n := 1, regs := [.one (.val (.int .i64))], bx := [], pins := [] }
noncomputable def outiRegionOf : Outs := [(.ret, { n := 1, regs := [.one (.val (.int .i64))], bx := [], pins := [] })]
noncomputable def HiRegionOf : Hints := []
noncomputable def EiRegionOf (_N : Nat) : Env := { te := TE, cs := [] }
noncomputable def FiRegionOf (N : Nat) (x : (Int × Unit)) : Option (Int × Unit) :=
  bif decide (x.1 < (0 : Int)) then
   some ((-1 : Int), ())
  else
  bif decide ((16 : Int) = 0) then
   none
  else
  some (w64 (Int.tdiv x.1 (16 : Int)), ())
noncomputable def coniRegionOf (N : Nat) : Con := { f := 93, din := diniRegionOf, outs := outiRegionOf, F := FiRegionOf N }
noncomputable def XiRegionOf (N : Nat) : Ctx := { E := EiRegionOf N, H := HiRegionOf, lp := [], jn := [] }
theorem FiRegionOf_eq (N : Nat) (x : (Int × Unit)) : evFn (XiRegionOf N) Try.f93 diniRegionOf outiRegionOf x = FiRegionOf N x := by kernel_rfl
theorem cxiRegionOf (N : Nat) : CtxOk Try.prog (XiRegionOf N) := ⟨⟨TE_ok, fun k hk => absurd hk List.not_mem_nil⟩, mixed⟩
theorem speciRegionOf (N : Nat) : Spec Try.prog (coniRegionOf N) :=
  Spec.of_eq (fn_spec (cxiRegionOf N) (f := 93) (fn := Try.f93) (c := codeOf Try.f93) (by kernel_rfl) (by kernel_rfl) (by kernel_rfl) (loops_at (ids := []) (by kernel_rfl) (trivial)) (by kernel_rfl)) (fun x r h => (FiRegionOf_eq N x).trans h)

/-! ### 118: impl.State).from -/

noncomputable def diniState_from : Desc := { n := 2, regs := [.one (.val (.pair (.sl (.int .i64)) (.pair (.sl (.pair (.int .i64) (.pair (.int .i64) (.pair (.int .i64) (.pair (.int .i64) (.pair (.int .i64) .unit)))))) (.pair (.sl .bool) (.pair (.int .i64) (.pair .bool (.pair .bool (.pair .bool (.pair (.int .i64) (.pair (.sl (.pair (.sl (.int .i64)) (.pair (.int .i64) (.pair .bool (.pair (.int .i64) .unit))))) (.pair (.sl (.int .i64)) (.pair (.sl (.int .i64)) (.pair (.int .i64) (.pair (.int .i64) .unit)))))))))))))), .one (.val (.int .i64))], bx := [], pins := [] }
noncomputable def outiState_from : Outs := [(.ret, { n := 1, regs := [.one (.val .bool)], bx := [], pins := [] })]
noncomputable def HiState_from : Hints := [(0, [(0, { fz := true })])]
noncomputable def EiState_from (N : Nat) : Env := { te := TE, cs := [coniRegionOf N] }
noncomputable def FiState_from (N : Nat) (x : (((List Int) × ((List (Int × (Int × (Int × (Int × (Int × Unit)))))) × ((List Bool) × (Int × (Bool × (Bool × (Bool × (Int × ((List ((List Int) × (Int × (Bool × (Int × Unit))))) × ((List Int) × ((List Int) × (Int × (Int × Unit))))))))))))) × (Int × Unit))) : Option (Bool × Unit) :=
  (FiRegionOf N (x.2.1, ())).bind fun r1 =>
  bif decide (r1.1 ≥ (0 : Int)) then
   let y2 := decide (r1.1 < (x.1.2.1.length : Int))
   bif y2 then
    bif decide (0 ≤ r1.1) then
    bif decide (r1.1.toNat < x.1.2.1.length) then
    let y3 := x.1.2.1.getD r1.1.toNat ((0 : Int), (0 : Int), (0 : Int), (0 : Int), (0 : Int), ())
    some (y3.1 == (4 : Int), ())
    else none
    else none
   else
   some (false, ())
  else
  some (false, ())
noncomputable def coniState_from (N : Nat) : Con := { f := 118, din := diniState_from, outs := outiState_from, F := FiState_from N }
noncomputable def XiState_from (N : Nat) : Ctx := { E := EiState_from N, H := HiState_from, lp := [], jn := [] }
theorem FiState_from_eq (N : Nat) (x : (((List Int) × ((List (Int × (Int × (Int × (Int × (Int × Unit)))))) × ((List Bool) × (Int × (Bool × (Bool × (Bool × (Int × ((List ((List Int) × (Int × (Bool × (Int × Unit))))) × ((List Int) × ((List Int) × (Int × (Int × Unit))))))))))))) × (Int × Unit))) : evFn (XiState_from N) Try.f118 diniState_from outiState_from x = FiState_from N x := by kernel_rfl
theorem cxiState_from (N : Nat) : CtxOk Try.prog (XiState_from N) := ⟨⟨TE_ok, List.forall_mem_cons.2 ⟨(speciRegionOf N), fun k hk => absurd hk List.not_mem_nil⟩⟩, mixed⟩
theorem speciState_from (N : Nat) : Spec Try.prog (coniState_from N) :=
  Spec.of_eq (fn_spec (cxiState_from N) (f := 118) (fn := Try.f118) (c := codeOf Try.f118) (by kernel_rfl) (by kernel_rfl) (by kernel_rfl) (loops_at (ids := []) (by kernel_rfl) (trivial)) (by kernel_rfl)) (fun x r h => (FiState_from_eq N x).trans h)

/-! ### 86: impl.State).settled -/

noncomputable def diniState_settled : Desc := { n := 2, regs := [.one (.val (.pair (.sl (.int .i64)) (.pair (.sl (.pair (.int .i64) (.pair (.int .i64) (.pair (.int .i64) (.pair (.int .i64) (.pair (.int .i64) .unit)))))) (.pair (.sl .bool) (.pair (.int .i64) (.pair .bool (.pair .bool (.pair .bool (.pair (.int .i64) (.pair (.sl (.pair (.sl (.int .i64)) (.pair (.int .i64) (.pair .bool (.pair (.int .i64) .unit))))) (.pair (.sl (.int .i64)) (.pair (.sl (.int .i64)) (.pair (.int .i64) (.pair (.int .i64) .unit)))))))))))))), .one (.val (.mp (.pair (.int .i64) (.pair (.int .i64) (.pair (.pair (.int .i64) (.pair (.int .i64) .unit)) (.pair (.sl (.int .i64)) (.pair (.sl (.int .i64)) .unit)))))))], bx := [], pins := [] }
noncomputable def outiState_settled : Outs := [(.ret, { n := 1, regs := [.one (.val .bool)], bx := [], pins := [] })]
noncomputable def HiState_settled : Hints := [(0, [(0, { fz := true })])]
noncomputable def EiState_settled (N : Nat) : Env := { te := TE, cs := [coniState_from N] }
noncomputable def diState_settled_0 : Desc := { n := 56, regs := [u, .one (.val (.mp (.pair (.int .i64) (.pair (.int .i64) (.pair (.pair (.int .i64) (.pair (.int .i64) .unit)) (.pair (.sl (.int .i64)) (.pair (.sl (.int .i64)) .unit))))))), .one (.fpt (.pair (.sl (.int .i64)) (.pair (.sl (.pair (.int .i64) (.pair (.int .i64) (.pair (.int .i64) (.pair (.int .i64) (.pair (.int .i64) .unit)))))) (.pair (.sl .bool) (.pair (.int .i64) (.pair .bool (.pair .bool (.pair .bool (.pair (.int .i64) (.pair (.sl (.pair (.sl (.int .i64)) (.pair (.int .i64) (.pair .bool (.pair (.int .i64) .unit))))) (.pair (.sl (.int .i64)) (.pair (.sl (.int .i64)) (.pair (.int .i64) (.pair (.int .i64) .unit)))))))))))))), u, u, u, u, u, u, u, .one (.lit (.it 1012864))], bx := [(1012864, .it (.pair (.int .i64) (.pair (.int .i64) (.pair (.pair (.int .i64) (.pair (.int .i64) .unit)) (.pair (.sl (.int .i64)) (.pair (.sl (.int .i64)) .unit))))))], pins := [] }
noncomputable def oiState_settled_0 : Outs := [(.exit 0, { n := 56, regs := [], bx := [], pins := [] }), (.ret, { n := 56, regs := [u, u, u, u, .one (.val .bool)], bx := [], pins := [] })]
noncomputable def liState_settled_0 (N : Nat) : Nat → ((List (Int × (Int × (Int × ((Int × (Int × Unit)) × ((List Int) × ((List Int) × Unit))))))) × (((List Int) × ((List (Int × (Int × (Int × (Int × (Int × Unit)))))) × ((List Bool) × (Int × (Bool × (Bool × (Bool × (Int × ((List ((List Int) × (Int × (Bool × (Int × Unit))))) × ((List Int) × ((List Int) × (Int × (Int × Unit))))))))))))) × ((List (Int × (Int × (Int × ((Int × (Int × Unit)) × ((List Int) × ((List Int) × Unit))))))) × Unit))) → Option (Unit ⊕ (Bool × Unit))
  | 0, _ => none
  | n + 1, v =>
    bif v.2.2.1.isEmpty then
     some (.inl ())
    else
    anyOf (v.2.2.1.length) fun i1 =>
     let y2 := (v.2.2.1.getD i1 (0, ((0 : Int), (0 : Int), ((0 : Int), (0 : Int), ()), ([] : (List Int)), ([] : (List Int)), ()))).1
     let y3 := (v.2.2.1.getD i1 (0, ((0 : Int), (0 : Int), ((0 : Int), (0 : Int), ()), ([] : (List Int)), ([] : (List Int)), ()))).2
     bif y3.2.1 == y3.1 then
      liState_settled_0 N n (v.1, v.2.1, v.2.2.1.eraseIdx i1, ())
     else
     let y4 := (mget v.1 y3.2.1).getD ((0 : Int), (0 : Int), ((0 : Int), (0 : Int), ()), ([] : (List Int)), ([] : (List Int)), ())
     bif !((mget v.1 y3.2.1).isSome) then
      some (.inr ((false, ())))
     else
     let y5 := !((y4.2.2.1.1 == y3.2.2.1.1) && ((y4.2.2.1.2.1 == y3.2.2.1.2.1) && (true)))
     bif y5 then
      some (.inr ((false, ())))
     else
     bif y4.2.1 != y4.1 then
      some (.inr ((false, ())))
     else
     (FiState_from N (v.2.1, y4.1, ())).bind fun r6 =>
     bif r6.1 then
      some (.inr ((false, ())))
     else
     (FiState_from N (v.2.1, y3.1, ())).bind fun r7 =>
     bif !r7.1 then
      some (.inr ((false, ())))
     else
     liState_settled_0 N n (v.1, v.2.1, v.2.2.1.eraseIdx i1, ())
noncomputable def FiState_settled (N : Nat) (x : (((List Int) × ((List (Int × (Int × (Int × (Int × (Int × Unit)))))) × ((List Bool) × (Int × (Bool × (Bool × (Bool × (Int × ((List ((List Int) × (Int × (Bool × (Int × Unit))))) × ((List Int) × ((List Int) × (Int × (Int × Unit))))))))))))) × ((List (Int × (Int × (Int × ((Int × (Int × Unit)) × ((List Int) × ((List Int) × Unit))))))) × Unit))) : Option (Bool × Unit) :=
  (liState_settled_0 N N (x.2.1, x.1, x.2.1, ())).bind fun o8 =>
  Sum.elim (fun o9 =>
   some (true, ())) (fun o10 =>
   some (o10.1, ())) o8
noncomputable def coniState_settled (N : Nat) : Con := { f := 86, din := diniState_settled, outs := outiState_settled, F := FiState_settled N }
noncomputable def XiState_settled (N : Nat) : Ctx := { E := EiState_settled N, H := HiState_settled, lp := [(0, { hd := diState_settled_0, outs := oiState_settled_0, run := fun v => liState_settled_0 N N v })], jn := [] }
noncomputable def biState_settled_0 : Code := loopBody (codeOf Try.f86) 0
theorem FiState_settled_eq (N : Nat) (x : (((List Int) × ((List (Int × (Int × (Int × (Int × (Int × Unit)))))) × ((List Bool) × (Int × (Bool × (Bool × (Bool × (Int × ((List ((List Int) × (Int × (Bool × (Int × Unit))))) × ((List Int) × ((List Int) × (Int × (Int × Unit))))))))))))) × ((List (Int × (Int × (Int × ((Int × (Int × Unit)) × ((List Int) × ((List Int) × Unit))))))) × Unit))) : evFn (XiState_settled N) Try.f86 diniState_settled outiState_settled x = FiState_settled N x := by kernel_rfl
theorem liState_settled_0_eq (N n : Nat) (v : ((List (Int × (Int × (Int × ((Int × (Int × Unit)) × ((List Int) × ((List Int) × Unit))))))) × (((List Int) × ((List (Int × (Int × (Int × (Int × (Int × Unit)))))) × ((List Bool) × (Int × (Bool × (Bool × (Bool × (Int × ((List ((List Int) × (Int × (Bool × (Int × Unit))))) × ((List Int) × ((List Int) × (Int × (Int × Unit))))))))))))) × ((List (Int × (Int × (Int × ((Int × (Int × Unit)) × ((List Int) × ((List Int) × Unit))))))) × Unit)))) : liState_settled_0 N (n + 1) v = ev (XiState_settled N) biState_settled_0 (roundK diState_settled_0 oiState_settled_0 (liState_settled_0 N n)) (diState_settled_0.mk' v) := by kernel_rfl
theorem cxiState_settled (N : Nat) : CtxOk Try.prog (XiState_settled N) := ⟨⟨TE_ok, List.forall_mem_cons.2 ⟨(speciState_from N), fun k hk => absurd hk List.not_mem_nil⟩⟩, mixed⟩
theorem lpiState_settled_0 (N : Nat) : LoopOk Try.prog { hd := diState_settled_0, outs := oiState_settled_0, run := fun v => liState_settled_0 N N v } biState_settled_0 :=
  loop_fuel (d := diState_settled_0) (os := oiState_settled_0) (cxiState_settled N) (loops_at (ids := []) (by kernel_rfl) (trivial)) (liState_settled_0 N) (fun _ => rfl) (fun n v => liState_settled_0_eq N n v) (fun _ => N)
theorem speciState_settled (N : Nat) : Spec Try.prog (coniState_settled N) :=
  Spec.of_eq (fn_spec (cxiState_settled N) (f := 86) (fn := Try.f86) (c := codeOf Try.f86) (by kernel_rfl) (by kernel_rfl) (by kernel_rfl) (loops_at (ids := [0]) (by kernel_rfl) ⟨lp_of (lpiState_settled_0 N), trivial⟩) (by kernel_rfl)) (fun x r h => (FiState_settled_eq N x).trans h)

/-! ### 88: impl.State).roots -/

noncomputable def diniState_roots : Desc := { n := 1, regs := [.one (.val (.pair (.sl (.int .i64)) (.pair (.sl (.pair (.int .i64) (.pair (.int .i64) (.pair (.int .i64) (.pair (.int .i64) (.pair (.int .i64) .unit)))))) (.pair (.sl .bool) (.pair (.int .i64) (.pair .bool (.pair .bool (.pair .bool (.pair (.int .i64) (.pair (.sl (.pair (.sl (.int .i64)) (.pair (.int .i64) (.pair .bool (.pair (.int .i64) .unit))))) (.pair (.sl (.int .i64)) (.pair (.sl (.int .i64)) (.pair (.int .i64) (.pair (.int .i64) .unit))))))))))))))], bx := [], pins := [] }
noncomputable def outiState_roots : Outs := [(.ret, { n := 1, regs := [.one (.lit (.row 1012800))], bx := [(1012800, .row (.int .i64))], pins := [] })]
noncomputable def HiState_roots : Hints := [(0, [(0, { fz := true })]),
  (1, [(0, { nl := [(0, (.int .i64))] })])]
noncomputable def EiState_roots (_N : Nat) : Env := { te := TE, cs := [] }
noncomputable def diState_roots_0 : Desc := { n := 22, regs := [u, .one (.fpt (.pair (.sl (.int .i64)) (.pair (.sl (.pair (.int .i64) (.pair (.int .i64) (.pair (.int .i64) (.pair (.int .i64) (.pair (.int .i64) .unit)))))) (.pair (.sl .bool) (.pair (.int .i64) (.pair .bool (.pair .bool (.pair .bool (.pair (.int .i64) (.pair (.sl (.pair (.sl (.int .i64)) (.pair (.int .i64) (.pair .bool (.pair (.int .i64) .unit))))) (.pair (.sl (.int .i64)) (.pair (.sl (.int .i64)) (.pair (.int .i64) (.pair (.int .i64) .unit)))))))))))))), u, .one (.lit (.row 1012800)), u, u, u, .one (.val (.sl (.pair (.sl (.int .i64)) (.pair (.int .i64) (.pair .bool (.pair (.int .i64) .unit)))))), .one (.val (.int .i64)), .one (.val (.int .i64))], bx := [(1012800, .row (.int .i64))], pins := [] }
noncomputable def oiState_roots_0 : Outs := [(.exit 0, { n := 22, regs := [u, .one (.fpt (.pair (.sl (.int .i64)) (.pair (.sl (.pair (.int .i64) (.pair (.int .i64) (.pair (.int .i64) (.pair (.int .i64) (.pair (.int .i64) .unit)))))) (.pair (.sl .bool) (.pair (.int .i64) (.pair .bool (.pair .bool (.pair .bool (.pair (.int .i64) (.pair (.sl (.pair (.sl (.int .i64)) (.pair (.int .i64) (.pair .bool (.pair (.int .i64) .unit))))) (.pair (.sl (.int .i64)) (.pair (.sl (.int .i64)) (.pair (.int .i64) (.pair (.int .i64) .unit)))))))))))))), u, .one (.lit (.row 1012800))], bx := [(1012800, .row (.int .i64))], pins := [] })]
noncomputable def liState_roots_0 (N : Nat) : Nat → (((List Int) × ((List (Int × (Int × (Int × (Int × (Int × Unit)))))) × ((List Bool) × (Int × (Bool × (Bool × (Bool × (Int × ((List ((List Int) × (Int × (Bool × (Int × Unit))))) × ((List Int) × ((List Int) × (Int × (Int × Unit))))))))))))) × ((List ((List Int) × (Int × (Bool × (Int × Unit))))) × (Int × (Int × ((List Int) × Unit))))) → Option (((List Int) × ((List (Int × (Int × (Int × (Int × (Int × Unit)))))) × ((List Bool) × (Int × (Bool × (Bool × (Bool × (Int × ((List ((List Int) × (Int × (Bool × (Int × Unit))))) × ((List Int) × ((List Int) × (Int × (Int × Unit))))))))))))) × ((List Int) × Unit))
  | 0, _ => none
  | n + 1, v =>
    bif decide (v.2.2.2.1 < v.2.2.1) then
     bif decide (0 ≤ v.2.2.2.1) then
     bif decide (v.2.2.2.1.toNat < v.2.1.length) then
     let y1 := v.2.1.getD v.2.2.2.1.toNat (([] : (List Int)), (0 : Int), false, (0 : Int), ())
     bif decide (v.2.2.2.2.1.length + y1.1.length ≤ lim) then
     liState_roots_0 N n (v.1, v.2.1, v.2.2.1, w64 (v.2.2.2.1 + (1 : Int)), v.2.2.2.2.1 ++ y1.1, ())
     else none
     else none
     else none
    else
    some (v.1, v.2.2.2.2.1, ())
noncomputable def FiState_roots (N : Nat) (x : (((List Int) × ((List (Int × (Int × (Int × (Int × (Int × Unit)))))) × ((List Bool) × (Int × (Bool × (Bool × (Bool × (Int × ((List ((List Int) × (Int × (Bool × (Int × Unit))))) × ((List Int) × ((List Int) × (Int × (Int × Unit))))))))))))) × Unit)) : Option ((List Int) × Unit) :=
  (liState_roots_0 N N (x.1, x.1.2.2.2.2.2.2.2.2.1, (x.1.2.2.2.2.2.2.2.2.1.length : Int), (0 : Int), ([] : (List Int)), ())).bind fun o2 =>
  bif decide (o2.2.1.length + o2.1.2.2.2.2.2.2.2.2.2.2.1.length ≤ lim) then
  some (o2.2.1 ++ o2.1.2.2.2.2.2.2.2.2.2.2.1, ())
  else none
noncomputable def coniState_roots (N : Nat) : Con := { f := 88, din := diniState_roots, outs := outiState_roots, F := FiState_roots N }
noncomputable def XiState_roots (N : Nat) : Ctx := { E := EiState_roots N, H := HiState_roots, lp := [(0, { hd := diState_roots_0, outs := oiState_roots_0, run := fun v => liState_roots_0 N N v })], jn := [] }
noncomputable def biState_roots_0 : Code := loopBody (codeOf Try.f88) 0
theorem FiState_roots_eq (N : Nat) (x : (((List Int) × ((List (Int × (Int × (Int × (Int × (Int × Unit)))))) × ((List Bool) × (Int × (Bool × (Bool × (Bool × (Int × ((List ((List Int) × (Int × (Bool × (Int × Unit))))) × ((List Int) × ((List Int) × (Int × (Int × Unit))))))))))))) × Unit)) : evFn (XiState_roots N) Try.f88 diniState_roots outiState_roots x = FiState_roots N x := by kernel_rfl
theorem liState_roots_0_eq (N n : Nat) (v : (((List Int) × ((List (Int × (Int × (Int × (Int × (Int × Unit)))))) × ((List Bool) × (Int × (Bool × (Bool × (Bool × (Int × ((List ((List Int) × (Int × (Bool × (Int × Unit))))) × ((List Int) × ((List Int) × (Int × (Int × Unit))))))))))))) × ((List ((List Int) × (Int × (Bool × (Int × Unit))))) × (Int × (Int × ((List Int) × Unit)))))) : liState_roots_0 N (n + 1) v = ev (XiState_roots N) biState_roots_0 (roundK diState_roots_0 oiState_roots_0 (liState_roots_0 N n)) (diState_roots_0.mk' v) := by kernel_rfl
theorem cxiState_roots (N : Nat) : CtxOk Try.prog (XiState_roots N) := ⟨⟨TE_ok, fun k hk => absurd hk List.not_mem_nil⟩, mixed⟩
theorem lpiState_roots_0 (N : Nat) : LoopOk Try.prog { hd := diState_roots_0, outs := oiState_roots_0, run := fun v => liState_roots_0 N N v } biState_roots_0 :=
  loop_fuel (d := diState_roots_0) (os := oiState_roots_0) (cxiState_roots N) (loops_at (ids := []) (by kernel_rfl) (trivial)) (liState_roots_0 N) (fun _ => rfl) (fun n v => liState_roots_0_eq N n v) (fun _ => N)
theorem speciState_roots (N : Nat) : Spec Try.prog (coniState_roots N) :=
  Spec.of_eq (fn_spec (cxiState_roots N) (f := 88) (fn := Try.f88) (c := codeOf Try.f88) (by kernel_rfl) (by kernel_rfl) (by kernel_rfl) (loops_at (ids := [0]) (by kernel_rfl) ⟨lp_of (lpiState_roots_0 N), trivial⟩) (by kernel_rfl)) (fun x r h => (FiState_roots_eq N x).trans h)

/-! ### 128: impl.heap).now -/

noncomputable def diniheap_now : Desc := { n := 2, regs := [.one (.fpt (.pair (.pair (.sl (.int .i64)) (.pair (.sl (.pair (.int .i64) (.pair (.int .i64) (.pair (.int .i64) (.pair (.int .i64) (.pair (.int .i64) .unit)))))) (.pair (.sl .bool) (.pair (.int .i64) (.pair .bool (.pair .bool (.pair .bool (.pair (.int .i64) (.pair (.sl (.pair (.sl (.int .i64)) (.pair (.int .i64) (.pair .bool (.pair (.int .i64) .unit))))) (.pair (.sl (.int .i64)) (.pair (.sl (.int .i64)) (.pair (.int .i64) (.pair (.int .i64) .unit))))))))))))) (.pair (.mp (.pair (.int .i64) (.pair (.int .i64) (.pair (.pair (.int .i64) (.pair (.int .i64) .unit)) (.pair (.sl (.int .i64)) (.pair (.sl (.int .i64)) .unit)))))) (.pair (.sl (.int .i64)) .unit)))), .one (.val (.int .i64))], bx := [], pins := [] }
noncomputable def outiheap_now : Outs := [(.ret, { n := 1, regs := [.one (.val (.int .i64))], bx := [], pins := [] })]
noncomputable def Hiheap_now : Hints := []
noncomputable def Eiheap_now (_N : Nat) : Env := { te := TE, cs := [] }
noncomputable def Fiheap_now (N : Nat) (x : ((((List Int) × ((List (Int × (Int × (Int × (Int × (Int × Unit)))))) × ((List Bool) × (Int × (Bool × (Bool × (Bool × (Int × ((List ((List Int) × (Int × (Bool × (Int × Unit))))) × ((List Int) × ((List Int) × (Int × (Int × Unit))))))))))))) × ((List (Int × (Int × (Int × ((Int × (Int × Unit)) × ((List Int) × ((List Int) × Unit))))))) × ((List Int) × Unit))) × (Int × Unit))) : Option (Int × Unit) :=
  bif x.2.1 == (0 : Int) then
   some ((0 : Int), ())
  else
  let y1 := (mget x.1.2.1 x.2.1).getD ((0 : Int), (0 : Int), ((0 : Int), (0 : Int), ()), ([] : (List Int)), ([] : (List Int)), ())
  some (y1.2.1, ())
noncomputable def coniheap_now (N : Nat) : Con := { f := 128, din := diniheap_now, outs := outiheap_now, F := Fiheap_now N }
noncomputable def Xiheap_now (N : Nat) : Ctx := { E := Eiheap_now N, H := Hiheap_now, lp := [], jn := [] }
theorem Fiheap_now_eq (N : Nat) (x : ((((List Int) × ((List (Int × (Int × (Int × (Int × (Int × Unit)))))) × ((List Bool) × (Int × (Bool × (Bool × (Bool × (Int × ((List ((List Int) × (Int × (Bool × (Int × Unit))))) × ((List Int) × ((List Int) × (Int × (Int × Unit))))))))))))) × ((List (Int × (Int × (Int × ((Int × (Int × Unit)) × ((List Int) × ((List Int) × Unit))))))) × ((List Int) × Unit))) × (Int × Unit))) : evFn (Xiheap_now N) Try.f128 diniheap_now outiheap_now x = Fiheap_now N x := by kernel_rfl
theorem cxiheap_now (N : Nat) : CtxOk Try.prog (Xiheap_now N) := ⟨⟨TE_ok, fun k hk => absurd hk List.not_mem_nil⟩, mixed⟩
theorem speciheap_now (N : Nat) : Spec Try.prog (coniheap_now N) :=
  Spec.of_eq (fn_spec (cxiheap_now N) (f := 128) (fn := Try.f128) (c := codeOf Try.f128) (by kernel_rfl) (by kernel_rfl) (by kernel_rfl) (loops_at (ids := []) (by kernel_rfl) (trivial)) (by kernel_rfl)) (fun x r h => (Fiheap_now_eq N x).trans h)

/-! ### 127: impl.heap).reach$1 -/

noncomputable def diniheap_reach_1 : Desc := { n := 3, regs := [.one (.val (.sl (.int .i64))), .one (.lit (.ptr 64 0)), .one (.lit (.ptr 128 0))], bx := [(64, .var [.lit (.ptr 65 0)]), (65, .var [.val (.sl (.int .i64)), .val (.sl (.pair (.int .i64) (.pair (.int .i64) (.pair (.int .i64) (.pair (.int .i64) (.pair (.int .i64) .unit)))))), .val (.sl .bool), .val (.int .i64), .val .bool, .val .bool, .val .bool, .val (.int .i64), .val (.sl (.pair (.sl (.int .i64)) (.pair (.int .i64) (.pair .bool (.pair (.int .i64) .unit))))), .val (.sl (.int .i64)), .val (.sl (.int .i64)), .val (.int .i64), .val (.int .i64), .val (.mp (.pair (.int .i64) (.pair (.int .i64) (.pair (.pair (.int .i64) (.pair (.int .i64) .unit)) (.pair (.sl (.int .i64)) (.pair (.sl (.int .i64)) .unit)))))), .lit (.row 66)]), (66, .row (.int .i64)), (128, .var [.lit (.mrow 129)]), (129, .mp .bool)], pins := [] }
noncomputable def outiheap_reach_1 : Outs := [(.ret, { n := 1, regs := [.one (.val .bool)], bx := [(64, .var [.lit (.ptr 65 0)]), (65, .var [.val (.sl (.int .i64)), .val (.sl (.pair (.int .i64) (.pair (.int .i64) (.pair (.int .i64) (.pair (.int .i64) (.pair (.int .i64) .unit)))))), .val (.sl .bool), .val (.int .i64), .val .bool, .val .bool, .val .bool, .val (.int .i64), .val (.sl (.pair (.sl (.int .i64)) (.pair (.int .i64) (.pair .bool (.pair (.int .i64) .unit))))), .val (.sl (.int .i64)), .val (.sl (.int .i64)), .val (.int .i64), .val (.int .i64), .val (.mp (.pair (.int .i64) (.pair (.int .i64) (.pair (.pair (.int .i64) (.pair (.int .i64) .unit)) (.pair (.sl (.int .i64)) (.pair (.sl (.int .i64)) .unit)))))), .lit (.row 66)]), (66, .row (.int .i64)), (128, .var [.lit (.mrow 129)]), (129, .mp .bool)], pins := [u, .one (.lit (.ptr 64 0)), .one (.lit (.ptr 128 0)), .one (.lit (.ptr 65 0))] })]
noncomputable def Hiheap_reach_1 : Hints := []
noncomputable def Eiheap_reach_1 (N : Nat) : Env := { te := TE, cs := [coniheap_now N] }
noncomputable def diheap_reach_1_0 : Desc := { n := 49, regs := [u, .one (.lit (.ptr 64 0)), .one (.lit (.ptr 128 0)), u, u, u, u, u, u, u, .one (.val (.sl (.int .i64))), .one (.val (.int .i64)), .one (.val (.int .i64))], bx := [(64, .var [.lit (.ptr 65 0)]), (65, .var [.val (.sl (.int .i64)), .val (.sl (.pair (.int .i64) (.pair (.int .i64) (.pair (.int .i64) (.pair (.int .i64) (.pair (.int .i64) .unit)))))), .val (.sl .bool), .val (.int .i64), .val .bool, .val .bool, .val .bool, .val (.int .i64), .val (.sl (.pair (.sl (.int .i64)) (.pair (.int .i64) (.pair .bool (.pair (.int .i64) .unit))))), .val (.sl (.int .i64)), .val (.sl (.int .i64)), .val (.int .i64), .val (.int .i64), .val (.mp (.pair (.int .i64) (.pair (.int .i64) (.pair (.pair (.int .i64) (.pair (.int .i64) .unit)) (.pair (.sl (.int .i64)) (.pair (.sl (.int .i64)) .unit)))))), .lit (.row 66)]), (66, .row (.int .i64)), (128, .var [.lit (.mrow 129)]), (129, .mp .bool)], pins := [u, .one (.lit (.ptr 64 0)), .one (.lit (.ptr 128 0)), .one (.lit (.ptr 65 0))] }
noncomputable def oiheap_reach_1_0 : Outs := [(.exit 0, { n := 49, regs := [], bx := [(64, .var [.lit (.ptr 65 0)]), (65, .var [.val (.sl (.int .i64)), .val (.sl (.pair (.int .i64) (.pair (.int .i64) (.pair (.int .i64) (.pair (.int .i64) (.pair (.int .i64) .unit)))))), .val (.sl .bool), .val (.int .i64), .val .bool, .val .bool, .val .bool, .val (.int .i64), .val (.sl (.pair (.sl (.int .i64)) (.pair (.int .i64) (.pair .bool (.pair (.int .i64) .unit))))), .val (.sl (.int .i64)), .val (.sl (.int .i64)), .val (.int .i64), .val (.int .i64), .val (.mp (.pair (.int .i64) (.pair (.int .i64) (.pair (.pair (.int .i64) (.pair (.int .i64) .unit)) (.pair (.sl (.int .i64)) (.pair (.sl (.int .i64)) .unit)))))), .lit (.row 66)]), (66, .row (.int .i64)), (128, .var [.lit (.mrow 129)]), (129, .mp .bool)], pins := [u, .one (.lit (.ptr 64 0)), .one (.lit (.ptr 128 0)), .one (.lit (.ptr 65 0))] }), (.ret, { n := 49, regs := [u, u, u, u, .one (.val .bool)], bx := [(64, .var [.lit (.ptr 65 0)]), (65, .var [.val (.sl (.int .i64)), .val (.sl (.pair (.int .i64) (.pair (.int .i64) (.pair (.int .i64) (.pair (.int .i64) (.pair (.int .i64) .unit)))))), .val (.sl .bool), .val (.int .i64), .val .bool, .val .bool, .val .bool, .val (.int .i64), .val (.sl (.pair (.sl (.int .i64)) (.pair (.int .i64) (.pair .bool (.pair (.int .i64) .unit))))), .val (.sl (.int .i64)), .val (.sl (.int .i64)), .val (.int .i64), .val (.int .i64), .val (.mp (.pair (.int .i64) (.pair (.int .i64) (.pair (.pair (.int .i64) (.pair (.int .i64) .unit)) (.pair (.sl (.int .i64)) (.pair (.sl (.int .i64)) .unit)))))), .lit (.row 66)]), (66, .row (.int .i64)), (128, .var [.lit (.mrow 129)]), (129, .mp .bool)], pins := [u, .one (.lit (.ptr 64 0)), .one (.lit (.ptr 128 0)), .one (.lit (.ptr 65 0))] })]
noncomputable def liheap_reach_1_0 (N : Nat) : Nat → ((List Int) × (Int × (Int × ((List Int) × ((List (Int × (Int × (Int × (Int × (Int × Unit)))))) × ((List Bool) × (Int × (Bool × (Bool × (Bool × (Int × ((List ((List Int) × (Int × (Bool × (Int × Unit))))) × ((List Int) × ((List Int) × (Int × (Int × ((List (Int × (Int × (Int × ((Int × (Int × Unit)) × ((List Int) × ((List Int) × Unit))))))) × ((List Int) × ((List (Int × Bool)) × Unit))))))))))))))))))) → Option (((List Int) × ((List (Int × (Int × (Int × (Int × (Int × Unit)))))) × ((List Bool) × (Int × (Bool × (Bool × (Bool × (Int × ((List ((List Int) × (Int × (Bool × (Int × Unit))))) × ((List Int) × ((List Int) × (Int × (Int × ((List (Int × (Int × (Int × ((Int × (Int × Unit)) × ((List Int) × ((List Int) × Unit))))))) × ((List Int) × ((List (Int × Bool)) × Unit)))))))))))))))) ⊕ (Bool × ((List Int) × ((List (Int × (Int × (Int × (Int × (Int × Unit)))))) × ((List Bool) × (Int × (Bool × (Bool × (Bool × (Int × ((List ((List Int) × (Int × (Bool × (Int × Unit))))) × ((List Int) × ((List Int) × (Int × (Int × ((List (Int × (Int × (Int × ((Int × (Int × Unit)) × ((List Int) × ((List Int) × Unit))))))) × ((List Int) × ((List (Int × Bool)) × Unit))))))))))))))))))
  | 0, _ => none
  | n + 1, v =>
    bif decide (v.2.2.1 < v.2.1) then
     bif decide (0 ≤ v.2.2.1) then
     bif decide (v.2.2.1.toNat < v.1.length) then
     let y1 := (v.1.getD v.2.2.1.toNat (0 : Int)) == (0 : Int)
     bif y1 then
      liheap_reach_1_0 N n (v.1, v.2.1, w64 (v.2.2.1 + (1 : Int)), v.2.2.2.1, v.2.2.2.2.1, v.2.2.2.2.2.1, v.2.2.2.2.2.2.1, v.2.2.2.2.2.2.2.1, v.2.2.2.2.2.2.2.2.1, v.2.2.2.2.2.2.2.2.2.1, v.2.2.2.2.2.2.2.2.2.2.1, v.2.2.2.2.2.2.2.2.2.2.2.1, v.2.2.2.2.2.2.2.2.2.2.2.2.1, v.2.2.2.2.2.2.2.2.2.2.2.2.2.1, v.2.2.2.2.2.2.2.2.2.2.2.2.2.2.1, v.2.2.2.2.2.2.2.2.2.2.2.2.2.2.2.1, v.2.2.2.2.2.2.2.2.2.2.2.2.2.2.2.2.1, v.2.2.2.2.2.2.2.2.2.2.2.2.2.2.2.2.2.1, v.2.2.2.2.2.2.2.2.2.2.2.2.2.2.2.2.2.2.1, ())
     else
     let y2 := (mget v.2.2.2.2.2.2.2.2.2.2.2.2.2.2.2.2.1 (v.1.getD v.2.2.1.toNat (0 : Int))).getD ((0 : Int), (0 : Int), ((0 : Int), (0 : Int), ()), ([] : (List Int)), ([] : (List Int)), ())
     let y3 := (mget v.2.2.2.2.2.2.2.2.2.2.2.2.2.2.2.2.1 (v.1.getD v.2.2.1.toNat (0 : Int))).isSome
     bif !y3 then
      some (.inr ((false, v.2.2.2.1, v.2.2.2.2.1, v.2.2.2.2.2.1, v.2.2.2.2.2.2.1, v.2.2.2.2.2.2.2.1, v.2.2.2.2.2.2.2.2.1, v.2.2.2.2.2.2.2.2.2.1, v.2.2.2.2.2.2.2.2.2.2.1, v.2.2.2.2.2.2.2.2.2.2.2.1, v.2.2.2.2.2.2.2.2.2.2.2.2.1, v.2.2.2.2.2.2.2.2.2.2.2.2.2.1, v.2.2.2.2.2.2.2.2.2.2.2.2.2.2.1, v.2.2.2.2.2.2.2.2.2.2.2.2.2.2.2.1, v.2.2.2.2.2.2.2.2.2.2.2.2.2.2.2.2.1, v.2.2.2.2.2.2.2.2.2.2.2.2.2.2.2.2.2.1, v.2.2.2.2.2.2.2.2.2.2.2.2.2.2.2.2.2.2.1, ())))
     else
     (Fiheap_now N (((v.2.2.2.1, v.2.2.2.2.1, v.2.2.2.2.2.1, v.2.2.2.2.2.2.1, v.2.2.2.2.2.2.2.1, v.2.2.2.2.2.2.2.2.1, v.2.2.2.2.2.2.2.2.2.1, v.2.2.2.2.2.2.2.2.2.2.1, v.2.2.2.2.2.2.2.2.2.2.2.1, v.2.2.2.2.2.2.2.2.2.2.2.2.1, v.2.2.2.2.2.2.2.2.2.2.2.2.2.1, v.2.2.2.2.2.2.2.2.2.2.2.2.2.2.1, v.2.2.2.2.2.2.2.2.2.2.2.2.2.2.2.1, ()), v.2.2.2.2.2.2.2.2.2.2.2.2.2.2.2.2.1, v.2.2.2.2.2.2.2.2.2.2.2.2.2.2.2.2.2.1, ()), v.1.getD v.2.2.1.toNat (0 : Int), ())).bind fun r4 =>
     let y5 := (mget v.2.2.2.2.2.2.2.2.2.2.2.2.2.2.2.2.2.2.1 r4.1).getD false
     bif !y5 then
      let y6 := mset v.2.2.2.2.2.2.2.2.2.2.2.2.2.2.2.2.2.2.1 r4.1 true
      bif decide (v.2.2.2.2.2.2.2.2.2.2.2.2.2.2.2.2.2.1.length + [r4.1].length ≤ lim) then
      let y7 := v.2.2.2.2.2.2.2.2.2.2.2.2.2.2.2.2.2.1 ++ [r4.1]
      liheap_reach_1_0 N n (v.1, v.2.1, w64 (v.2.2.1 + (1 : Int)), v.2.2.2.1, v.2.2.2.2.1, v.2.2.2.2.2.1, v.2.2.2.2.2.2.1, v.2.2.2.2.2.2.2.1, v.2.2.2.2.2.2.2.2.1, v.2.2.2.2.2.2.2.2.2.1, v.2.2.2.2.2.2.2.2.2.2.1, v.2.2.2.2.2.2.2.2.2.2.2.1, v.2.2.2.2.2.2.2.2.2.2.2.2.1, v.2.2.2.2.2.2.2.2.2.2.2.2.2.1, v.2.2.2.2.2.2.2.2.2.2.2.2.2.2.1, v.2.2.2.2.2.2.2.2.2.2.2.2.2.2.2.1, v.2.2.2.2.2.2.2.2.2.2.2.2.2.2.2.2.1, y7, y6, ())
      else none
     else
     liheap_reach_1_0 N n (v.1, v.2.1, w64 (v.2.2.1 + (1 : Int)), v.2.2.2.1, v.2.2.2.2.1, v.2.2.2.2.2.1, v.2.2.2.2.2.2.1, v.2.2.2.2.2.2.2.1, v.2.2.2.2.2.2.2.2.1, v.2.2.2.2.2.2.2.2.2.1, v.2.2.2.2.2.2.2.2.2.2.1, v.2.2.2.2.2.2.2.2.2.2.2.1, v.2.2.2.2.2.2.2.2.2.2.2.2.1, v.2.2.2.2.2.2.2.2.2.2.2.2.2.1, v.2.2.2.2.2.2.2.2.2.2.2.2.2.2.1, v.2.2.2.2.2.2.2.2.2.2.2.2.2.2.2.1, v.2.2.2.2.2.2.2.2.2.2.2.2.2.2.2.2.1, v.2.2.2.2.2.2.2.2.2.2.2.2.2.2.2.2.2.1, v.2.2.2.2.2.2.2.2.2.2.2.2.2.2.2.2.2.2.1, ())
     else none
     else none
    else
    some (.inl (v.2.2.2.1, v.2.2.2.2.1, v.2.2.2.2.2.1, v.2.2.2.2.2.2.1, v.2.2.2.2.2.2.2.1, v.2.2.2.2.2.2.2.2.1, v.2.2.2.2.2.2.2.2.2.1, v.2.2.2.2.2.2.2.2.2.2.1, v.2.2.2.2.2.2.2.2.2.2.2.1, v.2.2.2.2.2.2.2.2.2.2.2.2.1, v.2.2.2.2.2.2.2.2.2.2.2.2.2.1, v.2.2.2.2.2.2.2.2.2.2.2.2.2.2.1, v.2.2.2.2.2.2.2.2.2.2.2.2.2.2.2.1, v.2.2.2.2.2.2.2.2.2.2.2.2.2.2.2.2.1, v.2.2.2.2.2.2.2.2.2.2.2.2.2.2.2.2.2.1, v.2.2.2.2.2.2.2.2.2.2.2.2.2.2.2.2.2.2.1, ()))
noncomputable def Fiheap_reach_1 (N : Nat) (x : ((List Int) × ((List Int) × ((List (Int × (Int × (Int × (Int × (Int × Unit)))))) × ((List Bool) × (Int × (Bool × (Bool × (Bool × (Int × ((List ((List Int) × (Int × (Bool × (Int × Unit))))) × ((List Int) × ((List Int) × (Int × (Int × ((List (Int × (Int × (Int × ((Int × (Int × Unit)) × ((List Int) × ((List Int) × Unit))))))) × ((List Int) × ((List (Int × Bool)) × Unit)))))))))))))))))) : Option (Bool × ((List Int) × ((List (Int × (Int × (Int × (Int × (Int × Unit)))))) × ((List Bool) × (Int × (Bool × (Bool × (Bool × (Int × ((List ((List Int) × (Int × (Bool × (Int × Unit))))) × ((List Int) × ((List Int) × (Int × (Int × ((List (Int × (Int × (Int × ((Int × (Int × Unit)) × ((List Int) × ((List Int) × Unit))))))) × ((List Int) × ((List (Int × Bool)) × Unit))))))))))))))))) :=
  (liheap_reach_1_0 N N (x.1, (x.1.length : Int), (0 : Int), x.2.1, x.2.2.1, x.2.2.2.1, x.2.2.2.2.1, x.2.2.2.2.2.1, x.2.2.2.2.2.2.1, x.2.2.2.2.2.2.2.1, x.2.2.2.2.2.2.2.2.1, x.2.2.2.2.2.2.2.2.2.1, x.2.2.2.2.2.2.2.2.2.2.1, x.2.2.2.2.2.2.2.2.2.2.2.1, x.2.2.2.2.2.2.2.2.2.2.2.2.1, x.2.2.2.2.2.2.2.2.2.2.2.2.2.1, x.2.2.2.2.2.2.2.2.2.2.2.2.2.2.1, x.2.2.2.2.2.2.2.2.2.2.2.2.2.2.2.1, x.2.2.2.2.2.2.2.2.2.2.2.2.2.2.2.2.1, ())).bind fun o8 =>
  Sum.elim (fun o9 =>
   some (true, o9.1, o9.2.1, o9.2.2.1, o9.2.2.2.1, o9.2.2.2.2.1, o9.2.2.2.2.2.1, o9.2.2.2.2.2.2.1, o9.2.2.2.2.2.2.2.1, o9.2.2.2.2.2.2.2.2.1, o9.2.2.2.2.2.2.2.2.2.1, o9.2.2.2.2.2.2.2.2.2.2.1, o9.2.2.2.2.2.2.2.2.2.2.2.1, o9.2.2.2.2.2.2.2.2.2.2.2.2.1, o9.2.2.2.2.2.2.2.2.2.2.2.2.2.1, o9.2.2.2.2.2.2.2.2.2.2.2.2.2.2.1, o9.2.2.2.2.2.2.2.2.2.2.2.2.2.2.2.1, ())) (fun o10 =>
   some (o10.1, o10.2.1, o10.2.2.1, o10.2.2.2.1, o10.2.2.2.2.1, o10.2.2.2.2.2.1, o10.2.2.2.2.2.2.1, o10.2.2.2.2.2.2.2.1, o10.2.2.2.2.2.2.2.2.1, o10.2.2.2.2.2.2.2.2.2.1, o10.2.2.2.2.2.2.2.2.2.2.1, o10.2.2.2.2.2.2.2.2.2.2.2.1, o10.2.2.2.2.2.2.2.2.2.2.2.2.1, o10.2.2.2.2.2.2.2.2.2.2.2.2.2.1, o10.2.2.2.2.2.2.2.2.2.2.2.2.2.2.1, o10.2.2.2.2.2.2.2.2.2.2.2.2.2.2.2.1, o10.2.2.2.2.2.2.2.2.2.2.2.2.2.2.2.2.1, ())) o8
noncomputable def coniheap_reach_1 (N : Nat) : Con := { f := 127, din := diniheap_reach_1, outs := outiheap_reach_1, F := Fiheap_reach_1 N }
noncomputable def Xiheap_reach_1 (N : Nat) : Ctx := { E := Eiheap_reach_1 N, H := Hiheap_reach_1, lp := [(0, { hd := diheap_reach_1_0, outs := oiheap_reach_1_0, run := fun v => liheap_reach_1_0 N N v })], jn := [] }
noncomputable def biheap_reach_1_0 : Code := loopBody (codeOf Try.f127) 0
theorem Fiheap_reach_1_eq (N : Nat) (x : ((List Int) × ((List Int) × ((List (Int × (Int × (Int × (Int × (Int × Unit)))))) × ((List Bool) × (Int × (Bool × (Bool × (Bool × (Int × ((List ((List Int) × (Int × (Bool × (Int × Unit))))) × ((List Int) × ((List Int) × (Int × (Int × ((List (Int × (Int × (Int × ((Int × (Int × Unit)) × ((List Int) × ((List Int) × Unit))))))) × ((List Int) × ((List (Int × Bool)) × Unit)))))))))))))))))) : evFn (Xiheap_reach_1 N) Try.f127 diniheap_reach_1 outiheap_reach_1 x = Fiheap_reach_1 N x := by kernel_rfl
theorem liheap_reach_1_0_eq (N n : Nat) (v : ((List Int) × (Int × (Int × ((List Int) × ((List (Int × (Int × (Int × (Int × (Int × Unit)))))) × ((List Bool) × (Int × (Bool × (Bool × (Bool × (Int × ((List ((List Int) × (Int × (Bool × (Int × Unit))))) × ((List Int) × ((List Int) × (Int × (Int × ((List (Int × (Int × (Int × ((Int × (Int × Unit)) × ((List Int) × ((List Int) × Unit))))))) × ((List Int) × ((List (Int × Bool)) × Unit)))))))))))))))))))) : liheap_reach_1_0 N (n + 1) v = ev (Xiheap_reach_1 N) biheap_reach_1_0 (roundK diheap_reach_1_0 oiheap_reach_1_0 (liheap_reach_1_0 N n)) (diheap_reach_1_0.mk' v) := by kernel_rfl
theorem cxiheap_reach_1 (N : Nat) : CtxOk Try.prog (Xiheap_reach_1 N) := ⟨⟨TE_ok, List.forall_mem_cons.2 ⟨(speciheap_now N), fun k hk => absurd hk List.not_mem_nil⟩⟩, mixed⟩
theorem lpiheap_reach_1_0 (N : Nat) : LoopOk Try.prog { hd := diheap_reach_1_0, outs := oiheap_reach_1_0, run := fun v => liheap_reach_1_0 N N v } biheap_reach_1_0 :=
  loop_fuel (d := diheap_reach_1_0) (os := oiheap_reach_1_0) (cxiheap_reach_1 N) (loops_at (ids := []) (by kernel_rfl) (trivial)) (liheap_reach_1_0 N) (fun _ => rfl) (fun n v => liheap_reach_1_0_eq N n v) (fun _ => N)
theorem speciheap_reach_1 (N : Nat) : Spec Try.prog (coniheap_reach_1 N) :=
  Spec.of_eq (fn_spec (cxiheap_reach_1 N) (f := 127) (fn := Try.f127) (c := codeOf Try.f127) (by kernel_rfl) (by kernel_rfl) (by kernel_rfl) (loops_at (ids := [0]) (by kernel_rfl) ⟨lp_of (lpiheap_reach_1_0 N), trivial⟩) (by kernel_rfl)) (fun x r h => (Fiheap_reach_1_eq N x).trans h)

/-! ### 120: impl.heap).reach -/

noncomputable def diniheap_reach : Desc := { n := 1, regs := [.one (.lit (.ptr 0 0))], bx := [(0, .var [.val (.sl (.int .i64)), .val (.sl (.pair (.int .i64) (.pair (.int .i64) (.pair (.int .i64) (.pair (.int .i64) (.pair (.int .i64) .unit)))))), .val (.sl .bool), .val (.int .i64), .val .bool, .val .bool, .val .bool, .val (.int .i64), .val (.sl (.pair (.sl (.int .i64)) (.pair (.int .i64) (.pair .bool (.pair (.int .i64) .unit))))), .val (.sl (.int .i64)), .val (.sl (.int .i64)), .val (.int .i64), .val (.int .i64), .val (.mp (.pair (.int .i64) (.pair (.int .i64) (.pair (.pair (.int .i64) (.pair (.int .i64) .unit)) (.pair (.sl (.int .i64)) (.pair (.sl (.int .i64)) .unit)))))), .lit (.row 1)]), (1, .row (.int .i64))], pins := [] }
noncomputable def outiheap_reach : Outs := [(.ret, { n := 1, regs := [.one (.val .bool)], bx := [(0, .var [.val (.sl (.int .i64)), .val (.sl (.pair (.int .i64) (.pair (.int .i64) (.pair (.int .i64) (.pair (.int .i64) (.pair (.int .i64) .unit)))))), .val (.sl .bool), .val (.int .i64), .val .bool, .val .bool, .val .bool, .val (.int .i64), .val (.sl (.pair (.sl (.int .i64)) (.pair (.int .i64) (.pair .bool (.pair (.int .i64) .unit))))), .val (.sl (.int .i64)), .val (.sl (.int .i64)), .val (.int .i64), .val (.int .i64), .val (.mp (.pair (.int .i64) (.pair (.int .i64) (.pair (.pair (.int .i64) (.pair (.int .i64) .unit)) (.pair (.sl (.int .i64)) (.pair (.sl (.int .i64)) .unit)))))), .lit (.row 1)]), (1, .row (.int .i64))], pins := [.one (.lit (.ptr 0 0))] })]
noncomputable def Hiheap_reach : Hints := [(3, [(6, { con := 1, sg := [(64, 1000000), (65, 0), (66, 1), (128, 1012864), (129, 1012800)], pre := [.freeze 1038721] })]),
  (8, [(14, { con := 1, sg := [(64, 1000000), (65, 0), (66, 1), (128, 1012864), (129, 1012800)] })])]
noncomputable def Eiheap_reach (N : Nat) : Env := { te := TE, cs := [coniState_roots N, coniheap_reach_1 N] }
noncomputable def diheap_reach_0 : Desc := { n := 41, regs := [u, .one (.lit (.ptr 1000000 0)), u, u, .one (.clo 127 [.inl 1000000, .inl 1012864]), .one (.val (.int .i64))], bx := [(1000000, .var [.lit (.ptr 0 0)]), (0, .var [.val (.sl (.int .i64)), .val (.sl (.pair (.int .i64) (.pair (.int .i64) (.pair (.int .i64) (.pair (.int .i64) (.pair (.int .i64) .unit)))))), .val (.sl .bool), .val (.int .i64), .val .bool, .val .bool, .val .bool, .val (.int .i64), .val (.sl (.pair (.sl (.int .i64)) (.pair (.int .i64) (.pair .bool (.pair (.int .i64) .unit))))), .val (.sl (.int .i64)), .val (.sl (.int .i64)), .val (.int .i64), .val (.int .i64), .val (.mp (.pair (.int .i64) (.pair (.int .i64) (.pair (.pair (.int .i64) (.pair (.int .i64) .unit)) (.pair (.sl (.int .i64)) (.pair (.sl (.int .i64)) .unit)))))), .lit (.row 1)]), (1, .row (.int .i64)), (1012864, .var [.lit (.mrow 1012800)]), (1012800, .mp .bool)], pins := [.one (.lit (.ptr 0 0))] }
noncomputable def oiheap_reach_0 : Outs := [(.exit 0, { n := 41, regs := [], bx := [(0, .var [.val (.sl (.int .i64)), .val (.sl (.pair (.int .i64) (.pair (.int .i64) (.pair (.int .i64) (.pair (.int .i64) (.pair (.int .i64) .unit)))))), .val (.sl .bool), .val (.int .i64), .val .bool, .val .bool, .val .bool, .val (.int .i64), .val (.sl (.pair (.sl (.int .i64)) (.pair (.int .i64) (.pair .bool (.pair (.int .i64) .unit))))), .val (.sl (.int .i64)), .val (.sl (.int .i64)), .val (.int .i64), .val (.int .i64), .val (.mp (.pair (.int .i64) (.pair (.int .i64) (.pair (.pair (.int .i64) (.pair (.int .i64) .unit)) (.pair (.sl (.int .i64)) (.pair (.sl (.int .i64)) .unit)))))), .lit (.row 1)]), (1, .row (.int .i64))], pins := [.one (.lit (.ptr 0 0))] }), (.ret, { n := 41, regs := [u, u, .one (.val .bool)], bx := [(0, .var [.val (.sl (.int .i64)), .val (.sl (.pair (.int .i64) (.pair (.int .i64) (.pair (.int .i64) (.pair (.int .i64) (.pair (.int .i64) .unit)))))), .val (.sl .bool), .val (.int .i64), .val .bool, .val .bool, .val .bool, .val (.int .i64), .val (.sl (.pair (.sl (.int .i64)) (.pair (.int .i64) (.pair .bool (.pair (.int .i64) .unit))))), .val (.sl (.int .i64)), .val (.sl (.int .i64)), .val (.int .i64), .val (.int .i64), .val (.mp (.pair (.int .i64) (.pair (.int .i64) (.pair (.pair (.int .i64) (.pair (.int .i64) .unit)) (.pair (.sl (.int .i64)) (.pair (.sl (.int .i64)) .unit)))))), .lit (.row 1)]), (1, .row (.int .i64))], pins := [.one (.lit (.ptr 0 0))] })]
noncomputable def liheap_reach_0 (N : Nat) : Nat → (Int × ((List Int) × ((List (Int × (Int × (Int × (Int × (Int × Unit)))))) × ((List Bool) × (Int × (Bool × (Bool × (Bool × (Int × ((List ((List Int) × (Int × (Bool × (Int × Unit))))) × ((List Int) × ((List Int) × (Int × (Int × ((List (Int × (Int × (Int × ((Int × (Int × Unit)) × ((List Int) × ((List Int) × Unit))))))) × ((List Int) × ((List (Int × Bool)) × Unit))))))))))))))))) → Option (((List Int) × ((List (Int × (Int × (Int × (Int × (Int × Unit)))))) × ((List Bool) × (Int × (Bool × (Bool × (Bool × (Int × ((List ((List Int) × (Int × (Bool × (Int × Unit))))) × ((List Int) × ((List Int) × (Int × (Int × ((List (Int × (Int × (Int × ((Int × (Int × Unit)) × ((List Int) × ((List Int) × Unit))))))) × ((List Int) × Unit))))))))))))))) ⊕ (Bool × ((List Int) × ((List (Int × (Int × (Int × (Int × (Int × Unit)))))) × ((List Bool) × (Int × (Bool × (Bool × (Bool × (Int × ((List ((List Int) × (Int × (Bool × (Int × Unit))))) × ((List Int) × ((List Int) × (Int × (Int × ((List (Int × (Int × (Int × ((Int × (Int × Unit)) × ((List Int) × ((List Int) × Unit))))))) × ((List Int) × Unit)))))))))))))))))
  | 0, _ => none
  | n + 1, v =>
    let y3 := (v.2.2.2.2.2.2.2.2.2.2.2.2.2.2.2.1.length : Int)
    bif decide (v.1 < y3) then
     bif decide (0 ≤ v.1) then
     bif decide (v.1.toNat < v.2.2.2.2.2.2.2.2.2.2.2.2.2.2.2.1.length) then
     let y4 := v.2.2.2.2.2.2.2.2.2.2.2.2.2.2.2.1.getD v.1.toNat (0 : Int)
     let y5 := (mget v.2.2.2.2.2.2.2.2.2.2.2.2.2.2.1 y4).getD ((0 : Int), (0 : Int), ((0 : Int), (0 : Int), ()), ([] : (List Int)), ([] : (List Int)), ())
     (Fiheap_reach_1 N (y5.2.2.2.1, v.2.1, v.2.2.1, v.2.2.2.1, v.2.2.2.2.1, v.2.2.2.2.2.1, v.2.2.2.2.2.2.1, v.2.2.2.2.2.2.2.1, v.2.2.2.2.2.2.2.2.1, v.2.2.2.2.2.2.2.2.2.1, v.2.2.2.2.2.2.2.2.2.2.1, v.2.2.2.2.2.2.2.2.2.2.2.1, v.2.2.2.2.2.2.2.2.2.2.2.2.1, v.2.2.2.2.2.2.2.2.2.2.2.2.2.1, v.2.2.2.2.2.2.2.2.2.2.2.2.2.2.1, v.2.2.2.2.2.2.2.2.2.2.2.2.2.2.2.1, v.2.2.2.2.2.2.2.2.2.2.2.2.2.2.2.2.1, ())).bind fun r6 =>
     bif !r6.1 then
      some (.inr ((false, r6.2.1, r6.2.2.1, r6.2.2.2.1, r6.2.2.2.2.1, r6.2.2.2.2.2.1, r6.2.2.2.2.2.2.1, r6.2.2.2.2.2.2.2.1, r6.2.2.2.2.2.2.2.2.1, r6.2.2.2.2.2.2.2.2.2.1, r6.2.2.2.2.2.2.2.2.2.2.1, r6.2.2.2.2.2.2.2.2.2.2.2.1, r6.2.2.2.2.2.2.2.2.2.2.2.2.1, r6.2.2.2.2.2.2.2.2.2.2.2.2.2.1, r6.2.2.2.2.2.2.2.2.2.2.2.2.2.2.1, r6.2.2.2.2.2.2.2.2.2.2.2.2.2.2.2.1, ())))
     else
     liheap_reach_0 N n (w64 (v.1 + (1 : Int)), r6.2.1, r6.2.2.1, r6.2.2.2.1, r6.2.2.2.2.1, r6.2.2.2.2.2.1, r6.2.2.2.2.2.2.1, r6.2.2.2.2.2.2.2.1, r6.2.2.2.2.2.2.2.2.1, r6.2.2.2.2.2.2.2.2.2.1, r6.2.2.2.2.2.2.2.2.2.2.1, r6.2.2.2.2.2.2.2.2.2.2.2.1, r6.2.2.2.2.2.2.2.2.2.2.2.2.1, r6.2.2.2.2.2.2.2.2.2.2.2.2.2.1, r6.2.2.2.2.2.2.2.2.2.2.2.2.2.2.1, r6.2.2.2.2.2.2.2.2.2.2.2.2.2.2.2.1, r6.2.2.2.2.2.2.2.2.2.2.2.2.2.2.2.2.1, ())
     else none
     else none
    else
    some (.inl (v.2.1, v.2.2.1, v.2.2.2.1, v.2.2.2.2.1, v.2.2.2.2.2.1, v.2.2.2.2.2.2.1, v.2.2.2.2.2.2.2.1, v.2.2.2.2.2.2.2.2.1, v.2.2.2.2.2.2.2.2.2.1, v.2.2.2.2.2.2.2.2.2.2.1, v.2.2.2.2.2.2.2.2.2.2.2.1, v.2.2.2.2.2.2.2.2.2.2.2.2.1, v.2.2.2.2.2.2.2.2.2.2.2.2.2.1, v.2.2.2.2.2.2.2.2.2.2.2.2.2.2.1, v.2.2.2.2.2.2.2.2.2.2.2.2.2.2.2.1, ()))
noncomputable def Fiheap_reach (N : Nat) (x : ((List Int) × ((List (Int × (Int × (Int × (Int × (Int × Unit)))))) × ((List Bool) × (Int × (Bool × (Bool × (Bool × (Int × ((List ((List Int) × (Int × (Bool × (Int × Unit))))) × ((List Int) × ((List Int) × (Int × (Int × ((List (Int × (Int × (Int × ((Int × (Int × Unit)) × ((List Int) × ((List Int) × Unit))))))) × ((List Int) × Unit)))))))))))))))) : Option (Bool × ((List Int) × ((List (Int × (Int × (Int × (Int × (Int × Unit)))))) × ((List Bool) × (Int × (Bool × (Bool × (Bool × (Int × ((List ((List Int) × (Int × (Bool × (Int × Unit))))) × ((List Int) × ((List Int) × (Int × (Int × ((List (Int × (Int × (Int × ((Int × (Int × Unit)) × ((List Int) × ((List Int) × Unit))))))) × ((List Int) × Unit)))))))))))))))) :=
  (FiState_roots N ((x.1, x.2.1, x.2.2.1, x.2.2.2.1, x.2.2.2.2.1, x.2.2.2.2.2.1, x.2.2.2.2.2.2.1, x.2.2.2.2.2.2.2.1, x.2.2.2.2.2.2.2.2.1, x.2.2.2.2.2.2.2.2.2.1, x.2.2.2.2.2.2.2.2.2.2.1, x.2.2.2.2.2.2.2.2.2.2.2.1, x.2.2.2.2.2.2.2.2.2.2.2.2.1, ()), ())).bind fun r1 =>
  (Fiheap_reach_1 N (r1.1, x.1, x.2.1, x.2.2.1, x.2.2.2.1, x.2.2.2.2.1, x.2.2.2.2.2.1, x.2.2.2.2.2.2.1, x.2.2.2.2.2.2.2.1, x.2.2.2.2.2.2.2.2.1, x.2.2.2.2.2.2.2.2.2.1, x.2.2.2.2.2.2.2.2.2.2.1, x.2.2.2.2.2.2.2.2.2.2.2.1, x.2.2.2.2.2.2.2.2.2.2.2.2.1, x.2.2.2.2.2.2.2.2.2.2.2.2.2.1, x.2.2.2.2.2.2.2.2.2.2.2.2.2.2.1, ([] : (List (Int × Bool))), ())).bind fun r2 =>
  bif !r2.1 then
   some (false, r2.2.1, r2.2.2.1, r2.2.2.2.1, r2.2.2.2.2.1, r2.2.2.2.2.2.1, r2.2.2.2.2.2.2.1, r2.2.2.2.2.2.2.2.1, r2.2.2.2.2.2.2.2.2.1, r2.2.2.2.2.2.2.2.2.2.1, r2.2.2.2.2.2.2.2.2.2.2.1, r2.2.2.2.2.2.2.2.2.2.2.2.1, r2.2.2.2.2.2.2.2.2.2.2.2.2.1, r2.2.2.2.2.2.2.2.2.2.2.2.2.2.1, r2.2.2.2.2.2.2.2.2.2.2.2.2.2.2.1, r2.2.2.2.2.2.2.2.2.2.2.2.2.2.2.2.1, ())
  else
  (liheap_reach_0 N N ((0 : Int), r2.2.1, r2.2.2.1, r2.2.2.2.1, r2.2.2.2.2.1, r2.2.2.2.2.2.1, r2.2.2.2.2.2.2.1, r2.2.2.2.2.2.2.2.1, r2.2.2.2.2.2.2.2.2.1, r2.2.2.2.2.2.2.2.2.2.1, r2.2.2.2.2.2.2.2.2.2.2.1, r2.2.2.2.2.2.2.2.2.2.2.2.1, r2.2.2.2.2.2.2.2.2.2.2.2.2.1, r2.2.2.2.2.2.2.2.2.2.2.2.2.2.1, r2.2.2.2.2.2.2.2.2.2.2.2.2.2.2.1, r2.2.2.2.2.2.2.2.2.2.2.2.2.2.2.2.1, r2.2.2.2.2.2.2.2.2.2.2.2.2.2.2.2.2.1, ())).bind fun o7 =>
  Sum.elim (fun o8 =>
   some (true, o8.1, o8.2.1, o8.2.2.1, o8.2.2.2.1, o8.2.2.2.2.1, o8.2.2.2.2.2.1, o8.2.2.2.2.2.2.1, o8.2.2.2.2.2.2.2.1, o8.2.2.2.2.2.2.2.2.1, o8.2.2.2.2.2.2.2.2.2.1, o8.2.2.2.2.2.2.2.2.2.2.1, o8.2.2.2.2.2.2.2.2.2.2.2.1, o8.2.2.2.2.2.2.2.2.2.2.2.2.1, o8.2.2.2.2.2.2.2.2.2.2.2.2.2.1, o8.2.2.2.2.2.2.2.2.2.2.2.2.2.2.1, ())) (fun o9 =>
   some (o9.1, o9.2.1, o9.2.2.1, o9.2.2.2.1, o9.2.2.2.2.1, o9.2.2.2.2.2.1, o9.2.2.2.2.2.2.1, o9.2.2.2.2.2.2.2.1, o9.2.2.2.2.2.2.2.2.1, o9.2.2.2.2.2.2.2.2.2.1, o9.2.2.2.2.2.2.2.2.2.2.1, o9.2.2.2.2.2.2.2.2.2.2.2.1, o9.2.2.2.2.2.2.2.2.2.2.2.2.1, o9.2.2.2.2.2.2.2.2.2.2.2.2.2.1, o9.2.2.2.2.2.2.2.2.2.2.2.2.2.2.1, o9.2.2.2.2.2.2.2.2.2.2.2.2.2.2.2.1, ())) o7
noncomputable def coniheap_reach (N : Nat) : Con := { f := 120, din := diniheap_reach, outs := outiheap_reach, F := Fiheap_reach N }
noncomputable def Xiheap_reach (N : Nat) : Ctx := { E := Eiheap_reach N, H := Hiheap_reach, lp := [(0, { hd := diheap_reach_0, outs := oiheap_reach_0, run := fun v => liheap_reach_0 N N v })], jn := [] }
noncomputable def biheap_reach_0 : Code := loopBody (codeOf Try.f120) 0
theorem Fiheap_reach_eq (N : Nat) (x : ((List Int) × ((List (Int × (Int × (Int × (Int × (Int × Unit)))))) × ((List Bool) × (Int × (Bool × (Bool × (Bool × (Int × ((List ((List Int) × (Int × (Bool × (Int × Unit))))) × ((List Int) × ((List Int) × (Int × (Int × ((List (Int × (Int × (Int × ((Int × (Int × Unit)) × ((List Int) × ((List Int) × Unit))))))) × ((List Int) × Unit)))))))))))))))) : evFn (Xiheap_reach N) Try.f120 diniheap_reach outiheap_reach x = Fiheap_reach N x := by kernel_rfl
theorem liheap_reach_0_eq (N n : Nat) (v : (Int × ((List Int) × ((List (Int × (Int × (Int × (Int × (Int × Unit)))))) × ((List Bool) × (Int × (Bool × (Bool × (Bool × (Int × ((List ((List Int) × (Int × (Bool × (Int × Unit))))) × ((List Int) × ((List Int) × (Int × (Int × ((List (Int × (Int × (Int × ((Int × (Int × Unit)) × ((List Int) × ((List Int) × Unit))))))) × ((List Int) × ((List (Int × Bool)) × Unit)))))))))))))))))) : liheap_reach_0 N (n + 1) v = ev (Xiheap_reach N) biheap_reach_0 (roundK diheap_reach_0 oiheap_reach_0 (liheap_reach_0 N n)) (diheap_reach_0.mk' v) := by kernel_rfl
theorem cxiheap_reach (N : Nat) : CtxOk Try.prog (Xiheap_reach N) := ⟨⟨TE_ok, List.forall_mem_cons.2 ⟨(speciState_roots N), List.forall_mem_cons.2 ⟨(speciheap_reach_1 N), fun k hk => absurd hk List.not_mem_nil⟩⟩⟩, mixed⟩
theorem lpiheap_reach_0 (N : Nat) : LoopOk Try.prog { hd := diheap_reach_0, outs := oiheap_reach_0, run := fun v => liheap_reach_0 N N v } biheap_reach_0 :=
  loop_fuel (d := diheap_reach_0) (os := oiheap_reach_0) (cxiheap_reach N) (loops_at (ids := []) (by kernel_rfl) (trivial)) (liheap_reach_0 N) (fun _ => rfl) (fun n v => liheap_reach_0_eq N n v) (fun _ => N)
theorem speciheap_reach (N : Nat) : Spec Try.prog (coniheap_reach N) :=
  Spec.of_eq (fn_spec (cxiheap_reach N) (f := 120) (fn := Try.f120) (c := codeOf Try.f120) (by kernel_rfl) (by kernel_rfl) (by kernel_rfl) (loops_at (ids := [0]) (by kernel_rfl) ⟨lp_of (lpiheap_reach_0 N), trivial⟩) (by kernel_rfl)) (fun x r h => (Fiheap_reach_eq N x).trans h)

/-! ### 91: impl.heapOf -/

noncomputable def diniheapOf : Desc := { n := 1, regs := [.one (.val (.pair (.sl (.int .i64)) (.pair (.sl (.pair (.int .i64) (.pair (.int .i64) (.pair (.int .i64) (.pair (.int .i64) (.pair (.int .i64) .unit)))))) (.pair (.sl .bool) (.pair (.int .i64) (.pair .bool (.pair .bool (.pair .bool (.pair (.int .i64) (.pair (.sl (.pair (.sl (.int .i64)) (.pair (.int .i64) (.pair .bool (.pair (.int .i64) .unit))))) (.pair (.sl (.int .i64)) (.pair (.sl (.int .i64)) (.pair (.int .i64) (.pair (.int .i64) .unit))))))))))))))], bx := [], pins := [] }
noncomputable def outiheapOf : Outs := [(.ret, { n := 1, regs := [.one (.lit .pnil)], bx := [], pins := [] }), (.ret, { n := 1, regs := [.one (.lit (.ptr 1217792 0))], bx := [(1217792, .var [.val (.sl (.int .i64)), .val (.sl (.pair (.int .i64) (.pair (.int .i64) (.pair (.int .i64) (.pair (.int .i64) (.pair (.int .i64) .unit)))))), .val (.sl .bool), .val (.int .i64), .val .bool, .val .bool, .val .bool, .val (.int .i64), .val (.sl (.pair (.sl (.int .i64)) (.pair (.int .i64) (.pair .bool (.pair (.int .i64) .unit))))), .val (.sl (.int .i64)), .val (.sl (.int .i64)), .val (.int .i64), .val (.int .i64), .val (.mp (.pair (.int .i64) (.pair (.int .i64) (.pair (.pair (.int .i64) (.pair (.int .i64) .unit)) (.pair (.sl (.int .i64)) (.pair (.sl (.int .i64)) .unit)))))), .lit (.row 1217807)]), (1217807, .row (.int .i64))], pins := [] })]
noncomputable def HiheapOf : Hints := [(0, [(0, { fz := true })]),
  (2, [(5, { con := 1 })]),
  (14, [(11, { con := 2 })]),
  (17, [(3, { nl := [(14, (.int .i64))] })]),
  (18, [(1, { con := 3, sg := [(0, 1217792), (1, 1217807)] })])]
noncomputable def EiheapOf (N : Nat) : Env := { te := TE, cs := [coniState_things N, coniState_settled N, coniState_from N, coniheap_reach N] }
noncomputable def diheapOf_0 : Desc := { n := 110, regs := [u, .one (.fpt (.pair (.sl (.int .i64)) (.pair (.sl (.pair (.int .i64) (.pair (.int .i64) (.pair (.int .i64) (.pair (.int .i64) (.pair (.int .i64) .unit)))))) (.pair (.sl .bool) (.pair (.int .i64) (.pair .bool (.pair .bool (.pair .bool (.pair (.int .i64) (.pair (.sl (.pair (.sl (.int .i64)) (.pair (.int .i64) (.pair .bool (.pair (.int .i64) .unit))))) (.pair (.sl (.int .i64)) (.pair (.sl (.int .i64)) (.pair (.int .i64) (.pair (.int .i64) .unit)))))))))))))), u, .one (.val (.mp (.pair (.int .i64) (.pair (.int .i64) (.pair (.pair (.int .i64) (.pair (.int .i64) .unit)) (.pair (.sl (.int .i64)) (.pair (.sl (.int .i64)) .unit))))))), u, u, u, u, u, u, u, u, u, u, u, u, u, u, u, u, u, u, u, u, u, u, u, u, u, u, u, u, u, u, u, u, u, u, u, u, u, u, u, u, u, u, u, u, u, u, u, u, u, u, .one (.val (.sl (.pair (.sl (.int .i64)) (.pair (.int .i64) (.pair .bool (.pair (.int .i64) .unit)))))), .one (.val (.int .i64)), .one (.val (.int .i64))], bx := [], pins := [] }
noncomputable def oiheapOf_0 : Outs := [(.exit 0, { n := 110, regs := [u, .one (.fpt (.pair (.sl (.int .i64)) (.pair (.sl (.pair (.int .i64) (.pair (.int .i64) (.pair (.int .i64) (.pair (.int .i64) (.pair (.int .i64) .unit)))))) (.pair (.sl .bool) (.pair (.int .i64) (.pair .bool (.pair .bool (.pair .bool (.pair (.int .i64) (.pair (.sl (.pair (.sl (.int .i64)) (.pair (.int .i64) (.pair .bool (.pair (.int .i64) .unit))))) (.pair (.sl (.int .i64)) (.pair (.sl (.int .i64)) (.pair (.int .i64) (.pair (.int .i64) .unit)))))))))))))), u, .one (.val (.mp (.pair (.int .i64) (.pair (.int .i64) (.pair (.pair (.int .i64) (.pair (.int .i64) .unit)) (.pair (.sl (.int .i64)) (.pair (.sl (.int .i64)) .unit)))))))], bx := [], pins := [] }), (.ret, { n := 110, regs := [u, u, .one (.lit .pnil)], bx := [], pins := [] })]
noncomputable def diheapOf_2 : Desc := { n := 110, regs := [u, .one (.fpt (.pair (.sl (.int .i64)) (.pair (.sl (.pair (.int .i64) (.pair (.int .i64) (.pair (.int .i64) (.pair (.int .i64) (.pair (.int .i64) .unit)))))) (.pair (.sl .bool) (.pair (.int .i64) (.pair .bool (.pair .bool (.pair .bool (.pair (.int .i64) (.pair (.sl (.pair (.sl (.int .i64)) (.pair (.int .i64) (.pair .bool (.pair (.int .i64) .unit))))) (.pair (.sl (.int .i64)) (.pair (.sl (.int .i64)) (.pair (.int .i64) (.pair (.int .i64) .unit)))))))))))))), u, .one (.val (.mp (.pair (.int .i64) (.pair (.int .i64) (.pair (.pair (.int .i64) (.pair (.int .i64) .unit)) (.pair (.sl (.int .i64)) (.pair (.sl (.int .i64)) .unit))))))), u, u, u, u, u, u, u, u, u, u, u, u, u, u, u, u, u, u, u, u, u, u, u, u, u, u, u, u, u, u, u, u, u, u, u, u, u, u, u, u, u, u, u, u, u, u, u, u, u, u, u, u, u, u, u, u, u, u, u, u, u, u, u, u, u, u, u, u, u, u, u, u, .one (.val (.sl (.int .i64))), .one (.val (.int .i64)), .one (.val (.int .i64))], bx := [], pins := [] }
noncomputable def oiheapOf_2 : Outs := [(.exit 2, { n := 110, regs := [u, .one (.fpt (.pair (.sl (.int .i64)) (.pair (.sl (.pair (.int .i64) (.pair (.int .i64) (.pair (.int .i64) (.pair (.int .i64) (.pair (.int .i64) .unit)))))) (.pair (.sl .bool) (.pair (.int .i64) (.pair .bool (.pair .bool (.pair .bool (.pair (.int .i64) (.pair (.sl (.pair (.sl (.int .i64)) (.pair (.int .i64) (.pair .bool (.pair (.int .i64) .unit))))) (.pair (.sl (.int .i64)) (.pair (.sl (.int .i64)) (.pair (.int .i64) (.pair (.int .i64) .unit)))))))))))))), u, .one (.val (.mp (.pair (.int .i64) (.pair (.int .i64) (.pair (.pair (.int .i64) (.pair (.int .i64) .unit)) (.pair (.sl (.int .i64)) (.pair (.sl (.int .i64)) .unit)))))))], bx := [], pins := [] }), (.ret, { n := 110, regs := [u, u, .one (.lit .pnil)], bx := [], pins := [] })]
noncomputable def jiheapOf_4 : Outs := [(.normal, { n := 110, regs := [u, .one (.fpt (.pair (.sl (.int .i64)) (.pair (.sl (.pair (.int .i64) (.pair (.int .i64) (.pair (.int .i64) (.pair (.int .i64) (.pair (.int .i64) .unit)))))) (.pair (.sl .bool) (.pair (.int .i64) (.pair .bool (.pair .bool (.pair .bool (.pair (.int .i64) (.pair (.sl (.pair (.sl (.int .i64)) (.pair (.int .i64) (.pair .bool (.pair (.int .i64) .unit))))) (.pair (.sl (.int .i64)) (.pair (.sl (.int .i64)) (.pair (.int .i64) (.pair (.int .i64) .unit)))))))))))))), u, .one (.val (.mp (.pair (.int .i64) (.pair (.int .i64) (.pair (.pair (.int .i64) (.pair (.int .i64) .unit)) (.pair (.sl (.int .i64)) (.pair (.sl (.int .i64)) .unit)))))))], bx := [], pins := [] }), (.ret, { n := 110, regs := [u, u, .one (.lit .pnil)], bx := [], pins := [] })]
noncomputable def liheapOf_0 (N : Nat) : Nat → (((List Int) × ((List (Int × (Int × (Int × (Int × (Int × Unit)))))) × ((List Bool) × (Int × (Bool × (Bool × (Bool × (Int × ((List ((List Int) × (Int × (Bool × (Int × Unit))))) × ((List Int) × ((List Int) × (Int × (Int × Unit))))))))))))) × ((List (Int × (Int × (Int × ((Int × (Int × Unit)) × ((List Int) × ((List Int) × Unit))))))) × ((List ((List Int) × (Int × (Bool × (Int × Unit))))) × (Int × (Int × Unit))))) → Option ((((List Int) × ((List (Int × (Int × (Int × (Int × (Int × Unit)))))) × ((List Bool) × (Int × (Bool × (Bool × (Bool × (Int × ((List ((List Int) × (Int × (Bool × (Int × Unit))))) × ((List Int) × ((List Int) × (Int × (Int × Unit))))))))))))) × ((List (Int × (Int × (Int × ((Int × (Int × Unit)) × ((List Int) × ((List Int) × Unit))))))) × Unit)) ⊕ Unit)
  | 0, _ => none
  | n + 1, v =>
    bif decide (v.2.2.2.2.1 < v.2.2.2.1) then
     bif decide (0 ≤ v.2.2.2.2.1) then
     bif decide (v.2.2.2.2.1.toNat < v.2.2.1.length) then
     let y9 := v.2.2.1.getD v.2.2.2.2.1.toNat (([] : (List Int)), (0 : Int), false, (0 : Int), ())
     let y10 := decide ((y9.1.length : Int) > (8 : Int))
     bif y10 then
      some (.inr (()))
     else
     bif decide (y9.2.2.2.1 < (0 : Int)) then
      some (.inr (()))
     else
     bif decide (y9.2.2.2.1 > (2 : Int)) then
      some (.inr (()))
     else
     liheapOf_0 N n (v.1, v.2.1, v.2.2.1, v.2.2.2.1, w64 (v.2.2.2.2.1 + (1 : Int)), ())
     else none
     else none
    else
    some (.inl (v.1, v.2.1, ()))
noncomputable def liheapOf_2 (N : Nat) : Nat → (((List Int) × ((List (Int × (Int × (Int × (Int × (Int × Unit)))))) × ((List Bool) × (Int × (Bool × (Bool × (Bool × (Int × ((List ((List Int) × (Int × (Bool × (Int × Unit))))) × ((List Int) × ((List Int) × (Int × (Int × Unit))))))))))))) × ((List (Int × (Int × (Int × ((Int × (Int × Unit)) × ((List Int) × ((List Int) × Unit))))))) × ((List Int) × (Int × (Int × Unit))))) → Option ((((List Int) × ((List (Int × (Int × (Int × (Int × (Int × Unit)))))) × ((List Bool) × (Int × (Bool × (Bool × (Bool × (Int × ((List ((List Int) × (Int × (Bool × (Int × Unit))))) × ((List Int) × ((List Int) × (Int × (Int × Unit))))))))))))) × ((List (Int × (Int × (Int × ((Int × (Int × Unit)) × ((List Int) × ((List Int) × Unit))))))) × Unit)) ⊕ Unit)
  | 0, _ => none
  | n + 1, v =>
    bif decide (v.2.2.2.2.1 < v.2.2.2.1) then
     bif decide (0 ≤ v.2.2.2.2.1) then
     bif decide (v.2.2.2.2.1.toNat < v.2.2.1.length) then
     let y14 := v.2.2.1.getD v.2.2.2.2.1.toNat (0 : Int)
     let y15 := (mget v.2.1 y14).getD ((0 : Int), (0 : Int), ((0 : Int), (0 : Int), ()), ([] : (List Int)), ([] : (List Int)), ())
     bif !((mget v.2.1 y14).isSome) then
      some (.inr (()))
     else
     bif y15.2.1 != y14 then
      some (.inr (()))
     else
     (FiState_from N (v.1, y14, ())).bind fun r16 =>
     bif r16.1 then
      some (.inr (()))
     else
     liheapOf_2 N n (v.1, v.2.1, v.2.2.1, v.2.2.2.1, w64 (v.2.2.2.2.1 + (1 : Int)), ())
     else none
     else none
    else
    some (.inl (v.1, v.2.1, ()))
noncomputable def FiheapOf (N : Nat) (x : (((List Int) × ((List (Int × (Int × (Int × (Int × (Int × Unit)))))) × ((List Bool) × (Int × (Bool × (Bool × (Bool × (Int × ((List ((List Int) × (Int × (Bool × (Int × Unit))))) × ((List Int) × ((List Int) × (Int × (Int × Unit))))))))))))) × Unit)) : Option (Unit ⊕ ((List Int) × ((List (Int × (Int × (Int × (Int × (Int × Unit)))))) × ((List Bool) × (Int × (Bool × (Bool × (Bool × (Int × ((List ((List Int) × (Int × (Bool × (Int × Unit))))) × ((List Int) × ((List Int) × (Int × (Int × ((List (Int × (Int × (Int × ((Int × (Int × Unit)) × ((List Int) × ((List Int) × Unit))))))) × ((List Int) × Unit)))))))))))))))) :=
  (FiState_things N (x.1, ())).bind fun r1 =>
  Option.bind (
   bif !r1.2.1 then
    some (.inr (()))
   else
   (FiState_settled N (x.1, r1.1, ())).bind fun r2 =>
   bif !r2.1 then
    some (.inr (()))
   else
   bif decide (x.1.2.2.2.1 < (0 : Int)) then
    some (.inr (()))
   else
   bif decide (x.1.2.2.2.1 > (3 : Int)) then
    some (.inr (()))
   else
   let y3 := decide ((x.1.2.2.2.2.2.2.2.2.1.length : Int) < (1 : Int))
   bif y3 then
    some (.inr (()))
   else
   let y4 := decide ((x.1.2.2.2.2.2.2.2.2.1.length : Int) > (3 : Int))
   bif y4 then
    some (.inr (()))
   else
   let y5 := (x.1.2.2.2.2.2.2.2.2.2.2.1.length : Int)
   bif decide (y5 > (8 : Int)) then
    some (.inr (()))
   else
   some (.inl (x.1, r1.1, ()))) fun o6 =>
  Sum.elim (fun o7 =>
   let y8 := (o7.1.2.2.2.2.2.2.2.2.1.length : Int)
   (liheapOf_0 N N (o7.1, o7.2.1, o7.1.2.2.2.2.2.2.2.2.1, y8, (0 : Int), ())).bind fun o11 =>
   Sum.elim (fun o12 =>
    let y13 := (o12.1.2.2.2.2.2.2.2.2.2.2.1.length : Int)
    (liheapOf_2 N N (o12.1, o12.2.1, o12.1.2.2.2.2.2.2.2.2.2.2.1, y13, (0 : Int), ())).bind fun o17 =>
    Sum.elim (fun o18 =>
     (Fiheap_reach N (o18.1.1, o18.1.2.1, o18.1.2.2.1, o18.1.2.2.2.1, o18.1.2.2.2.2.1, o18.1.2.2.2.2.2.1, o18.1.2.2.2.2.2.2.1, o18.1.2.2.2.2.2.2.2.1, o18.1.2.2.2.2.2.2.2.2.1, o18.1.2.2.2.2.2.2.2.2.2.1, o18.1.2.2.2.2.2.2.2.2.2.2.1, o18.1.2.2.2.2.2.2.2.2.2.2.2.1, o18.1.2.2.2.2.2.2.2.2.2.2.2.2.1, o18.2.1, ([] : (List Int)), ())).bind fun r19 =>
     bif !r19.1 then
      some (.inl ())
     else
     some (.inr ((r19.2.1, r19.2.2.1, r19.2.2.2.1, r19.2.2.2.2.1, r19.2.2.2.2.2.1, r19.2.2.2.2.2.2.1, r19.2.2.2.2.2.2.2.1, r19.2.2.2.2.2.2.2.2.1, r19.2.2.2.2.2.2.2.2.2.1, r19.2.2.2.2.2.2.2.2.2.2.1, r19.2.2.2.2.2.2.2.2.2.2.2.1, r19.2.2.2.2.2.2.2.2.2.2.2.2.1, r19.2.2.2.2.2.2.2.2.2.2.2.2.2.1, r19.2.2.2.2.2.2.2.2.2.2.2.2.2.2.1, r19.2.2.2.2.2.2.2.2.2.2.2.2.2.2.2.1, ())))) (fun o20 =>
     some (.inl ())) o17) (fun o21 =>
    some (.inl ())) o11) (fun o22 =>
   some (.inl ())) o6
noncomputable def coniheapOf (N : Nat) : Con := { f := 91, din := diniheapOf, outs := outiheapOf, F := FiheapOf N }
noncomputable def XiheapOf (N : Nat) : Ctx := { E := EiheapOf N, H := HiheapOf, lp := [(0, { hd := diheapOf_0, outs := oiheapOf_0, run := fun v => liheapOf_0 N N v }), (2, { hd := diheapOf_2, outs := oiheapOf_2, run := fun v => liheapOf_2 N N v })], jn := [(4, jiheapOf_4)] }
noncomputable def biheapOf_2 : Code := loopBody (codeOf Try.f91) 1
noncomputable def biheapOf_0 : Code := loopBody (codeOf Try.f91) 0
theorem FiheapOf_eq (N : Nat) (x : (((List Int) × ((List (Int × (Int × (Int × (Int × (Int × Unit)))))) × ((List Bool) × (Int × (Bool × (Bool × (Bool × (Int × ((List ((List Int) × (Int × (Bool × (Int × Unit))))) × ((List Int) × ((List Int) × (Int × (Int × Unit))))))))))))) × Unit)) : evFn (XiheapOf N) Try.f91 diniheapOf outiheapOf x = FiheapOf N x := by kernel_rfl
theorem liheapOf_0_eq (N n : Nat) (v : (((List Int) × ((List (Int × (Int × (Int × (Int × (Int × Unit)))))) × ((List Bool) × (Int × (Bool × (Bool × (Bool × (Int × ((List ((List Int) × (Int × (Bool × (Int × Unit))))) × ((List Int) × ((List Int) × (Int × (Int × Unit))))))))))))) × ((List (Int × (Int × (Int × ((Int × (Int × Unit)) × ((List Int) × ((List Int) × Unit))))))) × ((List ((List Int) × (Int × (Bool × (Int × Unit))))) × (Int × (Int × Unit)))))) : liheapOf_0 N (n + 1) v = ev (XiheapOf N) biheapOf_0 (roundK diheapOf_0 oiheapOf_0 (liheapOf_0 N n)) (diheapOf_0.mk' v) := by kernel_rfl
theorem liheapOf_2_eq (N n : Nat) (v : (((List Int) × ((List (Int × (Int × (Int × (Int × (Int × Unit)))))) × ((List Bool) × (Int × (Bool × (Bool × (Bool × (Int × ((List ((List Int) × (Int × (Bool × (Int × Unit))))) × ((List Int) × ((List Int) × (Int × (Int × Unit))))))))))))) × ((List (Int × (Int × (Int × ((Int × (Int × Unit)) × ((List Int) × ((List Int) × Unit))))))) × ((List Int) × (Int × (Int × Unit)))))) : liheapOf_2 N (n + 1) v = ev (XiheapOf N) biheapOf_2 (roundK diheapOf_2 oiheapOf_2 (liheapOf_2 N n)) (diheapOf_2.mk' v) := by kernel_rfl
theorem cxiheapOf (N : Nat) : CtxOk Try.prog (XiheapOf N) := ⟨⟨TE_ok, List.forall_mem_cons.2 ⟨(speciState_things N), List.forall_mem_cons.2 ⟨(speciState_settled N), List.forall_mem_cons.2 ⟨(speciState_from N), List.forall_mem_cons.2 ⟨(speciheap_reach N), fun k hk => absurd hk List.not_mem_nil⟩⟩⟩⟩⟩, mixed⟩
theorem lpiheapOf_0 (N : Nat) : LoopOk Try.prog { hd := diheapOf_0, outs := oiheapOf_0, run := fun v => liheapOf_0 N N v } biheapOf_0 :=
  loop_fuel (d := diheapOf_0) (os := oiheapOf_0) (cxiheapOf N) (loops_at (ids := []) (by kernel_rfl) (trivial)) (liheapOf_0 N) (fun _ => rfl) (fun n v => liheapOf_0_eq N n v) (fun _ => N)
theorem lpiheapOf_2 (N : Nat) : LoopOk Try.prog { hd := diheapOf_2, outs := oiheapOf_2, run := fun v => liheapOf_2 N N v } biheapOf_2 :=
  loop_fuel (d := diheapOf_2) (os := oiheapOf_2) (cxiheapOf N) (loops_at (ids := []) (by kernel_rfl) (trivial)) (liheapOf_2 N) (fun _ => rfl) (fun n v => liheapOf_2_eq N n v) (fun _ => N)
theorem speciheapOf (N : Nat) : Spec Try.prog (coniheapOf N) :=
  Spec.of_eq (fn_spec (cxiheapOf N) (f := 91) (fn := Try.f91) (c := codeOf Try.f91) (by kernel_rfl) (by kernel_rfl) (by kernel_rfl) (loops_at (ids := [0, 2]) (by kernel_rfl) ⟨lp_of (lpiheapOf_0 N), ⟨lp_of (lpiheapOf_2 N), trivial⟩⟩) (by kernel_rfl)) (fun x r h => (FiheapOf_eq N x).trans h)

/-! ### 47: impl.MarkReach -/

noncomputable def diniMarkReach : Desc := { n := 1, regs := [.one (.val (.pair (.sl (.int .i64)) (.pair (.sl (.pair (.int .i64) (.pair (.int .i64) (.pair (.int .i64) (.pair (.int .i64) (.pair (.int .i64) .unit)))))) (.pair (.sl .bool) (.pair (.int .i64) (.pair .bool (.pair .bool (.pair .bool (.pair (.int .i64) (.pair (.sl (.pair (.sl (.int .i64)) (.pair (.int .i64) (.pair .bool (.pair (.int .i64) .unit))))) (.pair (.sl (.int .i64)) (.pair (.sl (.int .i64)) (.pair (.int .i64) (.pair (.int .i64) .unit))))))))))))))], bx := [], pins := [] }
noncomputable def outiMarkReach : Outs := [(.ret, { n := 2, regs := [.one (.lit (.row 1038400)), .one (.val .bool)], bx := [(1038400, .row .bool)], pins := [] })]
noncomputable def HiMarkReach : Hints := [(0, [(0, { fz := true })]),
  (3, [(0, { nl := [(0, .bool)] })])]
noncomputable def EiMarkReach (N : Nat) : Env := { te := TE, cs := [coniheapOf N] }
noncomputable def diMarkReach_0 : Desc := { n := 30, regs := [u, u, u, u, u, .one (.lit (.row 1051392)), u, u, u, u, u, u, u, u, u, u, u, u, u, .one (.lit (.row 1012866)), .one (.val (.int .i64)), .one (.val (.int .i64))], bx := [(1051392, .row .bool), (1012866, .row (.int .i64))], pins := [] }
noncomputable def oiMarkReach_0 : Outs := [(.exit 0, { n := 30, regs := [u, u, u, u, u, .one (.lit (.row 1051392))], bx := [(1051392, .row .bool)], pins := [] })]
noncomputable def liMarkReach_0 (N : Nat) : Nat → (Int × (Int × ((List Bool) × ((List Int) × Unit)))) → Option ((List Bool) × Unit)
  | 0, _ => none
  | n + 1, v =>
    bif decide (v.2.1 < v.1) then
     bif decide (0 ≤ v.2.1) then
     bif decide (v.2.1.toNat < v.2.2.2.1.length) then
     bif decide (0 ≤ (v.2.2.2.1.getD v.2.1.toNat (0 : Int))) then
     bif decide ((v.2.2.2.1.getD v.2.1.toNat (0 : Int)).toNat < v.2.2.1.length) then
     let y6 := (v.2.2.2.1.getD v.2.1.toNat (0 : Int)).toNat
     liMarkReach_0 N n (v.1, w64 (v.2.1 + (1 : Int)), v.2.2.1.set y6 true, v.2.2.2.1, ())
     else none
     else none
     else none
     else none
    else
    some (v.2.2.1, ())
noncomputable def FiMarkReach (N : Nat) (x : (((List Int) × ((List (Int × (Int × (Int × (Int × (Int × Unit)))))) × ((List Bool) × (Int × (Bool × (Bool × (Bool × (Int × ((List ((List Int) × (Int × (Bool × (Int × Unit))))) × ((List Int) × ((List Int) × (Int × (Int × Unit))))))))))))) × Unit)) : Option (Bool × ((List Bool) × Unit)) :=
  (FiheapOf N (x.1, ())).bind fun r1 =>
  Sum.elim (fun r2 =>
   some (false, ([] : (List Bool)), ())) (fun r3 =>
   bif decide (0 ≤ (x.1.1.length : Int)) then
   bif decide ((x.1.1.length : Int).toNat ≤ lim) then
   let y4 := List.replicate (x.1.1.length : Int).toNat false
   let y5 := (r3.2.2.2.2.2.2.2.2.2.2.2.2.2.2.1.length : Int)
   (liMarkReach_0 N N (y5, (0 : Int), y4, r3.2.2.2.2.2.2.2.2.2.2.2.2.2.2.1, ())).bind fun o7 =>
   some (true, o7.1, ())
   else none
   else none) r1
noncomputable def coniMarkReach (N : Nat) : Con := { f := 47, din := diniMarkReach, outs := outiMarkReach, F := FiMarkReach N }
noncomputable def XiMarkReach (N : Nat) : Ctx := { E := EiMarkReach N, H := HiMarkReach, lp := [(0, { hd := diMarkReach_0, outs := oiMarkReach_0, run := fun v => liMarkReach_0 N N v })], jn := [] }
noncomputable def biMarkReach_0 : Code := loopBody (codeOf Try.f47) 0
theorem FiMarkReach_eq (N : Nat) (x : (((List Int) × ((List (Int × (Int × (Int × (Int × (Int × Unit)))))) × ((List Bool) × (Int × (Bool × (Bool × (Bool × (Int × ((List ((List Int) × (Int × (Bool × (Int × Unit))))) × ((List Int) × ((List Int) × (Int × (Int × Unit))))))))))))) × Unit)) : evFn (XiMarkReach N) Try.f47 diniMarkReach outiMarkReach x = FiMarkReach N x := by kernel_rfl
theorem liMarkReach_0_eq (N n : Nat) (v : (Int × (Int × ((List Bool) × ((List Int) × Unit))))) : liMarkReach_0 N (n + 1) v = ev (XiMarkReach N) biMarkReach_0 (roundK diMarkReach_0 oiMarkReach_0 (liMarkReach_0 N n)) (diMarkReach_0.mk' v) := by kernel_rfl
theorem cxiMarkReach (N : Nat) : CtxOk Try.prog (XiMarkReach N) := ⟨⟨TE_ok, List.forall_mem_cons.2 ⟨(speciheapOf N), fun k hk => absurd hk List.not_mem_nil⟩⟩, mixed⟩
theorem lpiMarkReach_0 (N : Nat) : LoopOk Try.prog { hd := diMarkReach_0, outs := oiMarkReach_0, run := fun v => liMarkReach_0 N N v } biMarkReach_0 :=
  loop_fuel (d := diMarkReach_0) (os := oiMarkReach_0) (cxiMarkReach N) (loops_at (ids := []) (by kernel_rfl) (trivial)) (liMarkReach_0 N) (fun _ => rfl) (fun n v => liMarkReach_0_eq N n v) (fun _ => N)
theorem speciMarkReach (N : Nat) : Spec Try.prog (coniMarkReach N) :=
  Spec.of_eq (fn_spec (cxiMarkReach N) (f := 47) (fn := Try.f47) (c := codeOf Try.f47) (by kernel_rfl) (by kernel_rfl) (by kernel_rfl) (loops_at (ids := [0]) (by kernel_rfl) ⟨lp_of (lpiMarkReach_0 N), trivial⟩) (by kernel_rfl)) (fun x r h => (FiMarkReach_eq N x).trans h)

/-! ### 48: laws.eqBoolS -/

noncomputable def dinveqBoolS : Desc := { n := 2, regs := [.one (.val (.sl .bool)), .one (.val (.sl .bool))], bx := [], pins := [] }
noncomputable def outveqBoolS : Outs := [(.ret, { n := 1, regs := [.one (.val .bool)], bx := [], pins := [] })]
noncomputable def HveqBoolS : Hints := []
noncomputable def EveqBoolS (_N : Nat) : Env := { te := TE, cs := [] }
noncomputable def dveqBoolS_0 : Desc := { n := 26, regs := [.one (.val (.sl .bool)), .one (.val (.sl .bool)), u, u, u, .one (.val (.int .i64))], bx := [], pins := [] }
noncomputable def oveqBoolS_0 : Outs := [(.exit 0, { n := 26, regs := [], bx := [], pins := [] }), (.ret, { n := 26, regs := [u, u, u, u, .one (.val .bool)], bx := [], pins := [] })]
noncomputable def lveqBoolS_0 (N : Nat) : Nat → ((List Bool) × ((List Bool) × (Int × Unit))) → Option (Unit ⊕ (Bool × Unit))
  | 0, _ => none
  | n + 1, v =>
    let y2 := decide (v.2.2.1 < (v.1.length : Int))
    bif y2 then
     bif decide (0 ≤ v.2.2.1) then
     bif decide (v.2.2.1.toNat < v.1.length) then
     bif decide (0 ≤ v.2.2.1) then
     bif decide (v.2.2.1.toNat < v.2.1.length) then
     let y3 := !((v.1.getD v.2.2.1.toNat false) == (v.2.1.getD v.2.2.1.toNat false))
     bif y3 then
      some (.inr ((false, ())))
     else
     lveqBoolS_0 N n (v.1, v.2.1, w64 (v.2.2.1 + (1 : Int)), ())
     else none
     else none
     else none
     else none
    else
    some (.inl ())
noncomputable def FveqBoolS (N : Nat) (x : ((List Bool) × ((List Bool) × Unit))) : Option (Bool × Unit) :=
  let y1 := (x.1.length : Int) != (x.2.1.length : Int)
  bif y1 then
   some (false, ())
  else
  (lveqBoolS_0 N N (x.1, x.2.1, (0 : Int), ())).bind fun o4 =>
  Sum.elim (fun o5 =>
   some (true, ())) (fun o6 =>
   some (o6.1, ())) o4
noncomputable def conveqBoolS (N : Nat) : Con := { f := 48, din := dinveqBoolS, outs := outveqBoolS, F := FveqBoolS N }
noncomputable def XveqBoolS (N : Nat) : Ctx := { E := EveqBoolS N, H := HveqBoolS, lp := [(0, { hd := dveqBoolS_0, outs := oveqBoolS_0, run := fun v => lveqBoolS_0 N N v })], jn := [] }
noncomputable def bveqBoolS_0 : Code := loopBody (codeOf Try.f48) 0
theorem FveqBoolS_eq (N : Nat) (x : ((List Bool) × ((List Bool) × Unit))) : evFn (XveqBoolS N) Try.f48 dinveqBoolS outveqBoolS x = FveqBoolS N x := by kernel_rfl
theorem lveqBoolS_0_eq (N n : Nat) (v : ((List Bool) × ((List Bool) × (Int × Unit)))) : lveqBoolS_0 N (n + 1) v = ev (XveqBoolS N) bveqBoolS_0 (roundK dveqBoolS_0 oveqBoolS_0 (lveqBoolS_0 N n)) (dveqBoolS_0.mk' v) := by kernel_rfl
theorem cxveqBoolS (N : Nat) : CtxOk Try.prog (XveqBoolS N) := ⟨⟨TE_ok, fun k hk => absurd hk List.not_mem_nil⟩, mixed⟩
theorem lpveqBoolS_0 (N : Nat) : LoopOk Try.prog { hd := dveqBoolS_0, outs := oveqBoolS_0, run := fun v => lveqBoolS_0 N N v } bveqBoolS_0 :=
  loop_fuel (d := dveqBoolS_0) (os := oveqBoolS_0) (cxveqBoolS N) (loops_at (ids := []) (by kernel_rfl) (trivial)) (lveqBoolS_0 N) (fun _ => rfl) (fun n v => lveqBoolS_0_eq N n v) (fun _ => N)
theorem specveqBoolS (N : Nat) : Spec Try.prog (conveqBoolS N) :=
  Spec.of_eq (fn_spec (cxveqBoolS N) (f := 48) (fn := Try.f48) (c := codeOf Try.f48) (by kernel_rfl) (by kernel_rfl) (by kernel_rfl) (loops_at (ids := [0]) (by kernel_rfl) ⟨lp_of (lpveqBoolS_0 N), trivial⟩) (by kernel_rfl)) (fun x r h => (FveqBoolS_eq N x).trans h)

/-! ### 19: laws.eqIntS -/

noncomputable def dinveqIntS : Desc := { n := 2, regs := [.one (.val (.sl (.int .i64))), .one (.val (.sl (.int .i64)))], bx := [], pins := [] }
noncomputable def outveqIntS : Outs := [(.ret, { n := 1, regs := [.one (.val .bool)], bx := [], pins := [] })]
noncomputable def HveqIntS : Hints := []
noncomputable def EveqIntS (_N : Nat) : Env := { te := TE, cs := [] }
noncomputable def dveqIntS_0 : Desc := { n := 26, regs := [.one (.val (.sl (.int .i64))), .one (.val (.sl (.int .i64))), u, u, u, .one (.val (.int .i64))], bx := [], pins := [] }
noncomputable def oveqIntS_0 : Outs := [(.exit 0, { n := 26, regs := [], bx := [], pins := [] }), (.ret, { n := 26, regs := [u, u, u, u, .one (.val .bool)], bx := [], pins := [] })]
noncomputable def lveqIntS_0 (N : Nat) : Nat → ((List Int) × ((List Int) × (Int × Unit))) → Option (Unit ⊕ (Bool × Unit))
  | 0, _ => none
  | n + 1, v =>
    let y2 := decide (v.2.2.1 < (v.1.length : Int))
    bif y2 then
     bif decide (0 ≤ v.2.2.1) then
     bif decide (v.2.2.1.toNat < v.1.length) then
     bif decide (0 ≤ v.2.2.1) then
     bif decide (v.2.2.1.toNat < v.2.1.length) then
     let y3 := (v.1.getD v.2.2.1.toNat (0 : Int)) != (v.2.1.getD v.2.2.1.toNat (0 : Int))
     bif y3 then
      some (.inr ((false, ())))
     else
     lveqIntS_0 N n (v.1, v.2.1, w64 (v.2.2.1 + (1 : Int)), ())
     else none
     else none
     else none
     else none
    else
    some (.inl ())
noncomputable def FveqIntS (N : Nat) (x : ((List Int) × ((List Int) × Unit))) : Option (Bool × Unit) :=
  let y1 := (x.1.length : Int) != (x.2.1.length : Int)
  bif y1 then
   some (false, ())
  else
  (lveqIntS_0 N N (x.1, x.2.1, (0 : Int), ())).bind fun o4 =>
  Sum.elim (fun o5 =>
   some (true, ())) (fun o6 =>
   some (o6.1, ())) o4
noncomputable def conveqIntS (N : Nat) : Con := { f := 19, din := dinveqIntS, outs := outveqIntS, F := FveqIntS N }
noncomputable def XveqIntS (N : Nat) : Ctx := { E := EveqIntS N, H := HveqIntS, lp := [(0, { hd := dveqIntS_0, outs := oveqIntS_0, run := fun v => lveqIntS_0 N N v })], jn := [] }
noncomputable def bveqIntS_0 : Code := loopBody (codeOf Try.f19) 0
theorem FveqIntS_eq (N : Nat) (x : ((List Int) × ((List Int) × Unit))) : evFn (XveqIntS N) Try.f19 dinveqIntS outveqIntS x = FveqIntS N x := by kernel_rfl
theorem lveqIntS_0_eq (N n : Nat) (v : ((List Int) × ((List Int) × (Int × Unit)))) : lveqIntS_0 N (n + 1) v = ev (XveqIntS N) bveqIntS_0 (roundK dveqIntS_0 oveqIntS_0 (lveqIntS_0 N n)) (dveqIntS_0.mk' v) := by kernel_rfl
theorem cxveqIntS (N : Nat) : CtxOk Try.prog (XveqIntS N) := ⟨⟨TE_ok, fun k hk => absurd hk List.not_mem_nil⟩, mixed⟩
theorem lpveqIntS_0 (N : Nat) : LoopOk Try.prog { hd := dveqIntS_0, outs := oveqIntS_0, run := fun v => lveqIntS_0 N N v } bveqIntS_0 :=
  loop_fuel (d := dveqIntS_0) (os := oveqIntS_0) (cxveqIntS N) (loops_at (ids := []) (by kernel_rfl) (trivial)) (lveqIntS_0 N) (fun _ => rfl) (fun n v => lveqIntS_0_eq N n v) (fun _ => N)
theorem specveqIntS (N : Nat) : Spec Try.prog (conveqIntS N) :=
  Spec.of_eq (fn_spec (cxveqIntS N) (f := 19) (fn := Try.f19) (c := codeOf Try.f19) (by kernel_rfl) (by kernel_rfl) (by kernel_rfl) (loops_at (ids := [0]) (by kernel_rfl) ⟨lp_of (lpveqIntS_0 N), trivial⟩) (by kernel_rfl)) (fun x r h => (FveqIntS_eq N x).trans h)

/-! ### 63: laws.eqRegion -/

noncomputable def dinveqRegion : Desc := { n := 2, regs := [.one (.val (.pair (.int .i64) (.pair (.int .i64) (.pair (.int .i64) (.pair (.int .i64) (.pair (.int .i64) .unit)))))), .one (.val (.pair (.int .i64) (.pair (.int .i64) (.pair (.int .i64) (.pair (.int .i64) (.pair (.int .i64) .unit))))))], bx := [], pins := [] }
noncomputable def outveqRegion : Outs := [(.ret, { n := 1, regs := [.one (.val .bool)], bx := [], pins := [] })]
noncomputable def HveqRegion : Hints := [(0, [(0, { fz := true }), (1, { fz := true })])]
noncomputable def EveqRegion (_N : Nat) : Env := { te := TE, cs := [] }
noncomputable def FveqRegion (N : Nat) (x : ((Int × (Int × (Int × (Int × (Int × Unit))))) × ((Int × (Int × (Int × (Int × (Int × Unit))))) × Unit))) : Option (Bool × Unit) :=
  bif x.1.1 != x.2.1.1 then
   some (false, ())
  else
  bif x.1.2.1 != x.2.1.2.1 then
   some (false, ())
  else
  bif x.1.2.2.1 != x.2.1.2.2.1 then
   some (false, ())
  else
  bif x.1.2.2.2.1 != x.2.1.2.2.2.1 then
   some (false, ())
  else
  bif x.1.2.2.2.2.1 != x.2.1.2.2.2.2.1 then
   some (false, ())
  else
  some (true, ())
noncomputable def conveqRegion (N : Nat) : Con := { f := 63, din := dinveqRegion, outs := outveqRegion, F := FveqRegion N }
noncomputable def XveqRegion (N : Nat) : Ctx := { E := EveqRegion N, H := HveqRegion, lp := [], jn := [] }
theorem FveqRegion_eq (N : Nat) (x : ((Int × (Int × (Int × (Int × (Int × Unit))))) × ((Int × (Int × (Int × (Int × (Int × Unit))))) × Unit))) : evFn (XveqRegion N) Try.f63 dinveqRegion outveqRegion x = FveqRegion N x := by kernel_rfl
theorem cxveqRegion (N : Nat) : CtxOk Try.prog (XveqRegion N) := ⟨⟨TE_ok, fun k hk => absurd hk List.not_mem_nil⟩, mixed⟩
theorem specveqRegion (N : Nat) : Spec Try.prog (conveqRegion N) :=
  Spec.of_eq (fn_spec (cxveqRegion N) (f := 63) (fn := Try.f63) (c := codeOf Try.f63) (by kernel_rfl) (by kernel_rfl) (by kernel_rfl) (loops_at (ids := []) (by kernel_rfl) (trivial)) (by kernel_rfl)) (fun x r h => (FveqRegion_eq N x).trans h)

/-! ### 20: laws.eqRegionS -/

noncomputable def dinveqRegionS : Desc := { n := 2, regs := [.one (.val (.sl (.pair (.int .i64) (.pair (.int .i64) (.pair (.int .i64) (.pair (.int .i64) (.pair (.int .i64) .unit))))))), .one (.val (.sl (.pair (.int .i64) (.pair (.int .i64) (.pair (.int .i64) (.pair (.int .i64) (.pair (.int .i64) .unit)))))))], bx := [], pins := [] }
noncomputable def outveqRegionS : Outs := [(.ret, { n := 1, regs := [.one (.val .bool)], bx := [], pins := [] })]
noncomputable def HveqRegionS : Hints := []
noncomputable def EveqRegionS (N : Nat) : Env := { te := TE, cs := [conveqRegion N] }
noncomputable def dveqRegionS_0 : Desc := { n := 27, regs := [.one (.val (.sl (.pair (.int .i64) (.pair (.int .i64) (.pair (.int .i64) (.pair (.int .i64) (.pair (.int .i64) .unit))))))), .one (.val (.sl (.pair (.int .i64) (.pair (.int .i64) (.pair (.int .i64) (.pair (.int .i64) (.pair (.int .i64) .unit))))))), u, u, u, .one (.val (.int .i64))], bx := [], pins := [] }
noncomputable def oveqRegionS_0 : Outs := [(.exit 0, { n := 27, regs := [], bx := [], pins := [] }), (.ret, { n := 27, regs := [u, u, u, u, .one (.val .bool)], bx := [], pins := [] })]
noncomputable def lveqRegionS_0 (N : Nat) : Nat → ((List (Int × (Int × (Int × (Int × (Int × Unit)))))) × ((List (Int × (Int × (Int × (Int × (Int × Unit)))))) × (Int × Unit))) → Option (Unit ⊕ (Bool × Unit))
  | 0, _ => none
  | n + 1, v =>
    let y2 := decide (v.2.2.1 < (v.1.length : Int))
    bif y2 then
     bif decide (0 ≤ v.2.2.1) then
     bif decide (v.2.2.1.toNat < v.1.length) then
     let y3 := v.1.getD v.2.2.1.toNat ((0 : Int), (0 : Int), (0 : Int), (0 : Int), (0 : Int), ())
     bif decide (0 ≤ v.2.2.1) then
     bif decide (v.2.2.1.toNat < v.2.1.length) then
     let y4 := v.2.1.getD v.2.2.1.toNat ((0 : Int), (0 : Int), (0 : Int), (0 : Int), (0 : Int), ())
     (FveqRegion N (y3, y4, ())).bind fun r5 =>
     bif !r5.1 then
      some (.inr ((false, ())))
     else
     lveqRegionS_0 N n (v.1, v.2.1, w64 (v.2.2.1 + (1 : Int)), ())
     else none
     else none
     else none
     else none
    else
    some (.inl ())
noncomputable def FveqRegionS (N : Nat) (x : ((List (Int × (Int × (Int × (Int × (Int × Unit)))))) × ((List (Int × (Int × (Int × (Int × (Int × Unit)))))) × Unit))) : Option (Bool × Unit) :=
  let y1 := (x.1.length : Int) != (x.2.1.length : Int)
  bif y1 then
   some (false, ())
  else
  (lveqRegionS_0 N N (x.1, x.2.1, (0 : Int), ())).bind fun o6 =>
  Sum.elim (fun o7 =>
   some (true, ())) (fun o8 =>
   some (o8.1, ())) o6
noncomputable def conveqRegionS (N : Nat) : Con := { f := 20, din := dinveqRegionS, outs := outveqRegionS, F := FveqRegionS N }
noncomputable def XveqRegionS (N : Nat) : Ctx := { E := EveqRegionS N, H := HveqRegionS, lp := [(0, { hd := dveqRegionS_0, outs := oveqRegionS_0, run := fun v => lveqRegionS_0 N N v })], jn := [] }
noncomputable def bveqRegionS_0 : Code := loopBody (codeOf Try.f20) 0
theorem FveqRegionS_eq (N : Nat) (x : ((List (Int × (Int × (Int × (Int × (Int × Unit)))))) × ((List (Int × (Int × (Int × (Int × (Int × Unit)))))) × Unit))) : evFn (XveqRegionS N) Try.f20 dinveqRegionS outveqRegionS x = FveqRegionS N x := by kernel_rfl
theorem lveqRegionS_0_eq (N n : Nat) (v : ((List (Int × (Int × (Int × (Int × (Int × Unit)))))) × ((List (Int × (Int × (Int × (Int × (Int × Unit)))))) × (Int × Unit)))) : lveqRegionS_0 N (n + 1) v = ev (XveqRegionS N) bveqRegionS_0 (roundK dveqRegionS_0 oveqRegionS_0 (lveqRegionS_0 N n)) (dveqRegionS_0.mk' v) := by kernel_rfl
theorem cxveqRegionS (N : Nat) : CtxOk Try.prog (XveqRegionS N) := ⟨⟨TE_ok, List.forall_mem_cons.2 ⟨(specveqRegion N), fun k hk => absurd hk List.not_mem_nil⟩⟩, mixed⟩
theorem lpveqRegionS_0 (N : Nat) : LoopOk Try.prog { hd := dveqRegionS_0, outs := oveqRegionS_0, run := fun v => lveqRegionS_0 N N v } bveqRegionS_0 :=
  loop_fuel (d := dveqRegionS_0) (os := oveqRegionS_0) (cxveqRegionS N) (loops_at (ids := []) (by kernel_rfl) (trivial)) (lveqRegionS_0 N) (fun _ => rfl) (fun n v => lveqRegionS_0_eq N n v) (fun _ => N)
theorem specveqRegionS (N : Nat) : Spec Try.prog (conveqRegionS N) :=
  Spec.of_eq (fn_spec (cxveqRegionS N) (f := 20) (fn := Try.f20) (c := codeOf Try.f20) (by kernel_rfl) (by kernel_rfl) (by kernel_rfl) (loops_at (ids := [0]) (by kernel_rfl) ⟨lp_of (lpveqRegionS_0 N), trivial⟩) (by kernel_rfl)) (fun x r h => (FveqRegionS_eq N x).trans h)

/-! ### 112: laws.eqThread -/

noncomputable def dinveqThread : Desc := { n := 2, regs := [.one (.val (.pair (.sl (.int .i64)) (.pair (.int .i64) (.pair .bool (.pair (.int .i64) .unit))))), .one (.val (.pair (.sl (.int .i64)) (.pair (.int .i64) (.pair .bool (.pair (.int .i64) .unit)))))], bx := [], pins := [] }
noncomputable def outveqThread : Outs := [(.ret, { n := 1, regs := [.one (.val .bool)], bx := [], pins := [] })]
noncomputable def HveqThread : Hints := [(0, [(0, { fz := true }), (1, { fz := true })])]
noncomputable def EveqThread (N : Nat) : Env := { te := TE, cs := [conveqIntS N] }
noncomputable def FveqThread (N : Nat) (x : (((List Int) × (Int × (Bool × (Int × Unit)))) × (((List Int) × (Int × (Bool × (Int × Unit)))) × Unit))) : Option (Bool × Unit) :=
  (FveqIntS N (x.1.1, x.2.1.1, ())).bind fun r1 =>
  bif !r1.1 then
   some (false, ())
  else
  bif x.1.2.1 != x.2.1.2.1 then
   some (false, ())
  else
  bif !(x.1.2.2.1 == x.2.1.2.2.1) then
   some (false, ())
  else
  bif x.1.2.2.2.1 != x.2.1.2.2.2.1 then
   some (false, ())
  else
  some (true, ())
noncomputable def conveqThread (N : Nat) : Con := { f := 112, din := dinveqThread, outs := outveqThread, F := FveqThread N }
noncomputable def XveqThread (N : Nat) : Ctx := { E := EveqThread N, H := HveqThread, lp := [], jn := [] }
theorem FveqThread_eq (N : Nat) (x : (((List Int) × (Int × (Bool × (Int × Unit)))) × (((List Int) × (Int × (Bool × (Int × Unit)))) × Unit))) : evFn (XveqThread N) Try.f112 dinveqThread outveqThread x = FveqThread N x := by kernel_rfl
theorem cxveqThread (N : Nat) : CtxOk Try.prog (XveqThread N) := ⟨⟨TE_ok, List.forall_mem_cons.2 ⟨(specveqIntS N), fun k hk => absurd hk List.not_mem_nil⟩⟩, mixed⟩
theorem specveqThread (N : Nat) : Spec Try.prog (conveqThread N) :=
  Spec.of_eq (fn_spec (cxveqThread N) (f := 112) (fn := Try.f112) (c := codeOf Try.f112) (by kernel_rfl) (by kernel_rfl) (by kernel_rfl) (loops_at (ids := []) (by kernel_rfl) (trivial)) (by kernel_rfl)) (fun x r h => (FveqThread_eq N x).trans h)

/-! ### 72: laws.eqThreadS -/

noncomputable def dinveqThreadS : Desc := { n := 2, regs := [.one (.val (.sl (.pair (.sl (.int .i64)) (.pair (.int .i64) (.pair .bool (.pair (.int .i64) .unit)))))), .one (.val (.sl (.pair (.sl (.int .i64)) (.pair (.int .i64) (.pair .bool (.pair (.int .i64) .unit))))))], bx := [], pins := [] }
noncomputable def outveqThreadS : Outs := [(.ret, { n := 1, regs := [.one (.val .bool)], bx := [], pins := [] })]
noncomputable def HveqThreadS : Hints := []
noncomputable def EveqThreadS (N : Nat) : Env := { te := TE, cs := [conveqThread N] }
noncomputable def dveqThreadS_0 : Desc := { n := 27, regs := [.one (.val (.sl (.pair (.sl (.int .i64)) (.pair (.int .i64) (.pair .bool (.pair (.int .i64) .unit)))))), .one (.val (.sl (.pair (.sl (.int .i64)) (.pair (.int .i64) (.pair .bool (.pair (.int .i64) .unit)))))), u, u, u, .one (.val (.int .i64))], bx := [], pins := [] }
noncomputable def oveqThreadS_0 : Outs := [(.exit 0, { n := 27, regs := [], bx := [], pins := [] }), (.ret, { n := 27, regs := [u, u, u, u, .one (.val .bool)], bx := [], pins := [] })]
noncomputable def lveqThreadS_0 (N : Nat) : Nat → ((List ((List Int) × (Int × (Bool × (Int × Unit))))) × ((List ((List Int) × (Int × (Bool × (Int × Unit))))) × (Int × Unit))) → Option (Unit ⊕ (Bool × Unit))
  | 0, _ => none
  | n + 1, v =>
    let y2 := decide (v.2.2.1 < (v.1.length : Int))
    bif y2 then
     bif decide (0 ≤ v.2.2.1) then
     bif decide (v.2.2.1.toNat < v.1.length) then
     let y3 := v.1.getD v.2.2.1.toNat (([] : (List Int)), (0 : Int), false, (0 : Int), ())
     bif decide (0 ≤ v.2.2.1) then
     bif decide (v.2.2.1.toNat < v.2.1.length) then
     let y4 := v.2.1.getD v.2.2.1.toNat (([] : (List Int)), (0 : Int), false, (0 : Int), ())
     (FveqThread N (y3, y4, ())).bind fun r5 =>
     bif !r5.1 then
      some (.inr ((false, ())))
     else
     lveqThreadS_0 N n (v.1, v.2.1, w64 (v.2.2.1 + (1 : Int)), ())
     else none
     else none
     else none
     else none
    else
    some (.inl ())
noncomputable def FveqThreadS (N : Nat) (x : ((List ((List Int) × (Int × (Bool × (Int × Unit))))) × ((List ((List Int) × (Int × (Bool × (Int × Unit))))) × Unit))) : Option (Bool × Unit) :=
  let y1 := (x.1.length : Int) != (x.2.1.length : Int)
  bif y1 then
   some (false, ())
  else
  (lveqThreadS_0 N N (x.1, x.2.1, (0 : Int), ())).bind fun o6 =>
  Sum.elim (fun o7 =>
   some (true, ())) (fun o8 =>
   some (o8.1, ())) o6
noncomputable def conveqThreadS (N : Nat) : Con := { f := 72, din := dinveqThreadS, outs := outveqThreadS, F := FveqThreadS N }
noncomputable def XveqThreadS (N : Nat) : Ctx := { E := EveqThreadS N, H := HveqThreadS, lp := [(0, { hd := dveqThreadS_0, outs := oveqThreadS_0, run := fun v => lveqThreadS_0 N N v })], jn := [] }
noncomputable def bveqThreadS_0 : Code := loopBody (codeOf Try.f72) 0
theorem FveqThreadS_eq (N : Nat) (x : ((List ((List Int) × (Int × (Bool × (Int × Unit))))) × ((List ((List Int) × (Int × (Bool × (Int × Unit))))) × Unit))) : evFn (XveqThreadS N) Try.f72 dinveqThreadS outveqThreadS x = FveqThreadS N x := by kernel_rfl
theorem lveqThreadS_0_eq (N n : Nat) (v : ((List ((List Int) × (Int × (Bool × (Int × Unit))))) × ((List ((List Int) × (Int × (Bool × (Int × Unit))))) × (Int × Unit)))) : lveqThreadS_0 N (n + 1) v = ev (XveqThreadS N) bveqThreadS_0 (roundK dveqThreadS_0 oveqThreadS_0 (lveqThreadS_0 N n)) (dveqThreadS_0.mk' v) := by kernel_rfl
theorem cxveqThreadS (N : Nat) : CtxOk Try.prog (XveqThreadS N) := ⟨⟨TE_ok, List.forall_mem_cons.2 ⟨(specveqThread N), fun k hk => absurd hk List.not_mem_nil⟩⟩, mixed⟩
theorem lpveqThreadS_0 (N : Nat) : LoopOk Try.prog { hd := dveqThreadS_0, outs := oveqThreadS_0, run := fun v => lveqThreadS_0 N N v } bveqThreadS_0 :=
  loop_fuel (d := dveqThreadS_0) (os := oveqThreadS_0) (cxveqThreadS N) (loops_at (ids := []) (by kernel_rfl) (trivial)) (lveqThreadS_0 N) (fun _ => rfl) (fun n v => lveqThreadS_0_eq N n v) (fun _ => N)
theorem specveqThreadS (N : Nat) : Spec Try.prog (conveqThreadS N) :=
  Spec.of_eq (fn_spec (cxveqThreadS N) (f := 72) (fn := Try.f72) (c := codeOf Try.f72) (by kernel_rfl) (by kernel_rfl) (by kernel_rfl) (loops_at (ids := [0]) (by kernel_rfl) ⟨lp_of (lpveqThreadS_0 N), trivial⟩) (by kernel_rfl)) (fun x r h => (FveqThreadS_eq N x).trans h)

/-! ### 27: laws.eqState -/

noncomputable def dinveqState : Desc := { n := 2, regs := [.one (.val (.pair (.sl (.int .i64)) (.pair (.sl (.pair (.int .i64) (.pair (.int .i64) (.pair (.int .i64) (.pair (.int .i64) (.pair (.int .i64) .unit)))))) (.pair (.sl .bool) (.pair (.int .i64) (.pair .bool (.pair .bool (.pair .bool (.pair (.int .i64) (.pair (.sl (.pair (.sl (.int .i64)) (.pair (.int .i64) (.pair .bool (.pair (.int .i64) .unit))))) (.pair (.sl (.int .i64)) (.pair (.sl (.int .i64)) (.pair (.int .i64) (.pair (.int .i64) .unit)))))))))))))), .one (.val (.pair (.sl (.int .i64)) (.pair (.sl (.pair (.int .i64) (.pair (.int .i64) (.pair (.int .i64) (.pair (.int .i64) (.pair (.int .i64) .unit)))))) (.pair (.sl .bool) (.pair (.int .i64) (.pair .bool (.pair .bool (.pair .bool (.pair (.int .i64) (.pair (.sl (.pair (.sl (.int .i64)) (.pair (.int .i64) (.pair .bool (.pair (.int .i64) .unit))))) (.pair (.sl (.int .i64)) (.pair (.sl (.int .i64)) (.pair (.int .i64) (.pair (.int .i64) .unit))))))))))))))], bx := [], pins := [] }
noncomputable def outveqState : Outs := [(.ret, { n := 1, regs := [.one (.val .bool)], bx := [], pins := [] })]
noncomputable def HveqState : Hints := [(0, [(0, { fz := true }), (1, { fz := true })]),
  (3, [(4, { con := 1 })]),
  (5, [(4, { con := 2 })]),
  (17, [(4, { con := 3 })])]
noncomputable def EveqState (N : Nat) : Env := { te := TE, cs := [conveqIntS N, conveqRegionS N, conveqBoolS N, conveqThreadS N] }
noncomputable def FveqState (N : Nat) (x : (((List Int) × ((List (Int × (Int × (Int × (Int × (Int × Unit)))))) × ((List Bool) × (Int × (Bool × (Bool × (Bool × (Int × ((List ((List Int) × (Int × (Bool × (Int × Unit))))) × ((List Int) × ((List Int) × (Int × (Int × Unit))))))))))))) × (((List Int) × ((List (Int × (Int × (Int × (Int × (Int × Unit)))))) × ((List Bool) × (Int × (Bool × (Bool × (Bool × (Int × ((List ((List Int) × (Int × (Bool × (Int × Unit))))) × ((List Int) × ((List Int) × (Int × (Int × Unit))))))))))))) × Unit))) : Option (Bool × Unit) :=
  (FveqIntS N (x.1.1, x.2.1.1, ())).bind fun r1 =>
  bif !r1.1 then
   some (false, ())
  else
  (FveqRegionS N (x.1.2.1, x.2.1.2.1, ())).bind fun r2 =>
  bif !r2.1 then
   some (false, ())
  else
  (FveqBoolS N (x.1.2.2.1, x.2.1.2.2.1, ())).bind fun r3 =>
  bif !r3.1 then
   some (false, ())
  else
  bif x.1.2.2.2.1 != x.2.1.2.2.2.1 then
   some (false, ())
  else
  bif !(x.1.2.2.2.2.1 == x.2.1.2.2.2.2.1) then
   some (false, ())
  else
  let y4 := !(x.1.2.2.2.2.2.1 == x.2.1.2.2.2.2.2.1)
  bif y4 then
   some (false, ())
  else
  let y5 := !(x.1.2.2.2.2.2.2.1 == x.2.1.2.2.2.2.2.2.1)
  bif y5 then
   some (false, ())
  else
  let y6 := x.1.2.2.2.2.2.2.2.1 != x.2.1.2.2.2.2.2.2.2.1
  bif y6 then
   some (false, ())
  else
  (FveqThreadS N (x.1.2.2.2.2.2.2.2.2.1, x.2.1.2.2.2.2.2.2.2.2.1, ())).bind fun r7 =>
  bif !r7.1 then
   some (false, ())
  else
  (FveqIntS N (x.1.2.2.2.2.2.2.2.2.2.1, x.2.1.2.2.2.2.2.2.2.2.2.1, ())).bind fun r8 =>
  bif !r8.1 then
   some (false, ())
  else
  (FveqIntS N (x.1.2.2.2.2.2.2.2.2.2.2.1, x.2.1.2.2.2.2.2.2.2.2.2.2.1, ())).bind fun r9 =>
  bif !r9.1 then
   some (false, ())
  else
  let y10 := x.1.2.2.2.2.2.2.2.2.2.2.2.1 != x.2.1.2.2.2.2.2.2.2.2.2.2.2.1
  bif y10 then
   some (false, ())
  else
  let y11 := x.1.2.2.2.2.2.2.2.2.2.2.2.2.1 != x.2.1.2.2.2.2.2.2.2.2.2.2.2.2.1
  bif y11 then
   some (false, ())
  else
  some (true, ())
noncomputable def conveqState (N : Nat) : Con := { f := 27, din := dinveqState, outs := outveqState, F := FveqState N }
noncomputable def XveqState (N : Nat) : Ctx := { E := EveqState N, H := HveqState, lp := [], jn := [] }
theorem FveqState_eq (N : Nat) (x : (((List Int) × ((List (Int × (Int × (Int × (Int × (Int × Unit)))))) × ((List Bool) × (Int × (Bool × (Bool × (Bool × (Int × ((List ((List Int) × (Int × (Bool × (Int × Unit))))) × ((List Int) × ((List Int) × (Int × (Int × Unit))))))))))))) × (((List Int) × ((List (Int × (Int × (Int × (Int × (Int × Unit)))))) × ((List Bool) × (Int × (Bool × (Bool × (Bool × (Int × ((List ((List Int) × (Int × (Bool × (Int × Unit))))) × ((List Int) × ((List Int) × (Int × (Int × Unit))))))))))))) × Unit))) : evFn (XveqState N) Try.f27 dinveqState outveqState x = FveqState N x := by kernel_rfl
theorem cxveqState (N : Nat) : CtxOk Try.prog (XveqState N) := ⟨⟨TE_ok, List.forall_mem_cons.2 ⟨(specveqIntS N), List.forall_mem_cons.2 ⟨(specveqRegionS N), List.forall_mem_cons.2 ⟨(specveqBoolS N), List.forall_mem_cons.2 ⟨(specveqThreadS N), fun k hk => absurd hk List.not_mem_nil⟩⟩⟩⟩⟩, mixed⟩
theorem specveqState (N : Nat) : Spec Try.prog (conveqState N) :=
  Spec.of_eq (fn_spec (cxveqState N) (f := 27) (fn := Try.f27) (c := codeOf Try.f27) (by kernel_rfl) (by kernel_rfl) (by kernel_rfl) (loops_at (ids := []) (by kernel_rfl) (trivial)) (by kernel_rfl)) (fun x r h => (FveqState_eq N x).trans h)

/-! ### 22: laws.markIntS -/

noncomputable def dinvmarkIntS : Desc := { n := 2, regs := [.one (.lit (.row 0)), .one (.val (.int .i64))], bx := [(0, .row (.int .i64))], pins := [] }
noncomputable def outvmarkIntS : Outs := [(.ret, { n := 1, regs := [.one (.val (.int .i64))], bx := [(0, .row (.int .i64))], pins := [.one (.lit (.row 0))] })]
noncomputable def HvmarkIntS : Hints := []
noncomputable def EvmarkIntS (_N : Nat) : Env := { te := TE, cs := [] }
noncomputable def dvmarkIntS_0 : Desc := { n := 19, regs := [.one (.lit (.row 0)), .one (.val (.int .i64)), u, u, u, .one (.val (.int .i64))], bx := [(0, .row (.int .i64))], pins := [.one (.lit (.row 0))] }
noncomputable def ovmarkIntS_0 : Outs := [(.exit 0, { n := 19, regs := [u, .one (.val (.int .i64))], bx := [(0, .row (.int .i64))], pins := [.one (.lit (.row 0))] })]
noncomputable def lvmarkIntS_0 (N : Nat) : Nat → (Int × (Int × ((List Int) × Unit))) → Option (Int × ((List Int) × Unit))
  | 0, _ => none
  | n + 1, v =>
    let y1 := decide (v.2.1 < (v.2.2.1.length : Int))
    bif y1 then
     bif decide (0 ≤ v.2.1) then
     bif decide (v.2.1.toNat < v.2.2.1.length) then
     lvmarkIntS_0 N n (w64 (v.1 + (1 : Int)), w64 (v.2.1 + (1 : Int)), v.2.2.1.set v.2.1.toNat v.1, ())
     else none
     else none
    else
    some (v.1, v.2.2.1, ())
noncomputable def FvmarkIntS (N : Nat) (x : (Int × ((List Int) × Unit))) : Option (Int × ((List Int) × Unit)) :=
  (lvmarkIntS_0 N N (x.1, (0 : Int), x.2.1, ())).bind fun o2 =>
  some (o2.1, o2.2.1, ())
noncomputable def convmarkIntS (N : Nat) : Con := { f := 22, din := dinvmarkIntS, outs := outvmarkIntS, F := FvmarkIntS N }
noncomputable def XvmarkIntS (N : Nat) : Ctx := { E := EvmarkIntS N, H := HvmarkIntS, lp := [(0, { hd := dvmarkIntS_0, outs := ovmarkIntS_0, run := fun v => lvmarkIntS_0 N N v })], jn := [] }
noncomputable def bvmarkIntS_0 : Code := loopBody (codeOf Try.f22) 0
theorem FvmarkIntS_eq (N : Nat) (x : (Int × ((List Int) × Unit))) : evFn (XvmarkIntS N) Try.f22 dinvmarkIntS outvmarkIntS x = FvmarkIntS N x := by kernel_rfl
theorem lvmarkIntS_0_eq (N n : Nat) (v : (Int × (Int × ((List Int) × Unit)))) : lvmarkIntS_0 N (n + 1) v = ev (XvmarkIntS N) bvmarkIntS_0 (roundK dvmarkIntS_0 ovmarkIntS_0 (lvmarkIntS_0 N n)) (dvmarkIntS_0.mk' v) := by kernel_rfl
theorem cxvmarkIntS (N : Nat) : CtxOk Try.prog (XvmarkIntS N) := ⟨⟨TE_ok, fun k hk => absurd hk List.not_mem_nil⟩, mixed⟩
theorem lpvmarkIntS_0 (N : Nat) : LoopOk Try.prog { hd := dvmarkIntS_0, outs := ovmarkIntS_0, run := fun v => lvmarkIntS_0 N N v } bvmarkIntS_0 :=
  loop_fuel (d := dvmarkIntS_0) (os := ovmarkIntS_0) (cxvmarkIntS N) (loops_at (ids := []) (by kernel_rfl) (trivial)) (lvmarkIntS_0 N) (fun _ => rfl) (fun n v => lvmarkIntS_0_eq N n v) (fun _ => N)
theorem specvmarkIntS (N : Nat) : Spec Try.prog (convmarkIntS N) :=
  Spec.of_eq (fn_spec (cxvmarkIntS N) (f := 22) (fn := Try.f22) (c := codeOf Try.f22) (by kernel_rfl) (by kernel_rfl) (by kernel_rfl) (loops_at (ids := [0]) (by kernel_rfl) ⟨lp_of (lpvmarkIntS_0 N), trivial⟩) (by kernel_rfl)) (fun x r h => (FvmarkIntS_eq N x).trans h)

/-! ### 21: laws.markRegionS -/

noncomputable def dinvmarkRegionS : Desc := { n := 2, regs := [.one (.lit (.row 0)), .one (.val (.int .i64))], bx := [(0, .row (.pair (.int .i64) (.pair (.int .i64) (.pair (.int .i64) (.pair (.int .i64) (.pair (.int .i64) .unit))))))], pins := [] }
noncomputable def outvmarkRegionS : Outs := [(.ret, { n := 1, regs := [.one (.val (.int .i64))], bx := [(0, .row (.pair (.int .i64) (.pair (.int .i64) (.pair (.int .i64) (.pair (.int .i64) (.pair (.int .i64) .unit))))))], pins := [.one (.lit (.row 0))] })]
noncomputable def HvmarkRegionS : Hints := []
noncomputable def EvmarkRegionS (_N : Nat) : Env := { te := TE, cs := [] }
noncomputable def dvmarkRegionS_0 : Desc := { n := 48, regs := [.one (.lit (.row 0)), .one (.val (.int .i64)), u, u, u, .one (.val (.int .i64))], bx := [(0, .row (.pair (.int .i64) (.pair (.int .i64) (.pair (.int .i64) (.pair (.int .i64) (.pair (.int .i64) .unit))))))], pins := [.one (.lit (.row 0))] }
noncomputable def ovmarkRegionS_0 : Outs := [(.exit 0, { n := 48, regs := [u, .one (.val (.int .i64))], bx := [(0, .row (.pair (.int .i64) (.pair (.int .i64) (.pair (.int .i64) (.pair (.int .i64) (.pair (.int .i64) .unit))))))], pins := [.one (.lit (.row 0))] })]
noncomputable def lvmarkRegionS_0 (N : Nat) : Nat → (Int × (Int × ((List (Int × (Int × (Int × (Int × (Int × Unit)))))) × Unit))) → Option (Int × ((List (Int × (Int × (Int × (Int × (Int × Unit)))))) × Unit))
  | 0, _ => none
  | n + 1, v =>
    let y1 := decide (v.2.1 < (v.2.2.1.length : Int))
    bif y1 then
     bif decide (0 ≤ v.2.1) then
     bif decide (v.2.1.toNat < v.2.2.1.length) then
     let y2 := v.2.2.1.set v.2.1.toNat (v.1, (v.2.2.1.getD v.2.1.toNat ((0 : Int), (0 : Int), (0 : Int), (0 : Int), (0 : Int), ())).2)
     bif decide (0 ≤ v.2.1) then
     bif decide (v.2.1.toNat < y2.length) then
     let y3 := y2.set v.2.1.toNat ((y2.getD v.2.1.toNat ((0 : Int), (0 : Int), (0 : Int), (0 : Int), (0 : Int), ())).1, w64 (v.1 + (1 : Int)), ((y2.getD v.2.1.toNat ((0 : Int), (0 : Int), (0 : Int), (0 : Int), (0 : Int), ())).2).2)
     let y4 := w64 ((w64 (v.1 + (1 : Int))) + (1 : Int))
     bif decide (0 ≤ v.2.1) then
     bif decide (v.2.1.toNat < y3.length) then
     let y5 := y3.set v.2.1.toNat ((y3.getD v.2.1.toNat ((0 : Int), (0 : Int), (0 : Int), (0 : Int), (0 : Int), ())).1, ((y3.getD v.2.1.toNat ((0 : Int), (0 : Int), (0 : Int), (0 : Int), (0 : Int), ())).2).1, y4, (((y3.getD v.2.1.toNat ((0 : Int), (0 : Int), (0 : Int), (0 : Int), (0 : Int), ())).2).2).2)
     bif decide (0 ≤ v.2.1) then
     bif decide (v.2.1.toNat < y5.length) then
     let y6 := y5.set v.2.1.toNat ((y5.getD v.2.1.toNat ((0 : Int), (0 : Int), (0 : Int), (0 : Int), (0 : Int), ())).1, ((y5.getD v.2.1.toNat ((0 : Int), (0 : Int), (0 : Int), (0 : Int), (0 : Int), ())).2).1, (((y5.getD v.2.1.toNat ((0 : Int), (0 : Int), (0 : Int), (0 : Int), (0 : Int), ())).2).2).1, w64 (y4 + (1 : Int)), ((((y5.getD v.2.1.toNat ((0 : Int), (0 : Int), (0 : Int), (0 : Int), (0 : Int), ())).2).2).2).2)
     let y7 := w64 ((w64 (y4 + (1 : Int))) + (1 : Int))
     bif decide (0 ≤ v.2.1) then
     bif decide (v.2.1.toNat < y6.length) then
     let y8 := y6.set v.2.1.toNat ((y6.getD v.2.1.toNat ((0 : Int), (0 : Int), (0 : Int), (0 : Int), (0 : Int), ())).1, ((y6.getD v.2.1.toNat ((0 : Int), (0 : Int), (0 : Int), (0 : Int), (0 : Int), ())).2).1, (((y6.getD v.2.1.toNat ((0 : Int), (0 : Int), (0 : Int), (0 : Int), (0 : Int), ())).2).2).1, ((((y6.getD v.2.1.toNat ((0 : Int), (0 : Int), (0 : Int), (0 : Int), (0 : Int), ())).2).2).2).1, y7, (((((y6.getD v.2.1.toNat ((0 : Int), (0 : Int), (0 : Int), (0 : Int), (0 : Int), ())).2).2).2).2).2)
     lvmarkRegionS_0 N n (w64 (y7 + (1 : Int)), w64 (v.2.1 + (1 : Int)), y8, ())
     else none
     else none
     else none
     else none
     else none
     else none
     else none
     else none
     else none
     else none
    else
    some (v.1, v.2.2.1, ())
noncomputable def FvmarkRegionS (N : Nat) (x : (Int × ((List (Int × (Int × (Int × (Int × (Int × Unit)))))) × Unit))) : Option (Int × ((List (Int × (Int × (Int × (Int × (Int × Unit)))))) × Unit)) :=
  (lvmarkRegionS_0 N N (x.1, (0 : Int), x.2.1, ())).bind fun o9 =>
  some (o9.1, o9.2.1, ())
noncomputable def convmarkRegionS (N : Nat) : Con := { f := 21, din := dinvmarkRegionS, outs := outvmarkRegionS, F := FvmarkRegionS N }
noncomputable def XvmarkRegionS (N : Nat) : Ctx := { E := EvmarkRegionS N, H := HvmarkRegionS, lp := [(0, { hd := dvmarkRegionS_0, outs := ovmarkRegionS_0, run := fun v => lvmarkRegionS_0 N N v })], jn := [] }
noncomputable def bvmarkRegionS_0 : Code := loopBody (codeOf Try.f21) 0
theorem FvmarkRegionS_eq (N : Nat) (x : (Int × ((List (Int × (Int × (Int × (Int × (Int × Unit)))))) × Unit))) : evFn (XvmarkRegionS N) Try.f21 dinvmarkRegionS outvmarkRegionS x = FvmarkRegionS N x := by kernel_rfl
theorem lvmarkRegionS_0_eq (N n : Nat) (v : (Int × (Int × ((List (Int × (Int × (Int × (Int × (Int × Unit)))))) × Unit)))) : lvmarkRegionS_0 N (n + 1) v = ev (XvmarkRegionS N) bvmarkRegionS_0 (roundK dvmarkRegionS_0 ovmarkRegionS_0 (lvmarkRegionS_0 N n)) (dvmarkRegionS_0.mk' v) := by kernel_rfl
theorem cxvmarkRegionS (N : Nat) : CtxOk Try.prog (XvmarkRegionS N) := ⟨⟨TE_ok, fun k hk => absurd hk List.not_mem_nil⟩, mixed⟩
theorem lpvmarkRegionS_0 (N : Nat) : LoopOk Try.prog { hd := dvmarkRegionS_0, outs := ovmarkRegionS_0, run := fun v => lvmarkRegionS_0 N N v } bvmarkRegionS_0 :=
  loop_fuel (d := dvmarkRegionS_0) (os := ovmarkRegionS_0) (cxvmarkRegionS N) (loops_at (ids := []) (by kernel_rfl) (trivial)) (lvmarkRegionS_0 N) (fun _ => rfl) (fun n v => lvmarkRegionS_0_eq N n v) (fun _ => N)
theorem specvmarkRegionS (N : Nat) : Spec Try.prog (convmarkRegionS N) :=
  Spec.of_eq (fn_spec (cxvmarkRegionS N) (f := 21) (fn := Try.f21) (c := codeOf Try.f21) (by kernel_rfl) (by kernel_rfl) (by kernel_rfl) (loops_at (ids := [0]) (by kernel_rfl) ⟨lp_of (lpvmarkRegionS_0 N), trivial⟩) (by kernel_rfl)) (fun x r h => (FvmarkRegionS_eq N x).trans h)

/-! ### 49: laws.markBoolS -/

noncomputable def dinvmarkBoolS : Desc := { n := 2, regs := [.one (.lit (.row 0)), .one (.val (.int .i64))], bx := [(0, .row .bool)], pins := [] }
noncomputable def outvmarkBoolS : Outs := [(.ret, { n := 1, regs := [.one (.val (.int .i64))], bx := [(0, .row .bool)], pins := [.one (.lit (.row 0))] })]
noncomputable def HvmarkBoolS : Hints := []
noncomputable def EvmarkBoolS (_N : Nat) : Env := { te := TE, cs := [] }
noncomputable def dvmarkBoolS_0 : Desc := { n := 21, regs := [.one (.lit (.row 0)), .one (.val (.int .i64)), u, u, u, .one (.val (.int .i64))], bx := [(0, .row .bool)], pins := [.one (.lit (.row 0))] }
noncomputable def ovmarkBoolS_0 : Outs := [(.exit 0, { n := 21, regs := [u, .one (.val (.int .i64))], bx := [(0, .row .bool)], pins := [.one (.lit (.row 0))] })]
noncomputable def lvmarkBoolS_0 (N : Nat) : Nat → (Int × (Int × ((List Bool) × Unit))) → Option (Int × ((List Bool) × Unit))
  | 0, _ => none
  | n + 1, v =>
    let y1 := decide (v.2.1 < (v.2.2.1.length : Int))
    bif y1 then
     bif decide ((3 : Int) = 0) then
      none
     else
     let y2 := (Int.tmod v.1 (3 : Int)) == (0 : Int)
     bif decide (0 ≤ v.2.1) then
     bif decide (v.2.1.toNat < v.2.2.1.length) then
     lvmarkBoolS_0 N n (w64 (v.1 + (1 : Int)), w64 (v.2.1 + (1 : Int)), v.2.2.1.set v.2.1.toNat y2, ())
     else none
     else none
    else
    some (v.1, v.2.2.1, ())
noncomputable def FvmarkBoolS (N : Nat) (x : (Int × ((List Bool) × Unit))) : Option (Int × ((List Bool) × Unit)) :=
  (lvmarkBoolS_0 N N (x.1, (0 : Int), x.2.1, ())).bind fun o3 =>
  some (o3.1, o3.2.1, ())
noncomputable def convmarkBoolS (N : Nat) : Con := { f := 49, din := dinvmarkBoolS, outs := outvmarkBoolS, F := FvmarkBoolS N }
noncomputable def XvmarkBoolS (N : Nat) : Ctx := { E := EvmarkBoolS N, H := HvmarkBoolS, lp := [(0, { hd := dvmarkBoolS_0, outs := ovmarkBoolS_0, run := fun v => lvmarkBoolS_0 N N v })], jn := [] }
noncomputable def bvmarkBoolS_0 : Code := loopBody (codeOf Try.f49) 0
theorem FvmarkBoolS_eq (N : Nat) (x : (Int × ((List Bool) × Unit))) : evFn (XvmarkBoolS N) Try.f49 dinvmarkBoolS outvmarkBoolS x = FvmarkBoolS N x := by kernel_rfl
theorem lvmarkBoolS_0_eq (N n : Nat) (v : (Int × (Int × ((List Bool) × Unit)))) : lvmarkBoolS_0 N (n + 1) v = ev (XvmarkBoolS N) bvmarkBoolS_0 (roundK dvmarkBoolS_0 ovmarkBoolS_0 (lvmarkBoolS_0 N n)) (dvmarkBoolS_0.mk' v) := by kernel_rfl
theorem cxvmarkBoolS (N : Nat) : CtxOk Try.prog (XvmarkBoolS N) := ⟨⟨TE_ok, fun k hk => absurd hk List.not_mem_nil⟩, mixed⟩
theorem lpvmarkBoolS_0 (N : Nat) : LoopOk Try.prog { hd := dvmarkBoolS_0, outs := ovmarkBoolS_0, run := fun v => lvmarkBoolS_0 N N v } bvmarkBoolS_0 :=
  loop_fuel (d := dvmarkBoolS_0) (os := ovmarkBoolS_0) (cxvmarkBoolS N) (loops_at (ids := []) (by kernel_rfl) (trivial)) (lvmarkBoolS_0 N) (fun _ => rfl) (fun n v => lvmarkBoolS_0_eq N n v) (fun _ => N)
theorem specvmarkBoolS (N : Nat) : Spec Try.prog (convmarkBoolS N) :=
  Spec.of_eq (fn_spec (cxvmarkBoolS N) (f := 49) (fn := Try.f49) (c := codeOf Try.f49) (by kernel_rfl) (by kernel_rfl) (by kernel_rfl) (loops_at (ids := [0]) (by kernel_rfl) ⟨lp_of (lpvmarkBoolS_0 N), trivial⟩) (by kernel_rfl)) (fun x r h => (FvmarkBoolS_eq N x).trans h)

/-! ### 73: laws.markThreadS -/

noncomputable def dinvmarkThreadS : Desc := { n := 2, regs := [.one (.lit (.row 0)), .one (.val (.int .i64))], bx := [(0, .row (.pair (.sl (.int .i64)) (.pair (.int .i64) (.pair .bool (.pair (.int .i64) .unit)))))], pins := [] }
noncomputable def outvmarkThreadS : Outs := [(.ret, { n := 1, regs := [.one (.val (.int .i64))], bx := [(0, .row (.pair (.sl (.int .i64)) (.pair (.int .i64) (.pair .bool (.pair (.int .i64) .unit)))))], pins := [.one (.lit (.row 0))] })]
noncomputable def HvmarkThreadS : Hints := [(4, [(6, { sg := [(0, 1051624)], pre := [.take 16 1051624], post := [.give 1051624 0] })])]
noncomputable def EvmarkThreadS (N : Nat) : Env := { te := TE, cs := [convmarkIntS N] }
noncomputable def dvmarkThreadS_0 : Desc := { n := 43, regs := [.one (.lit (.row 0)), .one (.val (.int .i64)), u, u, u, .one (.val (.int .i64))], bx := [(0, .row (.pair (.sl (.int .i64)) (.pair (.int .i64) (.pair .bool (.pair (.int .i64) .unit)))))], pins := [.one (.lit (.row 0))] }
noncomputable def ovmarkThreadS_0 : Outs := [(.exit 0, { n := 43, regs := [u, .one (.val (.int .i64))], bx := [(0, .row (.pair (.sl (.int .i64)) (.pair (.int .i64) (.pair .bool (.pair (.int .i64) .unit)))))], pins := [.one (.lit (.row 0))] })]
noncomputable def lvmarkThreadS_0 (N : Nat) : Nat → (Int × (Int × ((List ((List Int) × (Int × (Bool × (Int × Unit))))) × Unit))) → Option (Int × ((List ((List Int) × (Int × (Bool × (Int × Unit))))) × Unit))
  | 0, _ => none
  | n + 1, v =>
    let y1 := decide (v.2.1 < (v.2.2.1.length : Int))
    bif y1 then
     bif decide (0 ≤ v.2.1) then
     bif decide (v.2.1.toNat < v.2.2.1.length) then
     (FvmarkIntS N (v.1, (v.2.2.1.getD v.2.1.toNat (([] : (List Int)), (0 : Int), false, (0 : Int), ())).1, ())).bind fun r2 =>
     bif decide (0 ≤ v.2.1) then
     bif decide (v.2.1.toNat < (v.2.2.1.set v.2.1.toNat (r2.2.1, (v.2.2.1.getD v.2.1.toNat (([] : (List Int)), (0 : Int), false, (0 : Int), ())).2)).length) then
     let y3 := (v.2.2.1.set v.2.1.toNat (r2.2.1, (v.2.2.1.getD v.2.1.toNat (([] : (List Int)), (0 : Int), false, (0 : Int), ())).2)).set v.2.1.toNat (((v.2.2.1.set v.2.1.toNat (r2.2.1, (v.2.2.1.getD v.2.1.toNat (([] : (List Int)), (0 : Int), false, (0 : Int), ())).2)).getD v.2.1.toNat (([] : (List Int)), (0 : Int), false, (0 : Int), ())).1, r2.1, (((v.2.2.1.set v.2.1.toNat (r2.2.1, (v.2.2.1.getD v.2.1.toNat (([] : (List Int)), (0 : Int), false, (0 : Int), ())).2)).getD v.2.1.toNat (([] : (List Int)), (0 : Int), false, (0 : Int), ())).2).2)
     bif decide ((3 : Int) = 0) then
      none
     else
     let y4 := Int.tmod (w64 (r2.1 + (1 : Int))) (3 : Int)
     bif decide (0 ≤ v.2.1) then
     bif decide (v.2.1.toNat < y3.length) then
     let y5 := y3.set v.2.1.toNat ((y3.getD v.2.1.toNat (([] : (List Int)), (0 : Int), false, (0 : Int), ())).1, ((y3.getD v.2.1.toNat (([] : (List Int)), (0 : Int), false, (0 : Int), ())).2).1, y4 == (0 : Int), (((y3.getD v.2.1.toNat (([] : (List Int)), (0 : Int), false, (0 : Int), ())).2).2).2)
     let y6 := w64 ((w64 (r2.1 + (1 : Int))) + (1 : Int))
     bif decide (0 ≤ v.2.1) then
     bif decide (v.2.1.toNat < y5.length) then
     let y7 := y5.set v.2.1.toNat ((y5.getD v.2.1.toNat (([] : (List Int)), (0 : Int), false, (0 : Int), ())).1, ((y5.getD v.2.1.toNat (([] : (List Int)), (0 : Int), false, (0 : Int), ())).2).1, (((y5.getD v.2.1.toNat (([] : (List Int)), (0 : Int), false, (0 : Int), ())).2).2).1, y6, ((((y5.getD v.2.1.toNat (([] : (List Int)), (0 : Int), false, (0 : Int), ())).2).2).2).2)
     lvmarkThreadS_0 N n (w64 (y6 + (1 : Int)), w64 (v.2.1 + (1 : Int)), y7, ())
     else none
     else none
     else none
     else none
     else none
     else none
     else none
     else none
    else
    some (v.1, v.2.2.1, ())
noncomputable def FvmarkThreadS (N : Nat) (x : (Int × ((List ((List Int) × (Int × (Bool × (Int × Unit))))) × Unit))) : Option (Int × ((List ((List Int) × (Int × (Bool × (Int × Unit))))) × Unit)) :=
  (lvmarkThreadS_0 N N (x.1, (0 : Int), x.2.1, ())).bind fun o8 =>
  some (o8.1, o8.2.1, ())
noncomputable def convmarkThreadS (N : Nat) : Con := { f := 73, din := dinvmarkThreadS, outs := outvmarkThreadS, F := FvmarkThreadS N }
noncomputable def XvmarkThreadS (N : Nat) : Ctx := { E := EvmarkThreadS N, H := HvmarkThreadS, lp := [(0, { hd := dvmarkThreadS_0, outs := ovmarkThreadS_0, run := fun v => lvmarkThreadS_0 N N v })], jn := [] }
noncomputable def bvmarkThreadS_0 : Code := loopBody (codeOf Try.f73) 0
theorem FvmarkThreadS_eq (N : Nat) (x : (Int × ((List ((List Int) × (Int × (Bool × (Int × Unit))))) × Unit))) : evFn (XvmarkThreadS N) Try.f73 dinvmarkThreadS outvmarkThreadS x = FvmarkThreadS N x := by kernel_rfl
theorem lvmarkThreadS_0_eq (N n : Nat) (v : (Int × (Int × ((List ((List Int) × (Int × (Bool × (Int × Unit))))) × Unit)))) : lvmarkThreadS_0 N (n + 1) v = ev (XvmarkThreadS N) bvmarkThreadS_0 (roundK dvmarkThreadS_0 ovmarkThreadS_0 (lvmarkThreadS_0 N n)) (dvmarkThreadS_0.mk' v) := by kernel_rfl
theorem cxvmarkThreadS (N : Nat) : CtxOk Try.prog (XvmarkThreadS N) := ⟨⟨TE_ok, List.forall_mem_cons.2 ⟨(specvmarkIntS N), fun k hk => absurd hk List.not_mem_nil⟩⟩, mixed⟩
theorem lpvmarkThreadS_0 (N : Nat) : LoopOk Try.prog { hd := dvmarkThreadS_0, outs := ovmarkThreadS_0, run := fun v => lvmarkThreadS_0 N N v } bvmarkThreadS_0 :=
  loop_fuel (d := dvmarkThreadS_0) (os := ovmarkThreadS_0) (cxvmarkThreadS N) (loops_at (ids := []) (by kernel_rfl) (trivial)) (lvmarkThreadS_0 N) (fun _ => rfl) (fun n v => lvmarkThreadS_0_eq N n v) (fun _ => N)
theorem specvmarkThreadS (N : Nat) : Spec Try.prog (convmarkThreadS N) :=
  Spec.of_eq (fn_spec (cxvmarkThreadS N) (f := 73) (fn := Try.f73) (c := codeOf Try.f73) (by kernel_rfl) (by kernel_rfl) (by kernel_rfl) (loops_at (ids := [0]) (by kernel_rfl) ⟨lp_of (lpvmarkThreadS_0 N), trivial⟩) (by kernel_rfl)) (fun x r h => (FvmarkThreadS_eq N x).trans h)

/-! ### 28: laws.markState -/

noncomputable def dinvmarkState : Desc := { n := 2, regs := [.agg [.lit (.row 0), .lit (.row 1), .lit (.row 2), .val (.int .i64), .val .bool, .val .bool, .val .bool, .val (.int .i64), .lit (.row 3), .lit (.row 4), .lit (.row 5), .val (.int .i64), .val (.int .i64)], .one (.val (.int .i64))], bx := [(0, .row (.int .i64)), (1, .row (.pair (.int .i64) (.pair (.int .i64) (.pair (.int .i64) (.pair (.int .i64) (.pair (.int .i64) .unit)))))), (2, .row .bool), (3, .row (.pair (.sl (.int .i64)) (.pair (.int .i64) (.pair .bool (.pair (.int .i64) .unit))))), (4, .row (.int .i64)), (5, .row (.int .i64))], pins := [] }
noncomputable def outvmarkState : Outs := [(.ret, { n := 1, regs := [.one (.val (.int .i64))], bx := [(0, .row (.int .i64)), (1, .row (.pair (.int .i64) (.pair (.int .i64) (.pair (.int .i64) (.pair (.int .i64) (.pair (.int .i64) .unit)))))), (2, .row .bool), (3, .row (.pair (.sl (.int .i64)) (.pair (.int .i64) (.pair .bool (.pair (.int .i64) .unit))))), (4, .row (.int .i64)), (5, .row (.int .i64))], pins := [.agg [.lit (.row 0), .lit (.row 1), .lit (.row 2), .un, .un, .un, .un, .un, .lit (.row 3), .lit (.row 4), .lit (.row 5), .un, .un]] })]
noncomputable def HvmarkState : Hints := [(2, [(3, { con := 1, sg := [(0, 1)] })]),
  (3, [(3, { con := 2, sg := [(0, 2)] })]),
  (4, [(3, { con := 3, sg := [(0, 3)] })]),
  (5, [(3, { sg := [(0, 4)] })]),
  (6, [(3, { sg := [(0, 5)] })])]
noncomputable def EvmarkState (N : Nat) : Env := { te := TE, cs := [convmarkIntS N, convmarkRegionS N, convmarkBoolS N, convmarkThreadS N] }
noncomputable def FvmarkState (N : Nat) (x : (Int × (Bool × (Bool × (Bool × (Int × (Int × (Int × (Int × ((List Int) × ((List (Int × (Int × (Int × (Int × (Int × Unit)))))) × ((List Bool) × ((List ((List Int) × (Int × (Bool × (Int × Unit))))) × ((List Int) × ((List Int) × Unit))))))))))))))) : Option (Int × ((List Int) × ((List (Int × (Int × (Int × (Int × (Int × Unit)))))) × ((List Bool) × ((List ((List Int) × (Int × (Bool × (Int × Unit))))) × ((List Int) × ((List Int) × Unit))))))) :=
  (FvmarkIntS N (x.2.2.2.2.2.2.2.1, x.2.2.2.2.2.2.2.2.1, ())).bind fun r1 =>
  (FvmarkRegionS N (r1.1, x.2.2.2.2.2.2.2.2.2.1, ())).bind fun r2 =>
  (FvmarkBoolS N (r2.1, x.2.2.2.2.2.2.2.2.2.2.1, ())).bind fun r3 =>
  (FvmarkThreadS N (r3.1, x.2.2.2.2.2.2.2.2.2.2.2.1, ())).bind fun r4 =>
  (FvmarkIntS N (r4.1, x.2.2.2.2.2.2.2.2.2.2.2.2.1, ())).bind fun r5 =>
  (FvmarkIntS N (r5.1, x.2.2.2.2.2.2.2.2.2.2.2.2.2.1, ())).bind fun r6 =>
  some (r6.1, r1.2.1, r2.2.1, r3.2.1, r4.2.1, r5.2.1, r6.2.1, ())
noncomputable def convmarkState (N : Nat) : Con := { f := 28, din := dinvmarkState, outs := outvmarkState, F := FvmarkState N }
noncomputable def XvmarkState (N : Nat) : Ctx := { E := EvmarkState N, H := HvmarkState, lp := [], jn := [] }
theorem FvmarkState_eq (N : Nat) (x : (Int × (Bool × (Bool × (Bool × (Int × (Int × (Int × (Int × ((List Int) × ((List (Int × (Int × (Int × (Int × (Int × Unit)))))) × ((List Bool) × ((List ((List Int) × (Int × (Bool × (Int × Unit))))) × ((List Int) × ((List Int) × Unit))))))))))))))) : evFn (XvmarkState N) Try.f28 dinvmarkState outvmarkState x = FvmarkState N x := by kernel_rfl
theorem cxvmarkState (N : Nat) : CtxOk Try.prog (XvmarkState N) := ⟨⟨TE_ok, List.forall_mem_cons.2 ⟨(specvmarkIntS N), List.forall_mem_cons.2 ⟨(specvmarkRegionS N), List.forall_mem_cons.2 ⟨(specvmarkBoolS N), List.forall_mem_cons.2 ⟨(specvmarkThreadS N), fun k hk => absurd hk List.not_mem_nil⟩⟩⟩⟩⟩, mixed⟩
theorem specvmarkState (N : Nat) : Spec Try.prog (convmarkState N) :=
  Spec.of_eq (fn_spec (cxvmarkState N) (f := 28) (fn := Try.f28) (c := codeOf Try.f28) (by kernel_rfl) (by kernel_rfl) (by kernel_rfl) (loops_at (ids := []) (by kernel_rfl) (trivial)) (by kernel_rfl)) (fun x r h => (FvmarkState_eq N x).trans h)

/-! ### 50: laws.heldBoolS -/

noncomputable def dinvheldBoolS : Desc := { n := 2, regs := [.one (.val (.sl .bool)), .one (.val (.int .i64))], bx := [], pins := [] }
noncomputable def outvheldBoolS : Outs := [(.ret, { n := 1, regs := [.one (.val (.int .i64))], bx := [], pins := [] })]
noncomputable def HvheldBoolS : Hints := []
noncomputable def EvheldBoolS (_N : Nat) : Env := { te := TE, cs := [] }
noncomputable def dvheldBoolS_0 : Desc := { n := 23, regs := [.one (.val (.sl .bool)), .one (.val (.int .i64)), u, u, u, .one (.val (.int .i64))], bx := [], pins := [] }
noncomputable def ovheldBoolS_0 : Outs := [(.exit 0, { n := 23, regs := [u, .one (.val (.int .i64))], bx := [], pins := [] }), (.ret, { n := 23, regs := [u, u, u, u, .one (.val (.int .i64))], bx := [], pins := [] })]
noncomputable def lvheldBoolS_0 (N : Nat) : Nat → ((List Bool) × (Int × (Int × Unit))) → Option ((Int × Unit) ⊕ (Int × Unit))
  | 0, _ => none
  | n + 1, v =>
    let y1 := decide (v.2.2.1 < (v.1.length : Int))
    bif y1 then
     bif decide (0 ≤ v.2.2.1) then
     bif decide (v.2.2.1.toNat < v.1.length) then
     bif decide ((3 : Int) = 0) then
      none
     else
     let y2 := (Int.tmod v.2.1 (3 : Int)) == (0 : Int)
     let y3 := !((v.1.getD v.2.2.1.toNat false) == y2)
     bif y3 then
      some (.inr (((-1 : Int), ())))
     else
     lvheldBoolS_0 N n (v.1, w64 (v.2.1 + (1 : Int)), w64 (v.2.2.1 + (1 : Int)), ())
     else none
     else none
    else
    some (.inl (v.2.1, ()))
noncomputable def FvheldBoolS (N : Nat) (x : ((List Bool) × (Int × Unit))) : Option (Int × Unit) :=
  (lvheldBoolS_0 N N (x.1, x.2.1, (0 : Int), ())).bind fun o4 =>
  Sum.elim (fun o5 =>
   some (o5.1, ())) (fun o6 =>
   some (o6.1, ())) o4
noncomputable def convheldBoolS (N : Nat) : Con := { f := 50, din := dinvheldBoolS, outs := outvheldBoolS, F := FvheldBoolS N }
noncomputable def XvheldBoolS (N : Nat) : Ctx := { E := EvheldBoolS N, H := HvheldBoolS, lp := [(0, { hd := dvheldBoolS_0, outs := ovheldBoolS_0, run := fun v => lvheldBoolS_0 N N v })], jn := [] }
noncomputable def bvheldBoolS_0 : Code := loopBody (codeOf Try.f50) 0
theorem FvheldBoolS_eq (N : Nat) (x : ((List Bool) × (Int × Unit))) : evFn (XvheldBoolS N) Try.f50 dinvheldBoolS outvheldBoolS x = FvheldBoolS N x := by kernel_rfl
theorem lvheldBoolS_0_eq (N n : Nat) (v : ((List Bool) × (Int × (Int × Unit)))) : lvheldBoolS_0 N (n + 1) v = ev (XvheldBoolS N) bvheldBoolS_0 (roundK dvheldBoolS_0 ovheldBoolS_0 (lvheldBoolS_0 N n)) (dvheldBoolS_0.mk' v) := by kernel_rfl
theorem cxvheldBoolS (N : Nat) : CtxOk Try.prog (XvheldBoolS N) := ⟨⟨TE_ok, fun k hk => absurd hk List.not_mem_nil⟩, mixed⟩
theorem lpvheldBoolS_0 (N : Nat) : LoopOk Try.prog { hd := dvheldBoolS_0, outs := ovheldBoolS_0, run := fun v => lvheldBoolS_0 N N v } bvheldBoolS_0 :=
  loop_fuel (d := dvheldBoolS_0) (os := ovheldBoolS_0) (cxvheldBoolS N) (loops_at (ids := []) (by kernel_rfl) (trivial)) (lvheldBoolS_0 N) (fun _ => rfl) (fun n v => lvheldBoolS_0_eq N n v) (fun _ => N)
theorem specvheldBoolS (N : Nat) : Spec Try.prog (convheldBoolS N) :=
  Spec.of_eq (fn_spec (cxvheldBoolS N) (f := 50) (fn := Try.f50) (c := codeOf Try.f50) (by kernel_rfl) (by kernel_rfl) (by kernel_rfl) (loops_at (ids := [0]) (by kernel_rfl) ⟨lp_of (lpvheldBoolS_0 N), trivial⟩) (by kernel_rfl)) (fun x r h => (FvheldBoolS_eq N x).trans h)

/-! ### 12: laws.FnExactMarkReach -/

noncomputable def dinvFnExactMarkReach : Desc := { n := 1, regs := [.one (.val (.pair (.sl (.int .i64)) (.pair (.sl (.pair (.int .i64) (.pair (.int .i64) (.pair (.int .i64) (.pair (.int .i64) (.pair (.int .i64) .unit)))))) (.pair (.sl .bool) (.pair (.int .i64) (.pair .bool (.pair .bool (.pair .bool (.pair (.int .i64) (.pair (.sl (.pair (.sl (.int .i64)) (.pair (.int .i64) (.pair .bool (.pair (.int .i64) .unit))))) (.pair (.sl (.int .i64)) (.pair (.sl (.int .i64)) (.pair (.int .i64) (.pair (.int .i64) .unit))))))))))))))], bx := [], pins := [] }
noncomputable def outvFnExactMarkReach : Outs := [(.ret, { n := 1, regs := [.one (.val .bool)], bx := [], pins := [] })]
noncomputable def HvFnExactMarkReach : Hints := [(0, [(0, { fz := true })]),
  (5, [(1, { con := 1 }), (2, { con := 2 })]),
  (6, [(1, { con := 1 })]),
  (7, [(1, { con := 3 })]),
  (8, [(2, { con := 4 })]),
  (10, [(2, { con := 1 }), (3, { con := 5 })]),
  (13, [(2, { con := 6, sg := [(0, 1076865), (1, 1076866), (2, 1076867), (3, 1076868), (4, 1076869), (5, 1076870)] })]),
  (14, [(5, { con := 4 })]),
  (17, [(2, { con := 7, sg := [(0, 1089665)] })]),
  (19, [(2, { con := 8 })]),
  (24, [(1, { con := 1 }), (2, { con := 3 })]),
  (25, [(2, { con := 4 })]),
  (28, [(2, { con := 8 })])]
noncomputable def EvFnExactMarkReach (N : Nat) : Env := { te := TE, cs := [convszState N, convtoState N, consMarkReach N, coniMarkReach N, conveqBoolS N, conveqState N, convmarkState N, convmarkBoolS N, convheldBoolS N] }
noncomputable def jvFnExactMarkReach_10 : Outs := [(.normal, { n := 96, regs := [u, .one (.fpt (.pair (.sl (.int .i64)) (.pair (.sl (.pair (.int .i64) (.pair (.int .i64) (.pair (.int .i64) (.pair (.int .i64) (.pair (.int .i64) .unit)))))) (.pair (.sl .bool) (.pair (.int .i64) (.pair .bool (.pair .bool (.pair .bool (.pair (.int .i64) (.pair (.sl (.pair (.sl (.int .i64)) (.pair (.int .i64) (.pair .bool (.pair (.int .i64) .unit))))) (.pair (.sl (.int .i64)) (.pair (.sl (.int .i64)) (.pair (.int .i64) (.pair (.int .i64) .unit)))))))))))))), u, u, .one (.lit (.row 1064129)), .one (.val .bool), .one (.lit (.ptr 1076928 0)), .one (.lit (.row 1089665)), .one (.val .bool)], bx := [(1064129, .row .bool), (1076928, .var [.lit (.row 1076865), .lit (.row 1076866), .lit (.row 1076867), .val (.int .i64), .val .bool, .val .bool, .val .bool, .val (.int .i64), .lit (.row 1076868), .lit (.row 1076869), .lit (.row 1076870), .val (.int .i64), .val (.int .i64)]), (1076865, .row (.int .i64)), (1076866, .row (.pair (.int .i64) (.pair (.int .i64) (.pair (.int .i64) (.pair (.int .i64) (.pair (.int .i64) .unit)))))), (1076867, .row .bool), (1076868, .row (.pair (.sl (.int .i64)) (.pair (.int .i64) (.pair .bool (.pair (.int .i64) .unit))))), (1076869, .row (.int .i64)), (1076870, .row (.int .i64)), (1089665, .row .bool)], pins := [] }), (.ret, { n := 96, regs := [u, u, .one (.val .bool)], bx := [], pins := [] })]
noncomputable def jvFnExactMarkReach_16 : Outs := [(.normal, { n := 96, regs := [u, .one (.fpt (.pair (.sl (.int .i64)) (.pair (.sl (.pair (.int .i64) (.pair (.int .i64) (.pair (.int .i64) (.pair (.int .i64) (.pair (.int .i64) .unit)))))) (.pair (.sl .bool) (.pair (.int .i64) (.pair .bool (.pair .bool (.pair .bool (.pair (.int .i64) (.pair (.sl (.pair (.sl (.int .i64)) (.pair (.int .i64) (.pair .bool (.pair (.int .i64) .unit))))) (.pair (.sl (.int .i64)) (.pair (.sl (.int .i64)) (.pair (.int .i64) (.pair (.int .i64) .unit)))))))))))))), u, u, .one (.lit (.row 1064129)), .one (.val .bool), u, .one (.lit (.row 1089665))], bx := [(1064129, .row .bool), (1089665, .row .bool)], pins := [] }), (.ret, { n := 96, regs := [u, u, .one (.val .bool)], bx := [], pins := [] })]
noncomputable def jvFnExactMarkReach_27 : Outs := [(.normal, { n := 96, regs := [u, u, u, u, u, u, u, .one (.lit (.row 1089665)), u, u, .one (.val (.int .i64))], bx := [(1089665, .row .bool)], pins := [] }), (.ret, { n := 96, regs := [u, u, .one (.val .bool)], bx := [], pins := [] })]
noncomputable def FvFnExactMarkReach (N : Nat) (x : (((List Int) × ((List (Int × (Int × (Int × (Int × (Int × Unit)))))) × ((List Bool) × (Int × (Bool × (Bool × (Bool × (Int × ((List ((List Int) × (Int × (Bool × (Int × Unit))))) × ((List Int) × ((List Int) × (Int × (Int × Unit))))))))))))) × Unit)) : Option (Bool × Unit) :=
  (FvszState N (x.1, (1048576 : Int), ())).bind fun r1 =>
  bif decide (r1.1 < (0 : Int)) then
   some (true, ())
  else
  (FvtoState N (x.1, ())).bind fun r2 =>
  (FsMarkReach N ((r2.2.2.2.2.2.2.2.1, r2.2.2.2.2.2.2.2.2.1, r2.2.2.2.2.2.2.2.2.2.1, r2.1, r2.2.1, r2.2.2.1, r2.2.2.2.1, r2.2.2.2.2.1, r2.2.2.2.2.2.2.2.2.2.2.1, r2.2.2.2.2.2.2.2.2.2.2.2.1, r2.2.2.2.2.2.2.2.2.2.2.2.2.1, r2.2.2.2.2.2.1, r2.2.2.2.2.2.2.1, ()), ())).bind fun r3 =>
  (FvtoState N (x.1, ())).bind fun r4 =>
  (FiMarkReach N ((r4.2.2.2.2.2.2.2.1, r4.2.2.2.2.2.2.2.2.1, r4.2.2.2.2.2.2.2.2.2.1, r4.1, r4.2.1, r4.2.2.1, r4.2.2.2.1, r4.2.2.2.2.1, r4.2.2.2.2.2.2.2.2.2.2.1, r4.2.2.2.2.2.2.2.2.2.2.2.1, r4.2.2.2.2.2.2.2.2.2.2.2.2.1, r4.2.2.2.2.2.1, r4.2.2.2.2.2.2.1, ()), ())).bind fun r5 =>
  Option.bind (
   (FveqBoolS N (r5.2.1, r3.2.1, ())).bind fun r6 =>
   bif !r6.1 then
    some (.inr ((false, ())))
   else
   bif !(r5.1 == r3.1) then
    some (.inr ((false, ())))
   else
   some (.inl (x.1, r3.1, r5.1, r3.2.1, r4.1, r4.2.1, r4.2.2.1, r4.2.2.2.1, r4.2.2.2.2.1, r4.2.2.2.2.2.1, r4.2.2.2.2.2.2.1, r4.2.2.2.2.2.2.2.1, r4.2.2.2.2.2.2.2.2.1, r4.2.2.2.2.2.2.2.2.2.1, r4.2.2.2.2.2.2.2.2.2.2.1, r4.2.2.2.2.2.2.2.2.2.2.2.1, r4.2.2.2.2.2.2.2.2.2.2.2.2.1, r5.2.1, ()))) fun o7 =>
  Sum.elim (fun o8 =>
   (FvtoState N (o8.1, ())).bind fun r9 =>
   (FveqState N ((o8.2.2.2.2.2.2.2.2.2.2.2.1, o8.2.2.2.2.2.2.2.2.2.2.2.2.1, o8.2.2.2.2.2.2.2.2.2.2.2.2.2.1, o8.2.2.2.2.1, o8.2.2.2.2.2.1, o8.2.2.2.2.2.2.1, o8.2.2.2.2.2.2.2.1, o8.2.2.2.2.2.2.2.2.1, o8.2.2.2.2.2.2.2.2.2.2.2.2.2.2.1, o8.2.2.2.2.2.2.2.2.2.2.2.2.2.2.2.1, o8.2.2.2.2.2.2.2.2.2.2.2.2.2.2.2.2.1, o8.2.2.2.2.2.2.2.2.2.1, o8.2.2.2.2.2.2.2.2.2.2.1, ()), (r9.2.2.2.2.2.2.2.1, r9.2.2.2.2.2.2.2.2.1, r9.2.2.2.2.2.2.2.2.2.1, r9.1, r9.2.1, r9.2.2.1, r9.2.2.2.1, r9.2.2.2.2.1, r9.2.2.2.2.2.2.2.2.2.2.1, r9.2.2.2.2.2.2.2.2.2.2.2.1, r9.2.2.2.2.2.2.2.2.2.2.2.2.1, r9.2.2.2.2.2.1, r9.2.2.2.2.2.2.1, ()), ())).bind fun r10 =>
   bif !r10.1 then
    some (false, ())
   else
   (FvmarkState N (o8.2.2.2.2.1, o8.2.2.2.2.2.1, o8.2.2.2.2.2.2.1, o8.2.2.2.2.2.2.2.1, o8.2.2.2.2.2.2.2.2.1, o8.2.2.2.2.2.2.2.2.2.1, o8.2.2.2.2.2.2.2.2.2.2.1, (1 : Int), o8.2.2.2.2.2.2.2.2.2.2.2.1, o8.2.2.2.2.2.2.2.2.2.2.2.2.1, o8.2.2.2.2.2.2.2.2.2.2.2.2.2.1, o8.2.2.2.2.2.2.2.2.2.2.2.2.2.2.1, o8.2.2.2.2.2.2.2.2.2.2.2.2.2.2.2.1, o8.2.2.2.2.2.2.2.2.2.2.2.2.2.2.2.2.1, ())).bind fun r11 =>
   Option.bind (
    bif decide (r11.1 < (0 : Int)) then
     some (.inr ((false, ())))
    else
    (FveqBoolS N (o8.2.2.2.2.2.2.2.2.2.2.2.2.2.2.2.2.2.1, o8.2.2.2.1, ())).bind fun r12 =>
    bif !r12.1 then
     some (.inr ((false, ())))
    else
    bif !(o8.2.2.1 == o8.2.1) then
     some (.inr ((false, ())))
    else
    some (.inl (o8.1, o8.2.1, o8.2.2.2.1, o8.2.2.2.2.2.2.2.2.2.2.2.2.2.2.2.2.2.1, ()))) fun o13 =>
   Sum.elim (fun o14 =>
    (FvmarkBoolS N ((1 : Int), o14.2.2.2.1, ())).bind fun r15 =>
    (FvheldBoolS N (r15.2.1, (1 : Int), ())).bind fun r16 =>
    bif decide (r16.1 < (0 : Int)) then
     some (false, ())
    else
    bif r16.1 != r15.1 then
     some (false, ())
    else
    (FvtoState N (o14.1, ())).bind fun r17 =>
    (FiMarkReach N ((r17.2.2.2.2.2.2.2.1, r17.2.2.2.2.2.2.2.2.1, r17.2.2.2.2.2.2.2.2.2.1, r17.1, r17.2.1, r17.2.2.1, r17.2.2.2.1, r17.2.2.2.2.1, r17.2.2.2.2.2.2.2.2.2.2.1, r17.2.2.2.2.2.2.2.2.2.2.2.1, r17.2.2.2.2.2.2.2.2.2.2.2.2.1, r17.2.2.2.2.2.1, r17.2.2.2.2.2.2.1, ()), ())).bind fun r18 =>
    Option.bind (
     (FveqBoolS N (r18.2.1, o14.2.2.1, ())).bind fun r19 =>
     bif !r19.1 then
      some (.inr ((false, ())))
     else
     bif !(r18.1 == o14.2.1) then
      some (.inr ((false, ())))
     else
     some (.inl (r15.1, r15.2.1, ()))) fun o20 =>
    Sum.elim (fun o21 =>
     (FvheldBoolS N (o21.2.1, (1 : Int), ())).bind fun r22 =>
     bif decide (r22.1 < (0 : Int)) then
      some (false, ())
     else
     bif r22.1 != o21.1 then
      some (false, ())
     else
     some (true, ())) (fun o23 =>
     some (o23.1, ())) o20) (fun o24 =>
    some (o24.1, ())) o13) (fun o25 =>
   some (o25.1, ())) o7
noncomputable def convFnExactMarkReach (N : Nat) : Con := { f := 12, din := dinvFnExactMarkReach, outs := outvFnExactMarkReach, F := FvFnExactMarkReach N }
noncomputable def XvFnExactMarkReach (N : Nat) : Ctx := { E := EvFnExactMarkReach N, H := HvFnExactMarkReach, lp := [], jn := [(10, jvFnExactMarkReach_10), (16, jvFnExactMarkReach_16), (27, jvFnExactMarkReach_27)] }
theorem FvFnExactMarkReach_eq (N : Nat) (x : (((List Int) × ((List (Int × (Int × (Int × (Int × (Int × Unit)))))) × ((List Bool) × (Int × (Bool × (Bool × (Bool × (Int × ((List ((List Int) × (Int × (Bool × (Int × Unit))))) × ((List Int) × ((List Int) × (Int × (Int × Unit))))))))))))) × Unit)) : evFn (XvFnExactMarkReach N) Try.f12 dinvFnExactMarkReach outvFnExactMarkReach x = FvFnExactMarkReach N x := by kernel_rfl
theorem cxvFnExactMarkReach (N : Nat) : CtxOk Try.prog (XvFnExactMarkReach N) := ⟨⟨TE_ok, List.forall_mem_cons.2 ⟨(specvszState N), List.forall_mem_cons.2 ⟨(specvtoState N), List.forall_mem_cons.2 ⟨(specsMarkReach N), List.forall_mem_cons.2 ⟨(speciMarkReach N), List.forall_mem_cons.2 ⟨(specveqBoolS N), List.forall_mem_cons.2 ⟨(specveqState N), List.forall_mem_cons.2 ⟨(specvmarkState N), List.forall_mem_cons.2 ⟨(specvmarkBoolS N), List.forall_mem_cons.2 ⟨(specvheldBoolS N), fun k hk => absurd hk List.not_mem_nil⟩⟩⟩⟩⟩⟩⟩⟩⟩⟩, mixed⟩
theorem specvFnExactMarkReach (N : Nat) : Spec Try.prog (convFnExactMarkReach N) :=
  Spec.of_eq (fn_spec (cxvFnExactMarkReach N) (f := 12) (fn := Try.f12) (c := codeOf Try.f12) (by kernel_rfl) (by kernel_rfl) (by kernel_rfl) (loops_at (ids := []) (by kernel_rfl) (trivial)) (by kernel_rfl)) (fun x r h => (FvFnExactMarkReach_eq N x).trans h)

end Go.Fl

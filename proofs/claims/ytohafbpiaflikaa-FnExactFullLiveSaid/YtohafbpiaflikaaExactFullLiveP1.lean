/- Proved: for every input the law FnExactFullLive returns true and leaves its arguments as they were. Part 1: the functions that the law reaches, as plain functions, and plain laws about them; no conditions. -/
import Derived.Test.YtohafbpiaflikaaK3
import Derived.Test.YtohafbpiaflikaaProg
set_option linter.all false
set_option maxRecDepth 100000
set_option linter.all false
namespace Go.Fl
open Go Go.Proofs
abbrev tyq2 : Type := (Int × (Int × ((Int × (Int × Unit)) × ((List Int) × ((List Int) × Unit)))))
abbrev tyq3 : Type := (Int × (Int × (Int × (Int × (Int × Unit)))))
abbrev tyq4 : Type := ((List Int) × (Int × (Bool × (Int × Unit))))
abbrev tyq1 : Type := ((List Int) × ((List tyq3) × ((List Bool) × (Int × (Bool × (Bool × (Bool × (Int × ((List tyq4) × ((List Int) × ((List Int) × (Int × (Int × Unit)))))))))))))
abbrev tyq5 : Type := (Int × (Int × (Int × ((List Int) × Unit))))
abbrev tyq6 : Type := (Int × (Int × (Int × (Int × ((List Int) × ((List Int) × Unit))))))
abbrev tyq7 : Type := ((List Int) × ((List (Int × Bool)) × Unit))
abbrev tyq9 : Ty := (.pair (.int .i64) (.pair (.int .i64) (.pair (.pair (.int .i64) (.pair (.int .i64) .unit)) (.pair (.sl (.int .i64)) (.pair (.sl (.int .i64)) .unit)))))
abbrev tyq10 : Ty := (.pair (.int .i64) (.pair (.int .i64) (.pair (.int .i64) (.pair (.int .i64) (.pair (.int .i64) .unit)))))
abbrev tyq11 : Ty := (.pair (.sl (.int .i64)) (.pair (.int .i64) (.pair .bool (.pair (.int .i64) .unit))))
abbrev tyq8 : Ty := (.pair (.sl (.int .i64)) (.pair (.sl tyq10) (.pair (.sl .bool) (.pair (.int .i64) (.pair .bool (.pair .bool (.pair .bool (.pair (.int .i64) (.pair (.sl tyq11) (.pair (.sl (.int .i64)) (.pair (.sl (.int .i64)) (.pair (.int .i64) (.pair (.int .i64) .unit)))))))))))))
noncomputable def TE : List (Nat × Ty) := [(3, (.int .i64)),
 (4, .bool),
 (5, (.int .u8)),
 (9, .str),
 (22, (.sl tyq10)),
 (23, (.sl (.int .i64))),
 (27, (.sl tyq10)),
 (37, (.sl .bool)),
 (38, (.sl tyq11)),
 (40, tyq8),
 (48, (.sl tyq11)),
 (50, tyq8),
 (66, tyq10),
 (70, tyq10),
 (78, (.pair (.int .i64) (.pair (.int .i64) .unit))),
 (82, tyq11),
 (86, (.sl tyq9)),
 (91, (.mp tyq9)),
 (95, tyq9),
 (99, (.mp .bool)),
 (103, (.hnd false)),
 (107, (.pair tyq8 (.pair (.mp tyq9) (.pair (.sl (.int .i64)) .unit)))),
 (118, tyq11),
 (129, (.int .u64)),
 (141, (.int .u64)),
 (142, (.int .u64)),
 (146, (.hnd false)),
 (148, (.hnd false))]
theorem TE_ok : TyOk Try.prog TE := tysB_spec (by kernel_rfl)
theorem mixed : Try.prog.follows .mixedOrders = true := by kernel_rfl
noncomputable def dinvszIntS : Desc := { n := 2, regs := [.one (.val (.sl (.int .i64))), .one (.val (.int .i64))], bx := [], pins := [] }
noncomputable def outvszIntS : Outs := [(.ret, { n := 1, regs := [.one (.val (.int .i64))], bx := [], pins := [] })]
noncomputable def HvszIntS : Hints := []
noncomputable def EvszIntS (_N : Nat) : Env := { te := TE, cs := [] }
noncomputable def FvszIntS (N : Nat) (x : ((List Int) × (Int × Unit))) : Option (Int × Unit) :=
 let y1 := decide ((w64 (x.2.1 - (x.1.length : Int))) < (0 : Int))
 bif y1 then
  some ((-1 : Int), ())
 else
 some (w64 (x.2.1 - (x.1.length : Int)), ())
noncomputable def convszIntS (N : Nat) : Con := { f := 76, din := dinvszIntS, outs := outvszIntS, F := FvszIntS N }
noncomputable def XvszIntS (N : Nat) : Ctx := { E := EvszIntS N, H := HvszIntS, lp := [], jn := [] }
theorem FvszIntS_eq (N : Nat) (x : ((List Int) × (Int × Unit))) : evFn (XvszIntS N) Try.f76 dinvszIntS outvszIntS x = FvszIntS N x := by kernel_rfl
theorem cxvszIntS (N : Nat) : CtxOk Try.prog (XvszIntS N) := ⟨⟨TE_ok, fun k hk => absurd hk List.not_mem_nil⟩, mixed⟩
theorem specvszIntS (N : Nat) : Spec Try.prog (convszIntS N) :=
 Spec.of_eq (fn_spec (cxvszIntS N) (f := 76) (fn := Try.f76) (c := codeOf Try.f76) (by kernel_rfl) (by kernel_rfl) (by kernel_rfl) (loops_at (ids := []) (by kernel_rfl) (trivial)) (by kernel_rfl)) (fun x r h => (FvszIntS_eq N x).trans h)
noncomputable def dinvszRegionS : Desc := { n := 2, regs := [.one (.val (.sl tyq10)), .one (.val (.int .i64))], bx := [], pins := [] }
noncomputable def outvszRegionS : Outs := [(.ret, { n := 1, regs := [.one (.val (.int .i64))], bx := [], pins := [] })]
noncomputable def HvszRegionS : Hints := []
noncomputable def EvszRegionS (_N : Nat) : Env := { te := TE, cs := [] }
noncomputable def FvszRegionS (N : Nat) (x : ((List tyq3) × (Int × Unit))) : Option (Int × Unit) :=
 let y1 := decide ((w64 (x.2.1 - (x.1.length : Int))) < (0 : Int))
 bif y1 then
  some ((-1 : Int), ())
 else
 some (w64 (x.2.1 - (x.1.length : Int)), ())
noncomputable def convszRegionS (N : Nat) : Con := { f := 14, din := dinvszRegionS, outs := outvszRegionS, F := FvszRegionS N }
noncomputable def XvszRegionS (N : Nat) : Ctx := { E := EvszRegionS N, H := HvszRegionS, lp := [], jn := [] }
theorem FvszRegionS_eq (N : Nat) (x : ((List tyq3) × (Int × Unit))) : evFn (XvszRegionS N) Try.f14 dinvszRegionS outvszRegionS x = FvszRegionS N x := by kernel_rfl
theorem cxvszRegionS (N : Nat) : CtxOk Try.prog (XvszRegionS N) := ⟨⟨TE_ok, fun k hk => absurd hk List.not_mem_nil⟩, mixed⟩
theorem specvszRegionS (N : Nat) : Spec Try.prog (convszRegionS N) :=
 Spec.of_eq (fn_spec (cxvszRegionS N) (f := 14) (fn := Try.f14) (c := codeOf Try.f14) (by kernel_rfl) (by kernel_rfl) (by kernel_rfl) (loops_at (ids := []) (by kernel_rfl) (trivial)) (by kernel_rfl)) (fun x r h => (FvszRegionS_eq N x).trans h)
noncomputable def dinvszBoolS : Desc := { n := 2, regs := [.one (.val (.sl .bool)), .one (.val (.int .i64))], bx := [], pins := [] }
noncomputable def outvszBoolS : Outs := [(.ret, { n := 1, regs := [.one (.val (.int .i64))], bx := [], pins := [] })]
noncomputable def HvszBoolS : Hints := []
noncomputable def EvszBoolS (_N : Nat) : Env := { te := TE, cs := [] }
noncomputable def FvszBoolS (N : Nat) (x : ((List Bool) × (Int × Unit))) : Option (Int × Unit) :=
 let y1 := decide ((w64 (x.2.1 - (x.1.length : Int))) < (0 : Int))
 bif y1 then
  some ((-1 : Int), ())
 else
 some (w64 (x.2.1 - (x.1.length : Int)), ())
noncomputable def convszBoolS (N : Nat) : Con := { f := 77, din := dinvszBoolS, outs := outvszBoolS, F := FvszBoolS N }
noncomputable def XvszBoolS (N : Nat) : Ctx := { E := EvszBoolS N, H := HvszBoolS, lp := [], jn := [] }
theorem FvszBoolS_eq (N : Nat) (x : ((List Bool) × (Int × Unit))) : evFn (XvszBoolS N) Try.f77 dinvszBoolS outvszBoolS x = FvszBoolS N x := by kernel_rfl
theorem cxvszBoolS (N : Nat) : CtxOk Try.prog (XvszBoolS N) := ⟨⟨TE_ok, fun k hk => absurd hk List.not_mem_nil⟩, mixed⟩
theorem specvszBoolS (N : Nat) : Spec Try.prog (convszBoolS N) :=
 Spec.of_eq (fn_spec (cxvszBoolS N) (f := 77) (fn := Try.f77) (c := codeOf Try.f77) (by kernel_rfl) (by kernel_rfl) (by kernel_rfl) (loops_at (ids := []) (by kernel_rfl) (trivial)) (by kernel_rfl)) (fun x r h => (FvszBoolS_eq N x).trans h)
noncomputable def dinvszThread : Desc := { n := 2, regs := [.one (.val tyq11), .one (.val (.int .i64))], bx := [], pins := [] }
noncomputable def outvszThread : Outs := [(.ret, { n := 1, regs := [.one (.val (.int .i64))], bx := [], pins := [] })]
noncomputable def HvszThread : Hints := [(0, [(0, { fz := true })])]
noncomputable def EvszThread (N : Nat) : Env := { te := TE, cs := [convszIntS N] }
noncomputable def FvszThread (N : Nat) (x : (tyq4 × (Int × Unit))) : Option (Int × Unit) :=
 (FvszIntS N (x.1.1, x.2.1, ())).bind fun r1 =>
 bif decide (r1.1 < (0 : Int)) then
  some ((-1 : Int), ())
 else
 some (r1.1, ())
noncomputable def convszThread (N : Nat) : Con := { f := 113, din := dinvszThread, outs := outvszThread, F := FvszThread N }
noncomputable def XvszThread (N : Nat) : Ctx := { E := EvszThread N, H := HvszThread, lp := [], jn := [] }
theorem FvszThread_eq (N : Nat) (x : (tyq4 × (Int × Unit))) : evFn (XvszThread N) Try.f113 dinvszThread outvszThread x = FvszThread N x := by kernel_rfl
theorem cxvszThread (N : Nat) : CtxOk Try.prog (XvszThread N) := ⟨⟨TE_ok, List.forall_mem_cons.2 ⟨(specvszIntS N), fun k hk => absurd hk List.not_mem_nil⟩⟩, mixed⟩
theorem specvszThread (N : Nat) : Spec Try.prog (convszThread N) :=
 Spec.of_eq (fn_spec (cxvszThread N) (f := 113) (fn := Try.f113) (c := codeOf Try.f113) (by kernel_rfl) (by kernel_rfl) (by kernel_rfl) (loops_at (ids := []) (by kernel_rfl) (trivial)) (by kernel_rfl)) (fun x r h => (FvszThread_eq N x).trans h)
noncomputable def dinvszThreadS : Desc := { n := 2, regs := [.one (.val (.sl tyq11)), .one (.val (.int .i64))], bx := [], pins := [] }
noncomputable def outvszThreadS : Outs := [(.ret, { n := 1, regs := [.one (.val (.int .i64))], bx := [], pins := [] })]
noncomputable def HvszThreadS : Hints := []
noncomputable def EvszThreadS (N : Nat) : Env := { te := TE, cs := [convszThread N] }
noncomputable def dvszThreadS_0 : Desc := { n := 27, regs := [.one (.val (.sl tyq11)), .one (.val (.int .i64)), u, u, u, .one (.val (.int .i64))], bx := [], pins := [] }
noncomputable def ovszThreadS_0 : Outs := [(.exit 0, { n := 27, regs := [u, .one (.val (.int .i64))], bx := [], pins := [] }), (.ret, { n := 27, regs := [u, u, u, u, .one (.val (.int .i64))], bx := [], pins := [] })]
noncomputable def lvszThreadS_0 (N : Nat) : Nat → ((List tyq4) × (Int × (Int × Unit))) → Option ((Int × Unit) ⊕ (Int × Unit))
 | 0, _ => none
 | n + 1, v =>
  let y2 := decide (v.2.2.1 < (v.1.length : Int))
  bif y2 then
   bif decide (0 ≤ v.2.2.1) then
   bif decide (v.2.2.1.toNat < v.1.length) then
   let y3 := v.1.getD v.2.2.1.toNat (([] : (List Int)), (0 : Int), false, (0 : Int), ())
   (FvszThread N (y3, v.2.1, ())).bind fun r4 =>
   bif decide (r4.1 < (0 : Int)) then
    some (.inr (((-1 : Int), ())))
   else
   lvszThreadS_0 N n (v.1, r4.1, w64 (v.2.2.1 + (1 : Int)), ())
   else none
   else none
  else
  some (.inl (v.2.1, ()))
noncomputable def FvszThreadS (N : Nat) (x : ((List tyq4) × (Int × Unit))) : Option (Int × Unit) :=
 let y1 := decide ((w64 (x.2.1 - (x.1.length : Int))) < (0 : Int))
 bif y1 then
  some ((-1 : Int), ())
 else
 (lvszThreadS_0 N N (x.1, w64 (x.2.1 - (x.1.length : Int)), (0 : Int), ())).bind fun o5 =>
 Sum.elim (fun o6 =>
  some (o6.1, ())) (fun o7 =>
  some (o7.1, ())) o5
noncomputable def convszThreadS (N : Nat) : Con := { f := 78, din := dinvszThreadS, outs := outvszThreadS, F := FvszThreadS N }
noncomputable def XvszThreadS (N : Nat) : Ctx := { E := EvszThreadS N, H := HvszThreadS, lp := [(0, { hd := dvszThreadS_0, outs := ovszThreadS_0, run := fun v => lvszThreadS_0 N N v })], jn := [] }
noncomputable def bvszThreadS_0 : Code := loopBody (codeOf Try.f78) 0
theorem FvszThreadS_eq (N : Nat) (x : ((List tyq4) × (Int × Unit))) : evFn (XvszThreadS N) Try.f78 dinvszThreadS outvszThreadS x = FvszThreadS N x := by kernel_rfl
theorem lvszThreadS_0_eq (N n : Nat) (v : ((List tyq4) × (Int × (Int × Unit)))) : lvszThreadS_0 N (n + 1) v = ev (XvszThreadS N) bvszThreadS_0 (roundK dvszThreadS_0 ovszThreadS_0 (lvszThreadS_0 N n)) (dvszThreadS_0.mk' v) := by kernel_rfl
theorem cxvszThreadS (N : Nat) : CtxOk Try.prog (XvszThreadS N) := ⟨⟨TE_ok, List.forall_mem_cons.2 ⟨(specvszThread N), fun k hk => absurd hk List.not_mem_nil⟩⟩, mixed⟩
theorem lpvszThreadS_0 (N : Nat) : LoopOk Try.prog { hd := dvszThreadS_0, outs := ovszThreadS_0, run := fun v => lvszThreadS_0 N N v } bvszThreadS_0 :=
 loop_fuel (d := dvszThreadS_0) (os := ovszThreadS_0) (cxvszThreadS N) (loops_at (ids := []) (by kernel_rfl) (trivial)) (lvszThreadS_0 N) (fun _ => rfl) (fun n v => lvszThreadS_0_eq N n v) (fun _ => N)
theorem specvszThreadS (N : Nat) : Spec Try.prog (convszThreadS N) :=
 Spec.of_eq (fn_spec (cxvszThreadS N) (f := 78) (fn := Try.f78) (c := codeOf Try.f78) (by kernel_rfl) (by kernel_rfl) (by kernel_rfl) (loops_at (ids := [0]) (by kernel_rfl) ⟨lp_of (lpvszThreadS_0 N), trivial⟩) (by kernel_rfl)) (fun x r h => (FvszThreadS_eq N x).trans h)
noncomputable def dinvszState : Desc := { n := 2, regs := [.one (.val tyq8), .one (.val (.int .i64))], bx := [], pins := [] }
noncomputable def outvszState : Outs := [(.ret, { n := 1, regs := [.one (.val (.int .i64))], bx := [], pins := [] })]
noncomputable def HvszState : Hints := [(0, [(0, { fz := true })]),
 (4, [(3, { con := 1 })]),
 (7, [(3, { con := 2 })]),
 (10, [(3, { con := 3 })])]
noncomputable def EvszState (N : Nat) : Env := { te := TE, cs := [convszIntS N, convszRegionS N, convszBoolS N, convszThreadS N] }
noncomputable def FvszState (N : Nat) (x : (tyq1 × (Int × Unit))) : Option (Int × Unit) :=
 (FvszIntS N (x.1.1, x.2.1, ())).bind fun r1 =>
 bif decide (r1.1 < (0 : Int)) then
  some ((-1 : Int), ())
 else
 (FvszRegionS N (x.1.2.1, r1.1, ())).bind fun r2 =>
 bif decide (r2.1 < (0 : Int)) then
  some ((-1 : Int), ())
 else
 (FvszBoolS N (x.1.2.2.1, r2.1, ())).bind fun r3 =>
 bif decide (r3.1 < (0 : Int)) then
  some ((-1 : Int), ())
 else
 (FvszThreadS N (x.1.2.2.2.2.2.2.2.2.1, r3.1, ())).bind fun r4 =>
 bif decide (r4.1 < (0 : Int)) then
  some ((-1 : Int), ())
 else
 (FvszIntS N (x.1.2.2.2.2.2.2.2.2.2.1, r4.1, ())).bind fun r5 =>
 bif decide (r5.1 < (0 : Int)) then
  some ((-1 : Int), ())
 else
 (FvszIntS N (x.1.2.2.2.2.2.2.2.2.2.2.1, r5.1, ())).bind fun r6 =>
 bif decide (r6.1 < (0 : Int)) then
  some ((-1 : Int), ())
 else
 some (r6.1, ())
noncomputable def convszState (N : Nat) : Con := { f := 30, din := dinvszState, outs := outvszState, F := FvszState N }
noncomputable def XvszState (N : Nat) : Ctx := { E := EvszState N, H := HvszState, lp := [], jn := [] }
theorem FvszState_eq (N : Nat) (x : (tyq1 × (Int × Unit))) : evFn (XvszState N) Try.f30 dinvszState outvszState x = FvszState N x := by kernel_rfl
theorem cxvszState (N : Nat) : CtxOk Try.prog (XvszState N) := ⟨⟨TE_ok, List.forall_mem_cons.2 ⟨(specvszIntS N), List.forall_mem_cons.2 ⟨(specvszRegionS N), List.forall_mem_cons.2 ⟨(specvszBoolS N), List.forall_mem_cons.2 ⟨(specvszThreadS N), fun k hk => absurd hk List.not_mem_nil⟩⟩⟩⟩⟩, mixed⟩
theorem specvszState (N : Nat) : Spec Try.prog (convszState N) :=
 Spec.of_eq (fn_spec (cxvszState N) (f := 30) (fn := Try.f30) (c := codeOf Try.f30) (by kernel_rfl) (by kernel_rfl) (by kernel_rfl) (loops_at (ids := []) (by kernel_rfl) (trivial)) (by kernel_rfl)) (fun x r h => (FvszState_eq N x).trans h)
noncomputable def dinvtoIntS : Desc := { n := 1, regs := [.one (.val (.sl (.int .i64)))], bx := [], pins := [] }
noncomputable def outvtoIntS : Outs := [(.ret, { n := 1, regs := [.one (.lit (.row 1012928))], bx := [(1012928, .row (.int .i64))], pins := [] })]
noncomputable def HvtoIntS : Hints := []
noncomputable def EvtoIntS (_N : Nat) : Env := { te := TE, cs := [] }
noncomputable def dvtoIntS_0 : Desc := { n := 22, regs := [.one (.val (.sl (.int .i64))), u, u, .one (.lit (.row 1012928)), .one (.val (.int .i64))], bx := [(1012928, .row (.int .i64))], pins := [] }
noncomputable def ovtoIntS_0 : Outs := [(.exit 0, { n := 22, regs := [u, u, u, .one (.lit (.row 1012928))], bx := [(1012928, .row (.int .i64))], pins := [] })]
noncomputable def lvtoIntS_0 (N : Nat) : Nat → ((List Int) × (Int × ((List Int) × Unit))) → Option ((List Int) × Unit)
 | 0, _ => none
 | n + 1, v =>
  bif decide (v.2.1 < (v.1.length : Int)) then
   bif decide (0 ≤ v.2.1) then
   bif decide (v.2.1.toNat < v.1.length) then
   bif decide (0 ≤ v.2.1) then
   bif decide (v.2.1.toNat < v.2.2.1.length) then
   let y2 := v.2.2.1.set v.2.1.toNat (v.1.getD v.2.1.toNat (0 : Int))
   lvtoIntS_0 N n (v.1, w64 (v.2.1 + (1 : Int)), y2, ())
   else none
   else none
   else none
   else none
  else
  some (v.2.2.1, ())
noncomputable def FvtoIntS (N : Nat) (x : ((List Int) × Unit)) : Option ((List Int) × Unit) :=
 bif decide (0 ≤ (x.1.length : Int)) then
 bif decide ((x.1.length : Int).toNat ≤ lim) then
 let y1 := List.replicate (x.1.length : Int).toNat (0 : Int)
 (lvtoIntS_0 N N (x.1, (0 : Int), y1, ())).bind fun o3 =>
 some (o3.1, ())
 else none
 else none
noncomputable def convtoIntS (N : Nat) : Con := { f := 17, din := dinvtoIntS, outs := outvtoIntS, F := FvtoIntS N }
noncomputable def XvtoIntS (N : Nat) : Ctx := { E := EvtoIntS N, H := HvtoIntS, lp := [(0, { hd := dvtoIntS_0, outs := ovtoIntS_0, run := fun v => lvtoIntS_0 N N v })], jn := [] }
noncomputable def bvtoIntS_0 : Code := loopBody (codeOf Try.f17) 0
theorem FvtoIntS_eq (N : Nat) (x : ((List Int) × Unit)) : evFn (XvtoIntS N) Try.f17 dinvtoIntS outvtoIntS x = FvtoIntS N x := by kernel_rfl
theorem lvtoIntS_0_eq (N n : Nat) (v : ((List Int) × (Int × ((List Int) × Unit)))) : lvtoIntS_0 N (n + 1) v = ev (XvtoIntS N) bvtoIntS_0 (roundK dvtoIntS_0 ovtoIntS_0 (lvtoIntS_0 N n)) (dvtoIntS_0.mk' v) := by kernel_rfl
theorem cxvtoIntS (N : Nat) : CtxOk Try.prog (XvtoIntS N) := ⟨⟨TE_ok, fun k hk => absurd hk List.not_mem_nil⟩, mixed⟩
theorem lpvtoIntS_0 (N : Nat) : LoopOk Try.prog { hd := dvtoIntS_0, outs := ovtoIntS_0, run := fun v => lvtoIntS_0 N N v } bvtoIntS_0 :=
 loop_fuel (d := dvtoIntS_0) (os := ovtoIntS_0) (cxvtoIntS N) (loops_at (ids := []) (by kernel_rfl) (trivial)) (lvtoIntS_0 N) (fun _ => rfl) (fun n v => lvtoIntS_0_eq N n v) (fun _ => N)
theorem specvtoIntS (N : Nat) : Spec Try.prog (convtoIntS N) :=
 Spec.of_eq (fn_spec (cxvtoIntS N) (f := 17) (fn := Try.f17) (c := codeOf Try.f17) (by kernel_rfl) (by kernel_rfl) (by kernel_rfl) (loops_at (ids := [0]) (by kernel_rfl) ⟨lp_of (lpvtoIntS_0 N), trivial⟩) (by kernel_rfl)) (fun x r h => (FvtoIntS_eq N x).trans h)
noncomputable def dinvtoRegion : Desc := { n := 1, regs := [.one (.val tyq10)], bx := [], pins := [] }
noncomputable def outvtoRegion : Outs := [(.ret, { n := 1, regs := [.agg [.val (.int .i64), .val (.int .i64), .val (.int .i64), .val (.int .i64), .val (.int .i64)]], bx := [], pins := [] })]
noncomputable def HvtoRegion : Hints := [(0, [(0, { fz := true })])]
noncomputable def EvtoRegion (_N : Nat) : Env := { te := TE, cs := [] }
noncomputable def FvtoRegion (N : Nat) (x : (tyq3 × Unit)) : Option tyq3 :=
 some (x.1.1, x.1.2.1, x.1.2.2.1, x.1.2.2.2.1, x.1.2.2.2.2.1, ())
noncomputable def convtoRegion (N : Nat) : Con := { f := 56, din := dinvtoRegion, outs := outvtoRegion, F := FvtoRegion N }
noncomputable def XvtoRegion (N : Nat) : Ctx := { E := EvtoRegion N, H := HvtoRegion, lp := [], jn := [] }
theorem FvtoRegion_eq (N : Nat) (x : (tyq3 × Unit)) : evFn (XvtoRegion N) Try.f56 dinvtoRegion outvtoRegion x = FvtoRegion N x := by kernel_rfl
theorem cxvtoRegion (N : Nat) : CtxOk Try.prog (XvtoRegion N) := ⟨⟨TE_ok, fun k hk => absurd hk List.not_mem_nil⟩, mixed⟩
theorem specvtoRegion (N : Nat) : Spec Try.prog (convtoRegion N) :=
 Spec.of_eq (fn_spec (cxvtoRegion N) (f := 56) (fn := Try.f56) (c := codeOf Try.f56) (by kernel_rfl) (by kernel_rfl) (by kernel_rfl) (loops_at (ids := []) (by kernel_rfl) (trivial)) (by kernel_rfl)) (fun x r h => (FvtoRegion_eq N x).trans h)
noncomputable def dinvtoRegionS : Desc := { n := 1, regs := [.one (.val (.sl tyq10))], bx := [], pins := [] }
noncomputable def outvtoRegionS : Outs := [(.ret, { n := 1, regs := [.one (.lit (.row 1012928))], bx := [(1012928, .row tyq10)], pins := [] })]
noncomputable def HvtoRegionS : Hints := []
noncomputable def EvtoRegionS (N : Nat) : Env := { te := TE, cs := [convtoRegion N] }
noncomputable def dvtoRegionS_0 : Desc := { n := 23, regs := [.one (.val (.sl tyq10)), u, u, .one (.lit (.row 1012928)), .one (.val (.int .i64))], bx := [(1012928, .row tyq10)], pins := [] }
noncomputable def ovtoRegionS_0 : Outs := [(.exit 0, { n := 23, regs := [u, u, u, .one (.lit (.row 1012928))], bx := [(1012928, .row tyq10)], pins := [] })]
noncomputable def lvtoRegionS_0 (N : Nat) : Nat → ((List tyq3) × (Int × ((List tyq3) × Unit))) → Option ((List tyq3) × Unit)
 | 0, _ => none
 | n + 1, v =>
  bif decide (v.2.1 < (v.1.length : Int)) then
   bif decide (0 ≤ v.2.1) then
   bif decide (v.2.1.toNat < v.1.length) then
   let y2 := v.1.getD v.2.1.toNat ((0 : Int), (0 : Int), (0 : Int), (0 : Int), (0 : Int), ())
   (FvtoRegion N (y2, ())).bind fun r3 =>
   bif decide (0 ≤ v.2.1) then
   bif decide (v.2.1.toNat < v.2.2.1.length) then
   let y4 := v.2.2.1.set v.2.1.toNat (r3.1, r3.2.1, r3.2.2.1, r3.2.2.2.1, r3.2.2.2.2.1, ())
   lvtoRegionS_0 N n (v.1, w64 (v.2.1 + (1 : Int)), y4, ())
   else none
   else none
   else none
   else none
  else
  some (v.2.2.1, ())
noncomputable def FvtoRegionS (N : Nat) (x : ((List tyq3) × Unit)) : Option ((List tyq3) × Unit) :=
 bif decide (0 ≤ (x.1.length : Int)) then
 bif decide ((x.1.length : Int).toNat ≤ lim) then
 let y1 := List.replicate (x.1.length : Int).toNat ((0 : Int), (0 : Int), (0 : Int), (0 : Int), (0 : Int), ())
 (lvtoRegionS_0 N N (x.1, (0 : Int), y1, ())).bind fun o5 =>
 some (o5.1, ())
 else none
 else none
noncomputable def convtoRegionS (N : Nat) : Con := { f := 16, din := dinvtoRegionS, outs := outvtoRegionS, F := FvtoRegionS N }
noncomputable def XvtoRegionS (N : Nat) : Ctx := { E := EvtoRegionS N, H := HvtoRegionS, lp := [(0, { hd := dvtoRegionS_0, outs := ovtoRegionS_0, run := fun v => lvtoRegionS_0 N N v })], jn := [] }
noncomputable def bvtoRegionS_0 : Code := loopBody (codeOf Try.f16) 0
theorem FvtoRegionS_eq (N : Nat) (x : ((List tyq3) × Unit)) : evFn (XvtoRegionS N) Try.f16 dinvtoRegionS outvtoRegionS x = FvtoRegionS N x := by kernel_rfl
theorem lvtoRegionS_0_eq (N n : Nat) (v : ((List tyq3) × (Int × ((List tyq3) × Unit)))) : lvtoRegionS_0 N (n + 1) v = ev (XvtoRegionS N) bvtoRegionS_0 (roundK dvtoRegionS_0 ovtoRegionS_0 (lvtoRegionS_0 N n)) (dvtoRegionS_0.mk' v) := by kernel_rfl
theorem cxvtoRegionS (N : Nat) : CtxOk Try.prog (XvtoRegionS N) := ⟨⟨TE_ok, List.forall_mem_cons.2 ⟨(specvtoRegion N), fun k hk => absurd hk List.not_mem_nil⟩⟩, mixed⟩
theorem lpvtoRegionS_0 (N : Nat) : LoopOk Try.prog { hd := dvtoRegionS_0, outs := ovtoRegionS_0, run := fun v => lvtoRegionS_0 N N v } bvtoRegionS_0 :=
 loop_fuel (d := dvtoRegionS_0) (os := ovtoRegionS_0) (cxvtoRegionS N) (loops_at (ids := []) (by kernel_rfl) (trivial)) (lvtoRegionS_0 N) (fun _ => rfl) (fun n v => lvtoRegionS_0_eq N n v) (fun _ => N)
theorem specvtoRegionS (N : Nat) : Spec Try.prog (convtoRegionS N) :=
 Spec.of_eq (fn_spec (cxvtoRegionS N) (f := 16) (fn := Try.f16) (c := codeOf Try.f16) (by kernel_rfl) (by kernel_rfl) (by kernel_rfl) (loops_at (ids := [0]) (by kernel_rfl) ⟨lp_of (lpvtoRegionS_0 N), trivial⟩) (by kernel_rfl)) (fun x r h => (FvtoRegionS_eq N x).trans h)
noncomputable def dinvtoBoolS : Desc := { n := 1, regs := [.one (.val (.sl .bool))], bx := [], pins := [] }
noncomputable def outvtoBoolS : Outs := [(.ret, { n := 1, regs := [.one (.lit (.row 1012928))], bx := [(1012928, .row .bool)], pins := [] })]
noncomputable def HvtoBoolS : Hints := []
noncomputable def EvtoBoolS (_N : Nat) : Env := { te := TE, cs := [] }
noncomputable def dvtoBoolS_0 : Desc := { n := 22, regs := [.one (.val (.sl .bool)), u, u, .one (.lit (.row 1012928)), .one (.val (.int .i64))], bx := [(1012928, .row .bool)], pins := [] }
noncomputable def ovtoBoolS_0 : Outs := [(.exit 0, { n := 22, regs := [u, u, u, .one (.lit (.row 1012928))], bx := [(1012928, .row .bool)], pins := [] })]
noncomputable def lvtoBoolS_0 (N : Nat) : Nat → ((List Bool) × (Int × ((List Bool) × Unit))) → Option ((List Bool) × Unit)
 | 0, _ => none
 | n + 1, v =>
  bif decide (v.2.1 < (v.1.length : Int)) then
   bif decide (0 ≤ v.2.1) then
   bif decide (v.2.1.toNat < v.1.length) then
   bif decide (0 ≤ v.2.1) then
   bif decide (v.2.1.toNat < v.2.2.1.length) then
   let y2 := v.2.2.1.set v.2.1.toNat (v.1.getD v.2.1.toNat false)
   lvtoBoolS_0 N n (v.1, w64 (v.2.1 + (1 : Int)), y2, ())
   else none
   else none
   else none
   else none
  else
  some (v.2.2.1, ())
noncomputable def FvtoBoolS (N : Nat) (x : ((List Bool) × Unit)) : Option ((List Bool) × Unit) :=
 bif decide (0 ≤ (x.1.length : Int)) then
 bif decide ((x.1.length : Int).toNat ≤ lim) then
 let y1 := List.replicate (x.1.length : Int).toNat false
 (lvtoBoolS_0 N N (x.1, (0 : Int), y1, ())).bind fun o3 =>
 some (o3.1, ())
 else none
 else none
noncomputable def convtoBoolS (N : Nat) : Con := { f := 81, din := dinvtoBoolS, outs := outvtoBoolS, F := FvtoBoolS N }
noncomputable def XvtoBoolS (N : Nat) : Ctx := { E := EvtoBoolS N, H := HvtoBoolS, lp := [(0, { hd := dvtoBoolS_0, outs := ovtoBoolS_0, run := fun v => lvtoBoolS_0 N N v })], jn := [] }
noncomputable def bvtoBoolS_0 : Code := loopBody (codeOf Try.f81) 0
theorem FvtoBoolS_eq (N : Nat) (x : ((List Bool) × Unit)) : evFn (XvtoBoolS N) Try.f81 dinvtoBoolS outvtoBoolS x = FvtoBoolS N x := by kernel_rfl
theorem lvtoBoolS_0_eq (N n : Nat) (v : ((List Bool) × (Int × ((List Bool) × Unit)))) : lvtoBoolS_0 N (n + 1) v = ev (XvtoBoolS N) bvtoBoolS_0 (roundK dvtoBoolS_0 ovtoBoolS_0 (lvtoBoolS_0 N n)) (dvtoBoolS_0.mk' v) := by kernel_rfl
theorem cxvtoBoolS (N : Nat) : CtxOk Try.prog (XvtoBoolS N) := ⟨⟨TE_ok, fun k hk => absurd hk List.not_mem_nil⟩, mixed⟩
theorem lpvtoBoolS_0 (N : Nat) : LoopOk Try.prog { hd := dvtoBoolS_0, outs := ovtoBoolS_0, run := fun v => lvtoBoolS_0 N N v } bvtoBoolS_0 :=
 loop_fuel (d := dvtoBoolS_0) (os := ovtoBoolS_0) (cxvtoBoolS N) (loops_at (ids := []) (by kernel_rfl) (trivial)) (lvtoBoolS_0 N) (fun _ => rfl) (fun n v => lvtoBoolS_0_eq N n v) (fun _ => N)
theorem specvtoBoolS (N : Nat) : Spec Try.prog (convtoBoolS N) :=
 Spec.of_eq (fn_spec (cxvtoBoolS N) (f := 81) (fn := Try.f81) (c := codeOf Try.f81) (by kernel_rfl) (by kernel_rfl) (by kernel_rfl) (loops_at (ids := [0]) (by kernel_rfl) ⟨lp_of (lpvtoBoolS_0 N), trivial⟩) (by kernel_rfl)) (fun x r h => (FvtoBoolS_eq N x).trans h)
noncomputable def dinvtoThread : Desc := { n := 1, regs := [.one (.val tyq11)], bx := [], pins := [] }
noncomputable def outvtoThread : Outs := [(.ret, { n := 1, regs := [.agg [.lit (.row 1025729), .val (.int .i64), .val .bool, .val (.int .i64)]], bx := [(1025729, .row (.int .i64))], pins := [] })]
noncomputable def HvtoThread : Hints := [(0, [(0, { fz := true })])]
noncomputable def EvtoThread (N : Nat) : Env := { te := TE, cs := [convtoIntS N] }
noncomputable def FvtoThread (N : Nat) (x : (tyq4 × Unit)) : Option (Int × (Bool × (Int × ((List Int) × Unit)))) :=
 (FvtoIntS N (x.1.1, ())).bind fun r1 =>
 some (x.1.2.1, x.1.2.2.1, x.1.2.2.2.1, r1.1, ())
noncomputable def convtoThread (N : Nat) : Con := { f := 115, din := dinvtoThread, outs := outvtoThread, F := FvtoThread N }
noncomputable def XvtoThread (N : Nat) : Ctx := { E := EvtoThread N, H := HvtoThread, lp := [], jn := [] }
theorem FvtoThread_eq (N : Nat) (x : (tyq4 × Unit)) : evFn (XvtoThread N) Try.f115 dinvtoThread outvtoThread x = FvtoThread N x := by kernel_rfl
theorem cxvtoThread (N : Nat) : CtxOk Try.prog (XvtoThread N) := ⟨⟨TE_ok, List.forall_mem_cons.2 ⟨(specvtoIntS N), fun k hk => absurd hk List.not_mem_nil⟩⟩, mixed⟩
theorem specvtoThread (N : Nat) : Spec Try.prog (convtoThread N) :=
 Spec.of_eq (fn_spec (cxvtoThread N) (f := 115) (fn := Try.f115) (c := codeOf Try.f115) (by kernel_rfl) (by kernel_rfl) (by kernel_rfl) (loops_at (ids := []) (by kernel_rfl) (trivial)) (by kernel_rfl)) (fun x r h => (FvtoThread_eq N x).trans h)
noncomputable def dinvtoThreadS : Desc := { n := 1, regs := [.one (.val (.sl tyq11))], bx := [], pins := [] }
noncomputable def outvtoThreadS : Outs := [(.ret, { n := 1, regs := [.one (.lit (.row 1012928))], bx := [(1012928, .row tyq11)], pins := [] })]
noncomputable def HvtoThreadS : Hints := [(1, [(2, { dp := true })])]
noncomputable def EvtoThreadS (N : Nat) : Env := { te := TE, cs := [convtoThread N] }
noncomputable def dvtoThreadS_0 : Desc := { n := 23, regs := [.one (.val (.sl tyq11)), u, u, .one (.lit (.row 1012928)), .one (.val (.int .i64))], bx := [(1012928, .row tyq11)], pins := [] }
noncomputable def ovtoThreadS_0 : Outs := [(.exit 0, { n := 23, regs := [u, u, u, .one (.lit (.row 1012928))], bx := [(1012928, .row tyq11)], pins := [] })]
noncomputable def lvtoThreadS_0 (N : Nat) : Nat → ((List tyq4) × (Int × ((List tyq4) × Unit))) → Option ((List tyq4) × Unit)
 | 0, _ => none
 | n + 1, v =>
  bif decide (v.2.1 < (v.1.length : Int)) then
   bif decide (0 ≤ v.2.1) then
   bif decide (v.2.1.toNat < v.1.length) then
   let y2 := v.1.getD v.2.1.toNat (([] : (List Int)), (0 : Int), false, (0 : Int), ())
   (FvtoThread N (y2, ())).bind fun r3 =>
   bif decide (0 ≤ v.2.1) then
   bif decide (v.2.1.toNat < v.2.2.1.length) then
   let y4 := v.2.2.1.set v.2.1.toNat (r3.2.2.2.1, r3.1, r3.2.1, r3.2.2.1, ())
   lvtoThreadS_0 N n (v.1, w64 (v.2.1 + (1 : Int)), y4, ())
   else none
   else none
   else none
   else none
  else
  some (v.2.2.1, ())
noncomputable def FvtoThreadS (N : Nat) (x : ((List tyq4) × Unit)) : Option ((List tyq4) × Unit) :=
 bif decide (0 ≤ (x.1.length : Int)) then
 bif decide ((x.1.length : Int).toNat ≤ lim) then
 let y1 := List.replicate (x.1.length : Int).toNat (([] : (List Int)), (0 : Int), false, (0 : Int), ())
 (lvtoThreadS_0 N N (x.1, (0 : Int), y1, ())).bind fun o5 =>
 some (o5.1, ())
 else none
 else none
noncomputable def convtoThreadS (N : Nat) : Con := { f := 82, din := dinvtoThreadS, outs := outvtoThreadS, F := FvtoThreadS N }
noncomputable def XvtoThreadS (N : Nat) : Ctx := { E := EvtoThreadS N, H := HvtoThreadS, lp := [(0, { hd := dvtoThreadS_0, outs := ovtoThreadS_0, run := fun v => lvtoThreadS_0 N N v })], jn := [] }
noncomputable def bvtoThreadS_0 : Code := loopBody (codeOf Try.f82) 0
theorem FvtoThreadS_eq (N : Nat) (x : ((List tyq4) × Unit)) : evFn (XvtoThreadS N) Try.f82 dinvtoThreadS outvtoThreadS x = FvtoThreadS N x := by kernel_rfl
theorem lvtoThreadS_0_eq (N n : Nat) (v : ((List tyq4) × (Int × ((List tyq4) × Unit)))) : lvtoThreadS_0 N (n + 1) v = ev (XvtoThreadS N) bvtoThreadS_0 (roundK dvtoThreadS_0 ovtoThreadS_0 (lvtoThreadS_0 N n)) (dvtoThreadS_0.mk' v) := by kernel_rfl
theorem cxvtoThreadS (N : Nat) : CtxOk Try.prog (XvtoThreadS N) := ⟨⟨TE_ok, List.forall_mem_cons.2 ⟨(specvtoThread N), fun k hk => absurd hk List.not_mem_nil⟩⟩, mixed⟩
theorem lpvtoThreadS_0 (N : Nat) : LoopOk Try.prog { hd := dvtoThreadS_0, outs := ovtoThreadS_0, run := fun v => lvtoThreadS_0 N N v } bvtoThreadS_0 :=
 loop_fuel (d := dvtoThreadS_0) (os := ovtoThreadS_0) (cxvtoThreadS N) (loops_at (ids := []) (by kernel_rfl) (trivial)) (lvtoThreadS_0 N) (fun _ => rfl) (fun n v => lvtoThreadS_0_eq N n v) (fun _ => N)
theorem specvtoThreadS (N : Nat) : Spec Try.prog (convtoThreadS N) :=
 Spec.of_eq (fn_spec (cxvtoThreadS N) (f := 82) (fn := Try.f82) (c := codeOf Try.f82) (by kernel_rfl) (by kernel_rfl) (by kernel_rfl) (loops_at (ids := [0]) (by kernel_rfl) ⟨lp_of (lpvtoThreadS_0 N), trivial⟩) (by kernel_rfl)) (fun x r h => (FvtoThreadS_eq N x).trans h)
noncomputable def dinvtoState : Desc := { n := 1, regs := [.one (.val tyq8)], bx := [], pins := [] }
noncomputable def outvtoState : Outs := [(.ret, { n := 1, regs := [.agg [.lit (.row 1025729), .lit (.row 1038529), .lit (.row 1051329), .val (.int .i64), .val .bool, .val .bool, .val .bool, .val (.int .i64), .lit (.row 1128129), .lit (.row 1140929), .lit (.row 1153729), .val (.int .i64), .val (.int .i64)]], bx := [(1025729, .row (.int .i64)), (1038529, .row tyq10), (1051329, .row .bool), (1128129, .row tyq11), (1140929, .row (.int .i64)), (1153729, .row (.int .i64))], pins := [] })]
noncomputable def HvtoState : Hints := [(0, [(0, { fz := true })]),
 (3, [(2, { con := 1 })]),
 (4, [(2, { con := 2 })]),
 (10, [(2, { con := 3 })])]
noncomputable def EvtoState (N : Nat) : Env := { te := TE, cs := [convtoIntS N, convtoRegionS N, convtoBoolS N, convtoThreadS N] }
noncomputable def FvtoState (N : Nat) (x : (tyq1 × Unit)) : Option (Int × (Bool × (Bool × (Bool × (Int × (Int × (Int × ((List Int) × ((List tyq3) × ((List Bool) × ((List tyq4) × ((List Int) × ((List Int) × Unit))))))))))))) :=
 (FvtoIntS N (x.1.1, ())).bind fun r1 =>
 (FvtoRegionS N (x.1.2.1, ())).bind fun r2 =>
 (FvtoBoolS N (x.1.2.2.1, ())).bind fun r3 =>
 (FvtoThreadS N (x.1.2.2.2.2.2.2.2.2.1, ())).bind fun r4 =>
 (FvtoIntS N (x.1.2.2.2.2.2.2.2.2.2.1, ())).bind fun r5 =>
 (FvtoIntS N (x.1.2.2.2.2.2.2.2.2.2.2.1, ())).bind fun r6 =>
 some (x.1.2.2.2.1, x.1.2.2.2.2.1, x.1.2.2.2.2.2.1, x.1.2.2.2.2.2.2.1, x.1.2.2.2.2.2.2.2.1, x.1.2.2.2.2.2.2.2.2.2.2.2.1, x.1.2.2.2.2.2.2.2.2.2.2.2.2.1, r1.1, r2.1, r3.1, r4.1, r5.1, r6.1, ())
noncomputable def convtoState (N : Nat) : Con := { f := 32, din := dinvtoState, outs := outvtoState, F := FvtoState N }
noncomputable def XvtoState (N : Nat) : Ctx := { E := EvtoState N, H := HvtoState, lp := [], jn := [] }
theorem FvtoState_eq (N : Nat) (x : (tyq1 × Unit)) : evFn (XvtoState N) Try.f32 dinvtoState outvtoState x = FvtoState N x := by kernel_rfl
theorem cxvtoState (N : Nat) : CtxOk Try.prog (XvtoState N) := ⟨⟨TE_ok, List.forall_mem_cons.2 ⟨(specvtoIntS N), List.forall_mem_cons.2 ⟨(specvtoRegionS N), List.forall_mem_cons.2 ⟨(specvtoBoolS N), List.forall_mem_cons.2 ⟨(specvtoThreadS N), fun k hk => absurd hk List.not_mem_nil⟩⟩⟩⟩⟩, mixed⟩
theorem specvtoState (N : Nat) : Spec Try.prog (convtoState N) :=
 Spec.of_eq (fn_spec (cxvtoState N) (f := 32) (fn := Try.f32) (c := codeOf Try.f32) (by kernel_rfl) (by kernel_rfl) (by kernel_rfl) (loops_at (ids := []) (by kernel_rfl) (trivial)) (by kernel_rfl)) (fun x r h => (FvtoState_eq N x).trans h)
noncomputable def dinsWordsOk : Desc := { n := 1, regs := [.one (.val (.sl (.int .i64)))], bx := [], pins := [] }
noncomputable def outsWordsOk : Outs := [(.ret, { n := 1, regs := [.one (.val .bool)], bx := [], pins := [] })]
noncomputable def HsWordsOk : Hints := []
noncomputable def EsWordsOk (_N : Nat) : Env := { te := TE, cs := [] }
noncomputable def FsWordsOk (N : Nat) (x : ((List Int) × Unit)) : Option (Bool × Unit) :=
 bif decide ((16 : Int) = 0) then
  none
 else
 let y1 := w64 (Int.tdiv (x.1.length : Int) (16 : Int))
 bif decide ((16 : Int) = 0) then
  none
 else
 let y2 := Int.tmod (x.1.length : Int) (16 : Int)
 bif y2 == (0 : Int) then
  bif decide (y1 ≥ (2 : Int)) then
   some (decide (y1 ≤ (12 : Int)), ())
  else
  some (false, ())
 else
 some (false, ())
noncomputable def consWordsOk (N : Nat) : Con := { f := 89, din := dinsWordsOk, outs := outsWordsOk, F := FsWordsOk N }
noncomputable def XsWordsOk (N : Nat) : Ctx := { E := EsWordsOk N, H := HsWordsOk, lp := [], jn := [] }
theorem FsWordsOk_eq (N : Nat) (x : ((List Int) × Unit)) : evFn (XsWordsOk N) Try.f89 dinsWordsOk outsWordsOk x = FsWordsOk N x := by kernel_rfl
theorem cxsWordsOk (N : Nat) : CtxOk Try.prog (XsWordsOk N) := ⟨⟨TE_ok, fun k hk => absurd hk List.not_mem_nil⟩, mixed⟩
theorem specsWordsOk (N : Nat) : Spec Try.prog (consWordsOk N) :=
 Spec.of_eq (fn_spec (cxsWordsOk N) (f := 89) (fn := Try.f89) (c := codeOf Try.f89) (by kernel_rfl) (by kernel_rfl) (by kernel_rfl) (loops_at (ids := []) (by kernel_rfl) (trivial)) (by kernel_rfl)) (fun x r h => (FsWordsOk_eq N x).trans h)
noncomputable def dinsRegionBase : Desc := { n := 1, regs := [.one (.val (.int .i64))], bx := [], pins := [] }
noncomputable def outsRegionBase : Outs := [(.ret, { n := 1, regs := [.one (.val (.int .i64))], bx := [], pins := [] })]
noncomputable def HsRegionBase : Hints := []
noncomputable def EsRegionBase (_N : Nat) : Env := { te := TE, cs := [] }
noncomputable def FsRegionBase (N : Nat) (x : (Int × Unit)) : Option (Int × Unit) :=
 bif decide (x.1 < (0 : Int)) then
  some ((0 : Int), ())
 else
 bif decide (x.1 ≥ (12 : Int)) then
  some ((0 : Int), ())
 else
 some (w64 (x.1 * (16 : Int)), ())
noncomputable def consRegionBase (N : Nat) : Con := { f := 54, din := dinsRegionBase, outs := outsRegionBase, F := FsRegionBase N }
noncomputable def XsRegionBase (N : Nat) : Ctx := { E := EsRegionBase N, H := HsRegionBase, lp := [], jn := [] }
theorem FsRegionBase_eq (N : Nat) (x : (Int × Unit)) : evFn (XsRegionBase N) Try.f54 dinsRegionBase outsRegionBase x = FsRegionBase N x := by kernel_rfl
theorem cxsRegionBase (N : Nat) : CtxOk Try.prog (XsRegionBase N) := ⟨⟨TE_ok, fun k hk => absurd hk List.not_mem_nil⟩, mixed⟩
theorem specsRegionBase (N : Nat) : Spec Try.prog (consRegionBase N) :=
 Spec.of_eq (fn_spec (cxsRegionBase N) (f := 54) (fn := Try.f54) (c := codeOf Try.f54) (by kernel_rfl) (by kernel_rfl) (by kernel_rfl) (loops_at (ids := []) (by kernel_rfl) (trivial)) (by kernel_rfl)) (fun x r h => (FsRegionBase_eq N x).trans h)
noncomputable def dinsTableOk : Desc := { n := 1, regs := [.one (.val (.sl tyq10))], bx := [], pins := [] }
noncomputable def outsTableOk : Outs := [(.ret, { n := 1, regs := [.one (.val .bool)], bx := [], pins := [] })]
noncomputable def HsTableOk : Hints := []
noncomputable def EsTableOk (N : Nat) : Env := { te := TE, cs := [consRegionBase N] }
noncomputable def dsTableOk_2 : Desc := { n := 126, regs := [.one (.val (.sl tyq10)), u, u, .one (.val (.int .i64)), .one (.lit (.ptr 1077056 0)), u, .one (.val (.int .i64))], bx := [(1077056, .var [.val (.int .i64), .val (.int .i64), .val (.int .i64), .val (.int .i64), .val (.int .i64)])], pins := [] }
noncomputable def osTableOk_2 : Outs := [(.exit 2, { n := 126, regs := [.one (.val (.sl tyq10)), u, u, .one (.val (.int .i64))], bx := [], pins := [] }), (.ret, { n := 126, regs := [u, u, .one (.val .bool)], bx := [], pins := [] })]
noncomputable def dsTableOk_0 : Desc := { n := 126, regs := [.one (.val (.sl tyq10)), u, u, .one (.val (.int .i64))], bx := [], pins := [] }
noncomputable def osTableOk_0 : Outs := [(.exit 0, { n := 126, regs := [], bx := [], pins := [] }), (.ret, { n := 126, regs := [u, u, .one (.val .bool)], bx := [], pins := [] })]
noncomputable def jsTableOk_3 : Outs := [(.normal, { n := 126, regs := [.one (.val (.sl tyq10))], bx := [], pins := [] }), (.ret, { n := 126, regs := [u, u, .one (.val .bool)], bx := [], pins := [] })]
noncomputable def jsTableOk_10 : Outs := [(.normal, { n := 126, regs := [.one (.val (.sl tyq10)), u, u, .one (.val (.int .i64)), .one (.lit (.ptr 1077056 0)), .one (.val (.int .i64))], bx := [(1077056, .var [.val (.int .i64), .val (.int .i64), .val (.int .i64), .val (.int .i64), .val (.int .i64)])], pins := [] }), (.ret, { n := 126, regs := [u, u, .one (.val .bool)], bx := [], pins := [] })]
noncomputable def jsTableOk_12 : Outs := [(.normal, { n := 126, regs := [.one (.val (.sl tyq10)), u, u, .one (.val (.int .i64)), .one (.lit (.ptr 1077056 0))], bx := [(1077056, .var [.val (.int .i64), .val (.int .i64), .val (.int .i64), .val (.int .i64), .val (.int .i64)])], pins := [] }), (.ret, { n := 126, regs := [u, u, .one (.val .bool)], bx := [], pins := [] })]
noncomputable def jsTableOk_14 : Outs := [(.normal, { n := 126, regs := [.one (.val (.sl tyq10)), u, u, .one (.val (.int .i64)), .one (.lit (.ptr 1077056 0))], bx := [(1077056, .var [.val (.int .i64), .val (.int .i64), .val (.int .i64), .val (.int .i64), .val (.int .i64)])], pins := [] }), (.ret, { n := 126, regs := [u, u, .one (.val .bool)], bx := [], pins := [] })]
noncomputable def lsTableOk_2 (N : Nat) : Nat → ((List tyq3) × (Int × (Int × tyq3))) → Option (((List tyq3) × (Int × Unit)) ⊕ (Bool × Unit))
 | 0, _ => none
 | n + 1, v =>
  bif decide (v.2.2.1 < v.2.1) then
   bif decide (v.2.2.2.2.1 ≥ (0 : Int)) then
    bif decide (0 ≤ v.2.2.1) then
    bif decide (v.2.2.1.toNat < v.1.length) then
    let y18 := v.1.getD v.2.2.1.toNat ((0 : Int), (0 : Int), (0 : Int), (0 : Int), (0 : Int), ())
    bif y18.2.1 == v.2.2.2.2.1 then
     some (.inr ((false, ())))
    else
    lsTableOk_2 N n (v.1, v.2.1, w64 (v.2.2.1 + (1 : Int)), v.2.2.2.1, v.2.2.2.2.1, v.2.2.2.2.2.1, v.2.2.2.2.2.2.1, v.2.2.2.2.2.2.2.1, ())
    else none
    else none
   else
   lsTableOk_2 N n (v.1, v.2.1, w64 (v.2.2.1 + (1 : Int)), v.2.2.2.1, v.2.2.2.2.1, v.2.2.2.2.2.1, v.2.2.2.2.2.2.1, v.2.2.2.2.2.2.2.1, ())
  else
  some (.inl (v.1, v.2.1, ()))
noncomputable def lsTableOk_0 (N : Nat) : Nat → ((List tyq3) × (Int × Unit)) → Option (Unit ⊕ (Bool × Unit))
 | 0, _ => none
 | n + 1, v =>
  bif decide (v.2.1 < (v.1.length : Int)) then
   bif decide (0 ≤ v.2.1) then
   bif decide (v.2.1.toNat < v.1.length) then
   let y7 := v.1.getD v.2.1.toNat ((0 : Int), (0 : Int), (0 : Int), (0 : Int), (0 : Int), ())
   (FsRegionBase N (v.2.1, ())).bind fun r8 =>
   Option.bind (
    bif decide (y7.1 < (1 : Int)) then
     some (.inr ((false, ())))
    else
    bif decide (y7.1 > (4 : Int)) then
     some (.inr ((false, ())))
    else
    bif decide (y7.2.2.1 < r8.1) then
     some (.inr ((false, ())))
    else
    let y9 := decide (y7.2.2.1 > (w64 (r8.1 + (16 : Int))))
    bif y9 then
     some (.inr ((false, ())))
    else
    bif decide (y7.2.2.2.1 < r8.1) then
     some (.inr ((false, ())))
    else
    bif decide (y7.2.2.2.1 > y7.2.2.1) then
     some (.inr ((false, ())))
    else
    bif decide (y7.2.2.2.2.1 < (0 : Int)) then
     some (.inr ((false, ())))
    else
    let y10 := decide (y7.2.2.2.2.1 > (w64 (y7.2.2.1 - r8.1)))
    bif y10 then
     some (.inr ((false, ())))
    else
    some (.inl (v.1, v.2.1, r8.1, y7.1, y7.2.1, y7.2.2.1, y7.2.2.2.1, y7.2.2.2.2.1, ()))) fun o11 =>
   Sum.elim (fun o12 =>
    Option.bind (
     bif o12.2.2.2.1 == (1 : Int) then
      bif o12.2.2.2.2.2.1 != o12.2.2.1 then
       some (.inr ((false, ())))
      else
      some (.inl (o12.1, o12.2.1, o12.2.2.2.1, o12.2.2.2.2.1, o12.2.2.2.2.2.1, o12.2.2.2.2.2.2.1, o12.2.2.2.2.2.2.2.1, ()))
     else
     some (.inl (o12.1, o12.2.1, o12.2.2.2.1, o12.2.2.2.2.1, o12.2.2.2.2.2.1, o12.2.2.2.2.2.2.1, o12.2.2.2.2.2.2.2.1, ()))) fun o13 =>
    Sum.elim (fun o14 =>
     Option.bind (
      let y15 := !((o14.2.2.1 == (2 : Int)) == (decide (o14.2.2.2.1 ≥ (0 : Int))))
      bif y15 then
       some (.inr ((false, ())))
      else
      bif decide (o14.2.2.2.1 < (-1 : Int)) then
       some (.inr ((false, ())))
      else
      bif decide (o14.2.2.2.1 > (3 : Int)) then
       some (.inr ((false, ())))
      else
      some (.inl (o14.1, o14.2.1, o14.2.2.1, o14.2.2.2.1, o14.2.2.2.2.1, o14.2.2.2.2.2.1, o14.2.2.2.2.2.2.1, ()))) fun o16 =>
     Sum.elim (fun o17 =>
      (lsTableOk_2 N N (o17.1, o17.2.1, (1 : Int), o17.2.2.1, o17.2.2.2.1, o17.2.2.2.2.1, o17.2.2.2.2.2.1, o17.2.2.2.2.2.2.1, ())).bind fun o19 =>
      Sum.elim (fun o20 =>
       lsTableOk_0 N n (o20.1, w64 (o20.2.1 + (1 : Int)), ())) (fun o21 =>
       some (.inr ((o21.1, ())))) o19) (fun o22 =>
      some (.inr ((o22.1, ())))) o16) (fun o23 =>
     some (.inr ((o23.1, ())))) o13) (fun o24 =>
    some (.inr ((o24.1, ())))) o11
   else none
   else none
  else
  some (.inl ())
noncomputable def FsTableOk (N : Nat) (x : ((List tyq3) × Unit)) : Option (Bool × Unit) :=
 Option.bind (
  let y1 := decide ((x.1.length : Int) < (2 : Int))
  bif y1 then
   some (.inr ((false, ())))
  else
  let y2 := decide ((x.1.length : Int) > (12 : Int))
  bif y2 then
   some (.inr ((false, ())))
  else
  bif decide (0 ≤ (0 : Int)) then
  bif decide ((0 : Int).toNat < x.1.length) then
  let y3 := x.1.getD ((0 : Int).toNat) ((0 : Int), (0 : Int), (0 : Int), (0 : Int), (0 : Int), ())
  let y4 := !((y3.1 == (0 : Int)) && ((y3.2.1 == (-1 : Int)) && ((y3.2.2.1 == (0 : Int)) && ((y3.2.2.2.1 == (0 : Int)) && ((y3.2.2.2.2.1 == (0 : Int)) && (true))))))
  bif y4 then
   some (.inr ((false, ())))
  else
  some (.inl (x.1, ()))
  else none
  else none) fun o5 =>
 Sum.elim (fun o6 =>
  (lsTableOk_0 N N (o6.1, (1 : Int), ())).bind fun o25 =>
  Sum.elim (fun o26 =>
   some (true, ())) (fun o27 =>
   some (o27.1, ())) o25) (fun o28 =>
  some (o28.1, ())) o5
noncomputable def consTableOk (N : Nat) : Con := { f := 53, din := dinsTableOk, outs := outsTableOk, F := FsTableOk N }
noncomputable def XsTableOk (N : Nat) : Ctx := { E := EsTableOk N, H := HsTableOk, lp := [(2, { hd := dsTableOk_2, outs := osTableOk_2, run := fun v => lsTableOk_2 N N v }), (0, { hd := dsTableOk_0, outs := osTableOk_0, run := fun v => lsTableOk_0 N N v })], jn := [(3, jsTableOk_3), (10, jsTableOk_10), (12, jsTableOk_12), (14, jsTableOk_14)] }
noncomputable def bsTableOk_0 : Code := loopBody (codeOf Try.f53) 0
noncomputable def bsTableOk_2 : Code := loopBody bsTableOk_0 0
theorem FsTableOk_eq (N : Nat) (x : ((List tyq3) × Unit)) : evFn (XsTableOk N) Try.f53 dinsTableOk outsTableOk x = FsTableOk N x := by kernel_rfl
theorem lsTableOk_2_eq (N n : Nat) (v : ((List tyq3) × (Int × (Int × tyq3)))) : lsTableOk_2 N (n + 1) v = ev (XsTableOk N) bsTableOk_2 (roundK dsTableOk_2 osTableOk_2 (lsTableOk_2 N n)) (dsTableOk_2.mk' v) := by kernel_rfl
theorem lsTableOk_0_eq (N n : Nat) (v : ((List tyq3) × (Int × Unit))) : lsTableOk_0 N (n + 1) v = ev (XsTableOk N) bsTableOk_0 (roundK dsTableOk_0 osTableOk_0 (lsTableOk_0 N n)) (dsTableOk_0.mk' v) := by kernel_rfl
theorem cxsTableOk (N : Nat) : CtxOk Try.prog (XsTableOk N) := ⟨⟨TE_ok, List.forall_mem_cons.2 ⟨(specsRegionBase N), fun k hk => absurd hk List.not_mem_nil⟩⟩, mixed⟩
theorem lpsTableOk_2 (N : Nat) : LoopOk Try.prog { hd := dsTableOk_2, outs := osTableOk_2, run := fun v => lsTableOk_2 N N v } bsTableOk_2 :=
 loop_fuel (d := dsTableOk_2) (os := osTableOk_2) (cxsTableOk N) (loops_at (ids := []) (by kernel_rfl) (trivial)) (lsTableOk_2 N) (fun _ => rfl) (fun n v => lsTableOk_2_eq N n v) (fun _ => N)
theorem lpsTableOk_0 (N : Nat) : LoopOk Try.prog { hd := dsTableOk_0, outs := osTableOk_0, run := fun v => lsTableOk_0 N N v } bsTableOk_0 :=
 loop_fuel (d := dsTableOk_0) (os := osTableOk_0) (cxsTableOk N) (loops_at (ids := [2]) (by kernel_rfl) ⟨lp_of (lpsTableOk_2 N), trivial⟩) (lsTableOk_0 N) (fun _ => rfl) (fun n v => lsTableOk_0_eq N n v) (fun _ => N)
theorem specsTableOk (N : Nat) : Spec Try.prog (consTableOk N) :=
 Spec.of_eq (fn_spec (cxsTableOk N) (f := 53) (fn := Try.f53) (c := codeOf Try.f53) (by kernel_rfl) (by kernel_rfl) (by kernel_rfl) (loops_at (ids := [0]) (by kernel_rfl) ⟨lp_of (lpsTableOk_0 N), trivial⟩) (by kernel_rfl)) (fun x r h => (FsTableOk_eq N x).trans h)
noncomputable def dinsRegionOf : Desc := { n := 1, regs := [.one (.val (.int .i64))], bx := [], pins := [] }
noncomputable def outsRegionOf : Outs := [(.ret, { n := 1, regs := [.one (.val (.int .i64))], bx := [], pins := [] })]
noncomputable def HsRegionOf : Hints := []
noncomputable def EsRegionOf (_N : Nat) : Env := { te := TE, cs := [] }
noncomputable def FsRegionOf (N : Nat) (x : (Int × Unit)) : Option (Int × Unit) :=
 bif decide (x.1 < (0 : Int)) then
  some ((-1 : Int), ())
 else
 bif decide ((16 : Int) = 0) then
  none
 else
 some (w64 (Int.tdiv x.1 (16 : Int)), ())
noncomputable def consRegionOf (N : Nat) : Con := { f := 85, din := dinsRegionOf, outs := outsRegionOf, F := FsRegionOf N }
noncomputable def XsRegionOf (N : Nat) : Ctx := { E := EsRegionOf N, H := HsRegionOf, lp := [], jn := [] }
theorem FsRegionOf_eq (N : Nat) (x : (Int × Unit)) : evFn (XsRegionOf N) Try.f85 dinsRegionOf outsRegionOf x = FsRegionOf N x := by kernel_rfl
theorem cxsRegionOf (N : Nat) : CtxOk Try.prog (XsRegionOf N) := ⟨⟨TE_ok, fun k hk => absurd hk List.not_mem_nil⟩, mixed⟩
theorem specsRegionOf (N : Nat) : Spec Try.prog (consRegionOf N) :=
 Spec.of_eq (fn_spec (cxsRegionOf N) (f := 85) (fn := Try.f85) (c := codeOf Try.f85) (by kernel_rfl) (by kernel_rfl) (by kernel_rfl) (loops_at (ids := []) (by kernel_rfl) (trivial)) (by kernel_rfl)) (fun x r h => (FsRegionOf_eq N x).trans h)
noncomputable def dinsl3Fits : Desc := { n := 3, regs := [.one (.val (.sl (.int .i64))), .one (.val (.int .i64)), .one (.val (.int .i64))], bx := [], pins := [] }
noncomputable def outsl3Fits : Outs := [(.ret, { n := 1, regs := [.one (.val .bool)], bx := [], pins := [] })]
noncomputable def Hsl3Fits : Hints := [(1, [(22, { con := 1 }), (27, { con := 1 })])]
noncomputable def Esl3Fits (N : Nat) : Env := { te := TE, cs := [consWordsOk N, consRegionOf N] }
noncomputable def Fsl3Fits (N : Nat) (x : ((List Int) × (Int × (Int × Unit)))) : Option (Bool × Unit) :=
 (FsWordsOk N (x.1, ())).bind fun r1 =>
 bif r1.1 then
  bif decide (x.2.2.1 > (0 : Int)) then
   bif decide (x.2.2.1 ≤ (16 : Int)) then
    bif decide (x.2.1 ≥ (16 : Int)) then
     bif decide (x.2.1 < (x.1.length : Int)) then
      (FsRegionOf N (x.2.1, ())).bind fun r2 =>
      let y3 := w64 ((w64 (x.2.1 + x.2.2.1)) - (1 : Int))
      (FsRegionOf N (y3, ())).bind fun r4 =>
      some (r2.1 == r4.1, ())
     else
     some (false, ())
    else
    some (false, ())
   else
   some (false, ())
  else
  some (false, ())
 else
 some (false, ())
noncomputable def consl3Fits (N : Nat) : Con := { f := 104, din := dinsl3Fits, outs := outsl3Fits, F := Fsl3Fits N }
noncomputable def Xsl3Fits (N : Nat) : Ctx := { E := Esl3Fits N, H := Hsl3Fits, lp := [], jn := [] }
theorem Fsl3Fits_eq (N : Nat) (x : ((List Int) × (Int × (Int × Unit)))) : evFn (Xsl3Fits N) Try.f104 dinsl3Fits outsl3Fits x = Fsl3Fits N x := by kernel_rfl
theorem cxsl3Fits (N : Nat) : CtxOk Try.prog (Xsl3Fits N) := ⟨⟨TE_ok, List.forall_mem_cons.2 ⟨(specsWordsOk N), List.forall_mem_cons.2 ⟨(specsRegionOf N), fun k hk => absurd hk List.not_mem_nil⟩⟩⟩, mixed⟩
theorem specsl3Fits (N : Nat) : Spec Try.prog (consl3Fits N) :=
 Spec.of_eq (fn_spec (cxsl3Fits N) (f := 104) (fn := Try.f104) (c := codeOf Try.f104) (by kernel_rfl) (by kernel_rfl) (by kernel_rfl) (loops_at (ids := []) (by kernel_rfl) (trivial)) (by kernel_rfl)) (fun x r h => (Fsl3Fits_eq N x).trans h)
noncomputable def dinsShapeOk : Desc := { n := 1, regs := [.one (.val (.pair (.int .i64) (.pair (.int .i64) .unit)))], bx := [], pins := [] }
noncomputable def outsShapeOk : Outs := [(.ret, { n := 1, regs := [.one (.val .bool)], bx := [], pins := [] })]
noncomputable def HsShapeOk : Hints := [(0, [(0, { fz := true })])]
noncomputable def EsShapeOk (_N : Nat) : Env := { te := TE, cs := [] }
noncomputable def FsShapeOk (N : Nat) (x : ((Int × (Int × Unit)) × Unit)) : Option (Bool × Unit) :=
 bif decide (x.1.1 ≥ (0 : Int)) then
  bif decide (x.1.1 ≤ (4 : Int)) then
   bif decide (x.1.2.1 ≥ (0 : Int)) then
    some (decide (x.1.2.1 ≤ (4 : Int)), ())
   else
   some (false, ())
  else
  some (false, ())
 else
 some (false, ())
noncomputable def consShapeOk (N : Nat) : Con := { f := 106, din := dinsShapeOk, outs := outsShapeOk, F := FsShapeOk N }
noncomputable def XsShapeOk (N : Nat) : Ctx := { E := EsShapeOk N, H := HsShapeOk, lp := [], jn := [] }
theorem FsShapeOk_eq (N : Nat) (x : ((Int × (Int × Unit)) × Unit)) : evFn (XsShapeOk N) Try.f106 dinsShapeOk outsShapeOk x = FsShapeOk N x := by kernel_rfl
theorem cxsShapeOk (N : Nat) : CtxOk Try.prog (XsShapeOk N) := ⟨⟨TE_ok, fun k hk => absurd hk List.not_mem_nil⟩, mixed⟩
theorem specsShapeOk (N : Nat) : Spec Try.prog (consShapeOk N) :=
 Spec.of_eq (fn_spec (cxsShapeOk N) (f := 106) (fn := Try.f106) (c := codeOf Try.f106) (by kernel_rfl) (by kernel_rfl) (by kernel_rfl) (loops_at (ids := []) (by kernel_rfl) (trivial)) (by kernel_rfl)) (fun x r h => (FsShapeOk_eq N x).trans h)
noncomputable def dinsShapeWord : Desc := { n := 1, regs := [.one (.val (.pair (.int .i64) (.pair (.int .i64) .unit)))], bx := [], pins := [] }
noncomputable def outsShapeWord : Outs := [(.ret, { n := 1, regs := [.one (.val (.int .i64))], bx := [], pins := [] })]
noncomputable def HsShapeWord : Hints := [(0, [(0, { fz := true })])]
noncomputable def EsShapeWord (N : Nat) : Env := { te := TE, cs := [consShapeOk N] }
noncomputable def FsShapeWord (N : Nat) (x : ((Int × (Int × Unit)) × Unit)) : Option (Int × Unit) :=
 (FsShapeOk N (x.1, ())).bind fun r1 =>
 bif !r1.1 then
  some ((-1 : Int), ())
 else
 let y2 := w64 ((w64 ((16 : Int) * x.1.1)) + x.1.2.1)
 some (y2, ())
noncomputable def consShapeWord (N : Nat) : Con := { f := 105, din := dinsShapeWord, outs := outsShapeWord, F := FsShapeWord N }
noncomputable def XsShapeWord (N : Nat) : Ctx := { E := EsShapeWord N, H := HsShapeWord, lp := [], jn := [] }
theorem FsShapeWord_eq (N : Nat) (x : ((Int × (Int × Unit)) × Unit)) : evFn (XsShapeWord N) Try.f105 dinsShapeWord outsShapeWord x = FsShapeWord N x := by kernel_rfl
theorem cxsShapeWord (N : Nat) : CtxOk Try.prog (XsShapeWord N) := ⟨⟨TE_ok, List.forall_mem_cons.2 ⟨(specsShapeOk N), fun k hk => absurd hk List.not_mem_nil⟩⟩, mixed⟩
theorem specsShapeWord (N : Nat) : Spec Try.prog (consShapeWord N) :=
 Spec.of_eq (fn_spec (cxsShapeWord N) (f := 105) (fn := Try.f105) (c := codeOf Try.f105) (by kernel_rfl) (by kernel_rfl) (by kernel_rfl) (loops_at (ids := []) (by kernel_rfl) (trivial)) (by kernel_rfl)) (fun x r h => (FsShapeWord_eq N x).trans h)
noncomputable def dinsShapeOf : Desc := { n := 1, regs := [.one (.val (.int .i64))], bx := [], pins := [] }
noncomputable def outsShapeOf : Outs := [(.ret, { n := 2, regs := [.agg [.val (.int .i64), .val (.int .i64)], .one (.val .bool)], bx := [], pins := [] })]
noncomputable def HsShapeOf : Hints := []
noncomputable def EsShapeOf (N : Nat) : Env := { te := TE, cs := [consShapeWord N] }
noncomputable def dsShapeOf_2 : Desc := { n := 24, regs := [.one (.val (.int .i64)), u, .one (.lit (.ptr 1000000 0)), u, .one (.val (.int .i64)), .one (.val (.int .i64))], bx := [(1000000, .var [.val (.int .i64), .val (.int .i64)])], pins := [] }
noncomputable def osShapeOf_2 : Outs := [(.exit 2, { n := 24, regs := [.one (.val (.int .i64)), u, .one (.lit (.ptr 1000000 0)), u, .one (.val (.int .i64))], bx := [(1000000, .var [.val (.int .i64), .val (.int .i64)])], pins := [] }), (.ret, { n := 24, regs := [u, u, .one (.lit (.ptr 1000000 0)), .one (.val .bool)], bx := [(1000000, .var [.val (.int .i64), .val (.int .i64)])], pins := [] })]
noncomputable def dsShapeOf_0 : Desc := { n := 24, regs := [.one (.val (.int .i64)), u, .one (.lit (.ptr 1000000 0)), u, .one (.val (.int .i64))], bx := [(1000000, .var [.val (.int .i64), .val (.int .i64)])], pins := [] }
noncomputable def osShapeOf_0 : Outs := [(.exit 0, { n := 24, regs := [u, u, .one (.lit (.ptr 1000000 0))], bx := [(1000000, .var [.val (.int .i64), .val (.int .i64)])], pins := [] }), (.ret, { n := 24, regs := [u, u, .one (.lit (.ptr 1000000 0)), .one (.val .bool)], bx := [(1000000, .var [.val (.int .i64), .val (.int .i64)])], pins := [] })]
noncomputable def lsShapeOf_2 (N : Nat) : Nat → tyq3 → Option ((Int × (Int × (Int × (Int × Unit)))) ⊕ (Bool × (Int × (Int × Unit))))
 | 0, _ => none
 | n + 1, v =>
  bif decide (v.2.2.1 ≤ (4 : Int)) then
   (FsShapeWord N ((v.2.1, v.2.2.1, ()), ())).bind fun r1 =>
   bif r1.1 == v.1 then
    some (.inr ((true, v.2.1, v.2.2.1, ())))
   else
   lsShapeOf_2 N n (v.1, v.2.1, w64 (v.2.2.1 + (1 : Int)), v.2.2.2.1, v.2.2.2.2.1, ())
  else
  some (.inl (v.1, v.2.1, v.2.2.2.1, v.2.2.2.2.1, ()))
noncomputable def lsShapeOf_0 (N : Nat) : Nat → (Int × (Int × (Int × (Int × Unit)))) → Option ((Int × (Int × Unit)) ⊕ (Bool × (Int × (Int × Unit))))
 | 0, _ => none
 | n + 1, v =>
  bif decide (v.2.1 ≤ (4 : Int)) then
   (lsShapeOf_2 N N (v.1, v.2.1, (0 : Int), v.2.2.1, v.2.2.2.1, ())).bind fun o2 =>
   Sum.elim (fun o3 =>
    lsShapeOf_0 N n (o3.1, w64 (o3.2.1 + (1 : Int)), o3.2.2.1, o3.2.2.2.1, ())) (fun o4 =>
    some (.inr ((o4.1, o4.2.1, o4.2.2.1, ())))) o2
  else
  some (.inl (v.2.2.1, v.2.2.2.1, ()))
noncomputable def FsShapeOf (N : Nat) (x : (Int × Unit)) : Option (Int × (Int × (Bool × Unit))) :=
 (lsShapeOf_0 N N (x.1, (0 : Int), (0 : Int), (0 : Int), ())).bind fun o5 =>
 Sum.elim (fun o6 =>
  some ((0 : Int), (0 : Int), false, ())) (fun o7 =>
  some (o7.2.1, o7.2.2.1, o7.1, ())) o5
noncomputable def consShapeOf (N : Nat) : Con := { f := 121, din := dinsShapeOf, outs := outsShapeOf, F := FsShapeOf N }
noncomputable def XsShapeOf (N : Nat) : Ctx := { E := EsShapeOf N, H := HsShapeOf, lp := [(2, { hd := dsShapeOf_2, outs := osShapeOf_2, run := fun v => lsShapeOf_2 N N v }), (0, { hd := dsShapeOf_0, outs := osShapeOf_0, run := fun v => lsShapeOf_0 N N v })], jn := [] }
noncomputable def bsShapeOf_0 : Code := loopBody (codeOf Try.f121) 0
noncomputable def bsShapeOf_2 : Code := loopBody bsShapeOf_0 0
theorem FsShapeOf_eq (N : Nat) (x : (Int × Unit)) : evFn (XsShapeOf N) Try.f121 dinsShapeOf outsShapeOf x = FsShapeOf N x := by kernel_rfl
theorem lsShapeOf_2_eq (N n : Nat) (v : tyq3) : lsShapeOf_2 N (n + 1) v = ev (XsShapeOf N) bsShapeOf_2 (roundK dsShapeOf_2 osShapeOf_2 (lsShapeOf_2 N n)) (dsShapeOf_2.mk' v) := by kernel_rfl
theorem lsShapeOf_0_eq (N n : Nat) (v : (Int × (Int × (Int × (Int × Unit))))) : lsShapeOf_0 N (n + 1) v = ev (XsShapeOf N) bsShapeOf_0 (roundK dsShapeOf_0 osShapeOf_0 (lsShapeOf_0 N n)) (dsShapeOf_0.mk' v) := by kernel_rfl
theorem cxsShapeOf (N : Nat) : CtxOk Try.prog (XsShapeOf N) := ⟨⟨TE_ok, List.forall_mem_cons.2 ⟨(specsShapeWord N), fun k hk => absurd hk List.not_mem_nil⟩⟩, mixed⟩
theorem lpsShapeOf_2 (N : Nat) : LoopOk Try.prog { hd := dsShapeOf_2, outs := osShapeOf_2, run := fun v => lsShapeOf_2 N N v } bsShapeOf_2 :=
 loop_fuel (d := dsShapeOf_2) (os := osShapeOf_2) (cxsShapeOf N) (loops_at (ids := []) (by kernel_rfl) (trivial)) (lsShapeOf_2 N) (fun _ => rfl) (fun n v => lsShapeOf_2_eq N n v) (fun _ => N)
theorem lpsShapeOf_0 (N : Nat) : LoopOk Try.prog { hd := dsShapeOf_0, outs := osShapeOf_0, run := fun v => lsShapeOf_0 N N v } bsShapeOf_0 :=
 loop_fuel (d := dsShapeOf_0) (os := osShapeOf_0) (cxsShapeOf N) (loops_at (ids := [2]) (by kernel_rfl) ⟨lp_of (lpsShapeOf_2 N), trivial⟩) (lsShapeOf_0 N) (fun _ => rfl) (fun n v => lsShapeOf_0_eq N n v) (fun _ => N)
theorem specsShapeOf (N : Nat) : Spec Try.prog (consShapeOf N) :=
 Spec.of_eq (fn_spec (cxsShapeOf N) (f := 121) (fn := Try.f121) (c := codeOf Try.f121) (by kernel_rfl) (by kernel_rfl) (by kernel_rfl) (loops_at (ids := [0]) (by kernel_rfl) ⟨lp_of (lpsShapeOf_0 N), trivial⟩) (by kernel_rfl)) (fun x r h => (FsShapeOf_eq N x).trans h)
noncomputable def dinsShapeSize : Desc := { n := 1, regs := [.one (.val (.pair (.int .i64) (.pair (.int .i64) .unit)))], bx := [], pins := [] }
noncomputable def outsShapeSize : Outs := [(.ret, { n := 1, regs := [.one (.val (.int .i64))], bx := [], pins := [] })]
noncomputable def HsShapeSize : Hints := [(0, [(0, { fz := true })])]
noncomputable def EsShapeSize (N : Nat) : Env := { te := TE, cs := [consShapeOk N] }
noncomputable def FsShapeSize (N : Nat) (x : ((Int × (Int × Unit)) × Unit)) : Option (Int × Unit) :=
 (FsShapeOk N (x.1, ())).bind fun r1 =>
 bif !r1.1 then
  some ((0 : Int), ())
 else
 let y2 := w64 ((w64 ((2 : Int) + x.1.1)) + x.1.2.1)
 some (y2, ())
noncomputable def consShapeSize (N : Nat) : Con := { f := 67, din := dinsShapeSize, outs := outsShapeSize, F := FsShapeSize N }
noncomputable def XsShapeSize (N : Nat) : Ctx := { E := EsShapeSize N, H := HsShapeSize, lp := [], jn := [] }
theorem FsShapeSize_eq (N : Nat) (x : ((Int × (Int × Unit)) × Unit)) : evFn (XsShapeSize N) Try.f67 dinsShapeSize outsShapeSize x = FsShapeSize N x := by kernel_rfl
theorem cxsShapeSize (N : Nat) : CtxOk Try.prog (XsShapeSize N) := ⟨⟨TE_ok, List.forall_mem_cons.2 ⟨(specsShapeOk N), fun k hk => absurd hk List.not_mem_nil⟩⟩, mixed⟩
theorem specsShapeSize (N : Nat) : Spec Try.prog (consShapeSize N) :=
 Spec.of_eq (fn_spec (cxsShapeSize N) (f := 67) (fn := Try.f67) (c := codeOf Try.f67) (by kernel_rfl) (by kernel_rfl) (by kernel_rfl) (loops_at (ids := []) (by kernel_rfl) (trivial)) (by kernel_rfl)) (fun x r h => (FsShapeSize_eq N x).trans h)
noncomputable def dinsThingAt : Desc := { n := 2, regs := [.one (.val (.sl (.int .i64))), .one (.val (.int .i64))], bx := [], pins := [] }
noncomputable def outsThingAt : Outs := [(.ret, { n := 2, regs := [.agg [.val (.int .i64), .val (.int .i64), .val (.int .i64), .val (.int .i64), .lit (.row 1025605), .lit (.row 1025606)], .one (.val .bool)], bx := [(1025605, .row (.int .i64)), (1025606, .row (.int .i64))], pins := [] })]
noncomputable def HsThingAt : Hints := [(2, [(0, { nl := [(4, (.int .i64)), (5, (.int .i64))] })]),
 (3, [(5, { con := 1 })]),
 (4, [(6, { con := 2 })]),
 (5, [(0, { nl := [(4, (.int .i64)), (5, (.int .i64))] })]),
 (6, [(6, { nl := [(4, (.int .i64)), (5, (.int .i64))] })])]
noncomputable def EsThingAt (N : Nat) : Env := { te := TE, cs := [consl3Fits N, consShapeOf N, consShapeSize N] }
noncomputable def dsThingAt_0 : Desc := { n := 83, regs := [.one (.val (.sl (.int .i64))), .one (.val (.int .i64)), u, u, .one (.lit (.ptr 1000000 0)), u, .one (.lit (.ptr 1038976 0)), u, .one (.lit (.ptr 1077248 0)), .one (.val (.int .i64))], bx := [(1000000, .var [.val (.int .i64), .val (.int .i64), .val (.int .i64), .val (.int .i64), .lit .nil, .lit .nil]), (1038976, .var [.val (.int .i64), .val (.int .i64)]), (1077248, .var [.val (.int .i64), .val (.int .i64), .val (.int .i64), .val (.int .i64), .lit (.row 1077189), .lit (.row 1077190)]), (1077189, .row (.int .i64)), (1077190, .row (.int .i64))], pins := [] }
noncomputable def osThingAt_0 : Outs := [(.exit 0, { n := 83, regs := [.one (.val (.sl (.int .i64))), .one (.val (.int .i64)), u, u, .one (.lit (.ptr 1000000 0)), u, .one (.lit (.ptr 1038976 0)), u, .one (.lit (.ptr 1077248 0))], bx := [(1000000, .var [.val (.int .i64), .val (.int .i64), .val (.int .i64), .val (.int .i64), .lit .nil, .lit .nil]), (1038976, .var [.val (.int .i64), .val (.int .i64)]), (1077248, .var [.val (.int .i64), .val (.int .i64), .val (.int .i64), .val (.int .i64), .lit (.row 1077189), .lit (.row 1077190)]), (1077189, .row (.int .i64)), (1077190, .row (.int .i64))], pins := [] })]
noncomputable def dsThingAt_2 : Desc := { n := 83, regs := [.one (.val (.sl (.int .i64))), .one (.val (.int .i64)), u, u, .one (.lit (.ptr 1000000 0)), u, .one (.lit (.ptr 1038976 0)), u, .one (.lit (.ptr 1077248 0)), u, .one (.val (.int .i64))], bx := [(1000000, .var [.val (.int .i64), .val (.int .i64), .val (.int .i64), .val (.int .i64), .lit .nil, .lit .nil]), (1038976, .var [.val (.int .i64), .val (.int .i64)]), (1077248, .var [.val (.int .i64), .val (.int .i64), .val (.int .i64), .val (.int .i64), .lit (.row 1077189), .lit (.row 1077190)]), (1077189, .row (.int .i64)), (1077190, .row (.int .i64))], pins := [] }
noncomputable def osThingAt_2 : Outs := [(.exit 2, { n := 83, regs := [u, u, u, u, .one (.lit (.ptr 1000000 0)), u, u, u, .one (.lit (.ptr 1077248 0))], bx := [(1000000, .var [.val (.int .i64), .val (.int .i64), .val (.int .i64), .val (.int .i64), .lit .nil, .lit .nil]), (1077248, .var [.val (.int .i64), .val (.int .i64), .val (.int .i64), .val (.int .i64), .lit (.row 1077189), .lit (.row 1077190)]), (1077189, .row (.int .i64)), (1077190, .row (.int .i64))], pins := [] })]
noncomputable def jsThingAt_6 : Outs := [(.normal, { n := 83, regs := [.one (.val (.sl (.int .i64))), .one (.val (.int .i64)), u, u, .one (.lit (.ptr 1000000 0)), u, .one (.lit (.ptr 1038976 0))], bx := [(1000000, .var [.val (.int .i64), .val (.int .i64), .val (.int .i64), .val (.int .i64), .lit .nil, .lit .nil]), (1038976, .var [.val (.int .i64), .val (.int .i64)])], pins := [] }), (.ret, { n := 83, regs := [u, u, u, u, .one (.lit (.ptr 1000000 0)), .one (.val .bool)], bx := [(1000000, .var [.val (.int .i64), .val (.int .i64), .val (.int .i64), .val (.int .i64), .lit (.row 1064005), .lit (.row 1064006)]), (1064005, .row (.int .i64)), (1064006, .row (.int .i64))], pins := [] })]
noncomputable def lsThingAt_0 (N : Nat) : Nat → ((List Int) × (Int × (Int × (Int × (Int × (Int × (Int × (Int × (Int × tyq6))))))))) → Option ((List Int) × (Int × (Int × (Int × (Int × (Int × (Int × (Int × tyq6))))))))
 | 0, _ => none
 | n + 1, v =>
  bif decide (v.2.2.1 < v.2.2.2.2.2.2.2.1) then
   let y8 := w64 ((w64 (v.2.1 + (2 : Int))) + v.2.2.1)
   bif decide (0 ≤ y8) then
   bif decide (y8.toNat < v.1.length) then
   bif decide (v.2.2.2.2.2.2.2.2.2.2.2.2.2.1.length + [v.1.getD y8.toNat (0 : Int)].length ≤ lim) then
   let y9 := v.2.2.2.2.2.2.2.2.2.2.2.2.2.1 ++ [v.1.getD y8.toNat (0 : Int)]
   lsThingAt_0 N n (v.1, v.2.1, w64 (v.2.2.1 + (1 : Int)), v.2.2.2.1, v.2.2.2.2.1, v.2.2.2.2.2.1, v.2.2.2.2.2.2.1, v.2.2.2.2.2.2.2.1, v.2.2.2.2.2.2.2.2.1, v.2.2.2.2.2.2.2.2.2.1, v.2.2.2.2.2.2.2.2.2.2.1, v.2.2.2.2.2.2.2.2.2.2.2.1, v.2.2.2.2.2.2.2.2.2.2.2.2.1, y9, v.2.2.2.2.2.2.2.2.2.2.2.2.2.2.1, ())
   else none
   else none
   else none
  else
  some (v.1, v.2.1, v.2.2.2.1, v.2.2.2.2.1, v.2.2.2.2.2.1, v.2.2.2.2.2.2.1, v.2.2.2.2.2.2.2.1, v.2.2.2.2.2.2.2.2.1, v.2.2.2.2.2.2.2.2.2.1, v.2.2.2.2.2.2.2.2.2.2.1, v.2.2.2.2.2.2.2.2.2.2.2.1, v.2.2.2.2.2.2.2.2.2.2.2.2.1, v.2.2.2.2.2.2.2.2.2.2.2.2.2.1, v.2.2.2.2.2.2.2.2.2.2.2.2.2.2.1, ())
noncomputable def lsThingAt_2 (N : Nat) : Nat → ((List Int) × (Int × (Int × (Int × (Int × (Int × (Int × (Int × (Int × tyq6))))))))) → Option (Int × (Int × (Int × (Int × tyq6))))
 | 0, _ => none
 | n + 1, v =>
  let y11 := decide (v.2.2.1 < v.2.2.2.2.2.2.2.2.1)
  bif y11 then
   let y12 := w64 ((w64 (v.2.1 + (2 : Int))) + v.2.2.2.2.2.2.2.1)
   bif decide (0 ≤ (w64 (y12 + v.2.2.1))) then
   bif decide ((w64 (y12 + v.2.2.1)).toNat < v.1.length) then
   let y13 := v.1.getD ((w64 (y12 + v.2.2.1)).toNat) (0 : Int)
   bif decide (v.2.2.2.2.2.2.2.2.2.2.2.2.2.2.1.length + [y13].length ≤ lim) then
   let y14 := v.2.2.2.2.2.2.2.2.2.2.2.2.2.2.1 ++ [y13]
   lsThingAt_2 N n (v.1, v.2.1, w64 (v.2.2.1 + (1 : Int)), v.2.2.2.1, v.2.2.2.2.1, v.2.2.2.2.2.1, v.2.2.2.2.2.2.1, v.2.2.2.2.2.2.2.1, v.2.2.2.2.2.2.2.2.1, v.2.2.2.2.2.2.2.2.2.1, v.2.2.2.2.2.2.2.2.2.2.1, v.2.2.2.2.2.2.2.2.2.2.2.1, v.2.2.2.2.2.2.2.2.2.2.2.2.1, v.2.2.2.2.2.2.2.2.2.2.2.2.2.1, y14, ())
   else none
   else none
   else none
  else
  some (v.2.2.2.1, v.2.2.2.2.1, v.2.2.2.2.2.1, v.2.2.2.2.2.2.1, v.2.2.2.2.2.2.2.2.2.1, v.2.2.2.2.2.2.2.2.2.2.1, v.2.2.2.2.2.2.2.2.2.2.2.1, v.2.2.2.2.2.2.2.2.2.2.2.2.1, v.2.2.2.2.2.2.2.2.2.2.2.2.2.1, v.2.2.2.2.2.2.2.2.2.2.2.2.2.2.1, ())
noncomputable def FsThingAt (N : Nat) (x : ((List Int) × (Int × Unit))) : Option (Int × (Int × (Int × (Int × (Bool × ((List Int) × ((List Int) × Unit))))))) :=
 (Fsl3Fits N (x.1, x.2.1, (2 : Int), ())).bind fun r1 =>
 bif !r1.1 then
  some ((0 : Int), (0 : Int), (0 : Int), (0 : Int), false, ([] : (List Int)), ([] : (List Int)), ())
 else
 bif decide (0 ≤ (w64 (x.2.1 + (1 : Int)))) then
 bif decide ((w64 (x.2.1 + (1 : Int))).toNat < x.1.length) then
 let y2 := x.1.getD ((w64 (x.2.1 + (1 : Int))).toNat) (0 : Int)
 (FsShapeOf N (y2, ())).bind fun r3 =>
 Option.bind (
  bif !r3.2.2.1 then
   some (.inr ((false, (0 : Int), (0 : Int), (0 : Int), (0 : Int), ([] : (List Int)), ([] : (List Int)), ())))
  else
  (FsShapeSize N ((r3.1, r3.2.1, ()), ())).bind fun r4 =>
  (Fsl3Fits N (x.1, x.2.1, r4.1, ())).bind fun r5 =>
  bif !r5.1 then
   some (.inr ((false, (0 : Int), (0 : Int), (0 : Int), (0 : Int), ([] : (List Int)), ([] : (List Int)), ())))
  else
  some (.inl (x.1, x.2.1, (0 : Int), (0 : Int), (0 : Int), (0 : Int), r3.1, r3.2.1, ()))) fun o6 =>
 Sum.elim (fun o7 =>
  bif decide (0 ≤ o7.2.1) then
  bif decide (o7.2.1.toNat < o7.1.length) then
  (lsThingAt_0 N N (o7.1, o7.2.1, (0 : Int), o7.2.2.1, o7.2.2.2.1, o7.2.2.2.2.1, o7.2.2.2.2.2.1, o7.2.2.2.2.2.2.1, o7.2.2.2.2.2.2.2.1, o7.2.1, o7.1.getD o7.2.1.toNat (0 : Int), o7.2.2.2.2.2.2.1, o7.2.2.2.2.2.2.2.1, ([] : (List Int)), ([] : (List Int)), ())).bind fun o10 =>
  (lsThingAt_2 N N (o10.1, o10.2.1, (0 : Int), o10.2.2.1, o10.2.2.2.1, o10.2.2.2.2.1, o10.2.2.2.2.2.1, o10.2.2.2.2.2.2.1, o10.2.2.2.2.2.2.2.1, o10.2.2.2.2.2.2.2.2.1, o10.2.2.2.2.2.2.2.2.2.1, o10.2.2.2.2.2.2.2.2.2.2.1, o10.2.2.2.2.2.2.2.2.2.2.2.1, o10.2.2.2.2.2.2.2.2.2.2.2.2.1, o10.2.2.2.2.2.2.2.2.2.2.2.2.2.1, ())).bind fun o15 =>
  some (o15.2.2.2.2.1, o15.2.2.2.2.2.1, o15.2.2.2.2.2.2.1, o15.2.2.2.2.2.2.2.1, true, o15.2.2.2.2.2.2.2.2.1, o15.2.2.2.2.2.2.2.2.2.1, ())
  else none
  else none) (fun o16 =>
  some (o16.2.1, o16.2.2.1, o16.2.2.2.1, o16.2.2.2.2.1, o16.1, o16.2.2.2.2.2.1, o16.2.2.2.2.2.2.1, ())) o6
 else none
 else none
noncomputable def consThingAt (N : Nat) : Con := { f := 94, din := dinsThingAt, outs := outsThingAt, F := FsThingAt N }
noncomputable def XsThingAt (N : Nat) : Ctx := { E := EsThingAt N, H := HsThingAt, lp := [(0, { hd := dsThingAt_0, outs := osThingAt_0, run := fun v => lsThingAt_0 N N v }), (2, { hd := dsThingAt_2, outs := osThingAt_2, run := fun v => lsThingAt_2 N N v })], jn := [(6, jsThingAt_6)] }
noncomputable def bsThingAt_2 : Code := loopBody (codeOf Try.f94) 1
noncomputable def bsThingAt_0 : Code := loopBody (codeOf Try.f94) 0
theorem FsThingAt_eq (N : Nat) (x : ((List Int) × (Int × Unit))) : evFn (XsThingAt N) Try.f94 dinsThingAt outsThingAt x = FsThingAt N x := by kernel_rfl
theorem lsThingAt_0_eq (N n : Nat) (v : ((List Int) × (Int × (Int × (Int × (Int × (Int × (Int × (Int × (Int × tyq6)))))))))) : lsThingAt_0 N (n + 1) v = ev (XsThingAt N) bsThingAt_0 (roundK dsThingAt_0 osThingAt_0 (lsThingAt_0 N n)) (dsThingAt_0.mk' v) := by kernel_rfl
theorem lsThingAt_2_eq (N n : Nat) (v : ((List Int) × (Int × (Int × (Int × (Int × (Int × (Int × (Int × (Int × tyq6)))))))))) : lsThingAt_2 N (n + 1) v = ev (XsThingAt N) bsThingAt_2 (roundK dsThingAt_2 osThingAt_2 (lsThingAt_2 N n)) (dsThingAt_2.mk' v) := by kernel_rfl
theorem cxsThingAt (N : Nat) : CtxOk Try.prog (XsThingAt N) := ⟨⟨TE_ok, List.forall_mem_cons.2 ⟨(specsl3Fits N), List.forall_mem_cons.2 ⟨(specsShapeOf N), List.forall_mem_cons.2 ⟨(specsShapeSize N), fun k hk => absurd hk List.not_mem_nil⟩⟩⟩⟩, mixed⟩
theorem lpsThingAt_0 (N : Nat) : LoopOk Try.prog { hd := dsThingAt_0, outs := osThingAt_0, run := fun v => lsThingAt_0 N N v } bsThingAt_0 :=
 loop_fuel (d := dsThingAt_0) (os := osThingAt_0) (cxsThingAt N) (loops_at (ids := []) (by kernel_rfl) (trivial)) (lsThingAt_0 N) (fun _ => rfl) (fun n v => lsThingAt_0_eq N n v) (fun _ => N)
theorem lpsThingAt_2 (N : Nat) : LoopOk Try.prog { hd := dsThingAt_2, outs := osThingAt_2, run := fun v => lsThingAt_2 N N v } bsThingAt_2 :=
 loop_fuel (d := dsThingAt_2) (os := osThingAt_2) (cxsThingAt N) (loops_at (ids := []) (by kernel_rfl) (trivial)) (lsThingAt_2 N) (fun _ => rfl) (fun n v => lsThingAt_2_eq N n v) (fun _ => N)
theorem specsThingAt (N : Nat) : Spec Try.prog (consThingAt N) :=
 Spec.of_eq (fn_spec (cxsThingAt N) (f := 94) (fn := Try.f94) (c := codeOf Try.f94) (by kernel_rfl) (by kernel_rfl) (by kernel_rfl) (loops_at (ids := [0, 2]) (by kernel_rfl) ⟨lp_of (lpsThingAt_0 N), ⟨lp_of (lpsThingAt_2 N), trivial⟩⟩) (by kernel_rfl)) (fun x r h => (FsThingAt_eq N x).trans h)
noncomputable def dinsThingsIn : Desc := { n := 3, regs := [.one (.val (.sl (.int .i64))), .one (.val (.int .i64)), .one (.val (.int .i64))], bx := [], pins := [] }
noncomputable def outsThingsIn : Outs := [(.ret, { n := 2, regs := [.one (.lit (.row 1038400)), .one (.val .bool)], bx := [(1038400, .row tyq9)], pins := [] })]
noncomputable def HsThingsIn : Hints := [(1, [(17, { con := 1 }), (23, { con := 1 })]),
 (2, [(0, { nl := [(0, tyq9)] })]),
 (3, [(0, { nl := [(0, tyq9)] })]),
 (4, [(1, { con := 1 })]),
 (6, [(2, { con := 2 })]),
 (7, [(6, { con := 3 })]),
 (8, [(0, { nl := [(0, tyq9)] })]),
 (9, [(2, { dp := true }), (3, { dp := true })]),
 (10, [(3, { con := 3 })])]
noncomputable def EsThingsIn (N : Nat) : Env := { te := TE, cs := [consWordsOk N, consRegionBase N, consThingAt N, consShapeSize N] }
noncomputable def dsThingsIn_0 : Desc := { n := 71, regs := [.one (.val (.sl (.int .i64))), u, .one (.val (.int .i64)), u, u, u, u, u, .one (.lit (.row 1038400)), .one (.val (.int .i64))], bx := [(1038400, .row tyq9)], pins := [] }
noncomputable def osThingsIn_0 : Outs := [(.exit 0, { n := 71, regs := [u, u, u, u, u, u, u, u, .one (.lit (.row 1038400))], bx := [(1038400, .row tyq9)], pins := [] }), (.ret, { n := 71, regs := [u, u, u, u, u, u, .one (.lit (.row 1102400)), .one (.val .bool)], bx := [(1102400, .row tyq9)], pins := [] })]
noncomputable def jsThingsIn_3 : Outs := [(.normal, { n := 71, regs := [.one (.val (.sl (.int .i64))), .one (.val (.int .i64)), .one (.val (.int .i64))], bx := [], pins := [] }), (.ret, { n := 71, regs := [u, u, u, u, u, u, .one (.lit (.row 1025600)), .one (.val .bool)], bx := [(1025600, .row tyq9)], pins := [] })]
noncomputable def jsThingsIn_9 : Outs := [(.normal, { n := 71, regs := [.one (.val (.sl (.int .i64))), u, .one (.val (.int .i64)), u, u, u, u, u, .one (.lit (.row 1038400)), .one (.val (.int .i64)), .one (.lit (.ptr 1077184 0))], bx := [(1038400, .row tyq9), (1077184, .var [.val (.int .i64), .val (.int .i64), .val (.int .i64), .val (.int .i64), .lit (.row 1076929), .lit (.row 1076930)]), (1076929, .row (.int .i64)), (1076930, .row (.int .i64))], pins := [] }), (.ret, { n := 71, regs := [u, u, u, u, u, u, .one (.lit (.row 1102400)), .one (.val .bool)], bx := [(1102400, .row tyq9)], pins := [] })]
noncomputable def lsThingsIn_0 (N : Nat) : Nat → ((List Int) × (Int × (Int × ((List tyq2) × Unit)))) → Option (((List tyq2) × Unit) ⊕ (Bool × ((List tyq2) × Unit)))
 | 0, _ => none
 | n + 1, v =>
  bif decide (v.2.2.1 < v.2.1) then
   (FsThingAt N (v.1, v.2.2.1, ())).bind fun r15 =>
   Option.bind (
    bif !r15.2.2.2.2.1 then
     let y16 := ([] : (List tyq2))
     some (.inr ((false, y16, ())))
    else
    (FsShapeSize N ((r15.2.2.1, r15.2.2.2.1, ()), ())).bind fun r17 =>
    let y18 := decide ((w64 (v.2.2.1 + r17.1)) > v.2.1)
    bif y18 then
     let y19 := ([] : (List tyq2))
     some (.inr ((false, y19, ())))
    else
    some (.inl (v.1, v.2.1, v.2.2.1, v.2.2.2.1, r15.1, r15.2.1, r15.2.2.1, r15.2.2.2.1, r15.2.2.2.2.2.1, r15.2.2.2.2.2.2.1, ()))) fun o20 =>
   Sum.elim (fun o21 =>
    let y22 := [(o21.2.2.2.2.1, o21.2.2.2.2.2.1, (o21.2.2.2.2.2.2.1, o21.2.2.2.2.2.2.2.1, ()), o21.2.2.2.2.2.2.2.2.1, o21.2.2.2.2.2.2.2.2.2.1, ())]
    bif decide (o21.2.2.2.1.length + y22.length ≤ lim) then
    (FsShapeSize N ((o21.2.2.2.2.2.2.1, o21.2.2.2.2.2.2.2.1, ()), ())).bind fun r23 =>
    lsThingsIn_0 N n (o21.1, o21.2.1, w64 (o21.2.2.1 + r23.1), o21.2.2.2.1 ++ y22, ())
    else none) (fun o24 =>
    some (.inr ((o24.1, o24.2.1, ())))) o20
  else
  some (.inl (v.2.2.2.1, ()))
noncomputable def FsThingsIn (N : Nat) (x : ((List Int) × (Int × (Int × Unit)))) : Option (Bool × ((List tyq2) × Unit)) :=
 Option.bind (
  (FsWordsOk N (x.1, ())).bind fun r1 =>
  bif !r1.1 then
   let y2 := ([] : (List tyq2))
   some (.inr ((false, y2, ())))
  else
  bif decide (x.2.1 < (1 : Int)) then
   let y3 := ([] : (List tyq2))
   some (.inr ((false, y3, ())))
  else
  bif decide ((16 : Int) = 0) then
   none
  else
  let y4 := w64 (Int.tdiv (x.1.length : Int) (16 : Int))
  bif decide (x.2.1 ≥ y4) then
   let y5 := ([] : (List tyq2))
   some (.inr ((false, y5, ())))
  else
  (FsRegionBase N (x.2.1, ())).bind fun r6 =>
  bif decide (x.2.2.1 < r6.1) then
   let y7 := ([] : (List tyq2))
   some (.inr ((false, y7, ())))
  else
  (FsRegionBase N (x.2.1, ())).bind fun r8 =>
  let y9 := decide (x.2.2.1 > (w64 (r8.1 + (16 : Int))))
  bif y9 then
   let y10 := ([] : (List tyq2))
   some (.inr ((false, y10, ())))
  else
  some (.inl (x.1, x.2.1, x.2.2.1, ()))) fun o11 =>
 Sum.elim (fun o12 =>
  let y13 := ([] : (List tyq2))
  (FsRegionBase N (o12.2.1, ())).bind fun r14 =>
  (lsThingsIn_0 N N (o12.1, o12.2.2.1, r14.1, y13, ())).bind fun o25 =>
  Sum.elim (fun o26 =>
   some (true, o26.1, ())) (fun o27 =>
   some (o27.1, o27.2.1, ())) o25) (fun o28 =>
  some (o28.1, o28.2.1, ())) o11
noncomputable def consThingsIn (N : Nat) : Con := { f := 114, din := dinsThingsIn, outs := outsThingsIn, F := FsThingsIn N }
noncomputable def XsThingsIn (N : Nat) : Ctx := { E := EsThingsIn N, H := HsThingsIn, lp := [(0, { hd := dsThingsIn_0, outs := osThingsIn_0, run := fun v => lsThingsIn_0 N N v })], jn := [(3, jsThingsIn_3), (9, jsThingsIn_9)] }
noncomputable def bsThingsIn_0 : Code := loopBody (codeOf Try.f114) 0
theorem FsThingsIn_eq (N : Nat) (x : ((List Int) × (Int × (Int × Unit)))) : evFn (XsThingsIn N) Try.f114 dinsThingsIn outsThingsIn x = FsThingsIn N x := by kernel_rfl
theorem lsThingsIn_0_eq (N n : Nat) (v : ((List Int) × (Int × (Int × ((List tyq2) × Unit))))) : lsThingsIn_0 N (n + 1) v = ev (XsThingsIn N) bsThingsIn_0 (roundK dsThingsIn_0 osThingsIn_0 (lsThingsIn_0 N n)) (dsThingsIn_0.mk' v) := by kernel_rfl
theorem cxsThingsIn (N : Nat) : CtxOk Try.prog (XsThingsIn N) := ⟨⟨TE_ok, List.forall_mem_cons.2 ⟨(specsWordsOk N), List.forall_mem_cons.2 ⟨(specsRegionBase N), List.forall_mem_cons.2 ⟨(specsThingAt N), List.forall_mem_cons.2 ⟨(specsShapeSize N), fun k hk => absurd hk List.not_mem_nil⟩⟩⟩⟩⟩, mixed⟩
theorem lpsThingsIn_0 (N : Nat) : LoopOk Try.prog { hd := dsThingsIn_0, outs := osThingsIn_0, run := fun v => lsThingsIn_0 N N v } bsThingsIn_0 :=
 loop_fuel (d := dsThingsIn_0) (os := osThingsIn_0) (cxsThingsIn N) (loops_at (ids := []) (by kernel_rfl) (trivial)) (lsThingsIn_0 N) (fun _ => rfl) (fun n v => lsThingsIn_0_eq N n v) (fun _ => N)
theorem specsThingsIn (N : Nat) : Spec Try.prog (consThingsIn N) :=
 Spec.of_eq (fn_spec (cxsThingsIn N) (f := 114) (fn := Try.f114) (c := codeOf Try.f114) (by kernel_rfl) (by kernel_rfl) (by kernel_rfl) (loops_at (ids := [0]) (by kernel_rfl) ⟨lp_of (lpsThingsIn_0 N), trivial⟩) (by kernel_rfl)) (fun x r h => (FsThingsIn_eq N x).trans h)
noncomputable def dinsl6Things : Desc := { n := 1, regs := [.one (.val tyq8)], bx := [], pins := [] }
noncomputable def outsl6Things : Outs := [(.ret, { n := 2, regs := [.one (.lit (.row 1012800)), .one (.val .bool)], bx := [(1012800, .row tyq9)], pins := [] })]
noncomputable def Hsl6Things : Hints := [(0, [(0, { fz := true })]),
 (1, [(0, { nl := [(0, tyq9)] })]),
 (7, [(0, { nl := [(0, tyq9)] })]),
 (8, [(2, { dp := true })])]
noncomputable def Esl6Things (N : Nat) : Env := { te := TE, cs := [consThingsIn N] }
noncomputable def dsl6Things_0 : Desc := { n := 34, regs := [u, .one (.fpt tyq8), u, u, .one (.lit (.row 1012800)), .one (.val (.int .i64))], bx := [(1012800, .row tyq9)], pins := [] }
noncomputable def osl6Things_0 : Outs := [(.exit 0, { n := 34, regs := [u, u, u, u, .one (.lit (.row 1012800))], bx := [(1012800, .row tyq9)], pins := [] }), (.ret, { n := 34, regs := [u, u, .one (.lit (.row 1089600)), .one (.val .bool)], bx := [(1089600, .row tyq9)], pins := [] })]
noncomputable def lsl6Things_0 (N : Nat) : Nat → (tyq1 × (Int × ((List tyq2) × Unit))) → Option (((List tyq2) × Unit) ⊕ (Bool × ((List tyq2) × Unit)))
 | 0, _ => none
 | n + 1, v =>
  let y2 := decide (v.2.1 < (v.1.2.1.length : Int))
  bif y2 then
   bif decide (0 ≤ v.2.1) then
   bif decide (v.2.1.toNat < v.1.2.1.length) then
   let y3 := v.1.2.1.getD v.2.1.toNat ((0 : Int), (0 : Int), (0 : Int), (0 : Int), (0 : Int), ())
   (FsThingsIn N (v.1.1, v.2.1, y3.2.2.1, ())).bind fun r4 =>
   bif !r4.1 then
    let y5 := ([] : (List tyq2))
    some (.inr ((false, y5, ())))
   else
   bif decide (v.2.2.1.length + r4.2.1.length ≤ lim) then
   lsl6Things_0 N n (v.1, w64 (v.2.1 + (1 : Int)), v.2.2.1 ++ r4.2.1, ())
   else none
   else none
   else none
  else
  some (.inl (v.2.2.1, ()))
noncomputable def Fsl6Things (N : Nat) (x : (tyq1 × Unit)) : Option (Bool × ((List tyq2) × Unit)) :=
 let y1 := ([] : (List tyq2))
 (lsl6Things_0 N N (x.1, (1 : Int), y1, ())).bind fun o6 =>
 Sum.elim (fun o7 =>
  some (true, o7.1, ())) (fun o8 =>
  some (o8.1, o8.2.1, ())) o6
noncomputable def consl6Things (N : Nat) : Con := { f := 80, din := dinsl6Things, outs := outsl6Things, F := Fsl6Things N }
noncomputable def Xsl6Things (N : Nat) : Ctx := { E := Esl6Things N, H := Hsl6Things, lp := [(0, { hd := dsl6Things_0, outs := osl6Things_0, run := fun v => lsl6Things_0 N N v })], jn := [] }
noncomputable def bsl6Things_0 : Code := loopBody (codeOf Try.f80) 0
theorem Fsl6Things_eq (N : Nat) (x : (tyq1 × Unit)) : evFn (Xsl6Things N) Try.f80 dinsl6Things outsl6Things x = Fsl6Things N x := by kernel_rfl
theorem lsl6Things_0_eq (N n : Nat) (v : (tyq1 × (Int × ((List tyq2) × Unit)))) : lsl6Things_0 N (n + 1) v = ev (Xsl6Things N) bsl6Things_0 (roundK dsl6Things_0 osl6Things_0 (lsl6Things_0 N n)) (dsl6Things_0.mk' v) := by kernel_rfl
theorem cxsl6Things (N : Nat) : CtxOk Try.prog (Xsl6Things N) := ⟨⟨TE_ok, List.forall_mem_cons.2 ⟨(specsThingsIn N), fun k hk => absurd hk List.not_mem_nil⟩⟩, mixed⟩
theorem lpsl6Things_0 (N : Nat) : LoopOk Try.prog { hd := dsl6Things_0, outs := osl6Things_0, run := fun v => lsl6Things_0 N N v } bsl6Things_0 :=
 loop_fuel (d := dsl6Things_0) (os := osl6Things_0) (cxsl6Things N) (loops_at (ids := []) (by kernel_rfl) (trivial)) (lsl6Things_0 N) (fun _ => rfl) (fun n v => lsl6Things_0_eq N n v) (fun _ => N)
theorem specsl6Things (N : Nat) : Spec Try.prog (consl6Things N) :=
 Spec.of_eq (fn_spec (cxsl6Things N) (f := 80) (fn := Try.f80) (c := codeOf Try.f80) (by kernel_rfl) (by kernel_rfl) (by kernel_rfl) (loops_at (ids := [0]) (by kernel_rfl) ⟨lp_of (lpsl6Things_0 N), trivial⟩) (by kernel_rfl)) (fun x r h => (Fsl6Things_eq N x).trans h)
noncomputable def dinsl6Find : Desc := { n := 2, regs := [.one (.val (.sl tyq9)), .one (.val (.int .i64))], bx := [], pins := [] }
noncomputable def outsl6Find : Outs := [(.ret, { n := 1, regs := [.one (.val (.int .i64))], bx := [], pins := [] })]
noncomputable def Hsl6Find : Hints := []
noncomputable def Esl6Find (_N : Nat) : Env := { te := TE, cs := [] }
noncomputable def dsl6Find_0 : Desc := { n := 20, regs := [.one (.val (.sl tyq9)), .one (.val (.int .i64)), u, u, u, .one (.val (.int .i64))], bx := [], pins := [] }
noncomputable def osl6Find_0 : Outs := [(.exit 0, { n := 20, regs := [], bx := [], pins := [] }), (.ret, { n := 20, regs := [u, u, u, u, .one (.val (.int .i64))], bx := [], pins := [] })]
noncomputable def lsl6Find_0 (N : Nat) : Nat → ((List tyq2) × (Int × (Int × Unit))) → Option (Unit ⊕ (Int × Unit))
 | 0, _ => none
 | n + 1, v =>
  let y1 := decide (v.2.2.1 < (v.1.length : Int))
  bif y1 then
   bif decide (0 ≤ v.2.2.1) then
   bif decide (v.2.2.1.toNat < v.1.length) then
   let y2 := v.1.getD v.2.2.1.toNat ((0 : Int), (0 : Int), ((0 : Int), (0 : Int), ()), ([] : (List Int)), ([] : (List Int)), ())
   bif y2.1 == v.2.1 then
    some (.inr ((v.2.2.1, ())))
   else
   lsl6Find_0 N n (v.1, v.2.1, w64 (v.2.2.1 + (1 : Int)), ())
   else none
   else none
  else
  some (.inl ())
noncomputable def Fsl6Find (N : Nat) (x : ((List tyq2) × (Int × Unit))) : Option (Int × Unit) :=
 (lsl6Find_0 N N (x.1, x.2.1, (0 : Int), ())).bind fun o3 =>
 Sum.elim (fun o4 =>
  some ((-1 : Int), ())) (fun o5 =>
  some (o5.1, ())) o3
noncomputable def consl6Find (N : Nat) : Con := { f := 84, din := dinsl6Find, outs := outsl6Find, F := Fsl6Find N }
noncomputable def Xsl6Find (N : Nat) : Ctx := { E := Esl6Find N, H := Hsl6Find, lp := [(0, { hd := dsl6Find_0, outs := osl6Find_0, run := fun v => lsl6Find_0 N N v })], jn := [] }
noncomputable def bsl6Find_0 : Code := loopBody (codeOf Try.f84) 0
theorem Fsl6Find_eq (N : Nat) (x : ((List tyq2) × (Int × Unit))) : evFn (Xsl6Find N) Try.f84 dinsl6Find outsl6Find x = Fsl6Find N x := by kernel_rfl
theorem lsl6Find_0_eq (N n : Nat) (v : ((List tyq2) × (Int × (Int × Unit)))) : lsl6Find_0 N (n + 1) v = ev (Xsl6Find N) bsl6Find_0 (roundK dsl6Find_0 osl6Find_0 (lsl6Find_0 N n)) (dsl6Find_0.mk' v) := by kernel_rfl
theorem cxsl6Find (N : Nat) : CtxOk Try.prog (Xsl6Find N) := ⟨⟨TE_ok, fun k hk => absurd hk List.not_mem_nil⟩, mixed⟩
theorem lpsl6Find_0 (N : Nat) : LoopOk Try.prog { hd := dsl6Find_0, outs := osl6Find_0, run := fun v => lsl6Find_0 N N v } bsl6Find_0 :=
 loop_fuel (d := dsl6Find_0) (os := osl6Find_0) (cxsl6Find N) (loops_at (ids := []) (by kernel_rfl) (trivial)) (lsl6Find_0 N) (fun _ => rfl) (fun n v => lsl6Find_0_eq N n v) (fun _ => N)
theorem specsl6Find (N : Nat) : Spec Try.prog (consl6Find N) :=
 Spec.of_eq (fn_spec (cxsl6Find N) (f := 84) (fn := Try.f84) (c := codeOf Try.f84) (by kernel_rfl) (by kernel_rfl) (by kernel_rfl) (loops_at (ids := [0]) (by kernel_rfl) ⟨lp_of (lpsl6Find_0 N), trivial⟩) (by kernel_rfl)) (fun x r h => (Fsl6Find_eq N x).trans h)
noncomputable def dinsl6Now : Desc := { n := 2, regs := [.one (.val (.sl tyq9)), .one (.val (.int .i64))], bx := [], pins := [] }
noncomputable def outsl6Now : Outs := [(.ret, { n := 1, regs := [.one (.val (.int .i64))], bx := [], pins := [] })]
noncomputable def Hsl6Now : Hints := []
noncomputable def Esl6Now (N : Nat) : Env := { te := TE, cs := [consl6Find N] }
noncomputable def Fsl6Now (N : Nat) (x : ((List tyq2) × (Int × Unit))) : Option (Int × Unit) :=
 bif x.2.1 == (0 : Int) then
  some ((0 : Int), ())
 else
 (Fsl6Find N (x.1, x.2.1, ())).bind fun r1 =>
 bif decide (0 ≤ r1.1) then
 bif decide (r1.1.toNat < x.1.length) then
 let y2 := x.1.getD r1.1.toNat ((0 : Int), (0 : Int), ((0 : Int), (0 : Int), ()), ([] : (List Int)), ([] : (List Int)), ())
 some (y2.2.1, ())
 else none
 else none
noncomputable def consl6Now (N : Nat) : Con := { f := 90, din := dinsl6Now, outs := outsl6Now, F := Fsl6Now N }
noncomputable def Xsl6Now (N : Nat) : Ctx := { E := Esl6Now N, H := Hsl6Now, lp := [], jn := [] }
theorem Fsl6Now_eq (N : Nat) (x : ((List tyq2) × (Int × Unit))) : evFn (Xsl6Now N) Try.f90 dinsl6Now outsl6Now x = Fsl6Now N x := by kernel_rfl
theorem cxsl6Now (N : Nat) : CtxOk Try.prog (Xsl6Now N) := ⟨⟨TE_ok, List.forall_mem_cons.2 ⟨(specsl6Find N), fun k hk => absurd hk List.not_mem_nil⟩⟩, mixed⟩
theorem specsl6Now (N : Nat) : Spec Try.prog (consl6Now N) :=
 Spec.of_eq (fn_spec (cxsl6Now N) (f := 90) (fn := Try.f90) (c := codeOf Try.f90) (by kernel_rfl) (by kernel_rfl) (by kernel_rfl) (loops_at (ids := []) (by kernel_rfl) (trivial)) (by kernel_rfl)) (fun x r h => (Fsl6Now_eq N x).trans h)
noncomputable def dinsl5Place : Desc := { n := 2, regs := [.one (.val (.sl (.int .i64))), .one (.val (.int .i64))], bx := [], pins := [] }
noncomputable def outsl5Place : Outs := [(.ret, { n := 1, regs := [.one (.val (.int .i64))], bx := [], pins := [] })]
noncomputable def Hsl5Place : Hints := []
noncomputable def Esl5Place (_N : Nat) : Env := { te := TE, cs := [] }
noncomputable def dsl5Place_0 : Desc := { n := 19, regs := [.one (.val (.sl (.int .i64))), .one (.val (.int .i64)), u, u, u, .one (.val (.int .i64))], bx := [], pins := [] }
noncomputable def osl5Place_0 : Outs := [(.exit 0, { n := 19, regs := [], bx := [], pins := [] }), (.ret, { n := 19, regs := [u, u, u, u, .one (.val (.int .i64))], bx := [], pins := [] })]
noncomputable def lsl5Place_0 (N : Nat) : Nat → ((List Int) × (Int × (Int × Unit))) → Option (Unit ⊕ (Int × Unit))
 | 0, _ => none
 | n + 1, v =>
  let y1 := decide (v.2.2.1 < (v.1.length : Int))
  bif y1 then
   bif decide (0 ≤ v.2.2.1) then
   bif decide (v.2.2.1.toNat < v.1.length) then
   let y2 := (v.1.getD v.2.2.1.toNat (0 : Int)) == v.2.1
   bif y2 then
    some (.inr ((v.2.2.1, ())))
   else
   lsl5Place_0 N n (v.1, v.2.1, w64 (v.2.2.1 + (1 : Int)), ())
   else none
   else none
  else
  some (.inl ())
noncomputable def Fsl5Place (N : Nat) (x : ((List Int) × (Int × Unit))) : Option (Int × Unit) :=
 (lsl5Place_0 N N (x.1, x.2.1, (0 : Int), ())).bind fun o3 =>
 Sum.elim (fun o4 =>
  some ((-1 : Int), ())) (fun o5 =>
  some (o5.1, ())) o3
noncomputable def consl5Place (N : Nat) : Con := { f := 119, din := dinsl5Place, outs := outsl5Place, F := Fsl5Place N }
noncomputable def Xsl5Place (N : Nat) : Ctx := { E := Esl5Place N, H := Hsl5Place, lp := [(0, { hd := dsl5Place_0, outs := osl5Place_0, run := fun v => lsl5Place_0 N N v })], jn := [] }
noncomputable def bsl5Place_0 : Code := loopBody (codeOf Try.f119) 0
theorem Fsl5Place_eq (N : Nat) (x : ((List Int) × (Int × Unit))) : evFn (Xsl5Place N) Try.f119 dinsl5Place outsl5Place x = Fsl5Place N x := by kernel_rfl
theorem lsl5Place_0_eq (N n : Nat) (v : ((List Int) × (Int × (Int × Unit)))) : lsl5Place_0 N (n + 1) v = ev (Xsl5Place N) bsl5Place_0 (roundK dsl5Place_0 osl5Place_0 (lsl5Place_0 N n)) (dsl5Place_0.mk' v) := by kernel_rfl
theorem cxsl5Place (N : Nat) : CtxOk Try.prog (Xsl5Place N) := ⟨⟨TE_ok, fun k hk => absurd hk List.not_mem_nil⟩, mixed⟩
theorem lpsl5Place_0 (N : Nat) : LoopOk Try.prog { hd := dsl5Place_0, outs := osl5Place_0, run := fun v => lsl5Place_0 N N v } bsl5Place_0 :=
 loop_fuel (d := dsl5Place_0) (os := osl5Place_0) (cxsl5Place N) (loops_at (ids := []) (by kernel_rfl) (trivial)) (lsl5Place_0 N) (fun _ => rfl) (fun n v => lsl5Place_0_eq N n v) (fun _ => N)
theorem specsl5Place (N : Nat) : Spec Try.prog (consl5Place N) :=
 Spec.of_eq (fn_spec (cxsl5Place N) (f := 119) (fn := Try.f119) (c := codeOf Try.f119) (by kernel_rfl) (by kernel_rfl) (by kernel_rfl) (loops_at (ids := [0]) (by kernel_rfl) ⟨lp_of (lpsl5Place_0 N), trivial⟩) (by kernel_rfl)) (fun x r h => (Fsl5Place_eq N x).trans h)
noncomputable def dinsl6Put : Desc := { n := 2, regs := [.one (.lit (.row 0)), .one (.val (.int .i64))], bx := [(0, .row (.int .i64))], pins := [] }
noncomputable def outsl6Put : Outs := [(.ret, { n := 1, regs := [.one (.lit (.row 0))], bx := [(0, .row (.int .i64))], pins := [] })]
noncomputable def Hsl6Put : Hints := []
noncomputable def Esl6Put (N : Nat) : Env := { te := TE, cs := [consl5Place N] }
noncomputable def jsl6Put_3 : Outs := [(.normal, { n := 18, regs := [.one (.lit (.row 0)), .one (.val (.int .i64))], bx := [(0, .row (.int .i64))], pins := [.one (.lit (.row 0))] }), (.ret, { n := 18, regs := [u, u, u, u, .one (.lit (.row 0))], bx := [(0, .row (.int .i64))], pins := [.one (.lit (.row 0))] })]
noncomputable def Fsl6Put (N : Nat) (x : (Int × ((List Int) × Unit))) : Option ((List Int) × Unit) :=
 Option.bind (
  bif x.1 == (0 : Int) then
   some (.inr ((x.2.1, ())))
  else
  (Fsl5Place N (x.2.1, x.1, ())).bind fun r1 =>
  bif decide (r1.1 ≥ (0 : Int)) then
   some (.inr ((x.2.1, ())))
  else
  some (.inl (x.1, x.2.1, ()))) fun o2 =>
 Sum.elim (fun o3 =>
  bif decide (o3.2.1.length + [o3.1].length ≤ lim) then
  some (o3.2.1 ++ [o3.1], ())
  else none) (fun o4 =>
  some (o4.1, ())) o2
noncomputable def consl6Put (N : Nat) : Con := { f := 87, din := dinsl6Put, outs := outsl6Put, F := Fsl6Put N }
noncomputable def Xsl6Put (N : Nat) : Ctx := { E := Esl6Put N, H := Hsl6Put, lp := [], jn := [(3, jsl6Put_3)] }
theorem Fsl6Put_eq (N : Nat) (x : (Int × ((List Int) × Unit))) : evFn (Xsl6Put N) Try.f87 dinsl6Put outsl6Put x = Fsl6Put N x := by kernel_rfl
theorem cxsl6Put (N : Nat) : CtxOk Try.prog (Xsl6Put N) := ⟨⟨TE_ok, List.forall_mem_cons.2 ⟨(specsl5Place N), fun k hk => absurd hk List.not_mem_nil⟩⟩, mixed⟩
theorem specsl6Put (N : Nat) : Spec Try.prog (consl6Put N) :=
 Spec.of_eq (fn_spec (cxsl6Put N) (f := 87) (fn := Try.f87) (c := codeOf Try.f87) (by kernel_rfl) (by kernel_rfl) (by kernel_rfl) (loops_at (ids := []) (by kernel_rfl) (trivial)) (by kernel_rfl)) (fun x r h => (Fsl6Put_eq N x).trans h)
noncomputable def dinsStateOk : Desc := { n := 1, regs := [.one (.val tyq8)], bx := [], pins := [] }
noncomputable def outsStateOk : Outs := [(.ret, { n := 1, regs := [.one (.val .bool)], bx := [], pins := [] })]
noncomputable def HsStateOk : Hints := [(0, [(0, { fz := true })]),
 (1, [(7, { con := 1 })]),
 (5, [(1, { con := 2 })]),
 (11, [(6, { con := 3 })]),
 (14, [(11, { con := 4 }), (24, { con := 4 })]),
 (16, [(0, { nl := [(0, (.int .i64))] })]),
 (26, [(13, { con := 3 })]),
 (28, [(7, { con := 5 }), (8, { con := 6, sg := [(0, 1204800)] })]),
 (34, [(6, { con := 3 })]),
 (35, [(23, { con := 4 })]),
 (37, [(6, { con := 6, sg := [(0, 1204800)] })]),
 (41, [(6, { con := 3 })]),
 (45, [(13, { con := 3 })]),
 (47, [(7, { con := 5 }), (8, { con := 6, sg := [(0, 1204800)] })])]
noncomputable def EsStateOk (N : Nat) : Env := { te := TE, cs := [consWordsOk N, consTableOk N, consl6Things N, consl6Find N, consRegionOf N, consl6Now N, consl6Put N] }
noncomputable def dsStateOk_0 : Desc := { n := 303, regs := [u, .one (.fpt tyq8), u, .one (.val (.sl tyq9)), u, .one (.val (.int .i64))], bx := [], pins := [] }
noncomputable def osStateOk_0 : Outs := [(.exit 0, { n := 303, regs := [u, .one (.fpt tyq8), u, .one (.val (.sl tyq9))], bx := [], pins := [] }), (.ret, { n := 303, regs := [u, u, .one (.val .bool)], bx := [], pins := [] })]
noncomputable def dsStateOk_4 : Desc := { n := 303, regs := [u, .one (.fpt tyq8), u, .one (.val (.sl tyq9)), u, u, u, .one (.lit (.row 1204800)), .one (.val (.int .i64)), .one (.lit (.ptr 1256320 0)), .one (.val (.int .i64))], bx := [(1204800, .row (.int .i64)), (1256320, .var [.val (.sl (.int .i64)), .val (.int .i64), .val .bool, .val (.int .i64)])], pins := [] }
noncomputable def osStateOk_4 : Outs := [(.exit 4, { n := 303, regs := [u, .one (.fpt tyq8), u, .one (.val (.sl tyq9)), u, u, u, .one (.lit (.row 1204800)), .one (.val (.int .i64))], bx := [(1204800, .row (.int .i64))], pins := [] }), (.ret, { n := 303, regs := [u, u, .one (.val .bool)], bx := [], pins := [] })]
noncomputable def dsStateOk_2 : Desc := { n := 303, regs := [u, .one (.fpt tyq8), u, .one (.val (.sl tyq9)), u, u, u, .one (.lit (.row 1204800)), .one (.val (.int .i64))], bx := [(1204800, .row (.int .i64))], pins := [] }
noncomputable def osStateOk_2 : Outs := [(.exit 2, { n := 303, regs := [u, .one (.fpt tyq8), u, .one (.val (.sl tyq9)), u, u, u, .one (.lit (.row 1204800))], bx := [(1204800, .row (.int .i64))], pins := [] }), (.ret, { n := 303, regs := [u, u, .one (.val .bool)], bx := [], pins := [] })]
noncomputable def dsStateOk_6 : Desc := { n := 303, regs := [u, .one (.fpt tyq8), u, .one (.val (.sl tyq9)), u, u, u, .one (.lit (.row 1204800)), u, u, u, .one (.val (.int .i64))], bx := [(1204800, .row (.int .i64))], pins := [] }
noncomputable def osStateOk_6 : Outs := [(.exit 6, { n := 303, regs := [u, u, u, .one (.val (.sl tyq9)), u, u, u, .one (.lit (.row 1204800))], bx := [(1204800, .row (.int .i64))], pins := [] }), (.ret, { n := 303, regs := [u, u, .one (.val .bool)], bx := [], pins := [] })]
noncomputable def dsStateOk_10 : Desc := { n := 303, regs := [u, u, u, .one (.val (.sl tyq9)), u, u, u, .one (.lit (.row 1204800)), u, u, u, u, u, .one (.val (.int .i64)), .one (.lit (.ptr 1525376 0)), .one (.val (.int .i64))], bx := [(1204800, .row (.int .i64)), (1525376, .var [.val (.int .i64), .val (.int .i64), .val (.int .i64), .val (.int .i64), .val (.sl (.int .i64)), .val (.sl (.int .i64))])], pins := [] }
noncomputable def osStateOk_10 : Outs := [(.exit 10, { n := 303, regs := [u, u, u, .one (.val (.sl tyq9)), u, u, u, .one (.lit (.row 1204800)), u, u, u, u, u, .one (.val (.int .i64))], bx := [(1204800, .row (.int .i64))], pins := [] }), (.ret, { n := 303, regs := [u, u, .one (.val .bool)], bx := [], pins := [] })]
noncomputable def dsStateOk_8 : Desc := { n := 303, regs := [u, u, u, .one (.val (.sl tyq9)), u, u, u, .one (.lit (.row 1204800)), u, u, u, u, u, .one (.val (.int .i64))], bx := [(1204800, .row (.int .i64))], pins := [] }
noncomputable def osStateOk_8 : Outs := [(.exit 8, { n := 303, regs := [], bx := [], pins := [] }), (.ret, { n := 303, regs := [u, u, .one (.val .bool)], bx := [], pins := [] })]
noncomputable def jsStateOk_3 : Outs := [(.normal, { n := 303, regs := [u, .one (.fpt tyq8)], bx := [], pins := [] }), (.ret, { n := 303, regs := [u, u, .one (.val .bool)], bx := [], pins := [] })]
noncomputable def jsStateOk_5 : Outs := [(.normal, { n := 303, regs := [u, .one (.fpt tyq8)], bx := [], pins := [] }), (.ret, { n := 303, regs := [u, u, .one (.val .bool)], bx := [], pins := [] })]
noncomputable def jsStateOk_14 : Outs := [(.normal, { n := 303, regs := [u, .one (.fpt tyq8), u, .one (.val (.sl tyq9)), u, .one (.val (.int .i64)), .one (.val (.int .i64))], bx := [], pins := [] }), (.ret, { n := 303, regs := [u, u, .one (.val .bool)], bx := [], pins := [] })]
noncomputable def jsStateOk_23 : Outs := [(.normal, { n := 303, regs := [u, .one (.fpt tyq8), u, .one (.val (.sl tyq9)), u, u, u, .one (.lit (.row 1204800)), .one (.val (.int .i64)), .one (.lit (.ptr 1256320 0))], bx := [(1204800, .row (.int .i64)), (1256320, .var [.val (.sl (.int .i64)), .val (.int .i64), .val .bool, .val (.int .i64)])], pins := [] }), (.ret, { n := 303, regs := [u, u, .one (.val .bool)], bx := [], pins := [] })]
noncomputable def jsStateOk_28 : Outs := [(.normal, { n := 303, regs := [u, .one (.fpt tyq8), u, .one (.val (.sl tyq9)), u, u, u, .one (.lit (.row 1204800)), .one (.val (.int .i64)), .one (.lit (.ptr 1256320 0)), .one (.val (.int .i64))], bx := [(1204800, .row (.int .i64)), (1256320, .var [.val (.sl (.int .i64)), .val (.int .i64), .val .bool, .val (.int .i64)])], pins := [] }), (.ret, { n := 303, regs := [u, u, .one (.val .bool)], bx := [], pins := [] })]
noncomputable def jsStateOk_37 : Outs := [(.normal, { n := 303, regs := [u, .one (.fpt tyq8), u, .one (.val (.sl tyq9)), u, u, u, .one (.lit (.row 1204800)), u, u, u, .one (.val (.int .i64))], bx := [(1204800, .row (.int .i64))], pins := [] }), (.ret, { n := 303, regs := [u, u, .one (.val .bool)], bx := [], pins := [] })]
noncomputable def jsStateOk_47 : Outs := [(.normal, { n := 303, regs := [u, u, u, .one (.val (.sl tyq9)), u, u, u, .one (.lit (.row 1204800)), u, u, u, u, u, .one (.val (.int .i64)), .one (.lit (.ptr 1525376 0)), .one (.val (.int .i64))], bx := [(1204800, .row (.int .i64)), (1525376, .var [.val (.int .i64), .val (.int .i64), .val (.int .i64), .val (.int .i64), .val (.sl (.int .i64)), .val (.sl (.int .i64))])], pins := [] }), (.ret, { n := 303, regs := [u, u, .one (.val .bool)], bx := [], pins := [] })]
noncomputable def lsStateOk_0 (N : Nat) : Nat → (tyq1 × ((List tyq2) × (Int × Unit))) → Option ((tyq1 × ((List tyq2) × Unit)) ⊕ (Bool × Unit))
 | 0, _ => none
 | n + 1, v =>
  let y12 := decide (v.2.2.1 < (v.2.1.length : Int))
  bif y12 then
   bif decide (0 ≤ v.2.2.1) then
   bif decide (v.2.2.1.toNat < v.2.1.length) then
   let y13 := v.2.1.getD v.2.2.1.toNat ((0 : Int), (0 : Int), ((0 : Int), (0 : Int), ()), ([] : (List Int)), ([] : (List Int)), ())
   (Fsl6Find N (v.2.1, y13.2.1, ())).bind fun r14 =>
   Option.bind (
    bif decide (r14.1 < (0 : Int)) then
     some (.inr ((false, ())))
    else
    bif decide (0 ≤ r14.1) then
    bif decide (r14.1.toNat < v.2.1.length) then
    let y15 := v.2.1.getD r14.1.toNat ((0 : Int), (0 : Int), ((0 : Int), (0 : Int), ()), ([] : (List Int)), ([] : (List Int)), ())
    bif decide (0 ≤ r14.1) then
    bif decide (r14.1.toNat < v.2.1.length) then
    let y16 := v.2.1.getD r14.1.toNat ((0 : Int), (0 : Int), ((0 : Int), (0 : Int), ()), ([] : (List Int)), ([] : (List Int)), ())
    bif y15.2.1 != y16.1 then
     some (.inr ((false, ())))
    else
    bif decide (0 ≤ r14.1) then
    bif decide (r14.1.toNat < v.2.1.length) then
    let y17 := v.2.1.getD r14.1.toNat ((0 : Int), (0 : Int), ((0 : Int), (0 : Int), ()), ([] : (List Int)), ([] : (List Int)), ())
    bif decide (0 ≤ v.2.2.1) then
    bif decide (v.2.2.1.toNat < v.2.1.length) then
    let y18 := v.2.1.getD v.2.2.1.toNat ((0 : Int), (0 : Int), ((0 : Int), (0 : Int), ()), ([] : (List Int)), ([] : (List Int)), ())
    let y19 := !((y17.2.2.1.1 == y18.2.2.1.1) && ((y17.2.2.1.2.1 == y18.2.2.1.2.1) && (true)))
    bif y19 then
     some (.inr ((false, ())))
    else
    some (.inl (v.1, v.2.1, v.2.2.1, r14.1, ()))
    else none
    else none
    else none
    else none
    else none
    else none
    else none
    else none) fun o20 =>
   Sum.elim (fun o21 =>
    bif o21.2.2.2.1 != o21.2.2.1 then
     bif decide (0 ≤ o21.2.2.1) then
     bif decide (o21.2.2.1.toNat < o21.2.1.length) then
     let y22 := o21.2.1.getD o21.2.2.1.toNat ((0 : Int), (0 : Int), ((0 : Int), (0 : Int), ()), ([] : (List Int)), ([] : (List Int)), ())
     (FsRegionOf N (y22.1, ())).bind fun r23 =>
     bif decide (0 ≤ r23.1) then
     bif decide (r23.1.toNat < o21.1.2.1.length) then
     let y24 := o21.1.2.1.getD r23.1.toNat ((0 : Int), (0 : Int), (0 : Int), (0 : Int), (0 : Int), ())
     bif y24.1 != (4 : Int) then
      some (.inr ((false, ())))
     else
     bif decide (0 ≤ o21.2.2.2.1) then
     bif decide (o21.2.2.2.1.toNat < o21.2.1.length) then
     let y25 := o21.2.1.getD o21.2.2.2.1.toNat ((0 : Int), (0 : Int), ((0 : Int), (0 : Int), ()), ([] : (List Int)), ([] : (List Int)), ())
     (FsRegionOf N (y25.1, ())).bind fun r26 =>
     bif decide (0 ≤ r26.1) then
     bif decide (r26.1.toNat < o21.1.2.1.length) then
     let y27 := o21.1.2.1.getD r26.1.toNat ((0 : Int), (0 : Int), (0 : Int), (0 : Int), (0 : Int), ())
     bif y27.1 == (4 : Int) then
      some (.inr ((false, ())))
     else
     lsStateOk_0 N n (o21.1, o21.2.1, w64 (o21.2.2.1 + (1 : Int)), ())
     else none
     else none
     else none
     else none
     else none
     else none
     else none
     else none
    else
    lsStateOk_0 N n (o21.1, o21.2.1, w64 (o21.2.2.1 + (1 : Int)), ())) (fun o28 =>
    some (.inr ((o28.1, ())))) o20
   else none
   else none
  else
  some (.inl (v.1, v.2.1, ()))
noncomputable def lsStateOk_4 (N : Nat) : Nat → (tyq1 × ((List tyq2) × (Int × (Int × ((List Int) × tyq4))))) → Option ((tyq1 × ((List tyq2) × (Int × ((List Int) × Unit)))) ⊕ (Bool × Unit))
 | 0, _ => none
 | n + 1, v =>
  let y36 := decide (v.2.2.2.1 < (v.2.2.2.2.2.1.length : Int))
  bif y36 then
   Option.bind (
    bif decide (0 ≤ v.2.2.2.1) then
    bif decide (v.2.2.2.1.toNat < v.2.2.2.2.2.1.length) then
    let y37 := v.2.2.2.2.2.1.getD v.2.2.2.1.toNat (0 : Int)
    bif y37 != (0 : Int) then
     bif decide (0 ≤ v.2.2.2.1) then
     bif decide (v.2.2.2.1.toNat < v.2.2.2.2.2.1.length) then
     let y38 := v.2.2.2.2.2.1.getD v.2.2.2.1.toNat (0 : Int)
     (Fsl6Find N (v.2.1, y38, ())).bind fun r39 =>
     bif decide (r39.1 < (0 : Int)) then
      some (.inr ((false, ())))
     else
     some (.inl (v.1, v.2.1, v.2.2.1, v.2.2.2.1, v.2.2.2.2.1, v.2.2.2.2.2.1, v.2.2.2.2.2.2.1, v.2.2.2.2.2.2.2.1, v.2.2.2.2.2.2.2.2.1, ()))
     else none
     else none
    else
    some (.inl (v.1, v.2.1, v.2.2.1, v.2.2.2.1, v.2.2.2.2.1, v.2.2.2.2.2.1, v.2.2.2.2.2.2.1, v.2.2.2.2.2.2.2.1, v.2.2.2.2.2.2.2.2.1, ()))
    else none
    else none) fun o40 =>
   Sum.elim (fun o41 =>
    bif decide (0 ≤ o41.2.2.2.1) then
    bif decide (o41.2.2.2.1.toNat < o41.2.2.2.2.2.1.length) then
    let y42 := o41.2.2.2.2.2.1.getD o41.2.2.2.1.toNat (0 : Int)
    (Fsl6Now N (o41.2.1, y42, ())).bind fun r43 =>
    (Fsl6Put N (r43.1, o41.2.2.2.2.1, ())).bind fun r44 =>
    lsStateOk_4 N n (o41.1, o41.2.1, o41.2.2.1, w64 (o41.2.2.2.1 + (1 : Int)), r44.1, o41.2.2.2.2.2.1, o41.2.2.2.2.2.2.1, o41.2.2.2.2.2.2.2.1, o41.2.2.2.2.2.2.2.2.1, ())
    else none
    else none) (fun o45 =>
    some (.inr ((o45.1, ())))) o40
  else
  some (.inl (v.1, v.2.1, v.2.2.1, v.2.2.2.2.1, ()))
noncomputable def lsStateOk_2 (N : Nat) : Nat → (tyq1 × ((List tyq2) × (Int × ((List Int) × Unit)))) → Option ((tyq1 × ((List tyq2) × ((List Int) × Unit))) ⊕ (Bool × Unit))
 | 0, _ => none
 | n + 1, v =>
  let y31 := decide (v.2.2.1 < (v.1.2.2.2.2.2.2.2.2.1.length : Int))
  bif y31 then
   bif decide (0 ≤ v.2.2.1) then
   bif decide (v.2.2.1.toNat < v.1.2.2.2.2.2.2.2.2.1.length) then
   let y32 := v.1.2.2.2.2.2.2.2.2.1.getD v.2.2.1.toNat (([] : (List Int)), (0 : Int), false, (0 : Int), ())
   Option.bind (
    let y33 := decide ((y32.1.length : Int) > (8 : Int))
    bif y33 then
     some (.inr ((false, ())))
    else
    bif decide (y32.2.2.2.1 < (0 : Int)) then
     some (.inr ((false, ())))
    else
    bif decide (y32.2.2.2.1 > (2 : Int)) then
     some (.inr ((false, ())))
    else
    some (.inl (v.1, v.2.1, v.2.2.1, v.2.2.2.1, y32.1, y32.2.1, y32.2.2.1, y32.2.2.2.1, ()))) fun o34 =>
   Sum.elim (fun o35 =>
    (lsStateOk_4 N N (o35.1, o35.2.1, o35.2.2.1, (0 : Int), o35.2.2.2.1, o35.2.2.2.2.1, o35.2.2.2.2.2.1, o35.2.2.2.2.2.2.1, o35.2.2.2.2.2.2.2.1, ())).bind fun o46 =>
    Sum.elim (fun o47 =>
     lsStateOk_2 N n (o47.1, o47.2.1, w64 (o47.2.2.1 + (1 : Int)), o47.2.2.2.1, ())) (fun o48 =>
     some (.inr ((o48.1, ())))) o46) (fun o49 =>
    some (.inr ((o49.1, ())))) o34
   else none
   else none
  else
  some (.inl (v.1, v.2.1, v.2.2.2.1, ()))
noncomputable def lsStateOk_6 (N : Nat) : Nat → (tyq1 × ((List tyq2) × (Int × ((List Int) × Unit)))) → Option (((List tyq2) × ((List Int) × Unit)) ⊕ (Bool × Unit))
 | 0, _ => none
 | n + 1, v =>
  let y53 := (v.1.2.2.2.2.2.2.2.2.2.2.1.length : Int)
  bif decide (v.2.2.1 < y53) then
   bif decide (0 ≤ v.2.2.1) then
   bif decide (v.2.2.1.toNat < v.1.2.2.2.2.2.2.2.2.2.2.1.length) then
   let y54 := v.1.2.2.2.2.2.2.2.2.2.2.1.getD v.2.2.1.toNat (0 : Int)
   (Fsl6Find N (v.2.1, y54, ())).bind fun r55 =>
   Option.bind (
    bif decide (r55.1 < (0 : Int)) then
     some (.inr ((false, ())))
    else
    bif decide (0 ≤ r55.1) then
    bif decide (r55.1.toNat < v.2.1.length) then
    let y56 := v.2.1.getD r55.1.toNat ((0 : Int), (0 : Int), ((0 : Int), (0 : Int), ()), ([] : (List Int)), ([] : (List Int)), ())
    bif decide (0 ≤ r55.1) then
    bif decide (r55.1.toNat < v.2.1.length) then
    let y57 := v.2.1.getD r55.1.toNat ((0 : Int), (0 : Int), ((0 : Int), (0 : Int), ()), ([] : (List Int)), ([] : (List Int)), ())
    bif y56.2.1 != y57.1 then
     some (.inr ((false, ())))
    else
    bif decide (0 ≤ r55.1) then
    bif decide (r55.1.toNat < v.2.1.length) then
    let y58 := v.2.1.getD r55.1.toNat ((0 : Int), (0 : Int), ((0 : Int), (0 : Int), ()), ([] : (List Int)), ([] : (List Int)), ())
    (FsRegionOf N (y58.1, ())).bind fun r59 =>
    bif decide (0 ≤ r59.1) then
    bif decide (r59.1.toNat < v.1.2.1.length) then
    let y60 := v.1.2.1.getD r59.1.toNat ((0 : Int), (0 : Int), (0 : Int), (0 : Int), (0 : Int), ())
    bif y60.1 == (4 : Int) then
     some (.inr ((false, ())))
    else
    some (.inl (v.1, v.2.1, v.2.2.1, v.2.2.2.1, ()))
    else none
    else none
    else none
    else none
    else none
    else none
    else none
    else none) fun o61 =>
   Sum.elim (fun o62 =>
    bif decide (0 ≤ o62.2.2.1) then
    bif decide (o62.2.2.1.toNat < o62.1.2.2.2.2.2.2.2.2.2.2.1.length) then
    let y63 := o62.1.2.2.2.2.2.2.2.2.2.2.1.getD o62.2.2.1.toNat (0 : Int)
    (Fsl6Put N (y63, o62.2.2.2.1, ())).bind fun r64 =>
    lsStateOk_6 N n (o62.1, o62.2.1, w64 (o62.2.2.1 + (1 : Int)), r64.1, ())
    else none
    else none) (fun o65 =>
    some (.inr ((o65.1, ())))) o61
   else none
   else none
  else
  some (.inl (v.2.1, v.2.2.2.1, ()))
noncomputable def lsStateOk_10 (N : Nat) : Nat → ((List tyq2) × (Int × (Int × ((List Int) × tyq6)))) → Option (((List tyq2) × (Int × ((List Int) × Unit))) ⊕ (Bool × Unit))
 | 0, _ => none
 | n + 1, v =>
  let y71 := decide (v.2.2.1 < (v.2.2.2.2.2.2.2.2.1.length : Int))
  bif y71 then
   Option.bind (
    bif decide (0 ≤ v.2.2.1) then
    bif decide (v.2.2.1.toNat < v.2.2.2.2.2.2.2.2.1.length) then
    let y72 := v.2.2.2.2.2.2.2.2.1.getD v.2.2.1.toNat (0 : Int)
    bif y72 != (0 : Int) then
     bif decide (0 ≤ v.2.2.1) then
     bif decide (v.2.2.1.toNat < v.2.2.2.2.2.2.2.2.1.length) then
     let y73 := v.2.2.2.2.2.2.2.2.1.getD v.2.2.1.toNat (0 : Int)
     (Fsl6Find N (v.1, y73, ())).bind fun r74 =>
     bif decide (r74.1 < (0 : Int)) then
      some (.inr ((false, ())))
     else
     some (.inl (v.1, v.2.1, v.2.2.1, v.2.2.2.1, v.2.2.2.2.1, v.2.2.2.2.2.1, v.2.2.2.2.2.2.1, v.2.2.2.2.2.2.2.1, v.2.2.2.2.2.2.2.2.1, v.2.2.2.2.2.2.2.2.2.1, ()))
     else none
     else none
    else
    some (.inl (v.1, v.2.1, v.2.2.1, v.2.2.2.1, v.2.2.2.2.1, v.2.2.2.2.2.1, v.2.2.2.2.2.2.1, v.2.2.2.2.2.2.2.1, v.2.2.2.2.2.2.2.2.1, v.2.2.2.2.2.2.2.2.2.1, ()))
    else none
    else none) fun o75 =>
   Sum.elim (fun o76 =>
    bif decide (0 ≤ o76.2.2.1) then
    bif decide (o76.2.2.1.toNat < o76.2.2.2.2.2.2.2.2.1.length) then
    let y77 := o76.2.2.2.2.2.2.2.2.1.getD o76.2.2.1.toNat (0 : Int)
    (Fsl6Now N (o76.1, y77, ())).bind fun r78 =>
    (Fsl6Put N (r78.1, o76.2.2.2.1, ())).bind fun r79 =>
    lsStateOk_10 N n (o76.1, o76.2.1, w64 (o76.2.2.1 + (1 : Int)), r79.1, o76.2.2.2.2.1, o76.2.2.2.2.2.1, o76.2.2.2.2.2.2.1, o76.2.2.2.2.2.2.2.1, o76.2.2.2.2.2.2.2.2.1, o76.2.2.2.2.2.2.2.2.2.1, ())
    else none
    else none) (fun o80 =>
    some (.inr ((o80.1, ())))) o75
  else
  some (.inl (v.1, v.2.1, v.2.2.2.1, ()))
noncomputable def lsStateOk_8 (N : Nat) : Nat → ((List tyq2) × (Int × ((List Int) × Unit))) → Option (Unit ⊕ (Bool × Unit))
 | 0, _ => none
 | n + 1, v =>
  let y68 := decide (v.2.1 < (v.2.2.1.length : Int))
  bif y68 then
   bif decide (0 ≤ v.2.1) then
   bif decide (v.2.1.toNat < v.2.2.1.length) then
   (Fsl6Find N (v.1, v.2.2.1.getD v.2.1.toNat (0 : Int), ())).bind fun r69 =>
   bif decide (0 ≤ r69.1) then
   bif decide (r69.1.toNat < v.1.length) then
   let y70 := v.1.getD r69.1.toNat ((0 : Int), (0 : Int), ((0 : Int), (0 : Int), ()), ([] : (List Int)), ([] : (List Int)), ())
   (lsStateOk_10 N N (v.1, v.2.1, (0 : Int), v.2.2.1, y70.1, y70.2.1, y70.2.2.1.1, y70.2.2.1.2.1, y70.2.2.2.1, y70.2.2.2.2.1, ())).bind fun o81 =>
   Sum.elim (fun o82 =>
    lsStateOk_8 N n (o82.1, w64 (o82.2.1 + (1 : Int)), o82.2.2.1, ())) (fun o83 =>
    some (.inr ((o83.1, ())))) o81
   else none
   else none
   else none
   else none
  else
  some (.inl ())
noncomputable def FsStateOk (N : Nat) (x : (tyq1 × Unit)) : Option (Bool × Unit) :=
 Option.bind (
  (FsWordsOk N (x.1.1, ())).bind fun r1 =>
  bif !r1.1 then
   some (.inr ((false, ())))
  else
  (FsTableOk N (x.1.2.1, ())).bind fun r2 =>
  bif !r2.1 then
   some (.inr ((false, ())))
  else
  let y3 := w64 ((x.1.2.1.length : Int) * (16 : Int))
  bif y3 != (x.1.1.length : Int) then
   some (.inr ((false, ())))
  else
  let y4 := (x.1.2.2.1.length : Int) != (x.1.1.length : Int)
  bif y4 then
   some (.inr ((false, ())))
  else
  some (.inl (x.1, ()))) fun o5 =>
 Sum.elim (fun o6 =>
  Option.bind (
   bif decide (o6.1.2.2.2.1 < (0 : Int)) then
    some (.inr ((false, ())))
   else
   bif decide (o6.1.2.2.2.1 > (3 : Int)) then
    some (.inr ((false, ())))
   else
   let y7 := (o6.1.2.2.2.2.2.2.2.2.1.length : Int)
   bif decide (y7 < (1 : Int)) then
    some (.inr ((false, ())))
   else
   let y8 := (o6.1.2.2.2.2.2.2.2.2.1.length : Int)
   bif decide (y8 > (3 : Int)) then
    some (.inr ((false, ())))
   else
   some (.inl (o6.1, ()))) fun o9 =>
  Sum.elim (fun o10 =>
   (Fsl6Things N (o10.1, ())).bind fun r11 =>
   bif !r11.1 then
    some (false, ())
   else
   (lsStateOk_0 N N (o10.1, r11.2.1, (0 : Int), ())).bind fun o29 =>
   Sum.elim (fun o30 =>
    (lsStateOk_2 N N (o30.1, o30.2.1, (0 : Int), ([] : (List Int)), ())).bind fun o50 =>
    Sum.elim (fun o51 =>
     let y52 := (o51.1.2.2.2.2.2.2.2.2.2.2.1.length : Int)
     bif decide (y52 > (8 : Int)) then
      some (false, ())
     else
     (lsStateOk_6 N N (o51.1, o51.2.1, (0 : Int), o51.2.2.1, ())).bind fun o66 =>
     Sum.elim (fun o67 =>
      (lsStateOk_8 N N (o67.1, (0 : Int), o67.2.1, ())).bind fun o84 =>
      Sum.elim (fun o85 =>
       some (true, ())) (fun o86 =>
       some (o86.1, ())) o84) (fun o87 =>
      some (o87.1, ())) o66) (fun o88 =>
     some (o88.1, ())) o50) (fun o89 =>
    some (o89.1, ())) o29) (fun o90 =>
   some (o90.1, ())) o9) (fun o91 =>
  some (o91.1, ())) o5
noncomputable def consStateOk (N : Nat) : Con := { f := 38, din := dinsStateOk, outs := outsStateOk, F := FsStateOk N }
noncomputable def XsStateOk (N : Nat) : Ctx := { E := EsStateOk N, H := HsStateOk, lp := [(0, { hd := dsStateOk_0, outs := osStateOk_0, run := fun v => lsStateOk_0 N N v }), (4, { hd := dsStateOk_4, outs := osStateOk_4, run := fun v => lsStateOk_4 N N v }), (2, { hd := dsStateOk_2, outs := osStateOk_2, run := fun v => lsStateOk_2 N N v }), (6, { hd := dsStateOk_6, outs := osStateOk_6, run := fun v => lsStateOk_6 N N v }), (10, { hd := dsStateOk_10, outs := osStateOk_10, run := fun v => lsStateOk_10 N N v }), (8, { hd := dsStateOk_8, outs := osStateOk_8, run := fun v => lsStateOk_8 N N v })], jn := [(3, jsStateOk_3), (5, jsStateOk_5), (14, jsStateOk_14), (23, jsStateOk_23), (28, jsStateOk_28), (37, jsStateOk_37), (47, jsStateOk_47)] }
noncomputable def bsStateOk_8 : Code := loopBody (codeOf Try.f38) 3
noncomputable def bsStateOk_10 : Code := loopBody bsStateOk_8 0
noncomputable def bsStateOk_6 : Code := loopBody (codeOf Try.f38) 2
noncomputable def bsStateOk_2 : Code := loopBody (codeOf Try.f38) 1
noncomputable def bsStateOk_4 : Code := loopBody bsStateOk_2 0
noncomputable def bsStateOk_0 : Code := loopBody (codeOf Try.f38) 0
theorem FsStateOk_eq (N : Nat) (x : (tyq1 × Unit)) : evFn (XsStateOk N) Try.f38 dinsStateOk outsStateOk x = FsStateOk N x := by kernel_rfl
theorem lsStateOk_0_eq (N n : Nat) (v : (tyq1 × ((List tyq2) × (Int × Unit)))) : lsStateOk_0 N (n + 1) v = ev (XsStateOk N) bsStateOk_0 (roundK dsStateOk_0 osStateOk_0 (lsStateOk_0 N n)) (dsStateOk_0.mk' v) := by kernel_rfl
theorem lsStateOk_4_eq (N n : Nat) (v : (tyq1 × ((List tyq2) × (Int × (Int × ((List Int) × tyq4)))))) : lsStateOk_4 N (n + 1) v = ev (XsStateOk N) bsStateOk_4 (roundK dsStateOk_4 osStateOk_4 (lsStateOk_4 N n)) (dsStateOk_4.mk' v) := by kernel_rfl
theorem lsStateOk_2_eq (N n : Nat) (v : (tyq1 × ((List tyq2) × (Int × ((List Int) × Unit))))) : lsStateOk_2 N (n + 1) v = ev (XsStateOk N) bsStateOk_2 (roundK dsStateOk_2 osStateOk_2 (lsStateOk_2 N n)) (dsStateOk_2.mk' v) := by kernel_rfl
theorem lsStateOk_6_eq (N n : Nat) (v : (tyq1 × ((List tyq2) × (Int × ((List Int) × Unit))))) : lsStateOk_6 N (n + 1) v = ev (XsStateOk N) bsStateOk_6 (roundK dsStateOk_6 osStateOk_6 (lsStateOk_6 N n)) (dsStateOk_6.mk' v) := by kernel_rfl
theorem lsStateOk_10_eq (N n : Nat) (v : ((List tyq2) × (Int × (Int × ((List Int) × tyq6))))) : lsStateOk_10 N (n + 1) v = ev (XsStateOk N) bsStateOk_10 (roundK dsStateOk_10 osStateOk_10 (lsStateOk_10 N n)) (dsStateOk_10.mk' v) := by kernel_rfl
theorem lsStateOk_8_eq (N n : Nat) (v : ((List tyq2) × (Int × ((List Int) × Unit)))) : lsStateOk_8 N (n + 1) v = ev (XsStateOk N) bsStateOk_8 (roundK dsStateOk_8 osStateOk_8 (lsStateOk_8 N n)) (dsStateOk_8.mk' v) := by kernel_rfl
theorem cxsStateOk (N : Nat) : CtxOk Try.prog (XsStateOk N) := ⟨⟨TE_ok, List.forall_mem_cons.2 ⟨(specsWordsOk N), List.forall_mem_cons.2 ⟨(specsTableOk N), List.forall_mem_cons.2 ⟨(specsl6Things N), List.forall_mem_cons.2 ⟨(specsl6Find N), List.forall_mem_cons.2 ⟨(specsRegionOf N), List.forall_mem_cons.2 ⟨(specsl6Now N), List.forall_mem_cons.2 ⟨(specsl6Put N), fun k hk => absurd hk List.not_mem_nil⟩⟩⟩⟩⟩⟩⟩⟩, mixed⟩
theorem lpsStateOk_0 (N : Nat) : LoopOk Try.prog { hd := dsStateOk_0, outs := osStateOk_0, run := fun v => lsStateOk_0 N N v } bsStateOk_0 :=
 loop_fuel (d := dsStateOk_0) (os := osStateOk_0) (cxsStateOk N) (loops_at (ids := []) (by kernel_rfl) (trivial)) (lsStateOk_0 N) (fun _ => rfl) (fun n v => lsStateOk_0_eq N n v) (fun _ => N)
theorem lpsStateOk_4 (N : Nat) : LoopOk Try.prog { hd := dsStateOk_4, outs := osStateOk_4, run := fun v => lsStateOk_4 N N v } bsStateOk_4 :=
 loop_fuel (d := dsStateOk_4) (os := osStateOk_4) (cxsStateOk N) (loops_at (ids := []) (by kernel_rfl) (trivial)) (lsStateOk_4 N) (fun _ => rfl) (fun n v => lsStateOk_4_eq N n v) (fun _ => N)
theorem lpsStateOk_2 (N : Nat) : LoopOk Try.prog { hd := dsStateOk_2, outs := osStateOk_2, run := fun v => lsStateOk_2 N N v } bsStateOk_2 :=
 loop_fuel (d := dsStateOk_2) (os := osStateOk_2) (cxsStateOk N) (loops_at (ids := [4]) (by kernel_rfl) ⟨lp_of (lpsStateOk_4 N), trivial⟩) (lsStateOk_2 N) (fun _ => rfl) (fun n v => lsStateOk_2_eq N n v) (fun _ => N)
theorem lpsStateOk_6 (N : Nat) : LoopOk Try.prog { hd := dsStateOk_6, outs := osStateOk_6, run := fun v => lsStateOk_6 N N v } bsStateOk_6 :=
 loop_fuel (d := dsStateOk_6) (os := osStateOk_6) (cxsStateOk N) (loops_at (ids := []) (by kernel_rfl) (trivial)) (lsStateOk_6 N) (fun _ => rfl) (fun n v => lsStateOk_6_eq N n v) (fun _ => N)
theorem lpsStateOk_10 (N : Nat) : LoopOk Try.prog { hd := dsStateOk_10, outs := osStateOk_10, run := fun v => lsStateOk_10 N N v } bsStateOk_10 :=
 loop_fuel (d := dsStateOk_10) (os := osStateOk_10) (cxsStateOk N) (loops_at (ids := []) (by kernel_rfl) (trivial)) (lsStateOk_10 N) (fun _ => rfl) (fun n v => lsStateOk_10_eq N n v) (fun _ => N)
theorem lpsStateOk_8 (N : Nat) : LoopOk Try.prog { hd := dsStateOk_8, outs := osStateOk_8, run := fun v => lsStateOk_8 N N v } bsStateOk_8 :=
 loop_fuel (d := dsStateOk_8) (os := osStateOk_8) (cxsStateOk N) (loops_at (ids := [10]) (by kernel_rfl) ⟨lp_of (lpsStateOk_10 N), trivial⟩) (lsStateOk_8 N) (fun _ => rfl) (fun n v => lsStateOk_8_eq N n v) (fun _ => N)
theorem specsStateOk (N : Nat) : Spec Try.prog (consStateOk N) :=
 Spec.of_eq (fn_spec (cxsStateOk N) (f := 38) (fn := Try.f38) (c := codeOf Try.f38) (by kernel_rfl) (by kernel_rfl) (by kernel_rfl) (loops_at (ids := [0, 2, 6, 8]) (by kernel_rfl) ⟨lp_of (lpsStateOk_0 N), ⟨lp_of (lpsStateOk_2 N), ⟨lp_of (lpsStateOk_6 N), ⟨lp_of (lpsStateOk_8 N), trivial⟩⟩⟩⟩) (by kernel_rfl)) (fun x r h => (FsStateOk_eq N x).trans h)
noncomputable def dinsl7Reached : Desc := { n := 2, regs := [.one (.val tyq8), .one (.val (.sl tyq9))], bx := [], pins := [] }
noncomputable def outsl7Reached : Outs := [(.ret, { n := 1, regs := [.one (.lit (.row 1012800))], bx := [(1012800, .row (.int .i64))], pins := [] })]
noncomputable def Hsl7Reached : Hints := [(0, [(0, { fz := true })]),
 (1, [(0, { nl := [(0, (.int .i64))] })]),
 (9, [(5, { con := 1 })]),
 (14, [(6, { con := 2, sg := [(0, 1012800)] })]),
 (18, [(6, { con := 3 })]),
 (23, [(5, { con := 1 })])]
noncomputable def Esl7Reached (N : Nat) : Env := { te := TE, cs := [consl6Now N, consl5Place N, consl6Put N, consl6Find N] }
noncomputable def dsl7Reached_2 : Desc := { n := 111, regs := [u, .one (.val (.sl tyq9)), .one (.fpt tyq8), u, u, .one (.lit (.row 1012800)), .one (.val (.int .i64)), .one (.val (.int .i64))], bx := [(1012800, .row (.int .i64))], pins := [] }
noncomputable def osl7Reached_2 : Outs := [(.exit 2, { n := 111, regs := [u, .one (.val (.sl tyq9)), .one (.fpt tyq8), u, u, .one (.lit (.row 1012800)), .one (.val (.int .i64))], bx := [(1012800, .row (.int .i64))], pins := [] })]
noncomputable def dsl7Reached_0 : Desc := { n := 111, regs := [u, .one (.val (.sl tyq9)), .one (.fpt tyq8), u, u, .one (.lit (.row 1012800)), .one (.val (.int .i64))], bx := [(1012800, .row (.int .i64))], pins := [] }
noncomputable def osl7Reached_0 : Outs := [(.exit 0, { n := 111, regs := [u, .one (.val (.sl tyq9)), .one (.fpt tyq8), u, u, .one (.lit (.row 1012800))], bx := [(1012800, .row (.int .i64))], pins := [] })]
noncomputable def dsl7Reached_4 : Desc := { n := 111, regs := [u, .one (.val (.sl tyq9)), .one (.fpt tyq8), u, u, .one (.lit (.row 1012800)), u, u, u, .one (.val (.int .i64))], bx := [(1012800, .row (.int .i64))], pins := [] }
noncomputable def osl7Reached_4 : Outs := [(.exit 4, { n := 111, regs := [u, .one (.val (.sl tyq9)), u, u, u, .one (.lit (.row 1012800))], bx := [(1012800, .row (.int .i64))], pins := [] })]
noncomputable def dsl7Reached_8 : Desc := { n := 111, regs := [u, .one (.val (.sl tyq9)), u, u, u, .one (.lit (.row 1012800)), u, u, u, u, .one (.val (.int .i64)), .one (.lit (.ptr 1230976 0)), .one (.val (.int .i64))], bx := [(1012800, .row (.int .i64)), (1230976, .var [.val (.int .i64), .val (.int .i64), .val (.int .i64), .val (.int .i64), .val (.sl (.int .i64)), .val (.sl (.int .i64))])], pins := [] }
noncomputable def osl7Reached_8 : Outs := [(.exit 8, { n := 111, regs := [u, .one (.val (.sl tyq9)), u, u, u, .one (.lit (.row 1012800)), u, u, u, u, .one (.val (.int .i64))], bx := [(1012800, .row (.int .i64))], pins := [] })]
noncomputable def dsl7Reached_6 : Desc := { n := 111, regs := [u, .one (.val (.sl tyq9)), u, u, u, .one (.lit (.row 1012800)), u, u, u, u, .one (.val (.int .i64))], bx := [(1012800, .row (.int .i64))], pins := [] }
noncomputable def osl7Reached_6 : Outs := [(.exit 6, { n := 111, regs := [u, u, u, u, u, .one (.lit (.row 1012800))], bx := [(1012800, .row (.int .i64))], pins := [] })]
noncomputable def lsl7Reached_2 (N : Nat) : Nat → ((List tyq2) × (tyq1 × (Int × (Int × ((List Int) × Unit))))) → Option ((List tyq2) × (tyq1 × (Int × ((List Int) × Unit))))
 | 0, _ => none
 | n + 1, v =>
  bif decide (0 ≤ v.2.2.1) then
  bif decide (v.2.2.1.toNat < v.2.1.2.2.2.2.2.2.2.2.1.length) then
  let y2 := v.2.1.2.2.2.2.2.2.2.2.1.getD v.2.2.1.toNat (([] : (List Int)), (0 : Int), false, (0 : Int), ())
  let y3 := decide (v.2.2.2.1 < (y2.1.length : Int))
  bif y3 then
   bif decide (0 ≤ v.2.2.1) then
   bif decide (v.2.2.1.toNat < v.2.1.2.2.2.2.2.2.2.2.1.length) then
   let y4 := v.2.1.2.2.2.2.2.2.2.2.1.getD v.2.2.1.toNat (([] : (List Int)), (0 : Int), false, (0 : Int), ())
   bif decide (0 ≤ v.2.2.2.1) then
   bif decide (v.2.2.2.1.toNat < y4.1.length) then
   (Fsl6Now N (v.1, y4.1.getD v.2.2.2.1.toNat (0 : Int), ())).bind fun r5 =>
   bif r5.1 != (0 : Int) then
    (Fsl5Place N (v.2.2.2.2.1, r5.1, ())).bind fun r6 =>
    bif decide (r6.1 < (0 : Int)) then
     bif decide (v.2.2.2.2.1.length + [r5.1].length ≤ lim) then
     lsl7Reached_2 N n (v.1, v.2.1, v.2.2.1, w64 (v.2.2.2.1 + (1 : Int)), v.2.2.2.2.1 ++ [r5.1], ())
     else none
    else
    lsl7Reached_2 N n (v.1, v.2.1, v.2.2.1, w64 (v.2.2.2.1 + (1 : Int)), v.2.2.2.2.1, ())
   else
   lsl7Reached_2 N n (v.1, v.2.1, v.2.2.1, w64 (v.2.2.2.1 + (1 : Int)), v.2.2.2.2.1, ())
   else none
   else none
   else none
   else none
  else
  some (v.1, v.2.1, v.2.2.1, v.2.2.2.2.1, ())
  else none
  else none
noncomputable def lsl7Reached_0 (N : Nat) : Nat → ((List tyq2) × (tyq1 × (Int × ((List Int) × Unit)))) → Option ((List tyq2) × (tyq1 × ((List Int) × Unit)))
 | 0, _ => none
 | n + 1, v =>
  let y1 := (v.2.1.2.2.2.2.2.2.2.2.1.length : Int)
  bif decide (v.2.2.1 < y1) then
   (lsl7Reached_2 N N (v.1, v.2.1, v.2.2.1, (0 : Int), v.2.2.2.1, ())).bind fun o7 =>
   lsl7Reached_0 N n (o7.1, o7.2.1, w64 (o7.2.2.1 + (1 : Int)), o7.2.2.2.1, ())
  else
  some (v.1, v.2.1, v.2.2.2.1, ())
noncomputable def lsl7Reached_4 (N : Nat) : Nat → ((List tyq2) × (tyq1 × (Int × ((List Int) × Unit)))) → Option ((List tyq2) × ((List Int) × Unit))
 | 0, _ => none
 | n + 1, v =>
  let y9 := (v.2.1.2.2.2.2.2.2.2.2.2.2.1.length : Int)
  bif decide (v.2.2.1 < y9) then
   bif decide (0 ≤ v.2.2.1) then
   bif decide (v.2.2.1.toNat < v.2.1.2.2.2.2.2.2.2.2.2.2.1.length) then
   let y10 := v.2.1.2.2.2.2.2.2.2.2.2.2.1.getD v.2.2.1.toNat (0 : Int)
   (Fsl6Put N (y10, v.2.2.2.1, ())).bind fun r11 =>
   lsl7Reached_4 N n (v.1, v.2.1, w64 (v.2.2.1 + (1 : Int)), r11.1, ())
   else none
   else none
  else
  some (v.1, v.2.2.2.1, ())
noncomputable def lsl7Reached_8 (N : Nat) : Nat → ((List tyq2) × (Int × (Int × ((List Int) × tyq6)))) → Option ((List tyq2) × (Int × ((List Int) × Unit)))
 | 0, _ => none
 | n + 1, v =>
  let y16 := decide (v.2.2.1 < (v.2.2.2.2.2.2.2.2.1.length : Int))
  bif y16 then
   bif decide (0 ≤ v.2.2.1) then
   bif decide (v.2.2.1.toNat < v.2.2.2.2.2.2.2.2.1.length) then
   let y17 := v.2.2.2.2.2.2.2.2.1.getD v.2.2.1.toNat (0 : Int)
   (Fsl6Now N (v.1, y17, ())).bind fun r18 =>
   bif r18.1 != (0 : Int) then
    (Fsl5Place N (v.2.2.2.1, r18.1, ())).bind fun r19 =>
    bif decide (r19.1 < (0 : Int)) then
     bif decide (v.2.2.2.1.length + [r18.1].length ≤ lim) then
     lsl7Reached_8 N n (v.1, v.2.1, w64 (v.2.2.1 + (1 : Int)), v.2.2.2.1 ++ [r18.1], v.2.2.2.2.1, v.2.2.2.2.2.1, v.2.2.2.2.2.2.1, v.2.2.2.2.2.2.2.1, v.2.2.2.2.2.2.2.2.1, v.2.2.2.2.2.2.2.2.2.1, ())
     else none
    else
    lsl7Reached_8 N n (v.1, v.2.1, w64 (v.2.2.1 + (1 : Int)), v.2.2.2.1, v.2.2.2.2.1, v.2.2.2.2.2.1, v.2.2.2.2.2.2.1, v.2.2.2.2.2.2.2.1, v.2.2.2.2.2.2.2.2.1, v.2.2.2.2.2.2.2.2.2.1, ())
   else
   lsl7Reached_8 N n (v.1, v.2.1, w64 (v.2.2.1 + (1 : Int)), v.2.2.2.1, v.2.2.2.2.1, v.2.2.2.2.2.1, v.2.2.2.2.2.2.1, v.2.2.2.2.2.2.2.1, v.2.2.2.2.2.2.2.2.1, v.2.2.2.2.2.2.2.2.2.1, ())
   else none
   else none
  else
  some (v.1, v.2.1, v.2.2.2.1, ())
noncomputable def lsl7Reached_6 (N : Nat) : Nat → ((List tyq2) × (Int × ((List Int) × Unit))) → Option ((List Int) × Unit)
 | 0, _ => none
 | n + 1, v =>
  let y13 := decide (v.2.1 < (v.2.2.1.length : Int))
  bif y13 then
   bif decide (0 ≤ v.2.1) then
   bif decide (v.2.1.toNat < v.2.2.1.length) then
   (Fsl6Find N (v.1, v.2.2.1.getD v.2.1.toNat (0 : Int), ())).bind fun r14 =>
   bif decide (0 ≤ r14.1) then
   bif decide (r14.1.toNat < v.1.length) then
   let y15 := v.1.getD r14.1.toNat ((0 : Int), (0 : Int), ((0 : Int), (0 : Int), ()), ([] : (List Int)), ([] : (List Int)), ())
   (lsl7Reached_8 N N (v.1, v.2.1, (0 : Int), v.2.2.1, y15.1, y15.2.1, y15.2.2.1.1, y15.2.2.1.2.1, y15.2.2.2.1, y15.2.2.2.2.1, ())).bind fun o20 =>
   lsl7Reached_6 N n (o20.1, w64 (o20.2.1 + (1 : Int)), o20.2.2.1, ())
   else none
   else none
   else none
   else none
  else
  some (v.2.2.1, ())
noncomputable def Fsl7Reached (N : Nat) (x : (tyq1 × ((List tyq2) × Unit))) : Option ((List Int) × Unit) :=
 (lsl7Reached_0 N N (x.2.1, x.1, (0 : Int), ([] : (List Int)), ())).bind fun o8 =>
 (lsl7Reached_4 N N (o8.1, o8.2.1, (0 : Int), o8.2.2.1, ())).bind fun o12 =>
 (lsl7Reached_6 N N (o12.1, (0 : Int), o12.2.1, ())).bind fun o21 =>
 some (o21.1, ())
noncomputable def consl7Reached (N : Nat) : Con := { f := 97, din := dinsl7Reached, outs := outsl7Reached, F := Fsl7Reached N }
noncomputable def Xsl7Reached (N : Nat) : Ctx := { E := Esl7Reached N, H := Hsl7Reached, lp := [(2, { hd := dsl7Reached_2, outs := osl7Reached_2, run := fun v => lsl7Reached_2 N N v }), (0, { hd := dsl7Reached_0, outs := osl7Reached_0, run := fun v => lsl7Reached_0 N N v }), (4, { hd := dsl7Reached_4, outs := osl7Reached_4, run := fun v => lsl7Reached_4 N N v }), (8, { hd := dsl7Reached_8, outs := osl7Reached_8, run := fun v => lsl7Reached_8 N N v }), (6, { hd := dsl7Reached_6, outs := osl7Reached_6, run := fun v => lsl7Reached_6 N N v })], jn := [] }
noncomputable def bsl7Reached_6 : Code := loopBody (codeOf Try.f97) 2
noncomputable def bsl7Reached_8 : Code := loopBody bsl7Reached_6 0
noncomputable def bsl7Reached_4 : Code := loopBody (codeOf Try.f97) 1
noncomputable def bsl7Reached_0 : Code := loopBody (codeOf Try.f97) 0
noncomputable def bsl7Reached_2 : Code := loopBody bsl7Reached_0 0
theorem Fsl7Reached_eq (N : Nat) (x : (tyq1 × ((List tyq2) × Unit))) : evFn (Xsl7Reached N) Try.f97 dinsl7Reached outsl7Reached x = Fsl7Reached N x := by kernel_rfl
theorem lsl7Reached_2_eq (N n : Nat) (v : ((List tyq2) × (tyq1 × (Int × (Int × ((List Int) × Unit)))))) : lsl7Reached_2 N (n + 1) v = ev (Xsl7Reached N) bsl7Reached_2 (roundK dsl7Reached_2 osl7Reached_2 (lsl7Reached_2 N n)) (dsl7Reached_2.mk' v) := by kernel_rfl
theorem lsl7Reached_0_eq (N n : Nat) (v : ((List tyq2) × (tyq1 × (Int × ((List Int) × Unit))))) : lsl7Reached_0 N (n + 1) v = ev (Xsl7Reached N) bsl7Reached_0 (roundK dsl7Reached_0 osl7Reached_0 (lsl7Reached_0 N n)) (dsl7Reached_0.mk' v) := by kernel_rfl
theorem lsl7Reached_4_eq (N n : Nat) (v : ((List tyq2) × (tyq1 × (Int × ((List Int) × Unit))))) : lsl7Reached_4 N (n + 1) v = ev (Xsl7Reached N) bsl7Reached_4 (roundK dsl7Reached_4 osl7Reached_4 (lsl7Reached_4 N n)) (dsl7Reached_4.mk' v) := by kernel_rfl
theorem lsl7Reached_8_eq (N n : Nat) (v : ((List tyq2) × (Int × (Int × ((List Int) × tyq6))))) : lsl7Reached_8 N (n + 1) v = ev (Xsl7Reached N) bsl7Reached_8 (roundK dsl7Reached_8 osl7Reached_8 (lsl7Reached_8 N n)) (dsl7Reached_8.mk' v) := by kernel_rfl
theorem lsl7Reached_6_eq (N n : Nat) (v : ((List tyq2) × (Int × ((List Int) × Unit)))) : lsl7Reached_6 N (n + 1) v = ev (Xsl7Reached N) bsl7Reached_6 (roundK dsl7Reached_6 osl7Reached_6 (lsl7Reached_6 N n)) (dsl7Reached_6.mk' v) := by kernel_rfl
theorem cxsl7Reached (N : Nat) : CtxOk Try.prog (Xsl7Reached N) := ⟨⟨TE_ok, List.forall_mem_cons.2 ⟨(specsl6Now N), List.forall_mem_cons.2 ⟨(specsl5Place N), List.forall_mem_cons.2 ⟨(specsl6Put N), List.forall_mem_cons.2 ⟨(specsl6Find N), fun k hk => absurd hk List.not_mem_nil⟩⟩⟩⟩⟩, mixed⟩
theorem lpsl7Reached_2 (N : Nat) : LoopOk Try.prog { hd := dsl7Reached_2, outs := osl7Reached_2, run := fun v => lsl7Reached_2 N N v } bsl7Reached_2 :=
 loop_fuel (d := dsl7Reached_2) (os := osl7Reached_2) (cxsl7Reached N) (loops_at (ids := []) (by kernel_rfl) (trivial)) (lsl7Reached_2 N) (fun _ => rfl) (fun n v => lsl7Reached_2_eq N n v) (fun _ => N)
theorem lpsl7Reached_0 (N : Nat) : LoopOk Try.prog { hd := dsl7Reached_0, outs := osl7Reached_0, run := fun v => lsl7Reached_0 N N v } bsl7Reached_0 :=
 loop_fuel (d := dsl7Reached_0) (os := osl7Reached_0) (cxsl7Reached N) (loops_at (ids := [2]) (by kernel_rfl) ⟨lp_of (lpsl7Reached_2 N), trivial⟩) (lsl7Reached_0 N) (fun _ => rfl) (fun n v => lsl7Reached_0_eq N n v) (fun _ => N)
theorem lpsl7Reached_4 (N : Nat) : LoopOk Try.prog { hd := dsl7Reached_4, outs := osl7Reached_4, run := fun v => lsl7Reached_4 N N v } bsl7Reached_4 :=
 loop_fuel (d := dsl7Reached_4) (os := osl7Reached_4) (cxsl7Reached N) (loops_at (ids := []) (by kernel_rfl) (trivial)) (lsl7Reached_4 N) (fun _ => rfl) (fun n v => lsl7Reached_4_eq N n v) (fun _ => N)
theorem lpsl7Reached_8 (N : Nat) : LoopOk Try.prog { hd := dsl7Reached_8, outs := osl7Reached_8, run := fun v => lsl7Reached_8 N N v } bsl7Reached_8 :=
 loop_fuel (d := dsl7Reached_8) (os := osl7Reached_8) (cxsl7Reached N) (loops_at (ids := []) (by kernel_rfl) (trivial)) (lsl7Reached_8 N) (fun _ => rfl) (fun n v => lsl7Reached_8_eq N n v) (fun _ => N)
theorem lpsl7Reached_6 (N : Nat) : LoopOk Try.prog { hd := dsl7Reached_6, outs := osl7Reached_6, run := fun v => lsl7Reached_6 N N v } bsl7Reached_6 :=
 loop_fuel (d := dsl7Reached_6) (os := osl7Reached_6) (cxsl7Reached N) (loops_at (ids := [8]) (by kernel_rfl) ⟨lp_of (lpsl7Reached_8 N), trivial⟩) (lsl7Reached_6 N) (fun _ => rfl) (fun n v => lsl7Reached_6_eq N n v) (fun _ => N)
theorem specsl7Reached (N : Nat) : Spec Try.prog (consl7Reached N) :=
 Spec.of_eq (fn_spec (cxsl7Reached N) (f := 97) (fn := Try.f97) (c := codeOf Try.f97) (by kernel_rfl) (by kernel_rfl) (by kernel_rfl) (loops_at (ids := [0, 4, 6]) (by kernel_rfl) ⟨lp_of (lpsl7Reached_0 N), ⟨lp_of (lpsl7Reached_4 N), ⟨lp_of (lpsl7Reached_6 N), trivial⟩⟩⟩) (by kernel_rfl)) (fun x r h => (Fsl7Reached_eq N x).trans h)
noncomputable def dinsl7Sorted : Desc := { n := 1, regs := [.one (.val (.sl (.int .i64)))], bx := [], pins := [] }
noncomputable def outsl7Sorted : Outs := [(.ret, { n := 1, regs := [.one (.lit (.row 1012800))], bx := [(1012800, .row (.int .i64))], pins := [] })]
noncomputable def Hsl7Sorted : Hints := [(1, [(0, { nl := [(0, (.int .i64))] })])]
noncomputable def Esl7Sorted (_N : Nat) : Env := { te := TE, cs := [] }
noncomputable def dsl7Sorted_2 : Desc := { n := 56, regs := [.one (.val (.sl (.int .i64))), u, u, .one (.lit (.row 1012800)), .one (.val (.int .i64)), .one (.val (.int .i64))], bx := [(1012800, .row (.int .i64))], pins := [] }
noncomputable def osl7Sorted_2 : Outs := [(.exit 2, { n := 56, regs := [.one (.val (.sl (.int .i64))), u, u, .one (.lit (.row 1012800)), .one (.val (.int .i64))], bx := [(1012800, .row (.int .i64))], pins := [] })]
noncomputable def dsl7Sorted_0 : Desc := { n := 56, regs := [.one (.val (.sl (.int .i64))), u, u, .one (.lit (.row 1012800)), .one (.val (.int .i64))], bx := [(1012800, .row (.int .i64))], pins := [] }
noncomputable def osl7Sorted_0 : Outs := [(.exit 0, { n := 56, regs := [u, u, u, .one (.lit (.row 1012800))], bx := [(1012800, .row (.int .i64))], pins := [] })]
noncomputable def jsl7Sorted_8 : Outs := [(.exit 2, { n := 56, regs := [.one (.val (.sl (.int .i64))), u, u, .one (.lit (.row 1012800)), .one (.val (.int .i64))], bx := [(1012800, .row (.int .i64))], pins := [] }), (.normal, { n := 56, regs := [.one (.val (.sl (.int .i64))), u, u, .one (.lit (.row 1012800)), .one (.val (.int .i64)), .one (.val (.int .i64))], bx := [(1012800, .row (.int .i64))], pins := [] })]
noncomputable def lsl7Sorted_2 (N : Nat) : Nat → ((List Int) × (Int × (Int × ((List Int) × Unit)))) → Option ((List Int) × (Int × ((List Int) × Unit)))
 | 0, _ => none
 | n + 1, v =>
  Option.bind (
   bif decide (v.2.2.1 > (0 : Int)) then
    bif decide (0 ≤ (w64 (v.2.2.1 - (1 : Int)))) then
    bif decide ((w64 (v.2.2.1 - (1 : Int))).toNat < v.2.2.2.1.length) then
    let y2 := v.2.2.2.1.getD ((w64 (v.2.2.1 - (1 : Int))).toNat) (0 : Int)
    bif decide (0 ≤ v.2.2.1) then
    bif decide (v.2.2.1.toNat < v.2.2.2.1.length) then
    let y3 := v.2.2.2.1.getD v.2.2.1.toNat (0 : Int)
    bif decide (y2 > y3) then
     some (.inr ((v.1, v.2.1, v.2.2.1, v.2.2.2.1, ())))
    else
    some (.inl (v.1, v.2.1, v.2.2.2.1, ()))
    else none
    else none
    else none
    else none
   else
   some (.inl (v.1, v.2.1, v.2.2.2.1, ()))) fun o4 =>
  Sum.elim (fun o5 =>
   some (o5.1, o5.2.1, o5.2.2.1, ())) (fun o6 =>
   bif decide (0 ≤ (w64 (o6.2.2.1 - (1 : Int)))) then
   bif decide ((w64 (o6.2.2.1 - (1 : Int))).toNat < o6.2.2.2.1.length) then
   let y7 := o6.2.2.2.1.getD ((w64 (o6.2.2.1 - (1 : Int))).toNat) (0 : Int)
   bif decide (0 ≤ o6.2.2.1) then
   bif decide (o6.2.2.1.toNat < o6.2.2.2.1.length) then
   let y8 := o6.2.2.2.1.getD o6.2.2.1.toNat (0 : Int)
   bif decide (0 ≤ (w64 (o6.2.2.1 - (1 : Int)))) then
   bif decide ((w64 (o6.2.2.1 - (1 : Int))).toNat < o6.2.2.2.1.length) then
   let y9 := o6.2.2.2.1.set ((w64 (o6.2.2.1 - (1 : Int))).toNat) y8
   bif decide (0 ≤ o6.2.2.1) then
   bif decide (o6.2.2.1.toNat < y9.length) then
   lsl7Sorted_2 N n (o6.1, o6.2.1, w64 (o6.2.2.1 - (1 : Int)), y9.set o6.2.2.1.toNat y7, ())
   else none
   else none
   else none
   else none
   else none
   else none
   else none
   else none) o4
noncomputable def lsl7Sorted_0 (N : Nat) : Nat → ((List Int) × (Int × ((List Int) × Unit))) → Option ((List Int) × Unit)
 | 0, _ => none
 | n + 1, v =>
  bif decide (v.2.1 < (v.1.length : Int)) then
   bif decide (0 ≤ v.2.1) then
   bif decide (v.2.1.toNat < v.1.length) then
   bif decide (v.2.2.1.length + [v.1.getD v.2.1.toNat (0 : Int)].length ≤ lim) then
   let y1 := v.2.2.1 ++ [v.1.getD v.2.1.toNat (0 : Int)]
   (lsl7Sorted_2 N N (v.1, v.2.1, (v.2.2.1.length : Int), y1, ())).bind fun o10 =>
   lsl7Sorted_0 N n (o10.1, w64 (o10.2.1 + (1 : Int)), o10.2.2.1, ())
   else none
   else none
   else none
  else
  some (v.2.2.1, ())
noncomputable def Fsl7Sorted (N : Nat) (x : ((List Int) × Unit)) : Option ((List Int) × Unit) :=
 (lsl7Sorted_0 N N (x.1, (0 : Int), ([] : (List Int)), ())).bind fun o11 =>
 some (o11.1, ())
noncomputable def consl7Sorted (N : Nat) : Con := { f := 96, din := dinsl7Sorted, outs := outsl7Sorted, F := Fsl7Sorted N }
noncomputable def Xsl7Sorted (N : Nat) : Ctx := { E := Esl7Sorted N, H := Hsl7Sorted, lp := [(2, { hd := dsl7Sorted_2, outs := osl7Sorted_2, run := fun v => lsl7Sorted_2 N N v }), (0, { hd := dsl7Sorted_0, outs := osl7Sorted_0, run := fun v => lsl7Sorted_0 N N v })], jn := [(8, jsl7Sorted_8)] }
noncomputable def bsl7Sorted_0 : Code := loopBody (codeOf Try.f96) 0
noncomputable def bsl7Sorted_2 : Code := loopBody bsl7Sorted_0 0
theorem Fsl7Sorted_eq (N : Nat) (x : ((List Int) × Unit)) : evFn (Xsl7Sorted N) Try.f96 dinsl7Sorted outsl7Sorted x = Fsl7Sorted N x := by kernel_rfl
theorem lsl7Sorted_2_eq (N n : Nat) (v : ((List Int) × (Int × (Int × ((List Int) × Unit))))) : lsl7Sorted_2 N (n + 1) v = ev (Xsl7Sorted N) bsl7Sorted_2 (roundK dsl7Sorted_2 osl7Sorted_2 (lsl7Sorted_2 N n)) (dsl7Sorted_2.mk' v) := by kernel_rfl
theorem lsl7Sorted_0_eq (N n : Nat) (v : ((List Int) × (Int × ((List Int) × Unit)))) : lsl7Sorted_0 N (n + 1) v = ev (Xsl7Sorted N) bsl7Sorted_0 (roundK dsl7Sorted_0 osl7Sorted_0 (lsl7Sorted_0 N n)) (dsl7Sorted_0.mk' v) := by kernel_rfl
theorem cxsl7Sorted (N : Nat) : CtxOk Try.prog (Xsl7Sorted N) := ⟨⟨TE_ok, fun k hk => absurd hk List.not_mem_nil⟩, mixed⟩
theorem lpsl7Sorted_2 (N : Nat) : LoopOk Try.prog { hd := dsl7Sorted_2, outs := osl7Sorted_2, run := fun v => lsl7Sorted_2 N N v } bsl7Sorted_2 :=
 loop_fuel (d := dsl7Sorted_2) (os := osl7Sorted_2) (cxsl7Sorted N) (loops_at (ids := []) (by kernel_rfl) (trivial)) (lsl7Sorted_2 N) (fun _ => rfl) (fun n v => lsl7Sorted_2_eq N n v) (fun _ => N)
theorem lpsl7Sorted_0 (N : Nat) : LoopOk Try.prog { hd := dsl7Sorted_0, outs := osl7Sorted_0, run := fun v => lsl7Sorted_0 N N v } bsl7Sorted_0 :=
 loop_fuel (d := dsl7Sorted_0) (os := osl7Sorted_0) (cxsl7Sorted N) (loops_at (ids := [2]) (by kernel_rfl) ⟨lp_of (lpsl7Sorted_2 N), trivial⟩) (lsl7Sorted_0 N) (fun _ => rfl) (fun n v => lsl7Sorted_0_eq N n v) (fun _ => N)
theorem specsl7Sorted (N : Nat) : Spec Try.prog (consl7Sorted N) :=
 Spec.of_eq (fn_spec (cxsl7Sorted N) (f := 96) (fn := Try.f96) (c := codeOf Try.f96) (by kernel_rfl) (by kernel_rfl) (by kernel_rfl) (loops_at (ids := [0]) (by kernel_rfl) ⟨lp_of (lpsl7Sorted_0 N), trivial⟩) (by kernel_rfl)) (fun x r h => (Fsl7Sorted_eq N x).trans h)
noncomputable def dinsFullLive : Desc := { n := 1, regs := [.one (.val tyq8)], bx := [], pins := [] }
noncomputable def outsFullLive : Outs := [(.ret, { n := 2, regs := [.one (.lit (.row 1025600)), .one (.val .bool)], bx := [(1025600, .row (.int .i64))], pins := [] })]
noncomputable def HsFullLive : Hints := [(0, [(0, { fz := true })]),
 (2, [(0, { nl := [(0, (.int .i64))] })]),
 (3, [(1, { con := 1 })]),
 (4, [(2, { con := 2 }), (3, { con := 3 })])]
noncomputable def EsFullLive (N : Nat) : Env := { te := TE, cs := [consStateOk N, consl6Things N, consl7Reached N, consl7Sorted N] }
noncomputable def FsFullLive (N : Nat) (x : (tyq1 × Unit)) : Option (Bool × ((List Int) × Unit)) :=
 (FsStateOk N (x.1, ())).bind fun r1 =>
 bif !r1.1 then
  some (false, ([] : (List Int)), ())
 else
 (Fsl6Things N (x.1, ())).bind fun r2 =>
 (Fsl7Reached N (x.1, r2.2.1, ())).bind fun r3 =>
 (Fsl7Sorted N (r3.1, ())).bind fun r4 =>
 some (true, r4.1, ())
noncomputable def consFullLive (N : Nat) : Con := { f := 51, din := dinsFullLive, outs := outsFullLive, F := FsFullLive N }
noncomputable def XsFullLive (N : Nat) : Ctx := { E := EsFullLive N, H := HsFullLive, lp := [], jn := [] }
theorem FsFullLive_eq (N : Nat) (x : (tyq1 × Unit)) : evFn (XsFullLive N) Try.f51 dinsFullLive outsFullLive x = FsFullLive N x := by kernel_rfl
theorem cxsFullLive (N : Nat) : CtxOk Try.prog (XsFullLive N) := ⟨⟨TE_ok, List.forall_mem_cons.2 ⟨(specsStateOk N), List.forall_mem_cons.2 ⟨(specsl6Things N), List.forall_mem_cons.2 ⟨(specsl7Reached N), List.forall_mem_cons.2 ⟨(specsl7Sorted N), fun k hk => absurd hk List.not_mem_nil⟩⟩⟩⟩⟩, mixed⟩
theorem specsFullLive (N : Nat) : Spec Try.prog (consFullLive N) :=
 Spec.of_eq (fn_spec (cxsFullLive N) (f := 51) (fn := Try.f51) (c := codeOf Try.f51) (by kernel_rfl) (by kernel_rfl) (by kernel_rfl) (loops_at (ids := []) (by kernel_rfl) (trivial)) (by kernel_rfl)) (fun x r h => (FsFullLive_eq N x).trans h)
noncomputable def diniWordsOk : Desc := { n := 1, regs := [.one (.val (.sl (.int .i64)))], bx := [], pins := [] }
noncomputable def outiWordsOk : Outs := [(.ret, { n := 1, regs := [.one (.val .bool)], bx := [], pins := [] })]
noncomputable def HiWordsOk : Hints := []
noncomputable def EiWordsOk (_N : Nat) : Env := { te := TE, cs := [] }
noncomputable def FiWordsOk (N : Nat) (x : ((List Int) × Unit)) : Option (Bool × Unit) :=
 bif decide ((16 : Int) = 0) then
  none
 else
 let y1 := Int.tmod (x.1.length : Int) (16 : Int)
 bif y1 == (0 : Int) then
  let y2 := decide ((x.1.length : Int) ≥ (32 : Int))
  bif y2 then
   let y3 := decide ((x.1.length : Int) ≤ (192 : Int))
   some (y3, ())
  else
  some (false, ())
 else
 some (false, ())
noncomputable def coniWordsOk (N : Nat) : Con := { f := 125, din := diniWordsOk, outs := outiWordsOk, F := FiWordsOk N }
noncomputable def XiWordsOk (N : Nat) : Ctx := { E := EiWordsOk N, H := HiWordsOk, lp := [], jn := [] }
theorem FiWordsOk_eq (N : Nat) (x : ((List Int) × Unit)) : evFn (XiWordsOk N) Try.f125 diniWordsOk outiWordsOk x = FiWordsOk N x := by kernel_rfl
theorem cxiWordsOk (N : Nat) : CtxOk Try.prog (XiWordsOk N) := ⟨⟨TE_ok, fun k hk => absurd hk List.not_mem_nil⟩, mixed⟩
theorem speciWordsOk (N : Nat) : Spec Try.prog (coniWordsOk N) :=
 Spec.of_eq (fn_spec (cxiWordsOk N) (f := 125) (fn := Try.f125) (c := codeOf Try.f125) (by kernel_rfl) (by kernel_rfl) (by kernel_rfl) (loops_at (ids := []) (by kernel_rfl) (trivial)) (by kernel_rfl)) (fun x r h => (FiWordsOk_eq N x).trans h)
noncomputable def diniedge : Desc := { n := 0, regs := [], bx := [], pins := [] }
noncomputable def outiedge : Outs := [(.ret, { n := 1, regs := [.agg [.val (.int .i64), .val (.int .i64), .val (.int .i64), .val (.int .i64), .val (.int .i64)]], bx := [], pins := [] })]
noncomputable def Hiedge : Hints := []
noncomputable def Eiedge (_N : Nat) : Env := { te := TE, cs := [] }
noncomputable def Fiedge (N : Nat) (x : Unit) : Option tyq3 :=
 some ((0 : Int), (-1 : Int), (0 : Int), (0 : Int), (0 : Int), ())
noncomputable def coniedge (N : Nat) : Con := { f := 99, din := diniedge, outs := outiedge, F := Fiedge N }
noncomputable def Xiedge (N : Nat) : Ctx := { E := Eiedge N, H := Hiedge, lp := [], jn := [] }
theorem Fiedge_eq (N : Nat) (x : Unit) : evFn (Xiedge N) Try.f99 diniedge outiedge x = Fiedge N x := by kernel_rfl
theorem cxiedge (N : Nat) : CtxOk Try.prog (Xiedge N) := ⟨⟨TE_ok, fun k hk => absurd hk List.not_mem_nil⟩, mixed⟩
theorem speciedge (N : Nat) : Spec Try.prog (coniedge N) :=
 Spec.of_eq (fn_spec (cxiedge N) (f := 99) (fn := Try.f99) (c := codeOf Try.f99) (by kernel_rfl) (by kernel_rfl) (by kernel_rfl) (loops_at (ids := []) (by kernel_rfl) (trivial)) (by kernel_rfl)) (fun x r h => (Fiedge_eq N x).trans h)
noncomputable def diniRegionBase : Desc := { n := 1, regs := [.one (.val (.int .i64))], bx := [], pins := [] }
noncomputable def outiRegionBase : Outs := [(.ret, { n := 1, regs := [.one (.val (.int .i64))], bx := [], pins := [] })]
noncomputable def HiRegionBase : Hints := []
noncomputable def EiRegionBase (_N : Nat) : Env := { te := TE, cs := [] }
noncomputable def FiRegionBase (N : Nat) (x : (Int × Unit)) : Option (Int × Unit) :=
 bif decide (x.1 < (0 : Int)) then
  some ((0 : Int), ())
 else
 bif decide (x.1 ≥ (12 : Int)) then
  some ((0 : Int), ())
 else
 some (w64 (x.1 * (16 : Int)), ())
noncomputable def coniRegionBase (N : Nat) : Con := { f := 58, din := diniRegionBase, outs := outiRegionBase, F := FiRegionBase N }
noncomputable def XiRegionBase (N : Nat) : Ctx := { E := EiRegionBase N, H := HiRegionBase, lp := [], jn := [] }
theorem FiRegionBase_eq (N : Nat) (x : (Int × Unit)) : evFn (XiRegionBase N) Try.f58 diniRegionBase outiRegionBase x = FiRegionBase N x := by kernel_rfl
theorem cxiRegionBase (N : Nat) : CtxOk Try.prog (XiRegionBase N) := ⟨⟨TE_ok, fun k hk => absurd hk List.not_mem_nil⟩, mixed⟩
theorem speciRegionBase (N : Nat) : Spec Try.prog (coniRegionBase N) :=
 Spec.of_eq (fn_spec (cxiRegionBase N) (f := 58) (fn := Try.f58) (c := codeOf Try.f58) (by kernel_rfl) (by kernel_rfl) (by kernel_rfl) (loops_at (ids := []) (by kernel_rfl) (trivial)) (by kernel_rfl)) (fun x r h => (FiRegionBase_eq N x).trans h)
noncomputable def diniRegion_ok : Desc := { n := 2, regs := [.one (.val tyq10), .one (.val (.int .i64))], bx := [], pins := [] }
noncomputable def outiRegion_ok : Outs := [(.ret, { n := 1, regs := [.one (.val .bool)], bx := [], pins := [] })]
noncomputable def HiRegion_ok : Hints := [(0, [(0, { fz := true })])]
noncomputable def EiRegion_ok (N : Nat) : Env := { te := TE, cs := [coniRegionBase N] }
noncomputable def jiRegion_ok_4 : Outs := [(.normal, { n := 79, regs := [u, u, .one (.fpt tyq10), u, u, .one (.val (.int .i64))], bx := [], pins := [] }), (.ret, { n := 79, regs := [u, u, u, u, .one (.val .bool)], bx := [], pins := [] })]
noncomputable def jiRegion_ok_6 : Outs := [(.normal, { n := 79, regs := [u, u, .one (.fpt tyq10)], bx := [], pins := [] }), (.ret, { n := 79, regs := [u, u, u, u, .one (.val .bool)], bx := [], pins := [] })]
noncomputable def FiRegion_ok (N : Nat) (x : (tyq3 × (Int × Unit))) : Option (Bool × Unit) :=
 (FiRegionBase N (x.2.1, ())).bind fun r1 =>
 Option.bind (
  bif decide (x.1.1 < (1 : Int)) then
   some (.inr ((false, ())))
  else
  bif decide (x.1.1 > (4 : Int)) then
   some (.inr ((false, ())))
  else
  bif decide (x.1.2.2.1 < r1.1) then
   some (.inr ((false, ())))
  else
  let y2 := decide (x.1.2.2.1 > (w64 (r1.1 + (16 : Int))))
  bif y2 then
   some (.inr ((false, ())))
  else
  bif decide (x.1.2.2.2.1 < r1.1) then
   some (.inr ((false, ())))
  else
  bif decide (x.1.2.2.2.1 > x.1.2.2.1) then
   some (.inr ((false, ())))
  else
  bif decide (x.1.2.2.2.2.1 < (0 : Int)) then
   some (.inr ((false, ())))
  else
  let y3 := decide (x.1.2.2.2.2.1 > (w64 (x.1.2.2.1 - r1.1)))
  bif y3 then
   some (.inr ((false, ())))
  else
  some (.inl (x.1, r1.1, ()))) fun o4 =>
 Sum.elim (fun o5 =>
  Option.bind (
   bif o5.1.1 == (1 : Int) then
    bif o5.1.2.2.1 != o5.2.1 then
     some (.inr ((false, ())))
    else
    some (.inl (o5.1, ()))
   else
   some (.inl (o5.1, ()))) fun o6 =>
  Sum.elim (fun o7 =>
   bif o7.1.1 == (2 : Int) then
    bif decide (o7.1.2.1 ≥ (0 : Int)) then
     some (decide (o7.1.2.1 ≤ (3 : Int)), ())
    else
    some (false, ())
   else
   some (o7.1.2.1 == (-1 : Int), ())) (fun o8 =>
   some (o8.1, ())) o6) (fun o9 =>
  some (o9.1, ())) o4
noncomputable def coniRegion_ok (N : Nat) : Con := { f := 100, din := diniRegion_ok, outs := outiRegion_ok, F := FiRegion_ok N }
noncomputable def XiRegion_ok (N : Nat) : Ctx := { E := EiRegion_ok N, H := HiRegion_ok, lp := [], jn := [(4, jiRegion_ok_4), (6, jiRegion_ok_6)] }
theorem FiRegion_ok_eq (N : Nat) (x : (tyq3 × (Int × Unit))) : evFn (XiRegion_ok N) Try.f100 diniRegion_ok outiRegion_ok x = FiRegion_ok N x := by kernel_rfl
theorem cxiRegion_ok (N : Nat) : CtxOk Try.prog (XiRegion_ok N) := ⟨⟨TE_ok, List.forall_mem_cons.2 ⟨(speciRegionBase N), fun k hk => absurd hk List.not_mem_nil⟩⟩, mixed⟩
theorem speciRegion_ok (N : Nat) : Spec Try.prog (coniRegion_ok N) :=
 Spec.of_eq (fn_spec (cxiRegion_ok N) (f := 100) (fn := Try.f100) (c := codeOf Try.f100) (by kernel_rfl) (by kernel_rfl) (by kernel_rfl) (loops_at (ids := []) (by kernel_rfl) (trivial)) (by kernel_rfl)) (fun x r h => (FiRegion_ok_eq N x).trans h)
noncomputable def diniTableOk : Desc := { n := 1, regs := [.one (.val (.sl tyq10))], bx := [], pins := [] }
noncomputable def outiTableOk : Outs := [(.ret, { n := 1, regs := [.one (.val .bool)], bx := [], pins := [] })]
noncomputable def HiTableOk : Hints := [(8, [(2, { con := 1 })])]
noncomputable def EiTableOk (N : Nat) : Env := { te := TE, cs := [coniedge N, coniRegion_ok N] }
noncomputable def diTableOk_0 : Desc := { n := 50, regs := [u, u, u, .one (.lit (.mrow 1038400)), u, u, u, u, u, u, u, u, u, u, u, u, u, u, u, u, u, u, .one (.val (.sl tyq10)), .one (.val (.int .i64)), .one (.val (.int .i64))], bx := [(1038400, .mp .bool)], pins := [] }
noncomputable def oiTableOk_0 : Outs := [(.exit 0, { n := 50, regs := [], bx := [], pins := [] }), (.ret, { n := 50, regs := [u, u, .one (.val .bool)], bx := [], pins := [] })]
noncomputable def jiTableOk_3 : Outs := [(.normal, { n := 50, regs := [.one (.val (.sl tyq10))], bx := [], pins := [] }), (.ret, { n := 50, regs := [u, u, .one (.val .bool)], bx := [], pins := [] })]
noncomputable def liTableOk_0 (N : Nat) : Nat → ((List tyq3) × (Int × (Int × ((List (Int × Bool)) × Unit)))) → Option (Unit ⊕ (Bool × Unit))
 | 0, _ => none
 | n + 1, v =>
  bif decide (v.2.2.1 < v.2.1) then
   bif decide (0 ≤ v.2.2.1) then
   bif decide (v.2.2.1.toNat < v.1.length) then
   let y8 := v.1.getD v.2.2.1.toNat ((0 : Int), (0 : Int), (0 : Int), (0 : Int), (0 : Int), ())
   bif v.2.2.1 == (0 : Int) then
    liTableOk_0 N n (v.1, v.2.1, w64 (v.2.2.1 + (1 : Int)), v.2.2.2.1, ())
   else
   (FiRegion_ok N ((y8.1, y8.2.1, y8.2.2.1, y8.2.2.2.1, y8.2.2.2.2.1, ()), v.2.2.1, ())).bind fun r9 =>
   bif !r9.1 then
    some (.inr ((false, ())))
   else
   bif decide (y8.2.1 ≥ (0 : Int)) then
    bif (mget v.2.2.2.1 y8.2.1).getD false then
     some (.inr ((false, ())))
    else
    liTableOk_0 N n (v.1, v.2.1, w64 (v.2.2.1 + (1 : Int)), mset v.2.2.2.1 y8.2.1 true, ())
   else
   liTableOk_0 N n (v.1, v.2.1, w64 (v.2.2.1 + (1 : Int)), mset v.2.2.2.1 y8.2.1 true, ())
   else none
   else none
  else
  some (.inl ())
noncomputable def FiTableOk (N : Nat) (x : ((List tyq3) × Unit)) : Option (Bool × Unit) :=
 Option.bind (
  let y1 := decide ((x.1.length : Int) < (2 : Int))
  bif y1 then
   some (.inr ((false, ())))
  else
  let y2 := decide ((x.1.length : Int) > (12 : Int))
  bif y2 then
   some (.inr ((false, ())))
  else
  bif decide (0 ≤ (0 : Int)) then
  bif decide ((0 : Int).toNat < x.1.length) then
  let y3 := x.1.getD ((0 : Int).toNat) ((0 : Int), (0 : Int), (0 : Int), (0 : Int), (0 : Int), ())
  (Fiedge N ()).bind fun r4 =>
  let y5 := !((y3.1 == r4.1) && ((y3.2.1 == r4.2.1) && ((y3.2.2.1 == r4.2.2.1) && ((y3.2.2.2.1 == r4.2.2.2.1) && ((y3.2.2.2.2.1 == r4.2.2.2.2.1) && (true))))))
  bif y5 then
   some (.inr ((false, ())))
  else
  some (.inl (x.1, ()))
  else none
  else none) fun o6 =>
 Sum.elim (fun o7 =>
  (liTableOk_0 N N (o7.1, (o7.1.length : Int), (0 : Int), ([] : (List (Int × Bool))), ())).bind fun o10 =>
  Sum.elim (fun o11 =>
   some (true, ())) (fun o12 =>
   some (o12.1, ())) o10) (fun o13 =>
  some (o13.1, ())) o6
noncomputable def coniTableOk (N : Nat) : Con := { f := 57, din := diniTableOk, outs := outiTableOk, F := FiTableOk N }
noncomputable def XiTableOk (N : Nat) : Ctx := { E := EiTableOk N, H := HiTableOk, lp := [(0, { hd := diTableOk_0, outs := oiTableOk_0, run := fun v => liTableOk_0 N N v })], jn := [(3, jiTableOk_3)] }
noncomputable def biTableOk_0 : Code := loopBody (codeOf Try.f57) 0
theorem FiTableOk_eq (N : Nat) (x : ((List tyq3) × Unit)) : evFn (XiTableOk N) Try.f57 diniTableOk outiTableOk x = FiTableOk N x := by kernel_rfl
theorem liTableOk_0_eq (N n : Nat) (v : ((List tyq3) × (Int × (Int × ((List (Int × Bool)) × Unit))))) : liTableOk_0 N (n + 1) v = ev (XiTableOk N) biTableOk_0 (roundK diTableOk_0 oiTableOk_0 (liTableOk_0 N n)) (diTableOk_0.mk' v) := by kernel_rfl
theorem cxiTableOk (N : Nat) : CtxOk Try.prog (XiTableOk N) := ⟨⟨TE_ok, List.forall_mem_cons.2 ⟨(speciedge N), List.forall_mem_cons.2 ⟨(speciRegion_ok N), fun k hk => absurd hk List.not_mem_nil⟩⟩⟩, mixed⟩
theorem lpiTableOk_0 (N : Nat) : LoopOk Try.prog { hd := diTableOk_0, outs := oiTableOk_0, run := fun v => liTableOk_0 N N v } biTableOk_0 :=
 loop_fuel (d := diTableOk_0) (os := oiTableOk_0) (cxiTableOk N) (loops_at (ids := []) (by kernel_rfl) (trivial)) (liTableOk_0 N) (fun _ => rfl) (fun n v => liTableOk_0_eq N n v) (fun _ => N)
theorem speciTableOk (N : Nat) : Spec Try.prog (coniTableOk N) :=
 Spec.of_eq (fn_spec (cxiTableOk N) (f := 57) (fn := Try.f57) (c := codeOf Try.f57) (by kernel_rfl) (by kernel_rfl) (by kernel_rfl) (loops_at (ids := [0]) (by kernel_rfl) ⟨lp_of (lpiTableOk_0 N), trivial⟩) (by kernel_rfl)) (fun x r h => (FiTableOk_eq N x).trans h)
noncomputable def diniState_whole : Desc := { n := 1, regs := [.one (.val tyq8)], bx := [], pins := [] }
noncomputable def outiState_whole : Outs := [(.ret, { n := 1, regs := [.one (.val .bool)], bx := [], pins := [] })]
noncomputable def HiState_whole : Hints := [(0, [(0, { fz := true })]),
 (1, [(6, { con := 1 })])]
noncomputable def EiState_whole (N : Nat) : Env := { te := TE, cs := [coniWordsOk N, coniTableOk N] }
noncomputable def FiState_whole (N : Nat) (x : (tyq1 × Unit)) : Option (Bool × Unit) :=
 (FiWordsOk N (x.1.1, ())).bind fun r1 =>
 bif r1.1 then
  (FiTableOk N (x.1.2.1, ())).bind fun r2 =>
  bif r2.1 then
   bif decide ((16 : Int) = 0) then
    none
   else
   let y3 := w64 (Int.tdiv (x.1.1.length : Int) (16 : Int))
   bif (x.1.2.1.length : Int) == y3 then
    let y4 := (x.1.2.2.1.length : Int) == (x.1.1.length : Int)
    some (y4, ())
   else
   some (false, ())
  else
  some (false, ())
 else
 some (false, ())
noncomputable def coniState_whole (N : Nat) : Con := { f := 116, din := diniState_whole, outs := outiState_whole, F := FiState_whole N }
noncomputable def XiState_whole (N : Nat) : Ctx := { E := EiState_whole N, H := HiState_whole, lp := [], jn := [] }
theorem FiState_whole_eq (N : Nat) (x : (tyq1 × Unit)) : evFn (XiState_whole N) Try.f116 diniState_whole outiState_whole x = FiState_whole N x := by kernel_rfl
theorem cxiState_whole (N : Nat) : CtxOk Try.prog (XiState_whole N) := ⟨⟨TE_ok, List.forall_mem_cons.2 ⟨(speciWordsOk N), List.forall_mem_cons.2 ⟨(speciTableOk N), fun k hk => absurd hk List.not_mem_nil⟩⟩⟩, mixed⟩
theorem speciState_whole (N : Nat) : Spec Try.prog (coniState_whole N) :=
 Spec.of_eq (fn_spec (cxiState_whole N) (f := 116) (fn := Try.f116) (c := codeOf Try.f116) (by kernel_rfl) (by kernel_rfl) (by kernel_rfl) (loops_at (ids := []) (by kernel_rfl) (trivial)) (by kernel_rfl)) (fun x r h => (FiState_whole_eq N x).trans h)
noncomputable def dinifits : Desc := { n := 3, regs := [.one (.val (.sl (.int .i64))), .one (.val (.int .i64)), .one (.val (.int .i64))], bx := [], pins := [] }
noncomputable def outifits : Outs := [(.ret, { n := 1, regs := [.one (.val .bool)], bx := [], pins := [] })]
noncomputable def Hifits : Hints := []
noncomputable def Eifits (N : Nat) : Env := { te := TE, cs := [coniWordsOk N] }
noncomputable def Fifits (N : Nat) (x : ((List Int) × (Int × (Int × Unit)))) : Option (Bool × Unit) :=
 (FiWordsOk N (x.1, ())).bind fun r1 =>
 bif r1.1 then
  bif decide (x.2.1 ≥ (16 : Int)) then
   bif decide (x.2.1 < (x.1.length : Int)) then
    bif decide ((16 : Int) = 0) then
     none
    else
    let y2 := w64 ((Int.tmod x.2.1 (16 : Int)) + x.2.2.1)
    some (decide (y2 ≤ (16 : Int)), ())
   else
   some (false, ())
  else
  some (false, ())
 else
 some (false, ())
noncomputable def conifits (N : Nat) : Con := { f := 108, din := dinifits, outs := outifits, F := Fifits N }
noncomputable def Xifits (N : Nat) : Ctx := { E := Eifits N, H := Hifits, lp := [], jn := [] }
theorem Fifits_eq (N : Nat) (x : ((List Int) × (Int × (Int × Unit)))) : evFn (Xifits N) Try.f108 dinifits outifits x = Fifits N x := by kernel_rfl
theorem cxifits (N : Nat) : CtxOk Try.prog (Xifits N) := ⟨⟨TE_ok, List.forall_mem_cons.2 ⟨(speciWordsOk N), fun k hk => absurd hk List.not_mem_nil⟩⟩, mixed⟩
theorem specifits (N : Nat) : Spec Try.prog (conifits N) :=
 Spec.of_eq (fn_spec (cxifits N) (f := 108) (fn := Try.f108) (c := codeOf Try.f108) (by kernel_rfl) (by kernel_rfl) (by kernel_rfl) (loops_at (ids := []) (by kernel_rfl) (trivial)) (by kernel_rfl)) (fun x r h => (Fifits_eq N x).trans h)
noncomputable def diniShapeOk : Desc := { n := 1, regs := [.one (.val (.pair (.int .i64) (.pair (.int .i64) .unit)))], bx := [], pins := [] }
noncomputable def outiShapeOk : Outs := [(.ret, { n := 1, regs := [.one (.val .bool)], bx := [], pins := [] })]
noncomputable def HiShapeOk : Hints := [(0, [(0, { fz := true })])]
noncomputable def EiShapeOk (_N : Nat) : Env := { te := TE, cs := [] }
noncomputable def FiShapeOk (N : Nat) (x : ((Int × (Int × Unit)) × Unit)) : Option (Bool × Unit) :=
 bif decide (x.1.1 ≥ (0 : Int)) then
  bif decide (x.1.1 ≤ (4 : Int)) then
   bif decide (x.1.2.1 ≥ (0 : Int)) then
    some (decide (x.1.2.1 ≤ (4 : Int)), ())
   else
   some (false, ())
  else
  some (false, ())
 else
 some (false, ())
noncomputable def coniShapeOk (N : Nat) : Con := { f := 107, din := diniShapeOk, outs := outiShapeOk, F := FiShapeOk N }
noncomputable def XiShapeOk (N : Nat) : Ctx := { E := EiShapeOk N, H := HiShapeOk, lp := [], jn := [] }
theorem FiShapeOk_eq (N : Nat) (x : ((Int × (Int × Unit)) × Unit)) : evFn (XiShapeOk N) Try.f107 diniShapeOk outiShapeOk x = FiShapeOk N x := by kernel_rfl
theorem cxiShapeOk (N : Nat) : CtxOk Try.prog (XiShapeOk N) := ⟨⟨TE_ok, fun k hk => absurd hk List.not_mem_nil⟩, mixed⟩
theorem speciShapeOk (N : Nat) : Spec Try.prog (coniShapeOk N) :=
 Spec.of_eq (fn_spec (cxiShapeOk N) (f := 107) (fn := Try.f107) (c := codeOf Try.f107) (by kernel_rfl) (by kernel_rfl) (by kernel_rfl) (loops_at (ids := []) (by kernel_rfl) (trivial)) (by kernel_rfl)) (fun x r h => (FiShapeOk_eq N x).trans h)
noncomputable def diniShapeOf : Desc := { n := 1, regs := [.one (.val (.int .i64))], bx := [], pins := [] }
noncomputable def outiShapeOf : Outs := [(.ret, { n := 2, regs := [.agg [.val (.int .i64), .val (.int .i64)], .one (.val .bool)], bx := [], pins := [] })]
noncomputable def HiShapeOf : Hints := []
noncomputable def EiShapeOf (N : Nat) : Env := { te := TE, cs := [coniShapeOk N] }
noncomputable def FiShapeOf (N : Nat) (x : (Int × Unit)) : Option (Int × (Int × (Bool × Unit))) :=
 bif decide (x.1 < (0 : Int)) then
  some ((0 : Int), (0 : Int), false, ())
 else
 bif decide ((16 : Int) = 0) then
  none
 else
 bif decide ((16 : Int) = 0) then
  none
 else
 (FiShapeOk N ((w64 (Int.tdiv x.1 (16 : Int)), Int.tmod x.1 (16 : Int), ()), ())).bind fun r1 =>
 bif !r1.1 then
  some ((0 : Int), (0 : Int), false, ())
 else
 some (w64 (Int.tdiv x.1 (16 : Int)), Int.tmod x.1 (16 : Int), true, ())
noncomputable def coniShapeOf (N : Nat) : Con := { f := 132, din := diniShapeOf, outs := outiShapeOf, F := FiShapeOf N }
noncomputable def XiShapeOf (N : Nat) : Ctx := { E := EiShapeOf N, H := HiShapeOf, lp := [], jn := [] }
theorem FiShapeOf_eq (N : Nat) (x : (Int × Unit)) : evFn (XiShapeOf N) Try.f132 diniShapeOf outiShapeOf x = FiShapeOf N x := by kernel_rfl
theorem cxiShapeOf (N : Nat) : CtxOk Try.prog (XiShapeOf N) := ⟨⟨TE_ok, List.forall_mem_cons.2 ⟨(speciShapeOk N), fun k hk => absurd hk List.not_mem_nil⟩⟩, mixed⟩
theorem speciShapeOf (N : Nat) : Spec Try.prog (coniShapeOf N) :=
 Spec.of_eq (fn_spec (cxiShapeOf N) (f := 132) (fn := Try.f132) (c := codeOf Try.f132) (by kernel_rfl) (by kernel_rfl) (by kernel_rfl) (loops_at (ids := []) (by kernel_rfl) (trivial)) (by kernel_rfl)) (fun x r h => (FiShapeOf_eq N x).trans h)
end Go.Fl

/- Proved: for every input the law FnExactStateGraph returns true and leaves its arguments as they were. Part 1: the functions that the law reaches, as plain functions, and plain laws about them; no conditions. -/
import Derived.Test.YtohafbpiaflikaaGreatK3
import Derived.Test.YtohafbpiaflikaaGreatProg
set_option linter.all false
noncomputable section
set_option maxRecDepth 100000
set_option linter.all false
namespace Go.Fl
open Go Go.Proofs
abbrev tyq2 : Type := (Int × (Int × ((Int × (Int × Unit)) × ((List Int) × ((List Int) × Unit)))))
abbrev tyq3 : Type := (Int × (Int × (Int × (Int × (Int × Unit)))))
abbrev tyq4 : Type := ((List Int) × (Int × (Bool × (Int × Unit))))
abbrev tyq1 : Type := ((List Int) × ((List tyq3) × ((List Bool) × (Int × (Bool × (Bool × (Bool × (Int × ((List tyq4) × ((List Int) × ((List Int) × (Int × (Int × Unit)))))))))))))
abbrev tyq5 : Type := (Int × (Int × (Int × ((List Int) × Unit))))
abbrev tyq6 : Type := (List ((List Int) × ((List Int) × Unit)))
abbrev tyq7 : Type := ((List (List Int)) × ((List Int) × Unit))
abbrev tyq8 : Type := (Int × (Int × (Int × (Int × ((List Int) × ((List Int) × Unit))))))
abbrev tyq9 : Type := ((List Int) × ((List (Int × Bool)) × Unit))
abbrev tyq12 : Ty := (.pair (.int .i64) (.pair (.int .i64) (.pair (.int .i64) (.pair (.int .i64) (.pair (.int .i64) .unit)))))
abbrev tyq13 : Ty := (.pair (.sl (.int .i64)) (.pair (.int .i64) (.pair .bool (.pair (.int .i64) .unit))))
abbrev tyq10 : Ty := (.pair (.sl (.int .i64)) (.pair (.sl tyq12) (.pair (.sl .bool) (.pair (.int .i64) (.pair .bool (.pair .bool (.pair .bool (.pair (.int .i64) (.pair (.sl tyq13) (.pair (.sl (.int .i64)) (.pair (.sl (.int .i64)) (.pair (.int .i64) (.pair (.int .i64) .unit)))))))))))))
abbrev tyq14 : Ty := (.pair (.sl (.int .i64)) (.pair (.sl (.int .i64)) .unit))
abbrev tyq11 : Ty := (.pair (.int .i64) (.pair (.int .i64) (.pair (.pair (.int .i64) (.pair (.int .i64) .unit)) tyq14)))
def TE : List (Nat × Ty) := [(3, (.int .i64)),
 (4, .bool),
 (5, (.int .u8)),
 (9, .str),
 (22, (.sl (.int .i64))),
 (23, (.sl tyq12)),
 (24, (.sl .bool)),
 (25, (.sl tyq13)),
 (27, tyq10),
 (29, (.sl tyq14)),
 (30, (.sl (.sl (.int .i64)))),
 (32, (.pair (.sl tyq14) (.pair (.sl (.sl (.int .i64))) (.pair (.sl (.int .i64)) .unit)))),
 (35, (.sl tyq12)),
 (36, (.sl tyq13)),
 (38, tyq10),
 (51, (.sl tyq11)),
 (55, (.pair (.int .i64) (.pair (.int .i64) .unit))),
 (57, tyq11),
 (61, tyq14),
 (63, tyq13),
 (67, (.hnd false)),
 (73, (.mp tyq11)),
 (75, (.pair tyq10 (.pair (.mp tyq11) (.pair (.sl (.int .i64)) .unit)))),
 (87, tyq13),
 (92, tyq12),
 (94, tyq12),
 (103, (.int .u64)),
 (113, (.mp .bool)),
 (130, (.int .u64)),
 (132, (.int .u64)),
 (136, (.hnd false)),
 (138, (.hnd false))]
theorem TE_ok : TyOk Tryz.prog TE := tysB_spec (by kernel_rfl)
theorem mixed : Tryz.prog.follows .mixedOrders = true := by kernel_rfl
def dinvszIntS : Desc := { n := 2, regs := [.one (.val (.sl (.int .i64))), .one (.val (.int .i64))], bx := [], pins := [] }
def outvszIntS : Outs := [(.ret, { n := 1, regs := [.one (.val (.int .i64))], bx := [], pins := [] })]
def HvszIntS : Hints := []
def EvszIntS (_N : Nat) : Env := { te := TE, cs := [] }
def FvszIntS (N : Nat) (x : ((List Int) × (Int × Unit))) : Option (Int × Unit) :=
 let y1 := decide ((w64 (x.2.1 - (x.1.length : Int))) < (0 : Int))
 bif y1 then
  some ((-1 : Int), ())
 else
 some (w64 (x.2.1 - (x.1.length : Int)), ())
def convszIntS (N : Nat) : Con := { f := 13, din := dinvszIntS, outs := outvszIntS, F := FvszIntS N }
def XvszIntS (N : Nat) : Ctx := { E := EvszIntS N, H := HvszIntS, lp := [], jn := [] }
theorem FvszIntS_eq (N : Nat) (x : ((List Int) × (Int × Unit))) : evFn (XvszIntS N) Tryz.f13 dinvszIntS outvszIntS x = FvszIntS N x := by kernel_rfl
theorem cxvszIntS (N : Nat) : CtxOk Tryz.prog (XvszIntS N) := ⟨⟨TE_ok, fun k hk => absurd hk List.not_mem_nil⟩, mixed⟩
theorem specvszIntS (N : Nat) : Spec Tryz.prog (convszIntS N) :=
 Spec.of_eq (zzu (cxvszIntS N) (f := 13) (fn := Tryz.f13) (c := zzy Tryz.f13) (by kernel_rfl) (by kernel_rfl) (by kernel_rfl) (zzz (ids := []) (by kernel_rfl) (trivial)) (by kernel_rfl)) (fun x r h => (FvszIntS_eq N x).trans h)
def dinvszRegionS : Desc := { n := 2, regs := [.one (.val (.sl tyq12)), .one (.val (.int .i64))], bx := [], pins := [] }
def outvszRegionS : Outs := [(.ret, { n := 1, regs := [.one (.val (.int .i64))], bx := [], pins := [] })]
def HvszRegionS : Hints := []
def EvszRegionS (_N : Nat) : Env := { te := TE, cs := [] }
def FvszRegionS (N : Nat) (x : ((List tyq3) × (Int × Unit))) : Option (Int × Unit) :=
 let y1 := decide ((w64 (x.2.1 - (x.1.length : Int))) < (0 : Int))
 bif y1 then
  some ((-1 : Int), ())
 else
 some (w64 (x.2.1 - (x.1.length : Int)), ())
def convszRegionS (N : Nat) : Con := { f := 14, din := dinvszRegionS, outs := outvszRegionS, F := FvszRegionS N }
def XvszRegionS (N : Nat) : Ctx := { E := EvszRegionS N, H := HvszRegionS, lp := [], jn := [] }
theorem FvszRegionS_eq (N : Nat) (x : ((List tyq3) × (Int × Unit))) : evFn (XvszRegionS N) Tryz.f14 dinvszRegionS outvszRegionS x = FvszRegionS N x := by kernel_rfl
theorem cxvszRegionS (N : Nat) : CtxOk Tryz.prog (XvszRegionS N) := ⟨⟨TE_ok, fun k hk => absurd hk List.not_mem_nil⟩, mixed⟩
theorem specvszRegionS (N : Nat) : Spec Tryz.prog (convszRegionS N) :=
 Spec.of_eq (zzu (cxvszRegionS N) (f := 14) (fn := Tryz.f14) (c := zzy Tryz.f14) (by kernel_rfl) (by kernel_rfl) (by kernel_rfl) (zzz (ids := []) (by kernel_rfl) (trivial)) (by kernel_rfl)) (fun x r h => (FvszRegionS_eq N x).trans h)
def dinvszBoolS : Desc := { n := 2, regs := [.one (.val (.sl .bool)), .one (.val (.int .i64))], bx := [], pins := [] }
def outvszBoolS : Outs := [(.ret, { n := 1, regs := [.one (.val (.int .i64))], bx := [], pins := [] })]
def HvszBoolS : Hints := []
def EvszBoolS (_N : Nat) : Env := { te := TE, cs := [] }
def FvszBoolS (N : Nat) (x : ((List Bool) × (Int × Unit))) : Option (Int × Unit) :=
 let y1 := decide ((w64 (x.2.1 - (x.1.length : Int))) < (0 : Int))
 bif y1 then
  some ((-1 : Int), ())
 else
 some (w64 (x.2.1 - (x.1.length : Int)), ())
def convszBoolS (N : Nat) : Con := { f := 15, din := dinvszBoolS, outs := outvszBoolS, F := FvszBoolS N }
def XvszBoolS (N : Nat) : Ctx := { E := EvszBoolS N, H := HvszBoolS, lp := [], jn := [] }
theorem FvszBoolS_eq (N : Nat) (x : ((List Bool) × (Int × Unit))) : evFn (XvszBoolS N) Tryz.f15 dinvszBoolS outvszBoolS x = FvszBoolS N x := by kernel_rfl
theorem cxvszBoolS (N : Nat) : CtxOk Tryz.prog (XvszBoolS N) := ⟨⟨TE_ok, fun k hk => absurd hk List.not_mem_nil⟩, mixed⟩
theorem specvszBoolS (N : Nat) : Spec Tryz.prog (convszBoolS N) :=
 Spec.of_eq (zzu (cxvszBoolS N) (f := 15) (fn := Tryz.f15) (c := zzy Tryz.f15) (by kernel_rfl) (by kernel_rfl) (by kernel_rfl) (zzz (ids := []) (by kernel_rfl) (trivial)) (by kernel_rfl)) (fun x r h => (FvszBoolS_eq N x).trans h)
def dinvszThread : Desc := { n := 2, regs := [.one (.val tyq13), .one (.val (.int .i64))], bx := [], pins := [] }
def outvszThread : Outs := [(.ret, { n := 1, regs := [.one (.val (.int .i64))], bx := [], pins := [] })]
def HvszThread : Hints := [(0, [(0, { fz := true })])]
def EvszThread (N : Nat) : Env := { te := TE, cs := [convszIntS N] }
def FvszThread (N : Nat) (x : (tyq4 × (Int × Unit))) : Option (Int × Unit) :=
 (FvszIntS N (x.1.1, x.2.1, ())).bind fun r1 =>
 bif decide (r1.1 < (0 : Int)) then
  some ((-1 : Int), ())
 else
 some (r1.1, ())
def convszThread (N : Nat) : Con := { f := 48, din := dinvszThread, outs := outvszThread, F := FvszThread N }
def XvszThread (N : Nat) : Ctx := { E := EvszThread N, H := HvszThread, lp := [], jn := [] }
theorem FvszThread_eq (N : Nat) (x : (tyq4 × (Int × Unit))) : evFn (XvszThread N) Tryz.f48 dinvszThread outvszThread x = FvszThread N x := by kernel_rfl
theorem cxvszThread (N : Nat) : CtxOk Tryz.prog (XvszThread N) := ⟨⟨TE_ok, List.forall_mem_cons.2 ⟨(specvszIntS N), fun k hk => absurd hk List.not_mem_nil⟩⟩, mixed⟩
theorem specvszThread (N : Nat) : Spec Tryz.prog (convszThread N) :=
 Spec.of_eq (zzu (cxvszThread N) (f := 48) (fn := Tryz.f48) (c := zzy Tryz.f48) (by kernel_rfl) (by kernel_rfl) (by kernel_rfl) (zzz (ids := []) (by kernel_rfl) (trivial)) (by kernel_rfl)) (fun x r h => (FvszThread_eq N x).trans h)
def dinvszThreadS : Desc := { n := 2, regs := [.one (.val (.sl tyq13)), .one (.val (.int .i64))], bx := [], pins := [] }
def outvszThreadS : Outs := [(.ret, { n := 1, regs := [.one (.val (.int .i64))], bx := [], pins := [] })]
def HvszThreadS : Hints := []
def EvszThreadS (N : Nat) : Env := { te := TE, cs := [convszThread N] }
def zpn : Desc := { n := 27, regs := [.one (.val (.sl tyq13)), .one (.val (.int .i64)), u, u, u, .one (.val (.int .i64))], bx := [], pins := [] }
def ovszThreadS_0 : Outs := [(.exit 0, { n := 27, regs := [u, .one (.val (.int .i64))], bx := [], pins := [] }), (.ret, { n := 27, regs := [u, u, u, u, .one (.val (.int .i64))], bx := [], pins := [] })]
def zw3 (N : Nat) : Nat → ((List tyq4) × (Int × (Int × Unit))) → Option ((Int × Unit) ⊕ (Int × Unit))
 | 0, _ => none
 | n + 1, v =>
  let y2 := decide (v.2.2.1 < (v.1.length : Int))
  bif y2 then
   bif decide (0 ≤ v.2.2.1) then
   bif decide (v.2.2.1.toNat < v.1.length) then
   let y3 := v.1.getD v.2.2.1.toNat (([] : (List Int)), (0 : Int), false, (0 : Int), ())
   (FvszThread N (y3, v.2.1, ())).bind fun r4 =>
   bif decide (r4.1 < (0 : Int)) then
    some (.inr (((-1 : Int), ())))
   else
   zw3 N n (v.1, r4.1, w64 (v.2.2.1 + (1 : Int)), ())
   else none
   else none
  else
  some (.inl (v.2.1, ()))
def FvszThreadS (N : Nat) (x : ((List tyq4) × (Int × Unit))) : Option (Int × Unit) :=
 let y1 := decide ((w64 (x.2.1 - (x.1.length : Int))) < (0 : Int))
 bif y1 then
  some ((-1 : Int), ())
 else
 (zw3 N N (x.1, w64 (x.2.1 - (x.1.length : Int)), (0 : Int), ())).bind fun o5 =>
 Sum.elim (fun o6 =>
  some (o6.1, ())) (fun o7 =>
  some (o7.1, ())) o5
def convszThreadS (N : Nat) : Con := { f := 16, din := dinvszThreadS, outs := outvszThreadS, F := FvszThreadS N }
def XvszThreadS (N : Nat) : Ctx := { E := EvszThreadS N, H := HvszThreadS, lp := [(0, { hd := zpn, outs := ovszThreadS_0, run := fun v => zw3 N N v })], jn := [] }
def bvszThreadS_0 : Code := zzv (zzy Tryz.f16) 0
theorem FvszThreadS_eq (N : Nat) (x : ((List tyq4) × (Int × Unit))) : evFn (XvszThreadS N) Tryz.f16 dinvszThreadS outvszThreadS x = FvszThreadS N x := by kernel_rfl
theorem lvszThreadS_0_eq (N n : Nat) (v : ((List tyq4) × (Int × (Int × Unit)))) : zw3 N (n + 1) v = ev (XvszThreadS N) bvszThreadS_0 (zzd zpn ovszThreadS_0 (zw3 N n)) (zpn.mk' v) := by kernel_rfl
theorem cxvszThreadS (N : Nat) : CtxOk Tryz.prog (XvszThreadS N) := ⟨⟨TE_ok, List.forall_mem_cons.2 ⟨(specvszThread N), fun k hk => absurd hk List.not_mem_nil⟩⟩, mixed⟩
theorem lpvszThreadS_0 (N : Nat) : zzl Tryz.prog { hd := zpn, outs := ovszThreadS_0, run := fun v => zw3 N N v } bvszThreadS_0 :=
 zzx (d := zpn) (os := ovszThreadS_0) (cxvszThreadS N) (zzz (ids := []) (by kernel_rfl) (trivial)) (zw3 N) (fun _ => rfl) (fun n v => lvszThreadS_0_eq N n v) (fun _ => N)
theorem specvszThreadS (N : Nat) : Spec Tryz.prog (convszThreadS N) :=
 Spec.of_eq (zzu (cxvszThreadS N) (f := 16) (fn := Tryz.f16) (c := zzy Tryz.f16) (by kernel_rfl) (by kernel_rfl) (by kernel_rfl) (zzz (ids := [0]) (by kernel_rfl) ⟨lp_of (lpvszThreadS_0 N), trivial⟩) (by kernel_rfl)) (fun x r h => (FvszThreadS_eq N x).trans h)
def dinvszState : Desc := { n := 2, regs := [.one (.val tyq10), .one (.val (.int .i64))], bx := [], pins := [] }
def outvszState : Outs := [(.ret, { n := 1, regs := [.one (.val (.int .i64))], bx := [], pins := [] })]
def HvszState : Hints := [(0, [(0, { fz := true })]),
 (4, [(3, { con := 1 })]),
 (7, [(3, { con := 2 })]),
 (10, [(3, { con := 3 })])]
def EvszState (N : Nat) : Env := { te := TE, cs := [convszIntS N, convszRegionS N, convszBoolS N, convszThreadS N] }
def zs5 (N : Nat) (x : (tyq1 × (Int × Unit))) : Option (Int × Unit) :=
 (FvszIntS N (x.1.1, x.2.1, ())).bind fun r1 =>
 bif decide (r1.1 < (0 : Int)) then
  some ((-1 : Int), ())
 else
 (FvszRegionS N (x.1.2.1, r1.1, ())).bind fun r2 =>
 bif decide (r2.1 < (0 : Int)) then
  some ((-1 : Int), ())
 else
 (FvszBoolS N (x.1.2.2.1, r2.1, ())).bind fun r3 =>
 bif decide (r3.1 < (0 : Int)) then
  some ((-1 : Int), ())
 else
 (FvszThreadS N (x.1.2.2.2.2.2.2.2.2.1, r3.1, ())).bind fun r4 =>
 bif decide (r4.1 < (0 : Int)) then
  some ((-1 : Int), ())
 else
 (FvszIntS N (x.1.2.2.2.2.2.2.2.2.2.1, r4.1, ())).bind fun r5 =>
 bif decide (r5.1 < (0 : Int)) then
  some ((-1 : Int), ())
 else
 (FvszIntS N (x.1.2.2.2.2.2.2.2.2.2.2.1, r5.1, ())).bind fun r6 =>
 bif decide (r6.1 < (0 : Int)) then
  some ((-1 : Int), ())
 else
 some (r6.1, ())
def convszState (N : Nat) : Con := { f := 4, din := dinvszState, outs := outvszState, F := zs5 N }
def XvszState (N : Nat) : Ctx := { E := EvszState N, H := HvszState, lp := [], jn := [] }
theorem FvszState_eq (N : Nat) (x : (tyq1 × (Int × Unit))) : evFn (XvszState N) Tryz.f4 dinvszState outvszState x = zs5 N x := by kernel_rfl
theorem cxvszState (N : Nat) : CtxOk Tryz.prog (XvszState N) := ⟨⟨TE_ok, List.forall_mem_cons.2 ⟨(specvszIntS N), List.forall_mem_cons.2 ⟨(specvszRegionS N), List.forall_mem_cons.2 ⟨(specvszBoolS N), List.forall_mem_cons.2 ⟨(specvszThreadS N), fun k hk => absurd hk List.not_mem_nil⟩⟩⟩⟩⟩, mixed⟩
theorem specvszState (N : Nat) : Spec Tryz.prog (convszState N) :=
 Spec.of_eq (zzu (cxvszState N) (f := 4) (fn := Tryz.f4) (c := zzy Tryz.f4) (by kernel_rfl) (by kernel_rfl) (by kernel_rfl) (zzz (ids := []) (by kernel_rfl) (trivial)) (by kernel_rfl)) (fun x r h => (FvszState_eq N x).trans h)
def dinvtoIntS : Desc := { n := 1, regs := [.one (.val (.sl (.int .i64)))], bx := [], pins := [] }
def outvtoIntS : Outs := [(.ret, { n := 1, regs := [.one (.lit (.row 1012928))], bx := [(1012928, .row (.int .i64))], pins := [] })]
def HvtoIntS : Hints := []
def EvtoIntS (_N : Nat) : Env := { te := TE, cs := [] }
def dvtoIntS_0 : Desc := { n := 22, regs := [.one (.val (.sl (.int .i64))), u, u, .one (.lit (.row 1012928)), .one (.val (.int .i64))], bx := [(1012928, .row (.int .i64))], pins := [] }
def ovtoIntS_0 : Outs := [(.exit 0, { n := 22, regs := [u, u, u, .one (.lit (.row 1012928))], bx := [(1012928, .row (.int .i64))], pins := [] })]
def zt4 (N : Nat) : Nat → ((List Int) × (Int × ((List Int) × Unit))) → Option ((List Int) × Unit)
 | 0, _ => none
 | n + 1, v =>
  bif decide (v.2.1 < (v.1.length : Int)) then
   bif decide (0 ≤ v.2.1) then
   bif decide (v.2.1.toNat < v.1.length) then
   bif decide (0 ≤ v.2.1) then
   bif decide (v.2.1.toNat < v.2.2.1.length) then
   let y2 := v.2.2.1.set v.2.1.toNat (v.1.getD v.2.1.toNat (0 : Int))
   zt4 N n (v.1, w64 (v.2.1 + (1 : Int)), y2, ())
   else none
   else none
   else none
   else none
  else
  some (v.2.2.1, ())
def FvtoIntS (N : Nat) (x : ((List Int) × Unit)) : Option ((List Int) × Unit) :=
 bif decide (0 ≤ (x.1.length : Int)) then
 bif decide ((x.1.length : Int).toNat ≤ lim) then
 let y1 := List.replicate (x.1.length : Int).toNat (0 : Int)
 (zt4 N N (x.1, (0 : Int), y1, ())).bind fun o3 =>
 some (o3.1, ())
 else none
 else none
def convtoIntS (N : Nat) : Con := { f := 23, din := dinvtoIntS, outs := outvtoIntS, F := FvtoIntS N }
def XvtoIntS (N : Nat) : Ctx := { E := EvtoIntS N, H := HvtoIntS, lp := [(0, { hd := dvtoIntS_0, outs := ovtoIntS_0, run := fun v => zt4 N N v })], jn := [] }
def bvtoIntS_0 : Code := zzv (zzy Tryz.f23) 0
theorem FvtoIntS_eq (N : Nat) (x : ((List Int) × Unit)) : evFn (XvtoIntS N) Tryz.f23 dinvtoIntS outvtoIntS x = FvtoIntS N x := by kernel_rfl
theorem lvtoIntS_0_eq (N n : Nat) (v : ((List Int) × (Int × ((List Int) × Unit)))) : zt4 N (n + 1) v = ev (XvtoIntS N) bvtoIntS_0 (zzd dvtoIntS_0 ovtoIntS_0 (zt4 N n)) (dvtoIntS_0.mk' v) := by kernel_rfl
theorem cxvtoIntS (N : Nat) : CtxOk Tryz.prog (XvtoIntS N) := ⟨⟨TE_ok, fun k hk => absurd hk List.not_mem_nil⟩, mixed⟩
theorem lpvtoIntS_0 (N : Nat) : zzl Tryz.prog { hd := dvtoIntS_0, outs := ovtoIntS_0, run := fun v => zt4 N N v } bvtoIntS_0 :=
 zzx (d := dvtoIntS_0) (os := ovtoIntS_0) (cxvtoIntS N) (zzz (ids := []) (by kernel_rfl) (trivial)) (zt4 N) (fun _ => rfl) (fun n v => lvtoIntS_0_eq N n v) (fun _ => N)
theorem specvtoIntS (N : Nat) : Spec Tryz.prog (convtoIntS N) :=
 Spec.of_eq (zzu (cxvtoIntS N) (f := 23) (fn := Tryz.f23) (c := zzy Tryz.f23) (by kernel_rfl) (by kernel_rfl) (by kernel_rfl) (zzz (ids := [0]) (by kernel_rfl) ⟨lp_of (lpvtoIntS_0 N), trivial⟩) (by kernel_rfl)) (fun x r h => (FvtoIntS_eq N x).trans h)
def dinvtoRegion : Desc := { n := 1, regs := [.one (.val tyq12)], bx := [], pins := [] }
def outvtoRegion : Outs := [(.ret, { n := 1, regs := [.agg [.val (.int .i64), .val (.int .i64), .val (.int .i64), .val (.int .i64), .val (.int .i64)]], bx := [], pins := [] })]
def HvtoRegion : Hints := [(0, [(0, { fz := true })])]
def EvtoRegion (_N : Nat) : Env := { te := TE, cs := [] }
def FvtoRegion (N : Nat) (x : (tyq3 × Unit)) : Option tyq3 :=
 some (x.1.1, x.1.2.1, x.1.2.2.1, x.1.2.2.2.1, x.1.2.2.2.2.1, ())
def convtoRegion (N : Nat) : Con := { f := 53, din := dinvtoRegion, outs := outvtoRegion, F := FvtoRegion N }
def XvtoRegion (N : Nat) : Ctx := { E := EvtoRegion N, H := HvtoRegion, lp := [], jn := [] }
theorem FvtoRegion_eq (N : Nat) (x : (tyq3 × Unit)) : evFn (XvtoRegion N) Tryz.f53 dinvtoRegion outvtoRegion x = FvtoRegion N x := by kernel_rfl
theorem cxvtoRegion (N : Nat) : CtxOk Tryz.prog (XvtoRegion N) := ⟨⟨TE_ok, fun k hk => absurd hk List.not_mem_nil⟩, mixed⟩
theorem specvtoRegion (N : Nat) : Spec Tryz.prog (convtoRegion N) :=
 Spec.of_eq (zzu (cxvtoRegion N) (f := 53) (fn := Tryz.f53) (c := zzy Tryz.f53) (by kernel_rfl) (by kernel_rfl) (by kernel_rfl) (zzz (ids := []) (by kernel_rfl) (trivial)) (by kernel_rfl)) (fun x r h => (FvtoRegion_eq N x).trans h)
def dinvtoRegionS : Desc := { n := 1, regs := [.one (.val (.sl tyq12))], bx := [], pins := [] }
def outvtoRegionS : Outs := [(.ret, { n := 1, regs := [.one (.lit (.row 1012928))], bx := [(1012928, .row tyq12)], pins := [] })]
def HvtoRegionS : Hints := []
def EvtoRegionS (N : Nat) : Env := { te := TE, cs := [convtoRegion N] }
def zpo : Desc := { n := 23, regs := [.one (.val (.sl tyq12)), u, u, .one (.lit (.row 1012928)), .one (.val (.int .i64))], bx := [(1012928, .row tyq12)], pins := [] }
def ovtoRegionS_0 : Outs := [(.exit 0, { n := 23, regs := [u, u, u, .one (.lit (.row 1012928))], bx := [(1012928, .row tyq12)], pins := [] })]
def zw2 (N : Nat) : Nat → ((List tyq3) × (Int × ((List tyq3) × Unit))) → Option ((List tyq3) × Unit)
 | 0, _ => none
 | n + 1, v =>
  bif decide (v.2.1 < (v.1.length : Int)) then
   bif decide (0 ≤ v.2.1) then
   bif decide (v.2.1.toNat < v.1.length) then
   let y2 := v.1.getD v.2.1.toNat ((0 : Int), (0 : Int), (0 : Int), (0 : Int), (0 : Int), ())
   (FvtoRegion N (y2, ())).bind fun r3 =>
   bif decide (0 ≤ v.2.1) then
   bif decide (v.2.1.toNat < v.2.2.1.length) then
   let y4 := v.2.2.1.set v.2.1.toNat (r3.1, r3.2.1, r3.2.2.1, r3.2.2.2.1, r3.2.2.2.2.1, ())
   zw2 N n (v.1, w64 (v.2.1 + (1 : Int)), y4, ())
   else none
   else none
   else none
   else none
  else
  some (v.2.2.1, ())
def FvtoRegionS (N : Nat) (x : ((List tyq3) × Unit)) : Option ((List tyq3) × Unit) :=
 bif decide (0 ≤ (x.1.length : Int)) then
 bif decide ((x.1.length : Int).toNat ≤ lim) then
 let y1 := List.replicate (x.1.length : Int).toNat ((0 : Int), (0 : Int), (0 : Int), (0 : Int), (0 : Int), ())
 (zw2 N N (x.1, (0 : Int), y1, ())).bind fun o5 =>
 some (o5.1, ())
 else none
 else none
def convtoRegionS (N : Nat) : Con := { f := 24, din := dinvtoRegionS, outs := outvtoRegionS, F := FvtoRegionS N }
def XvtoRegionS (N : Nat) : Ctx := { E := EvtoRegionS N, H := HvtoRegionS, lp := [(0, { hd := zpo, outs := ovtoRegionS_0, run := fun v => zw2 N N v })], jn := [] }
def bvtoRegionS_0 : Code := zzv (zzy Tryz.f24) 0
theorem FvtoRegionS_eq (N : Nat) (x : ((List tyq3) × Unit)) : evFn (XvtoRegionS N) Tryz.f24 dinvtoRegionS outvtoRegionS x = FvtoRegionS N x := by kernel_rfl
theorem lvtoRegionS_0_eq (N n : Nat) (v : ((List tyq3) × (Int × ((List tyq3) × Unit)))) : zw2 N (n + 1) v = ev (XvtoRegionS N) bvtoRegionS_0 (zzd zpo ovtoRegionS_0 (zw2 N n)) (zpo.mk' v) := by kernel_rfl
theorem cxvtoRegionS (N : Nat) : CtxOk Tryz.prog (XvtoRegionS N) := ⟨⟨TE_ok, List.forall_mem_cons.2 ⟨(specvtoRegion N), fun k hk => absurd hk List.not_mem_nil⟩⟩, mixed⟩
theorem lpvtoRegionS_0 (N : Nat) : zzl Tryz.prog { hd := zpo, outs := ovtoRegionS_0, run := fun v => zw2 N N v } bvtoRegionS_0 :=
 zzx (d := zpo) (os := ovtoRegionS_0) (cxvtoRegionS N) (zzz (ids := []) (by kernel_rfl) (trivial)) (zw2 N) (fun _ => rfl) (fun n v => lvtoRegionS_0_eq N n v) (fun _ => N)
theorem specvtoRegionS (N : Nat) : Spec Tryz.prog (convtoRegionS N) :=
 Spec.of_eq (zzu (cxvtoRegionS N) (f := 24) (fn := Tryz.f24) (c := zzy Tryz.f24) (by kernel_rfl) (by kernel_rfl) (by kernel_rfl) (zzz (ids := [0]) (by kernel_rfl) ⟨lp_of (lpvtoRegionS_0 N), trivial⟩) (by kernel_rfl)) (fun x r h => (FvtoRegionS_eq N x).trans h)
def dinvtoBoolS : Desc := { n := 1, regs := [.one (.val (.sl .bool))], bx := [], pins := [] }
def outvtoBoolS : Outs := [(.ret, { n := 1, regs := [.one (.lit (.row 1012928))], bx := [(1012928, .row .bool)], pins := [] })]
def HvtoBoolS : Hints := []
def EvtoBoolS (_N : Nat) : Env := { te := TE, cs := [] }
def dvtoBoolS_0 : Desc := { n := 22, regs := [.one (.val (.sl .bool)), u, u, .one (.lit (.row 1012928)), .one (.val (.int .i64))], bx := [(1012928, .row .bool)], pins := [] }
def ovtoBoolS_0 : Outs := [(.exit 0, { n := 22, regs := [u, u, u, .one (.lit (.row 1012928))], bx := [(1012928, .row .bool)], pins := [] })]
def zuh (N : Nat) : Nat → ((List Bool) × (Int × ((List Bool) × Unit))) → Option ((List Bool) × Unit)
 | 0, _ => none
 | n + 1, v =>
  bif decide (v.2.1 < (v.1.length : Int)) then
   bif decide (0 ≤ v.2.1) then
   bif decide (v.2.1.toNat < v.1.length) then
   bif decide (0 ≤ v.2.1) then
   bif decide (v.2.1.toNat < v.2.2.1.length) then
   let y2 := v.2.2.1.set v.2.1.toNat (v.1.getD v.2.1.toNat false)
   zuh N n (v.1, w64 (v.2.1 + (1 : Int)), y2, ())
   else none
   else none
   else none
   else none
  else
  some (v.2.2.1, ())
def FvtoBoolS (N : Nat) (x : ((List Bool) × Unit)) : Option ((List Bool) × Unit) :=
 bif decide (0 ≤ (x.1.length : Int)) then
 bif decide ((x.1.length : Int).toNat ≤ lim) then
 let y1 := List.replicate (x.1.length : Int).toNat false
 (zuh N N (x.1, (0 : Int), y1, ())).bind fun o3 =>
 some (o3.1, ())
 else none
 else none
def convtoBoolS (N : Nat) : Con := { f := 25, din := dinvtoBoolS, outs := outvtoBoolS, F := FvtoBoolS N }
def XvtoBoolS (N : Nat) : Ctx := { E := EvtoBoolS N, H := HvtoBoolS, lp := [(0, { hd := dvtoBoolS_0, outs := ovtoBoolS_0, run := fun v => zuh N N v })], jn := [] }
def bvtoBoolS_0 : Code := zzv (zzy Tryz.f25) 0
theorem FvtoBoolS_eq (N : Nat) (x : ((List Bool) × Unit)) : evFn (XvtoBoolS N) Tryz.f25 dinvtoBoolS outvtoBoolS x = FvtoBoolS N x := by kernel_rfl
theorem lvtoBoolS_0_eq (N n : Nat) (v : ((List Bool) × (Int × ((List Bool) × Unit)))) : zuh N (n + 1) v = ev (XvtoBoolS N) bvtoBoolS_0 (zzd dvtoBoolS_0 ovtoBoolS_0 (zuh N n)) (dvtoBoolS_0.mk' v) := by kernel_rfl
theorem cxvtoBoolS (N : Nat) : CtxOk Tryz.prog (XvtoBoolS N) := ⟨⟨TE_ok, fun k hk => absurd hk List.not_mem_nil⟩, mixed⟩
theorem lpvtoBoolS_0 (N : Nat) : zzl Tryz.prog { hd := dvtoBoolS_0, outs := ovtoBoolS_0, run := fun v => zuh N N v } bvtoBoolS_0 :=
 zzx (d := dvtoBoolS_0) (os := ovtoBoolS_0) (cxvtoBoolS N) (zzz (ids := []) (by kernel_rfl) (trivial)) (zuh N) (fun _ => rfl) (fun n v => lvtoBoolS_0_eq N n v) (fun _ => N)
theorem specvtoBoolS (N : Nat) : Spec Tryz.prog (convtoBoolS N) :=
 Spec.of_eq (zzu (cxvtoBoolS N) (f := 25) (fn := Tryz.f25) (c := zzy Tryz.f25) (by kernel_rfl) (by kernel_rfl) (by kernel_rfl) (zzz (ids := [0]) (by kernel_rfl) ⟨lp_of (lpvtoBoolS_0 N), trivial⟩) (by kernel_rfl)) (fun x r h => (FvtoBoolS_eq N x).trans h)
def dinvtoThread : Desc := { n := 1, regs := [.one (.val tyq13)], bx := [], pins := [] }
def outvtoThread : Outs := [(.ret, { n := 1, regs := [.agg [.lit (.row 1025729), .val (.int .i64), .val .bool, .val (.int .i64)]], bx := [(1025729, .row (.int .i64))], pins := [] })]
def HvtoThread : Hints := [(0, [(0, { fz := true })])]
def EvtoThread (N : Nat) : Env := { te := TE, cs := [convtoIntS N] }
def FvtoThread (N : Nat) (x : (tyq4 × Unit)) : Option (Int × (Bool × (Int × ((List Int) × Unit)))) :=
 (FvtoIntS N (x.1.1, ())).bind fun r1 =>
 some (x.1.2.1, x.1.2.2.1, x.1.2.2.2.1, r1.1, ())
def convtoThread (N : Nat) : Con := { f := 54, din := dinvtoThread, outs := outvtoThread, F := FvtoThread N }
def XvtoThread (N : Nat) : Ctx := { E := EvtoThread N, H := HvtoThread, lp := [], jn := [] }
theorem FvtoThread_eq (N : Nat) (x : (tyq4 × Unit)) : evFn (XvtoThread N) Tryz.f54 dinvtoThread outvtoThread x = FvtoThread N x := by kernel_rfl
theorem cxvtoThread (N : Nat) : CtxOk Tryz.prog (XvtoThread N) := ⟨⟨TE_ok, List.forall_mem_cons.2 ⟨(specvtoIntS N), fun k hk => absurd hk List.not_mem_nil⟩⟩, mixed⟩
theorem specvtoThread (N : Nat) : Spec Tryz.prog (convtoThread N) :=
 Spec.of_eq (zzu (cxvtoThread N) (f := 54) (fn := Tryz.f54) (c := zzy Tryz.f54) (by kernel_rfl) (by kernel_rfl) (by kernel_rfl) (zzz (ids := []) (by kernel_rfl) (trivial)) (by kernel_rfl)) (fun x r h => (FvtoThread_eq N x).trans h)
def dinvtoThreadS : Desc := { n := 1, regs := [.one (.val (.sl tyq13))], bx := [], pins := [] }
def outvtoThreadS : Outs := [(.ret, { n := 1, regs := [.one (.lit (.row 1012928))], bx := [(1012928, .row tyq13)], pins := [] })]
def HvtoThreadS : Hints := [(1, [(2, { dp := true })])]
def EvtoThreadS (N : Nat) : Env := { te := TE, cs := [convtoThread N] }
def zpp : Desc := { n := 23, regs := [.one (.val (.sl tyq13)), u, u, .one (.lit (.row 1012928)), .one (.val (.int .i64))], bx := [(1012928, .row tyq13)], pins := [] }
def ovtoThreadS_0 : Outs := [(.exit 0, { n := 23, regs := [u, u, u, .one (.lit (.row 1012928))], bx := [(1012928, .row tyq13)], pins := [] })]
def zw1 (N : Nat) : Nat → ((List tyq4) × (Int × ((List tyq4) × Unit))) → Option ((List tyq4) × Unit)
 | 0, _ => none
 | n + 1, v =>
  bif decide (v.2.1 < (v.1.length : Int)) then
   bif decide (0 ≤ v.2.1) then
   bif decide (v.2.1.toNat < v.1.length) then
   let y2 := v.1.getD v.2.1.toNat (([] : (List Int)), (0 : Int), false, (0 : Int), ())
   (FvtoThread N (y2, ())).bind fun r3 =>
   bif decide (0 ≤ v.2.1) then
   bif decide (v.2.1.toNat < v.2.2.1.length) then
   let y4 := v.2.2.1.set v.2.1.toNat (r3.2.2.2.1, r3.1, r3.2.1, r3.2.2.1, ())
   zw1 N n (v.1, w64 (v.2.1 + (1 : Int)), y4, ())
   else none
   else none
   else none
   else none
  else
  some (v.2.2.1, ())
def FvtoThreadS (N : Nat) (x : ((List tyq4) × Unit)) : Option ((List tyq4) × Unit) :=
 bif decide (0 ≤ (x.1.length : Int)) then
 bif decide ((x.1.length : Int).toNat ≤ lim) then
 let y1 := List.replicate (x.1.length : Int).toNat (([] : (List Int)), (0 : Int), false, (0 : Int), ())
 (zw1 N N (x.1, (0 : Int), y1, ())).bind fun o5 =>
 some (o5.1, ())
 else none
 else none
def convtoThreadS (N : Nat) : Con := { f := 26, din := dinvtoThreadS, outs := outvtoThreadS, F := FvtoThreadS N }
def XvtoThreadS (N : Nat) : Ctx := { E := EvtoThreadS N, H := HvtoThreadS, lp := [(0, { hd := zpp, outs := ovtoThreadS_0, run := fun v => zw1 N N v })], jn := [] }
def bvtoThreadS_0 : Code := zzv (zzy Tryz.f26) 0
theorem FvtoThreadS_eq (N : Nat) (x : ((List tyq4) × Unit)) : evFn (XvtoThreadS N) Tryz.f26 dinvtoThreadS outvtoThreadS x = FvtoThreadS N x := by kernel_rfl
theorem lvtoThreadS_0_eq (N n : Nat) (v : ((List tyq4) × (Int × ((List tyq4) × Unit)))) : zw1 N (n + 1) v = ev (XvtoThreadS N) bvtoThreadS_0 (zzd zpp ovtoThreadS_0 (zw1 N n)) (zpp.mk' v) := by kernel_rfl
theorem cxvtoThreadS (N : Nat) : CtxOk Tryz.prog (XvtoThreadS N) := ⟨⟨TE_ok, List.forall_mem_cons.2 ⟨(specvtoThread N), fun k hk => absurd hk List.not_mem_nil⟩⟩, mixed⟩
theorem lpvtoThreadS_0 (N : Nat) : zzl Tryz.prog { hd := zpp, outs := ovtoThreadS_0, run := fun v => zw1 N N v } bvtoThreadS_0 :=
 zzx (d := zpp) (os := ovtoThreadS_0) (cxvtoThreadS N) (zzz (ids := []) (by kernel_rfl) (trivial)) (zw1 N) (fun _ => rfl) (fun n v => lvtoThreadS_0_eq N n v) (fun _ => N)
theorem specvtoThreadS (N : Nat) : Spec Tryz.prog (convtoThreadS N) :=
 Spec.of_eq (zzu (cxvtoThreadS N) (f := 26) (fn := Tryz.f26) (c := zzy Tryz.f26) (by kernel_rfl) (by kernel_rfl) (by kernel_rfl) (zzz (ids := [0]) (by kernel_rfl) ⟨lp_of (lpvtoThreadS_0 N), trivial⟩) (by kernel_rfl)) (fun x r h => (FvtoThreadS_eq N x).trans h)
def dinvtoState : Desc := { n := 1, regs := [.one (.val tyq10)], bx := [], pins := [] }
def outvtoState : Outs := [(.ret, { n := 1, regs := [.agg [.lit (.row 1025729), .lit (.row 1038529), .lit (.row 1051329), .val (.int .i64), .val .bool, .val .bool, .val .bool, .val (.int .i64), .lit (.row 1128129), .lit (.row 1140929), .lit (.row 1153729), .val (.int .i64), .val (.int .i64)]], bx := [(1025729, .row (.int .i64)), (1038529, .row tyq12), (1051329, .row .bool), (1128129, .row tyq13), (1140929, .row (.int .i64)), (1153729, .row (.int .i64))], pins := [] })]
def HvtoState : Hints := [(0, [(0, { fz := true })]),
 (3, [(2, { con := 1 })]),
 (4, [(2, { con := 2 })]),
 (10, [(2, { con := 3 })])]
def EvtoState (N : Nat) : Env := { te := TE, cs := [convtoIntS N, convtoRegionS N, convtoBoolS N, convtoThreadS N] }
def FvtoState (N : Nat) (x : (tyq1 × Unit)) : Option (Int × (Bool × (Bool × (Bool × (Int × (Int × (Int × ((List Int) × ((List tyq3) × ((List Bool) × ((List tyq4) × ((List Int) × ((List Int) × Unit))))))))))))) :=
 (FvtoIntS N (x.1.1, ())).bind fun r1 =>
 (FvtoRegionS N (x.1.2.1, ())).bind fun r2 =>
 (FvtoBoolS N (x.1.2.2.1, ())).bind fun r3 =>
 (FvtoThreadS N (x.1.2.2.2.2.2.2.2.2.1, ())).bind fun r4 =>
 (FvtoIntS N (x.1.2.2.2.2.2.2.2.2.2.1, ())).bind fun r5 =>
 (FvtoIntS N (x.1.2.2.2.2.2.2.2.2.2.2.1, ())).bind fun r6 =>
 some (x.1.2.2.2.1, x.1.2.2.2.2.1, x.1.2.2.2.2.2.1, x.1.2.2.2.2.2.2.1, x.1.2.2.2.2.2.2.2.1, x.1.2.2.2.2.2.2.2.2.2.2.2.1, x.1.2.2.2.2.2.2.2.2.2.2.2.2.1, r1.1, r2.1, r3.1, r4.1, r5.1, r6.1, ())
def convtoState (N : Nat) : Con := { f := 6, din := dinvtoState, outs := outvtoState, F := FvtoState N }
def XvtoState (N : Nat) : Ctx := { E := EvtoState N, H := HvtoState, lp := [], jn := [] }
theorem FvtoState_eq (N : Nat) (x : (tyq1 × Unit)) : evFn (XvtoState N) Tryz.f6 dinvtoState outvtoState x = FvtoState N x := by kernel_rfl
theorem cxvtoState (N : Nat) : CtxOk Tryz.prog (XvtoState N) := ⟨⟨TE_ok, List.forall_mem_cons.2 ⟨(specvtoIntS N), List.forall_mem_cons.2 ⟨(specvtoRegionS N), List.forall_mem_cons.2 ⟨(specvtoBoolS N), List.forall_mem_cons.2 ⟨(specvtoThreadS N), fun k hk => absurd hk List.not_mem_nil⟩⟩⟩⟩⟩, mixed⟩
theorem specvtoState (N : Nat) : Spec Tryz.prog (convtoState N) :=
 Spec.of_eq (zzu (cxvtoState N) (f := 6) (fn := Tryz.f6) (c := zzy Tryz.f6) (by kernel_rfl) (by kernel_rfl) (by kernel_rfl) (zzz (ids := []) (by kernel_rfl) (trivial)) (by kernel_rfl)) (fun x r h => (FvtoState_eq N x).trans h)
def dinsWordsOk : Desc := { n := 1, regs := [.one (.val (.sl (.int .i64)))], bx := [], pins := [] }
def outsWordsOk : Outs := [(.ret, { n := 1, regs := [.one (.val .bool)], bx := [], pins := [] })]
def HsWordsOk : Hints := []
def EsWordsOk (_N : Nat) : Env := { te := TE, cs := [] }
def FsWordsOk (N : Nat) (x : ((List Int) × Unit)) : Option (Bool × Unit) :=
 bif decide ((16 : Int) = 0) then
  none
 else
 let y1 := w64 (Int.tdiv (x.1.length : Int) (16 : Int))
 bif decide ((16 : Int) = 0) then
  none
 else
 let y2 := Int.tmod (x.1.length : Int) (16 : Int)
 bif y2 == (0 : Int) then
  bif decide (y1 ≥ (2 : Int)) then
   some (decide (y1 ≤ (12 : Int)), ())
  else
  some (false, ())
 else
 some (false, ())
def consWordsOk (N : Nat) : Con := { f := 65, din := dinsWordsOk, outs := outsWordsOk, F := FsWordsOk N }
def XsWordsOk (N : Nat) : Ctx := { E := EsWordsOk N, H := HsWordsOk, lp := [], jn := [] }
theorem FsWordsOk_eq (N : Nat) (x : ((List Int) × Unit)) : evFn (XsWordsOk N) Tryz.f65 dinsWordsOk outsWordsOk x = FsWordsOk N x := by kernel_rfl
theorem cxsWordsOk (N : Nat) : CtxOk Tryz.prog (XsWordsOk N) := ⟨⟨TE_ok, fun k hk => absurd hk List.not_mem_nil⟩, mixed⟩
theorem specsWordsOk (N : Nat) : Spec Tryz.prog (consWordsOk N) :=
 Spec.of_eq (zzu (cxsWordsOk N) (f := 65) (fn := Tryz.f65) (c := zzy Tryz.f65) (by kernel_rfl) (by kernel_rfl) (by kernel_rfl) (zzz (ids := []) (by kernel_rfl) (trivial)) (by kernel_rfl)) (fun x r h => (FsWordsOk_eq N x).trans h)
def dinsRegionBase : Desc := { n := 1, regs := [.one (.val (.int .i64))], bx := [], pins := [] }
def outsRegionBase : Outs := [(.ret, { n := 1, regs := [.one (.val (.int .i64))], bx := [], pins := [] })]
def HsRegionBase : Hints := []
def EsRegionBase (_N : Nat) : Env := { te := TE, cs := [] }
def ztv (N : Nat) (x : (Int × Unit)) : Option (Int × Unit) :=
 bif decide (x.1 < (0 : Int)) then
  some ((0 : Int), ())
 else
 bif decide (x.1 ≥ (12 : Int)) then
  some ((0 : Int), ())
 else
 some (w64 (x.1 * (16 : Int)), ())
def consRegionBase (N : Nat) : Con := { f := 69, din := dinsRegionBase, outs := outsRegionBase, F := ztv N }
def XsRegionBase (N : Nat) : Ctx := { E := EsRegionBase N, H := HsRegionBase, lp := [], jn := [] }
theorem FsRegionBase_eq (N : Nat) (x : (Int × Unit)) : evFn (XsRegionBase N) Tryz.f69 dinsRegionBase outsRegionBase x = ztv N x := by kernel_rfl
theorem cxsRegionBase (N : Nat) : CtxOk Tryz.prog (XsRegionBase N) := ⟨⟨TE_ok, fun k hk => absurd hk List.not_mem_nil⟩, mixed⟩
theorem specsRegionBase (N : Nat) : Spec Tryz.prog (consRegionBase N) :=
 Spec.of_eq (zzu (cxsRegionBase N) (f := 69) (fn := Tryz.f69) (c := zzy Tryz.f69) (by kernel_rfl) (by kernel_rfl) (by kernel_rfl) (zzz (ids := []) (by kernel_rfl) (trivial)) (by kernel_rfl)) (fun x r h => (FsRegionBase_eq N x).trans h)
def dinsTableOk : Desc := { n := 1, regs := [.one (.val (.sl tyq12))], bx := [], pins := [] }
def outsTableOk : Outs := [(.ret, { n := 1, regs := [.one (.val .bool)], bx := [], pins := [] })]
def HsTableOk : Hints := []
def EsTableOk (N : Nat) : Env := { te := TE, cs := [consRegionBase N] }
def dsTableOk_2 : Desc := { n := 126, regs := [.one (.val (.sl tyq12)), u, u, .one (.val (.int .i64)), .one (.lit (.ptr 1077056 0)), u, .one (.val (.int .i64))], bx := [(1077056, .var [.val (.int .i64), .val (.int .i64), .val (.int .i64), .val (.int .i64), .val (.int .i64)])], pins := [] }
def osTableOk_2 : Outs := [(.exit 2, { n := 126, regs := [.one (.val (.sl tyq12)), u, u, .one (.val (.int .i64))], bx := [], pins := [] }), (.ret, { n := 126, regs := [u, u, .one (.val .bool)], bx := [], pins := [] })]
def dsTableOk_0 : Desc := { n := 126, regs := [.one (.val (.sl tyq12)), u, u, .one (.val (.int .i64))], bx := [], pins := [] }
def osTableOk_0 : Outs := [(.exit 0, { n := 126, regs := [], bx := [], pins := [] }), (.ret, { n := 126, regs := [u, u, .one (.val .bool)], bx := [], pins := [] })]
def jsTableOk_3 : Outs := [(.normal, { n := 126, regs := [.one (.val (.sl tyq12))], bx := [], pins := [] }), (.ret, { n := 126, regs := [u, u, .one (.val .bool)], bx := [], pins := [] })]
def jsTableOk_10 : Outs := [(.normal, { n := 126, regs := [.one (.val (.sl tyq12)), u, u, .one (.val (.int .i64)), .one (.lit (.ptr 1077056 0)), .one (.val (.int .i64))], bx := [(1077056, .var [.val (.int .i64), .val (.int .i64), .val (.int .i64), .val (.int .i64), .val (.int .i64)])], pins := [] }), (.ret, { n := 126, regs := [u, u, .one (.val .bool)], bx := [], pins := [] })]
def jsTableOk_12 : Outs := [(.normal, { n := 126, regs := [.one (.val (.sl tyq12)), u, u, .one (.val (.int .i64)), .one (.lit (.ptr 1077056 0))], bx := [(1077056, .var [.val (.int .i64), .val (.int .i64), .val (.int .i64), .val (.int .i64), .val (.int .i64)])], pins := [] }), (.ret, { n := 126, regs := [u, u, .one (.val .bool)], bx := [], pins := [] })]
def jsTableOk_14 : Outs := [(.normal, { n := 126, regs := [.one (.val (.sl tyq12)), u, u, .one (.val (.int .i64)), .one (.lit (.ptr 1077056 0))], bx := [(1077056, .var [.val (.int .i64), .val (.int .i64), .val (.int .i64), .val (.int .i64), .val (.int .i64)])], pins := [] }), (.ret, { n := 126, regs := [u, u, .one (.val .bool)], bx := [], pins := [] })]
def zue (N : Nat) : Nat → ((List tyq3) × (Int × (Int × tyq3))) → Option (((List tyq3) × (Int × Unit)) ⊕ (Bool × Unit))
 | 0, _ => none
 | n + 1, v =>
  bif decide (v.2.2.1 < v.2.1) then
   bif decide (v.2.2.2.2.1 ≥ (0 : Int)) then
    bif decide (0 ≤ v.2.2.1) then
    bif decide (v.2.2.1.toNat < v.1.length) then
    let y18 := v.1.getD v.2.2.1.toNat ((0 : Int), (0 : Int), (0 : Int), (0 : Int), (0 : Int), ())
    bif y18.2.1 == v.2.2.2.2.1 then
     some (.inr ((false, ())))
    else
    zue N n (v.1, v.2.1, w64 (v.2.2.1 + (1 : Int)), v.2.2.2.1, v.2.2.2.2.1, v.2.2.2.2.2.1, v.2.2.2.2.2.2.1, v.2.2.2.2.2.2.2.1, ())
    else none
    else none
   else
   zue N n (v.1, v.2.1, w64 (v.2.2.1 + (1 : Int)), v.2.2.2.1, v.2.2.2.2.1, v.2.2.2.2.2.1, v.2.2.2.2.2.2.1, v.2.2.2.2.2.2.2.1, ())
  else
  some (.inl (v.1, v.2.1, ()))
def zud (N : Nat) : Nat → ((List tyq3) × (Int × Unit)) → Option (Unit ⊕ (Bool × Unit))
 | 0, _ => none
 | n + 1, v =>
  bif decide (v.2.1 < (v.1.length : Int)) then
   bif decide (0 ≤ v.2.1) then
   bif decide (v.2.1.toNat < v.1.length) then
   let y7 := v.1.getD v.2.1.toNat ((0 : Int), (0 : Int), (0 : Int), (0 : Int), (0 : Int), ())
   (ztv N (v.2.1, ())).bind fun r8 =>
   Option.bind (
    bif decide (y7.1 < (1 : Int)) then
     some (.inr ((false, ())))
    else
    bif decide (y7.1 > (4 : Int)) then
     some (.inr ((false, ())))
    else
    bif decide (y7.2.2.1 < r8.1) then
     some (.inr ((false, ())))
    else
    let y9 := decide (y7.2.2.1 > (w64 (r8.1 + (16 : Int))))
    bif y9 then
     some (.inr ((false, ())))
    else
    bif decide (y7.2.2.2.1 < r8.1) then
     some (.inr ((false, ())))
    else
    bif decide (y7.2.2.2.1 > y7.2.2.1) then
     some (.inr ((false, ())))
    else
    bif decide (y7.2.2.2.2.1 < (0 : Int)) then
     some (.inr ((false, ())))
    else
    let y10 := decide (y7.2.2.2.2.1 > (w64 (y7.2.2.1 - r8.1)))
    bif y10 then
     some (.inr ((false, ())))
    else
    some (.inl (v.1, v.2.1, r8.1, y7.1, y7.2.1, y7.2.2.1, y7.2.2.2.1, y7.2.2.2.2.1, ()))) fun o11 =>
   Sum.elim (fun o12 =>
    Option.bind (
     bif o12.2.2.2.1 == (1 : Int) then
      bif o12.2.2.2.2.2.1 != o12.2.2.1 then
       some (.inr ((false, ())))
      else
      some (.inl (o12.1, o12.2.1, o12.2.2.2.1, o12.2.2.2.2.1, o12.2.2.2.2.2.1, o12.2.2.2.2.2.2.1, o12.2.2.2.2.2.2.2.1, ()))
     else
     some (.inl (o12.1, o12.2.1, o12.2.2.2.1, o12.2.2.2.2.1, o12.2.2.2.2.2.1, o12.2.2.2.2.2.2.1, o12.2.2.2.2.2.2.2.1, ()))) fun o13 =>
    Sum.elim (fun o14 =>
     Option.bind (
      let y15 := !((o14.2.2.1 == (2 : Int)) == (decide (o14.2.2.2.1 ≥ (0 : Int))))
      bif y15 then
       some (.inr ((false, ())))
      else
      bif decide (o14.2.2.2.1 < (-1 : Int)) then
       some (.inr ((false, ())))
      else
      bif decide (o14.2.2.2.1 > (3 : Int)) then
       some (.inr ((false, ())))
      else
      some (.inl (o14.1, o14.2.1, o14.2.2.1, o14.2.2.2.1, o14.2.2.2.2.1, o14.2.2.2.2.2.1, o14.2.2.2.2.2.2.1, ()))) fun o16 =>
     Sum.elim (fun o17 =>
      (zue N N (o17.1, o17.2.1, (1 : Int), o17.2.2.1, o17.2.2.2.1, o17.2.2.2.2.1, o17.2.2.2.2.2.1, o17.2.2.2.2.2.2.1, ())).bind fun o19 =>
      Sum.elim (fun o20 =>
       zud N n (o20.1, w64 (o20.2.1 + (1 : Int)), ())) (fun o21 =>
       some (.inr ((o21.1, ())))) o19) (fun o22 =>
      some (.inr ((o22.1, ())))) o16) (fun o23 =>
     some (.inr ((o23.1, ())))) o13) (fun o24 =>
    some (.inr ((o24.1, ())))) o11
   else none
   else none
  else
  some (.inl ())
def FsTableOk (N : Nat) (x : ((List tyq3) × Unit)) : Option (Bool × Unit) :=
 Option.bind (
  let y1 := decide ((x.1.length : Int) < (2 : Int))
  bif y1 then
   some (.inr ((false, ())))
  else
  let y2 := decide ((x.1.length : Int) > (12 : Int))
  bif y2 then
   some (.inr ((false, ())))
  else
  bif decide (0 ≤ (0 : Int)) then
  bif decide ((0 : Int).toNat < x.1.length) then
  let y3 := x.1.getD ((0 : Int).toNat) ((0 : Int), (0 : Int), (0 : Int), (0 : Int), (0 : Int), ())
  let y4 := !((y3.1 == (0 : Int)) && ((y3.2.1 == (-1 : Int)) && ((y3.2.2.1 == (0 : Int)) && ((y3.2.2.2.1 == (0 : Int)) && ((y3.2.2.2.2.1 == (0 : Int)) && (true))))))
  bif y4 then
   some (.inr ((false, ())))
  else
  some (.inl (x.1, ()))
  else none
  else none) fun o5 =>
 Sum.elim (fun o6 =>
  (zud N N (o6.1, (1 : Int), ())).bind fun o25 =>
  Sum.elim (fun o26 =>
   some (true, ())) (fun o27 =>
   some (o27.1, ())) o25) (fun o28 =>
  some (o28.1, ())) o5
def consTableOk (N : Nat) : Con := { f := 66, din := dinsTableOk, outs := outsTableOk, F := FsTableOk N }
def XsTableOk (N : Nat) : Ctx := { E := EsTableOk N, H := HsTableOk, lp := [(2, { hd := dsTableOk_2, outs := osTableOk_2, run := fun v => zue N N v }), (0, { hd := dsTableOk_0, outs := osTableOk_0, run := fun v => zud N N v })], jn := [(3, jsTableOk_3), (10, jsTableOk_10), (12, jsTableOk_12), (14, jsTableOk_14)] }
def bsTableOk_0 : Code := zzv (zzy Tryz.f66) 0
def bsTableOk_2 : Code := zzv bsTableOk_0 0
theorem FsTableOk_eq (N : Nat) (x : ((List tyq3) × Unit)) : evFn (XsTableOk N) Tryz.f66 dinsTableOk outsTableOk x = FsTableOk N x := by kernel_rfl
theorem lsTableOk_2_eq (N n : Nat) (v : ((List tyq3) × (Int × (Int × tyq3)))) : zue N (n + 1) v = ev (XsTableOk N) bsTableOk_2 (zzd dsTableOk_2 osTableOk_2 (zue N n)) (dsTableOk_2.mk' v) := by kernel_rfl
theorem lsTableOk_0_eq (N n : Nat) (v : ((List tyq3) × (Int × Unit))) : zud N (n + 1) v = ev (XsTableOk N) bsTableOk_0 (zzd dsTableOk_0 osTableOk_0 (zud N n)) (dsTableOk_0.mk' v) := by kernel_rfl
theorem cxsTableOk (N : Nat) : CtxOk Tryz.prog (XsTableOk N) := ⟨⟨TE_ok, List.forall_mem_cons.2 ⟨(specsRegionBase N), fun k hk => absurd hk List.not_mem_nil⟩⟩, mixed⟩
theorem lpsTableOk_2 (N : Nat) : zzl Tryz.prog { hd := dsTableOk_2, outs := osTableOk_2, run := fun v => zue N N v } bsTableOk_2 :=
 zzx (d := dsTableOk_2) (os := osTableOk_2) (cxsTableOk N) (zzz (ids := []) (by kernel_rfl) (trivial)) (zue N) (fun _ => rfl) (fun n v => lsTableOk_2_eq N n v) (fun _ => N)
theorem lpsTableOk_0 (N : Nat) : zzl Tryz.prog { hd := dsTableOk_0, outs := osTableOk_0, run := fun v => zud N N v } bsTableOk_0 :=
 zzx (d := dsTableOk_0) (os := osTableOk_0) (cxsTableOk N) (zzz (ids := [2]) (by kernel_rfl) ⟨lp_of (lpsTableOk_2 N), trivial⟩) (zud N) (fun _ => rfl) (fun n v => lsTableOk_0_eq N n v) (fun _ => N)
theorem specsTableOk (N : Nat) : Spec Tryz.prog (consTableOk N) :=
 Spec.of_eq (zzu (cxsTableOk N) (f := 66) (fn := Tryz.f66) (c := zzy Tryz.f66) (by kernel_rfl) (by kernel_rfl) (by kernel_rfl) (zzz (ids := [0]) (by kernel_rfl) ⟨lp_of (lpsTableOk_0 N), trivial⟩) (by kernel_rfl)) (fun x r h => (FsTableOk_eq N x).trans h)
def dinsRegionOf : Desc := { n := 1, regs := [.one (.val (.int .i64))], bx := [], pins := [] }
def outsRegionOf : Outs := [(.ret, { n := 1, regs := [.one (.val (.int .i64))], bx := [], pins := [] })]
def HsRegionOf : Hints := []
def EsRegionOf (_N : Nat) : Env := { te := TE, cs := [] }
def ztx (N : Nat) (x : (Int × Unit)) : Option (Int × Unit) :=
 bif decide (x.1 < (0 : Int)) then
  some ((-1 : Int), ())
 else
 bif decide ((16 : Int) = 0) then
  none
 else
 some (w64 (Int.tdiv x.1 (16 : Int)), ())
def consRegionOf (N : Nat) : Con := { f := 67, din := dinsRegionOf, outs := outsRegionOf, F := ztx N }
def XsRegionOf (N : Nat) : Ctx := { E := EsRegionOf N, H := HsRegionOf, lp := [], jn := [] }
theorem FsRegionOf_eq (N : Nat) (x : (Int × Unit)) : evFn (XsRegionOf N) Tryz.f67 dinsRegionOf outsRegionOf x = ztx N x := by kernel_rfl
theorem cxsRegionOf (N : Nat) : CtxOk Tryz.prog (XsRegionOf N) := ⟨⟨TE_ok, fun k hk => absurd hk List.not_mem_nil⟩, mixed⟩
theorem specsRegionOf (N : Nat) : Spec Tryz.prog (consRegionOf N) :=
 Spec.of_eq (zzu (cxsRegionOf N) (f := 67) (fn := Tryz.f67) (c := zzy Tryz.f67) (by kernel_rfl) (by kernel_rfl) (by kernel_rfl) (zzz (ids := []) (by kernel_rfl) (trivial)) (by kernel_rfl)) (fun x r h => (FsRegionOf_eq N x).trans h)
def dinsl3Fits : Desc := { n := 3, regs := [.one (.val (.sl (.int .i64))), .one (.val (.int .i64)), .one (.val (.int .i64))], bx := [], pins := [] }
def outsl3Fits : Outs := [(.ret, { n := 1, regs := [.one (.val .bool)], bx := [], pins := [] })]
def Hsl3Fits : Hints := [(1, [(22, { con := 1 }), (27, { con := 1 })])]
def Esl3Fits (N : Nat) : Env := { te := TE, cs := [consWordsOk N, consRegionOf N] }
def Fsl3Fits (N : Nat) (x : ((List Int) × (Int × (Int × Unit)))) : Option (Bool × Unit) :=
 (FsWordsOk N (x.1, ())).bind fun r1 =>
 bif r1.1 then
  bif decide (x.2.2.1 > (0 : Int)) then
   bif decide (x.2.2.1 ≤ (16 : Int)) then
    bif decide (x.2.1 ≥ (16 : Int)) then
     bif decide (x.2.1 < (x.1.length : Int)) then
      (ztx N (x.2.1, ())).bind fun r2 =>
      let y3 := w64 ((w64 (x.2.1 + x.2.2.1)) - (1 : Int))
      (ztx N (y3, ())).bind fun r4 =>
      some (r2.1 == r4.1, ())
     else
     some (false, ())
    else
    some (false, ())
   else
   some (false, ())
  else
  some (false, ())
 else
 some (false, ())
def consl3Fits (N : Nat) : Con := { f := 80, din := dinsl3Fits, outs := outsl3Fits, F := Fsl3Fits N }
def Xsl3Fits (N : Nat) : Ctx := { E := Esl3Fits N, H := Hsl3Fits, lp := [], jn := [] }
theorem Fsl3Fits_eq (N : Nat) (x : ((List Int) × (Int × (Int × Unit)))) : evFn (Xsl3Fits N) Tryz.f80 dinsl3Fits outsl3Fits x = Fsl3Fits N x := by kernel_rfl
theorem cxsl3Fits (N : Nat) : CtxOk Tryz.prog (Xsl3Fits N) := ⟨⟨TE_ok, List.forall_mem_cons.2 ⟨(specsWordsOk N), List.forall_mem_cons.2 ⟨(specsRegionOf N), fun k hk => absurd hk List.not_mem_nil⟩⟩⟩, mixed⟩
theorem specsl3Fits (N : Nat) : Spec Tryz.prog (consl3Fits N) :=
 Spec.of_eq (zzu (cxsl3Fits N) (f := 80) (fn := Tryz.f80) (c := zzy Tryz.f80) (by kernel_rfl) (by kernel_rfl) (by kernel_rfl) (zzz (ids := []) (by kernel_rfl) (trivial)) (by kernel_rfl)) (fun x r h => (Fsl3Fits_eq N x).trans h)
def dinsShapeOk : Desc := { n := 1, regs := [.one (.val (.pair (.int .i64) (.pair (.int .i64) .unit)))], bx := [], pins := [] }
def outsShapeOk : Outs := [(.ret, { n := 1, regs := [.one (.val .bool)], bx := [], pins := [] })]
def HsShapeOk : Hints := [(0, [(0, { fz := true })])]
def EsShapeOk (_N : Nat) : Env := { te := TE, cs := [] }
def FsShapeOk (N : Nat) (x : ((Int × (Int × Unit)) × Unit)) : Option (Bool × Unit) :=
 bif decide (x.1.1 ≥ (0 : Int)) then
  bif decide (x.1.1 ≤ (4 : Int)) then
   bif decide (x.1.2.1 ≥ (0 : Int)) then
    some (decide (x.1.2.1 ≤ (4 : Int)), ())
   else
   some (false, ())
  else
  some (false, ())
 else
 some (false, ())
def consShapeOk (N : Nat) : Con := { f := 82, din := dinsShapeOk, outs := outsShapeOk, F := FsShapeOk N }
def XsShapeOk (N : Nat) : Ctx := { E := EsShapeOk N, H := HsShapeOk, lp := [], jn := [] }
theorem FsShapeOk_eq (N : Nat) (x : ((Int × (Int × Unit)) × Unit)) : evFn (XsShapeOk N) Tryz.f82 dinsShapeOk outsShapeOk x = FsShapeOk N x := by kernel_rfl
theorem cxsShapeOk (N : Nat) : CtxOk Tryz.prog (XsShapeOk N) := ⟨⟨TE_ok, fun k hk => absurd hk List.not_mem_nil⟩, mixed⟩
theorem specsShapeOk (N : Nat) : Spec Tryz.prog (consShapeOk N) :=
 Spec.of_eq (zzu (cxsShapeOk N) (f := 82) (fn := Tryz.f82) (c := zzy Tryz.f82) (by kernel_rfl) (by kernel_rfl) (by kernel_rfl) (zzz (ids := []) (by kernel_rfl) (trivial)) (by kernel_rfl)) (fun x r h => (FsShapeOk_eq N x).trans h)
def dinsShapeWord : Desc := { n := 1, regs := [.one (.val (.pair (.int .i64) (.pair (.int .i64) .unit)))], bx := [], pins := [] }
def outsShapeWord : Outs := [(.ret, { n := 1, regs := [.one (.val (.int .i64))], bx := [], pins := [] })]
def HsShapeWord : Hints := [(0, [(0, { fz := true })])]
def EsShapeWord (N : Nat) : Env := { te := TE, cs := [consShapeOk N] }
def zod (N : Nat) (x : ((Int × (Int × Unit)) × Unit)) : Option (Int × Unit) :=
 (FsShapeOk N (x.1, ())).bind fun r1 =>
 bif !r1.1 then
  some ((-1 : Int), ())
 else
 let y2 := w64 ((w64 ((16 : Int) * x.1.1)) + x.1.2.1)
 some (y2, ())
def consShapeWord (N : Nat) : Con := { f := 98, din := dinsShapeWord, outs := outsShapeWord, F := zod N }
def XsShapeWord (N : Nat) : Ctx := { E := EsShapeWord N, H := HsShapeWord, lp := [], jn := [] }
theorem FsShapeWord_eq (N : Nat) (x : ((Int × (Int × Unit)) × Unit)) : evFn (XsShapeWord N) Tryz.f98 dinsShapeWord outsShapeWord x = zod N x := by kernel_rfl
theorem cxsShapeWord (N : Nat) : CtxOk Tryz.prog (XsShapeWord N) := ⟨⟨TE_ok, List.forall_mem_cons.2 ⟨(specsShapeOk N), fun k hk => absurd hk List.not_mem_nil⟩⟩, mixed⟩
theorem specsShapeWord (N : Nat) : Spec Tryz.prog (consShapeWord N) :=
 Spec.of_eq (zzu (cxsShapeWord N) (f := 98) (fn := Tryz.f98) (c := zzy Tryz.f98) (by kernel_rfl) (by kernel_rfl) (by kernel_rfl) (zzz (ids := []) (by kernel_rfl) (trivial)) (by kernel_rfl)) (fun x r h => (FsShapeWord_eq N x).trans h)
def dinsShapeOf : Desc := { n := 1, regs := [.one (.val (.int .i64))], bx := [], pins := [] }
def outsShapeOf : Outs := [(.ret, { n := 2, regs := [.agg [.val (.int .i64), .val (.int .i64)], .one (.val .bool)], bx := [], pins := [] })]
def HsShapeOf : Hints := []
def EsShapeOf (N : Nat) : Env := { te := TE, cs := [consShapeWord N] }
def dsShapeOf_2 : Desc := { n := 24, regs := [.one (.val (.int .i64)), u, .one (.lit (.ptr 1000000 0)), u, .one (.val (.int .i64)), .one (.val (.int .i64))], bx := [(1000000, .var [.val (.int .i64), .val (.int .i64)])], pins := [] }
def osShapeOf_2 : Outs := [(.exit 2, { n := 24, regs := [.one (.val (.int .i64)), u, .one (.lit (.ptr 1000000 0)), u, .one (.val (.int .i64))], bx := [(1000000, .var [.val (.int .i64), .val (.int .i64)])], pins := [] }), (.ret, { n := 24, regs := [u, u, .one (.lit (.ptr 1000000 0)), .one (.val .bool)], bx := [(1000000, .var [.val (.int .i64), .val (.int .i64)])], pins := [] })]
def dsShapeOf_0 : Desc := { n := 24, regs := [.one (.val (.int .i64)), u, .one (.lit (.ptr 1000000 0)), u, .one (.val (.int .i64))], bx := [(1000000, .var [.val (.int .i64), .val (.int .i64)])], pins := [] }
def osShapeOf_0 : Outs := [(.exit 0, { n := 24, regs := [u, u, .one (.lit (.ptr 1000000 0))], bx := [(1000000, .var [.val (.int .i64), .val (.int .i64)])], pins := [] }), (.ret, { n := 24, regs := [u, u, .one (.lit (.ptr 1000000 0)), .one (.val .bool)], bx := [(1000000, .var [.val (.int .i64), .val (.int .i64)])], pins := [] })]
def zto (N : Nat) : Nat → tyq3 → Option ((Int × (Int × (Int × (Int × Unit)))) ⊕ (Bool × (Int × (Int × Unit))))
 | 0, _ => none
 | n + 1, v =>
  bif decide (v.2.2.1 ≤ (4 : Int)) then
   (zod N ((v.2.1, v.2.2.1, ()), ())).bind fun r1 =>
   bif r1.1 == v.1 then
    some (.inr ((true, v.2.1, v.2.2.1, ())))
   else
   zto N n (v.1, v.2.1, w64 (v.2.2.1 + (1 : Int)), v.2.2.2.1, v.2.2.2.2.1, ())
  else
  some (.inl (v.1, v.2.1, v.2.2.2.1, v.2.2.2.2.1, ()))
def ztn (N : Nat) : Nat → (Int × (Int × (Int × (Int × Unit)))) → Option ((Int × (Int × Unit)) ⊕ (Bool × (Int × (Int × Unit))))
 | 0, _ => none
 | n + 1, v =>
  bif decide (v.2.1 ≤ (4 : Int)) then
   (zto N N (v.1, v.2.1, (0 : Int), v.2.2.1, v.2.2.2.1, ())).bind fun o2 =>
   Sum.elim (fun o3 =>
    ztn N n (o3.1, w64 (o3.2.1 + (1 : Int)), o3.2.2.1, o3.2.2.2.1, ())) (fun o4 =>
    some (.inr ((o4.1, o4.2.1, o4.2.2.1, ())))) o2
  else
  some (.inl (v.2.2.1, v.2.2.2.1, ()))
def FsShapeOf (N : Nat) (x : (Int × Unit)) : Option (Int × (Int × (Bool × Unit))) :=
 (ztn N N (x.1, (0 : Int), (0 : Int), (0 : Int), ())).bind fun o5 =>
 Sum.elim (fun o6 =>
  some ((0 : Int), (0 : Int), false, ())) (fun o7 =>
  some (o7.2.1, o7.2.2.1, o7.1, ())) o5
def consShapeOf (N : Nat) : Con := { f := 81, din := dinsShapeOf, outs := outsShapeOf, F := FsShapeOf N }
def XsShapeOf (N : Nat) : Ctx := { E := EsShapeOf N, H := HsShapeOf, lp := [(2, { hd := dsShapeOf_2, outs := osShapeOf_2, run := fun v => zto N N v }), (0, { hd := dsShapeOf_0, outs := osShapeOf_0, run := fun v => ztn N N v })], jn := [] }
def bsShapeOf_0 : Code := zzv (zzy Tryz.f81) 0
def bsShapeOf_2 : Code := zzv bsShapeOf_0 0
theorem FsShapeOf_eq (N : Nat) (x : (Int × Unit)) : evFn (XsShapeOf N) Tryz.f81 dinsShapeOf outsShapeOf x = FsShapeOf N x := by kernel_rfl
theorem lsShapeOf_2_eq (N n : Nat) (v : tyq3) : zto N (n + 1) v = ev (XsShapeOf N) bsShapeOf_2 (zzd dsShapeOf_2 osShapeOf_2 (zto N n)) (dsShapeOf_2.mk' v) := by kernel_rfl
theorem lsShapeOf_0_eq (N n : Nat) (v : (Int × (Int × (Int × (Int × Unit))))) : ztn N (n + 1) v = ev (XsShapeOf N) bsShapeOf_0 (zzd dsShapeOf_0 osShapeOf_0 (ztn N n)) (dsShapeOf_0.mk' v) := by kernel_rfl
theorem cxsShapeOf (N : Nat) : CtxOk Tryz.prog (XsShapeOf N) := ⟨⟨TE_ok, List.forall_mem_cons.2 ⟨(specsShapeWord N), fun k hk => absurd hk List.not_mem_nil⟩⟩, mixed⟩
theorem lpsShapeOf_2 (N : Nat) : zzl Tryz.prog { hd := dsShapeOf_2, outs := osShapeOf_2, run := fun v => zto N N v } bsShapeOf_2 :=
 zzx (d := dsShapeOf_2) (os := osShapeOf_2) (cxsShapeOf N) (zzz (ids := []) (by kernel_rfl) (trivial)) (zto N) (fun _ => rfl) (fun n v => lsShapeOf_2_eq N n v) (fun _ => N)
theorem lpsShapeOf_0 (N : Nat) : zzl Tryz.prog { hd := dsShapeOf_0, outs := osShapeOf_0, run := fun v => ztn N N v } bsShapeOf_0 :=
 zzx (d := dsShapeOf_0) (os := osShapeOf_0) (cxsShapeOf N) (zzz (ids := [2]) (by kernel_rfl) ⟨lp_of (lpsShapeOf_2 N), trivial⟩) (ztn N) (fun _ => rfl) (fun n v => lsShapeOf_0_eq N n v) (fun _ => N)
theorem specsShapeOf (N : Nat) : Spec Tryz.prog (consShapeOf N) :=
 Spec.of_eq (zzu (cxsShapeOf N) (f := 81) (fn := Tryz.f81) (c := zzy Tryz.f81) (by kernel_rfl) (by kernel_rfl) (by kernel_rfl) (zzz (ids := [0]) (by kernel_rfl) ⟨lp_of (lpsShapeOf_0 N), trivial⟩) (by kernel_rfl)) (fun x r h => (FsShapeOf_eq N x).trans h)
def dinsShapeSize : Desc := { n := 1, regs := [.one (.val (.pair (.int .i64) (.pair (.int .i64) .unit)))], bx := [], pins := [] }
def outsShapeSize : Outs := [(.ret, { n := 1, regs := [.one (.val (.int .i64))], bx := [], pins := [] })]
def HsShapeSize : Hints := [(0, [(0, { fz := true })])]
def EsShapeSize (N : Nat) : Env := { te := TE, cs := [consShapeOk N] }
def zql (N : Nat) (x : ((Int × (Int × Unit)) × Unit)) : Option (Int × Unit) :=
 (FsShapeOk N (x.1, ())).bind fun r1 =>
 bif !r1.1 then
  some ((0 : Int), ())
 else
 let y2 := w64 ((w64 ((2 : Int) + x.1.1)) + x.1.2.1)
 some (y2, ())
def consShapeSize (N : Nat) : Con := { f := 71, din := dinsShapeSize, outs := outsShapeSize, F := zql N }
def XsShapeSize (N : Nat) : Ctx := { E := EsShapeSize N, H := HsShapeSize, lp := [], jn := [] }
theorem FsShapeSize_eq (N : Nat) (x : ((Int × (Int × Unit)) × Unit)) : evFn (XsShapeSize N) Tryz.f71 dinsShapeSize outsShapeSize x = zql N x := by kernel_rfl
theorem cxsShapeSize (N : Nat) : CtxOk Tryz.prog (XsShapeSize N) := ⟨⟨TE_ok, List.forall_mem_cons.2 ⟨(specsShapeOk N), fun k hk => absurd hk List.not_mem_nil⟩⟩, mixed⟩
theorem specsShapeSize (N : Nat) : Spec Tryz.prog (consShapeSize N) :=
 Spec.of_eq (zzu (cxsShapeSize N) (f := 71) (fn := Tryz.f71) (c := zzy Tryz.f71) (by kernel_rfl) (by kernel_rfl) (by kernel_rfl) (zzz (ids := []) (by kernel_rfl) (trivial)) (by kernel_rfl)) (fun x r h => (FsShapeSize_eq N x).trans h)
def dinsThingAt : Desc := { n := 2, regs := [.one (.val (.sl (.int .i64))), .one (.val (.int .i64))], bx := [], pins := [] }
def outsThingAt : Outs := [(.ret, { n := 2, regs := [.agg [.val (.int .i64), .val (.int .i64), .val (.int .i64), .val (.int .i64), .lit (.row 1025605), .lit (.row 1025606)], .one (.val .bool)], bx := [(1025605, .row (.int .i64)), (1025606, .row (.int .i64))], pins := [] })]
def HsThingAt : Hints := [(2, [(0, { nl := [(4, (.int .i64)), (5, (.int .i64))] })]),
 (3, [(5, { con := 1 })]),
 (4, [(6, { con := 2 })]),
 (5, [(0, { nl := [(4, (.int .i64)), (5, (.int .i64))] })]),
 (6, [(6, { nl := [(4, (.int .i64)), (5, (.int .i64))] })])]
def EsThingAt (N : Nat) : Env := { te := TE, cs := [consl3Fits N, consShapeOf N, consShapeSize N] }
def dsThingAt_0 : Desc := { n := 83, regs := [.one (.val (.sl (.int .i64))), .one (.val (.int .i64)), u, u, .one (.lit (.ptr 1000000 0)), u, .one (.lit (.ptr 1038976 0)), u, .one (.lit (.ptr 1077248 0)), .one (.val (.int .i64))], bx := [(1000000, .var [.val (.int .i64), .val (.int .i64), .val (.int .i64), .val (.int .i64), .lit .nil, .lit .nil]), (1038976, .var [.val (.int .i64), .val (.int .i64)]), (1077248, .var [.val (.int .i64), .val (.int .i64), .val (.int .i64), .val (.int .i64), .lit (.row 1077189), .lit (.row 1077190)]), (1077189, .row (.int .i64)), (1077190, .row (.int .i64))], pins := [] }
def osThingAt_0 : Outs := [(.exit 0, { n := 83, regs := [.one (.val (.sl (.int .i64))), .one (.val (.int .i64)), u, u, .one (.lit (.ptr 1000000 0)), u, .one (.lit (.ptr 1038976 0)), u, .one (.lit (.ptr 1077248 0))], bx := [(1000000, .var [.val (.int .i64), .val (.int .i64), .val (.int .i64), .val (.int .i64), .lit .nil, .lit .nil]), (1038976, .var [.val (.int .i64), .val (.int .i64)]), (1077248, .var [.val (.int .i64), .val (.int .i64), .val (.int .i64), .val (.int .i64), .lit (.row 1077189), .lit (.row 1077190)]), (1077189, .row (.int .i64)), (1077190, .row (.int .i64))], pins := [] })]
def dsThingAt_2 : Desc := { n := 83, regs := [.one (.val (.sl (.int .i64))), .one (.val (.int .i64)), u, u, .one (.lit (.ptr 1000000 0)), u, .one (.lit (.ptr 1038976 0)), u, .one (.lit (.ptr 1077248 0)), u, .one (.val (.int .i64))], bx := [(1000000, .var [.val (.int .i64), .val (.int .i64), .val (.int .i64), .val (.int .i64), .lit .nil, .lit .nil]), (1038976, .var [.val (.int .i64), .val (.int .i64)]), (1077248, .var [.val (.int .i64), .val (.int .i64), .val (.int .i64), .val (.int .i64), .lit (.row 1077189), .lit (.row 1077190)]), (1077189, .row (.int .i64)), (1077190, .row (.int .i64))], pins := [] }
def osThingAt_2 : Outs := [(.exit 2, { n := 83, regs := [u, u, u, u, .one (.lit (.ptr 1000000 0)), u, u, u, .one (.lit (.ptr 1077248 0))], bx := [(1000000, .var [.val (.int .i64), .val (.int .i64), .val (.int .i64), .val (.int .i64), .lit .nil, .lit .nil]), (1077248, .var [.val (.int .i64), .val (.int .i64), .val (.int .i64), .val (.int .i64), .lit (.row 1077189), .lit (.row 1077190)]), (1077189, .row (.int .i64)), (1077190, .row (.int .i64))], pins := [] })]
def jsThingAt_6 : Outs := [(.normal, { n := 83, regs := [.one (.val (.sl (.int .i64))), .one (.val (.int .i64)), u, u, .one (.lit (.ptr 1000000 0)), u, .one (.lit (.ptr 1038976 0))], bx := [(1000000, .var [.val (.int .i64), .val (.int .i64), .val (.int .i64), .val (.int .i64), .lit .nil, .lit .nil]), (1038976, .var [.val (.int .i64), .val (.int .i64)])], pins := [] }), (.ret, { n := 83, regs := [u, u, u, u, .one (.lit (.ptr 1000000 0)), .one (.val .bool)], bx := [(1000000, .var [.val (.int .i64), .val (.int .i64), .val (.int .i64), .val (.int .i64), .lit (.row 1064005), .lit (.row 1064006)]), (1064005, .row (.int .i64)), (1064006, .row (.int .i64))], pins := [] })]
def zuf (N : Nat) : Nat → ((List Int) × (Int × (Int × (Int × (Int × (Int × (Int × (Int × (Int × tyq8))))))))) → Option ((List Int) × (Int × (Int × (Int × (Int × (Int × (Int × (Int × tyq8))))))))
 | 0, _ => none
 | n + 1, v =>
  bif decide (v.2.2.1 < v.2.2.2.2.2.2.2.1) then
   let y8 := w64 ((w64 (v.2.1 + (2 : Int))) + v.2.2.1)
   bif decide (0 ≤ y8) then
   bif decide (y8.toNat < v.1.length) then
   bif decide (v.2.2.2.2.2.2.2.2.2.2.2.2.2.1.length + [v.1.getD y8.toNat (0 : Int)].length ≤ lim) then
   let y9 := v.2.2.2.2.2.2.2.2.2.2.2.2.2.1 ++ [v.1.getD y8.toNat (0 : Int)]
   zuf N n (v.1, v.2.1, w64 (v.2.2.1 + (1 : Int)), v.2.2.2.1, v.2.2.2.2.1, v.2.2.2.2.2.1, v.2.2.2.2.2.2.1, v.2.2.2.2.2.2.2.1, v.2.2.2.2.2.2.2.2.1, v.2.2.2.2.2.2.2.2.2.1, v.2.2.2.2.2.2.2.2.2.2.1, v.2.2.2.2.2.2.2.2.2.2.2.1, v.2.2.2.2.2.2.2.2.2.2.2.2.1, y9, v.2.2.2.2.2.2.2.2.2.2.2.2.2.2.1, ())
   else none
   else none
   else none
  else
  some (v.1, v.2.1, v.2.2.2.1, v.2.2.2.2.1, v.2.2.2.2.2.1, v.2.2.2.2.2.2.1, v.2.2.2.2.2.2.2.1, v.2.2.2.2.2.2.2.2.1, v.2.2.2.2.2.2.2.2.2.1, v.2.2.2.2.2.2.2.2.2.2.1, v.2.2.2.2.2.2.2.2.2.2.2.1, v.2.2.2.2.2.2.2.2.2.2.2.2.1, v.2.2.2.2.2.2.2.2.2.2.2.2.2.1, v.2.2.2.2.2.2.2.2.2.2.2.2.2.2.1, ())
def zug (N : Nat) : Nat → ((List Int) × (Int × (Int × (Int × (Int × (Int × (Int × (Int × (Int × tyq8))))))))) → Option (Int × (Int × (Int × (Int × tyq8))))
 | 0, _ => none
 | n + 1, v =>
  let y11 := decide (v.2.2.1 < v.2.2.2.2.2.2.2.2.1)
  bif y11 then
   let y12 := w64 ((w64 (v.2.1 + (2 : Int))) + v.2.2.2.2.2.2.2.1)
   bif decide (0 ≤ (w64 (y12 + v.2.2.1))) then
   bif decide ((w64 (y12 + v.2.2.1)).toNat < v.1.length) then
   let y13 := v.1.getD ((w64 (y12 + v.2.2.1)).toNat) (0 : Int)
   bif decide (v.2.2.2.2.2.2.2.2.2.2.2.2.2.2.1.length + [y13].length ≤ lim) then
   let y14 := v.2.2.2.2.2.2.2.2.2.2.2.2.2.2.1 ++ [y13]
   zug N n (v.1, v.2.1, w64 (v.2.2.1 + (1 : Int)), v.2.2.2.1, v.2.2.2.2.1, v.2.2.2.2.2.1, v.2.2.2.2.2.2.1, v.2.2.2.2.2.2.2.1, v.2.2.2.2.2.2.2.2.1, v.2.2.2.2.2.2.2.2.2.1, v.2.2.2.2.2.2.2.2.2.2.1, v.2.2.2.2.2.2.2.2.2.2.2.1, v.2.2.2.2.2.2.2.2.2.2.2.2.1, v.2.2.2.2.2.2.2.2.2.2.2.2.2.1, y14, ())
   else none
   else none
   else none
  else
  some (v.2.2.2.1, v.2.2.2.2.1, v.2.2.2.2.2.1, v.2.2.2.2.2.2.1, v.2.2.2.2.2.2.2.2.2.1, v.2.2.2.2.2.2.2.2.2.2.1, v.2.2.2.2.2.2.2.2.2.2.2.1, v.2.2.2.2.2.2.2.2.2.2.2.2.1, v.2.2.2.2.2.2.2.2.2.2.2.2.2.1, v.2.2.2.2.2.2.2.2.2.2.2.2.2.2.1, ())
def FsThingAt (N : Nat) (x : ((List Int) × (Int × Unit))) : Option (Int × (Int × (Int × (Int × (Bool × ((List Int) × ((List Int) × Unit))))))) :=
 (Fsl3Fits N (x.1, x.2.1, (2 : Int), ())).bind fun r1 =>
 bif !r1.1 then
  some ((0 : Int), (0 : Int), (0 : Int), (0 : Int), false, ([] : (List Int)), ([] : (List Int)), ())
 else
 bif decide (0 ≤ (w64 (x.2.1 + (1 : Int)))) then
 bif decide ((w64 (x.2.1 + (1 : Int))).toNat < x.1.length) then
 let y2 := x.1.getD ((w64 (x.2.1 + (1 : Int))).toNat) (0 : Int)
 (FsShapeOf N (y2, ())).bind fun r3 =>
 Option.bind (
  bif !r3.2.2.1 then
   some (.inr ((false, (0 : Int), (0 : Int), (0 : Int), (0 : Int), ([] : (List Int)), ([] : (List Int)), ())))
  else
  (zql N ((r3.1, r3.2.1, ()), ())).bind fun r4 =>
  (Fsl3Fits N (x.1, x.2.1, r4.1, ())).bind fun r5 =>
  bif !r5.1 then
   some (.inr ((false, (0 : Int), (0 : Int), (0 : Int), (0 : Int), ([] : (List Int)), ([] : (List Int)), ())))
  else
  some (.inl (x.1, x.2.1, (0 : Int), (0 : Int), (0 : Int), (0 : Int), r3.1, r3.2.1, ()))) fun o6 =>
 Sum.elim (fun o7 =>
  bif decide (0 ≤ o7.2.1) then
  bif decide (o7.2.1.toNat < o7.1.length) then
  (zuf N N (o7.1, o7.2.1, (0 : Int), o7.2.2.1, o7.2.2.2.1, o7.2.2.2.2.1, o7.2.2.2.2.2.1, o7.2.2.2.2.2.2.1, o7.2.2.2.2.2.2.2.1, o7.2.1, o7.1.getD o7.2.1.toNat (0 : Int), o7.2.2.2.2.2.2.1, o7.2.2.2.2.2.2.2.1, ([] : (List Int)), ([] : (List Int)), ())).bind fun o10 =>
  (zug N N (o10.1, o10.2.1, (0 : Int), o10.2.2.1, o10.2.2.2.1, o10.2.2.2.2.1, o10.2.2.2.2.2.1, o10.2.2.2.2.2.2.1, o10.2.2.2.2.2.2.2.1, o10.2.2.2.2.2.2.2.2.1, o10.2.2.2.2.2.2.2.2.2.1, o10.2.2.2.2.2.2.2.2.2.2.1, o10.2.2.2.2.2.2.2.2.2.2.2.1, o10.2.2.2.2.2.2.2.2.2.2.2.2.1, o10.2.2.2.2.2.2.2.2.2.2.2.2.2.1, ())).bind fun o15 =>
  some (o15.2.2.2.2.1, o15.2.2.2.2.2.1, o15.2.2.2.2.2.2.1, o15.2.2.2.2.2.2.2.1, true, o15.2.2.2.2.2.2.2.2.1, o15.2.2.2.2.2.2.2.2.2.1, ())
  else none
  else none) (fun o16 =>
  some (o16.2.1, o16.2.2.1, o16.2.2.2.1, o16.2.2.2.2.1, o16.1, o16.2.2.2.2.2.1, o16.2.2.2.2.2.2.1, ())) o6
 else none
 else none
def consThingAt (N : Nat) : Con := { f := 70, din := dinsThingAt, outs := outsThingAt, F := FsThingAt N }
def XsThingAt (N : Nat) : Ctx := { E := EsThingAt N, H := HsThingAt, lp := [(0, { hd := dsThingAt_0, outs := osThingAt_0, run := fun v => zuf N N v }), (2, { hd := dsThingAt_2, outs := osThingAt_2, run := fun v => zug N N v })], jn := [(6, jsThingAt_6)] }
def bsThingAt_2 : Code := zzv (zzy Tryz.f70) 1
def bsThingAt_0 : Code := zzv (zzy Tryz.f70) 0
theorem FsThingAt_eq (N : Nat) (x : ((List Int) × (Int × Unit))) : evFn (XsThingAt N) Tryz.f70 dinsThingAt outsThingAt x = FsThingAt N x := by kernel_rfl
theorem lsThingAt_0_eq (N n : Nat) (v : ((List Int) × (Int × (Int × (Int × (Int × (Int × (Int × (Int × (Int × tyq8)))))))))) : zuf N (n + 1) v = ev (XsThingAt N) bsThingAt_0 (zzd dsThingAt_0 osThingAt_0 (zuf N n)) (dsThingAt_0.mk' v) := by kernel_rfl
theorem lsThingAt_2_eq (N n : Nat) (v : ((List Int) × (Int × (Int × (Int × (Int × (Int × (Int × (Int × (Int × tyq8)))))))))) : zug N (n + 1) v = ev (XsThingAt N) bsThingAt_2 (zzd dsThingAt_2 osThingAt_2 (zug N n)) (dsThingAt_2.mk' v) := by kernel_rfl
theorem cxsThingAt (N : Nat) : CtxOk Tryz.prog (XsThingAt N) := ⟨⟨TE_ok, List.forall_mem_cons.2 ⟨(specsl3Fits N), List.forall_mem_cons.2 ⟨(specsShapeOf N), List.forall_mem_cons.2 ⟨(specsShapeSize N), fun k hk => absurd hk List.not_mem_nil⟩⟩⟩⟩, mixed⟩
theorem lpsThingAt_0 (N : Nat) : zzl Tryz.prog { hd := dsThingAt_0, outs := osThingAt_0, run := fun v => zuf N N v } bsThingAt_0 :=
 zzx (d := dsThingAt_0) (os := osThingAt_0) (cxsThingAt N) (zzz (ids := []) (by kernel_rfl) (trivial)) (zuf N) (fun _ => rfl) (fun n v => lsThingAt_0_eq N n v) (fun _ => N)
theorem lpsThingAt_2 (N : Nat) : zzl Tryz.prog { hd := dsThingAt_2, outs := osThingAt_2, run := fun v => zug N N v } bsThingAt_2 :=
 zzx (d := dsThingAt_2) (os := osThingAt_2) (cxsThingAt N) (zzz (ids := []) (by kernel_rfl) (trivial)) (zug N) (fun _ => rfl) (fun n v => lsThingAt_2_eq N n v) (fun _ => N)
theorem specsThingAt (N : Nat) : Spec Tryz.prog (consThingAt N) :=
 Spec.of_eq (zzu (cxsThingAt N) (f := 70) (fn := Tryz.f70) (c := zzy Tryz.f70) (by kernel_rfl) (by kernel_rfl) (by kernel_rfl) (zzz (ids := [0, 2]) (by kernel_rfl) ⟨lp_of (lpsThingAt_0 N), ⟨lp_of (lpsThingAt_2 N), trivial⟩⟩) (by kernel_rfl)) (fun x r h => (FsThingAt_eq N x).trans h)
def dinsThingsIn : Desc := { n := 3, regs := [.one (.val (.sl (.int .i64))), .one (.val (.int .i64)), .one (.val (.int .i64))], bx := [], pins := [] }
def outsThingsIn : Outs := [(.ret, { n := 2, regs := [.one (.lit (.row 1038400)), .one (.val .bool)], bx := [(1038400, .row tyq11)], pins := [] })]
def HsThingsIn : Hints := [(1, [(17, { con := 1 }), (23, { con := 1 })]),
 (2, [(0, { nl := [(0, tyq11)] })]),
 (3, [(0, { nl := [(0, tyq11)] })]),
 (4, [(1, { con := 1 })]),
 (6, [(2, { con := 2 })]),
 (7, [(6, { con := 3 })]),
 (8, [(0, { nl := [(0, tyq11)] })]),
 (9, [(2, { dp := true }), (3, { dp := true })]),
 (10, [(3, { con := 3 })])]
def EsThingsIn (N : Nat) : Env := { te := TE, cs := [consWordsOk N, consRegionBase N, consThingAt N, consShapeSize N] }
def dsThingsIn_0 : Desc := { n := 71, regs := [.one (.val (.sl (.int .i64))), u, .one (.val (.int .i64)), u, u, u, u, u, .one (.lit (.row 1038400)), .one (.val (.int .i64))], bx := [(1038400, .row tyq11)], pins := [] }
def osThingsIn_0 : Outs := [(.exit 0, { n := 71, regs := [u, u, u, u, u, u, u, u, .one (.lit (.row 1038400))], bx := [(1038400, .row tyq11)], pins := [] }), (.ret, { n := 71, regs := [u, u, u, u, u, u, .one (.lit (.row 1102400)), .one (.val .bool)], bx := [(1102400, .row tyq11)], pins := [] })]
def jsThingsIn_3 : Outs := [(.normal, { n := 71, regs := [.one (.val (.sl (.int .i64))), .one (.val (.int .i64)), .one (.val (.int .i64))], bx := [], pins := [] }), (.ret, { n := 71, regs := [u, u, u, u, u, u, .one (.lit (.row 1025600)), .one (.val .bool)], bx := [(1025600, .row tyq11)], pins := [] })]
def jsThingsIn_9 : Outs := [(.normal, { n := 71, regs := [.one (.val (.sl (.int .i64))), u, .one (.val (.int .i64)), u, u, u, u, u, .one (.lit (.row 1038400)), .one (.val (.int .i64)), .one (.lit (.ptr 1077184 0))], bx := [(1038400, .row tyq11), (1077184, .var [.val (.int .i64), .val (.int .i64), .val (.int .i64), .val (.int .i64), .lit (.row 1076929), .lit (.row 1076930)]), (1076929, .row (.int .i64)), (1076930, .row (.int .i64))], pins := [] }), (.ret, { n := 71, regs := [u, u, u, u, u, u, .one (.lit (.row 1102400)), .one (.val .bool)], bx := [(1102400, .row tyq11)], pins := [] })]
def zum (N : Nat) : Nat → ((List Int) × (Int × (Int × ((List tyq2) × Unit)))) → Option (((List tyq2) × Unit) ⊕ (Bool × ((List tyq2) × Unit)))
 | 0, _ => none
 | n + 1, v =>
  bif decide (v.2.2.1 < v.2.1) then
   (FsThingAt N (v.1, v.2.2.1, ())).bind fun r15 =>
   Option.bind (
    bif !r15.2.2.2.2.1 then
     let y16 := ([] : (List tyq2))
     some (.inr ((false, y16, ())))
    else
    (zql N ((r15.2.2.1, r15.2.2.2.1, ()), ())).bind fun r17 =>
    let y18 := decide ((w64 (v.2.2.1 + r17.1)) > v.2.1)
    bif y18 then
     let y19 := ([] : (List tyq2))
     some (.inr ((false, y19, ())))
    else
    some (.inl (v.1, v.2.1, v.2.2.1, v.2.2.2.1, r15.1, r15.2.1, r15.2.2.1, r15.2.2.2.1, r15.2.2.2.2.2.1, r15.2.2.2.2.2.2.1, ()))) fun o20 =>
   Sum.elim (fun o21 =>
    let y22 := [(o21.2.2.2.2.1, o21.2.2.2.2.2.1, (o21.2.2.2.2.2.2.1, o21.2.2.2.2.2.2.2.1, ()), o21.2.2.2.2.2.2.2.2.1, o21.2.2.2.2.2.2.2.2.2.1, ())]
    bif decide (o21.2.2.2.1.length + y22.length ≤ lim) then
    (zql N ((o21.2.2.2.2.2.2.1, o21.2.2.2.2.2.2.2.1, ()), ())).bind fun r23 =>
    zum N n (o21.1, o21.2.1, w64 (o21.2.2.1 + r23.1), o21.2.2.2.1 ++ y22, ())
    else none) (fun o24 =>
    some (.inr ((o24.1, o24.2.1, ())))) o20
  else
  some (.inl (v.2.2.2.1, ()))
def FsThingsIn (N : Nat) (x : ((List Int) × (Int × (Int × Unit)))) : Option (Bool × ((List tyq2) × Unit)) :=
 Option.bind (
  (FsWordsOk N (x.1, ())).bind fun r1 =>
  bif !r1.1 then
   let y2 := ([] : (List tyq2))
   some (.inr ((false, y2, ())))
  else
  bif decide (x.2.1 < (1 : Int)) then
   let y3 := ([] : (List tyq2))
   some (.inr ((false, y3, ())))
  else
  bif decide ((16 : Int) = 0) then
   none
  else
  let y4 := w64 (Int.tdiv (x.1.length : Int) (16 : Int))
  bif decide (x.2.1 ≥ y4) then
   let y5 := ([] : (List tyq2))
   some (.inr ((false, y5, ())))
  else
  (ztv N (x.2.1, ())).bind fun r6 =>
  bif decide (x.2.2.1 < r6.1) then
   let y7 := ([] : (List tyq2))
   some (.inr ((false, y7, ())))
  else
  (ztv N (x.2.1, ())).bind fun r8 =>
  let y9 := decide (x.2.2.1 > (w64 (r8.1 + (16 : Int))))
  bif y9 then
   let y10 := ([] : (List tyq2))
   some (.inr ((false, y10, ())))
  else
  some (.inl (x.1, x.2.1, x.2.2.1, ()))) fun o11 =>
 Sum.elim (fun o12 =>
  let y13 := ([] : (List tyq2))
  (ztv N (o12.2.1, ())).bind fun r14 =>
  (zum N N (o12.1, o12.2.2.1, r14.1, y13, ())).bind fun o25 =>
  Sum.elim (fun o26 =>
   some (true, o26.1, ())) (fun o27 =>
   some (o27.1, o27.2.1, ())) o25) (fun o28 =>
  some (o28.1, o28.2.1, ())) o11
def consThingsIn (N : Nat) : Con := { f := 52, din := dinsThingsIn, outs := outsThingsIn, F := FsThingsIn N }
def XsThingsIn (N : Nat) : Ctx := { E := EsThingsIn N, H := HsThingsIn, lp := [(0, { hd := dsThingsIn_0, outs := osThingsIn_0, run := fun v => zum N N v })], jn := [(3, jsThingsIn_3), (9, jsThingsIn_9)] }
def bsThingsIn_0 : Code := zzv (zzy Tryz.f52) 0
theorem FsThingsIn_eq (N : Nat) (x : ((List Int) × (Int × (Int × Unit)))) : evFn (XsThingsIn N) Tryz.f52 dinsThingsIn outsThingsIn x = FsThingsIn N x := by kernel_rfl
theorem lsThingsIn_0_eq (N n : Nat) (v : ((List Int) × (Int × (Int × ((List tyq2) × Unit))))) : zum N (n + 1) v = ev (XsThingsIn N) bsThingsIn_0 (zzd dsThingsIn_0 osThingsIn_0 (zum N n)) (dsThingsIn_0.mk' v) := by kernel_rfl
theorem cxsThingsIn (N : Nat) : CtxOk Tryz.prog (XsThingsIn N) := ⟨⟨TE_ok, List.forall_mem_cons.2 ⟨(specsWordsOk N), List.forall_mem_cons.2 ⟨(specsRegionBase N), List.forall_mem_cons.2 ⟨(specsThingAt N), List.forall_mem_cons.2 ⟨(specsShapeSize N), fun k hk => absurd hk List.not_mem_nil⟩⟩⟩⟩⟩, mixed⟩
theorem lpsThingsIn_0 (N : Nat) : zzl Tryz.prog { hd := dsThingsIn_0, outs := osThingsIn_0, run := fun v => zum N N v } bsThingsIn_0 :=
 zzx (d := dsThingsIn_0) (os := osThingsIn_0) (cxsThingsIn N) (zzz (ids := []) (by kernel_rfl) (trivial)) (zum N) (fun _ => rfl) (fun n v => lsThingsIn_0_eq N n v) (fun _ => N)
theorem specsThingsIn (N : Nat) : Spec Tryz.prog (consThingsIn N) :=
 Spec.of_eq (zzu (cxsThingsIn N) (f := 52) (fn := Tryz.f52) (c := zzy Tryz.f52) (by kernel_rfl) (by kernel_rfl) (by kernel_rfl) (zzz (ids := [0]) (by kernel_rfl) ⟨lp_of (lpsThingsIn_0 N), trivial⟩) (by kernel_rfl)) (fun x r h => (FsThingsIn_eq N x).trans h)
def dinsl6Things : Desc := { n := 1, regs := [.one (.val tyq10)], bx := [], pins := [] }
def outsl6Things : Outs := [(.ret, { n := 2, regs := [.one (.lit (.row 1012800)), .one (.val .bool)], bx := [(1012800, .row tyq11)], pins := [] })]
def Hsl6Things : Hints := [(0, [(0, { fz := true })]),
 (1, [(0, { nl := [(0, tyq11)] })]),
 (7, [(0, { nl := [(0, tyq11)] })]),
 (8, [(2, { dp := true })])]
def Esl6Things (N : Nat) : Env := { te := TE, cs := [consThingsIn N] }
def dsl6Things_0 : Desc := { n := 34, regs := [u, .one (.fpt tyq10), u, u, .one (.lit (.row 1012800)), .one (.val (.int .i64))], bx := [(1012800, .row tyq11)], pins := [] }
def osl6Things_0 : Outs := [(.exit 0, { n := 34, regs := [u, u, u, u, .one (.lit (.row 1012800))], bx := [(1012800, .row tyq11)], pins := [] }), (.ret, { n := 34, regs := [u, u, .one (.lit (.row 1089600)), .one (.val .bool)], bx := [(1089600, .row tyq11)], pins := [] })]
def zvc (N : Nat) : Nat → (tyq1 × (Int × ((List tyq2) × Unit))) → Option (((List tyq2) × Unit) ⊕ (Bool × ((List tyq2) × Unit)))
 | 0, _ => none
 | n + 1, v =>
  let y2 := decide (v.2.1 < (v.1.2.1.length : Int))
  bif y2 then
   bif decide (0 ≤ v.2.1) then
   bif decide (v.2.1.toNat < v.1.2.1.length) then
   let y3 := v.1.2.1.getD v.2.1.toNat ((0 : Int), (0 : Int), (0 : Int), (0 : Int), (0 : Int), ())
   (FsThingsIn N (v.1.1, v.2.1, y3.2.2.1, ())).bind fun r4 =>
   bif !r4.1 then
    let y5 := ([] : (List tyq2))
    some (.inr ((false, y5, ())))
   else
   bif decide (v.2.2.1.length + r4.2.1.length ≤ lim) then
   zvc N n (v.1, w64 (v.2.1 + (1 : Int)), v.2.2.1 ++ r4.2.1, ())
   else none
   else none
   else none
  else
  some (.inl (v.2.2.1, ()))
def zoe (N : Nat) (x : (tyq1 × Unit)) : Option (Bool × ((List tyq2) × Unit)) :=
 let y1 := ([] : (List tyq2))
 (zvc N N (x.1, (1 : Int), y1, ())).bind fun o6 =>
 Sum.elim (fun o7 =>
  some (true, o7.1, ())) (fun o8 =>
  some (o8.1, o8.2.1, ())) o6
def consl6Things (N : Nat) : Con := { f := 18, din := dinsl6Things, outs := outsl6Things, F := zoe N }
def Xsl6Things (N : Nat) : Ctx := { E := Esl6Things N, H := Hsl6Things, lp := [(0, { hd := dsl6Things_0, outs := osl6Things_0, run := fun v => zvc N N v })], jn := [] }
def bsl6Things_0 : Code := zzv (zzy Tryz.f18) 0
theorem Fsl6Things_eq (N : Nat) (x : (tyq1 × Unit)) : evFn (Xsl6Things N) Tryz.f18 dinsl6Things outsl6Things x = zoe N x := by kernel_rfl
theorem lsl6Things_0_eq (N n : Nat) (v : (tyq1 × (Int × ((List tyq2) × Unit)))) : zvc N (n + 1) v = ev (Xsl6Things N) bsl6Things_0 (zzd dsl6Things_0 osl6Things_0 (zvc N n)) (dsl6Things_0.mk' v) := by kernel_rfl
theorem cxsl6Things (N : Nat) : CtxOk Tryz.prog (Xsl6Things N) := ⟨⟨TE_ok, List.forall_mem_cons.2 ⟨(specsThingsIn N), fun k hk => absurd hk List.not_mem_nil⟩⟩, mixed⟩
theorem lpsl6Things_0 (N : Nat) : zzl Tryz.prog { hd := dsl6Things_0, outs := osl6Things_0, run := fun v => zvc N N v } bsl6Things_0 :=
 zzx (d := dsl6Things_0) (os := osl6Things_0) (cxsl6Things N) (zzz (ids := []) (by kernel_rfl) (trivial)) (zvc N) (fun _ => rfl) (fun n v => lsl6Things_0_eq N n v) (fun _ => N)
theorem specsl6Things (N : Nat) : Spec Tryz.prog (consl6Things N) :=
 Spec.of_eq (zzu (cxsl6Things N) (f := 18) (fn := Tryz.f18) (c := zzy Tryz.f18) (by kernel_rfl) (by kernel_rfl) (by kernel_rfl) (zzz (ids := [0]) (by kernel_rfl) ⟨lp_of (lpsl6Things_0 N), trivial⟩) (by kernel_rfl)) (fun x r h => (Fsl6Things_eq N x).trans h)
def dinsl6Find : Desc := { n := 2, regs := [.one (.val (.sl tyq11)), .one (.val (.int .i64))], bx := [], pins := [] }
def outsl6Find : Outs := [(.ret, { n := 1, regs := [.one (.val (.int .i64))], bx := [], pins := [] })]
def Hsl6Find : Hints := []
def Esl6Find (_N : Nat) : Env := { te := TE, cs := [] }
def dsl6Find_0 : Desc := { n := 20, regs := [.one (.val (.sl tyq11)), .one (.val (.int .i64)), u, u, u, .one (.val (.int .i64))], bx := [], pins := [] }
def osl6Find_0 : Outs := [(.exit 0, { n := 20, regs := [], bx := [], pins := [] }), (.ret, { n := 20, regs := [u, u, u, u, .one (.val (.int .i64))], bx := [], pins := [] })]
def zu7 (N : Nat) : Nat → ((List tyq2) × (Int × (Int × Unit))) → Option (Unit ⊕ (Int × Unit))
 | 0, _ => none
 | n + 1, v =>
  let y1 := decide (v.2.2.1 < (v.1.length : Int))
  bif y1 then
   bif decide (0 ≤ v.2.2.1) then
   bif decide (v.2.2.1.toNat < v.1.length) then
   let y2 := v.1.getD v.2.2.1.toNat ((0 : Int), (0 : Int), ((0 : Int), (0 : Int), ()), ([] : (List Int)), ([] : (List Int)), ())
   bif y2.1 == v.2.1 then
    some (.inr ((v.2.2.1, ())))
   else
   zu7 N n (v.1, v.2.1, w64 (v.2.2.1 + (1 : Int)), ())
   else none
   else none
  else
  some (.inl ())
def ztk (N : Nat) (x : ((List tyq2) × (Int × Unit))) : Option (Int × Unit) :=
 (zu7 N N (x.1, x.2.1, (0 : Int), ())).bind fun o3 =>
 Sum.elim (fun o4 =>
  some ((-1 : Int), ())) (fun o5 =>
  some (o5.1, ())) o3
def consl6Find (N : Nat) : Con := { f := 19, din := dinsl6Find, outs := outsl6Find, F := ztk N }
def Xsl6Find (N : Nat) : Ctx := { E := Esl6Find N, H := Hsl6Find, lp := [(0, { hd := dsl6Find_0, outs := osl6Find_0, run := fun v => zu7 N N v })], jn := [] }
def bsl6Find_0 : Code := zzv (zzy Tryz.f19) 0
theorem Fsl6Find_eq (N : Nat) (x : ((List tyq2) × (Int × Unit))) : evFn (Xsl6Find N) Tryz.f19 dinsl6Find outsl6Find x = ztk N x := by kernel_rfl
theorem lsl6Find_0_eq (N n : Nat) (v : ((List tyq2) × (Int × (Int × Unit)))) : zu7 N (n + 1) v = ev (Xsl6Find N) bsl6Find_0 (zzd dsl6Find_0 osl6Find_0 (zu7 N n)) (dsl6Find_0.mk' v) := by kernel_rfl
theorem cxsl6Find (N : Nat) : CtxOk Tryz.prog (Xsl6Find N) := ⟨⟨TE_ok, fun k hk => absurd hk List.not_mem_nil⟩, mixed⟩
theorem lpsl6Find_0 (N : Nat) : zzl Tryz.prog { hd := dsl6Find_0, outs := osl6Find_0, run := fun v => zu7 N N v } bsl6Find_0 :=
 zzx (d := dsl6Find_0) (os := osl6Find_0) (cxsl6Find N) (zzz (ids := []) (by kernel_rfl) (trivial)) (zu7 N) (fun _ => rfl) (fun n v => lsl6Find_0_eq N n v) (fun _ => N)
theorem specsl6Find (N : Nat) : Spec Tryz.prog (consl6Find N) :=
 Spec.of_eq (zzu (cxsl6Find N) (f := 19) (fn := Tryz.f19) (c := zzy Tryz.f19) (by kernel_rfl) (by kernel_rfl) (by kernel_rfl) (zzz (ids := [0]) (by kernel_rfl) ⟨lp_of (lpsl6Find_0 N), trivial⟩) (by kernel_rfl)) (fun x r h => (Fsl6Find_eq N x).trans h)
def dinsl6Now : Desc := { n := 2, regs := [.one (.val (.sl tyq11)), .one (.val (.int .i64))], bx := [], pins := [] }
def outsl6Now : Outs := [(.ret, { n := 1, regs := [.one (.val (.int .i64))], bx := [], pins := [] })]
def Hsl6Now : Hints := []
def Esl6Now (N : Nat) : Env := { te := TE, cs := [consl6Find N] }
def zqm (N : Nat) (x : ((List tyq2) × (Int × Unit))) : Option (Int × Unit) :=
 bif x.2.1 == (0 : Int) then
  some ((0 : Int), ())
 else
 (ztk N (x.1, x.2.1, ())).bind fun r1 =>
 bif decide (0 ≤ r1.1) then
 bif decide (r1.1.toNat < x.1.length) then
 let y2 := x.1.getD r1.1.toNat ((0 : Int), (0 : Int), ((0 : Int), (0 : Int), ()), ([] : (List Int)), ([] : (List Int)), ())
 some (y2.2.1, ())
 else none
 else none
def consl6Now (N : Nat) : Con := { f := 22, din := dinsl6Now, outs := outsl6Now, F := zqm N }
def Xsl6Now (N : Nat) : Ctx := { E := Esl6Now N, H := Hsl6Now, lp := [], jn := [] }
theorem Fsl6Now_eq (N : Nat) (x : ((List tyq2) × (Int × Unit))) : evFn (Xsl6Now N) Tryz.f22 dinsl6Now outsl6Now x = zqm N x := by kernel_rfl
theorem cxsl6Now (N : Nat) : CtxOk Tryz.prog (Xsl6Now N) := ⟨⟨TE_ok, List.forall_mem_cons.2 ⟨(specsl6Find N), fun k hk => absurd hk List.not_mem_nil⟩⟩, mixed⟩
theorem specsl6Now (N : Nat) : Spec Tryz.prog (consl6Now N) :=
 Spec.of_eq (zzu (cxsl6Now N) (f := 22) (fn := Tryz.f22) (c := zzy Tryz.f22) (by kernel_rfl) (by kernel_rfl) (by kernel_rfl) (zzz (ids := []) (by kernel_rfl) (trivial)) (by kernel_rfl)) (fun x r h => (Fsl6Now_eq N x).trans h)
def dinsl5Place : Desc := { n := 2, regs := [.one (.val (.sl (.int .i64))), .one (.val (.int .i64))], bx := [], pins := [] }
def outsl5Place : Outs := [(.ret, { n := 1, regs := [.one (.val (.int .i64))], bx := [], pins := [] })]
def Hsl5Place : Hints := []
def Esl5Place (_N : Nat) : Env := { te := TE, cs := [] }
def dsl5Place_0 : Desc := { n := 19, regs := [.one (.val (.sl (.int .i64))), .one (.val (.int .i64)), u, u, u, .one (.val (.int .i64))], bx := [], pins := [] }
def osl5Place_0 : Outs := [(.exit 0, { n := 19, regs := [], bx := [], pins := [] }), (.ret, { n := 19, regs := [u, u, u, u, .one (.val (.int .i64))], bx := [], pins := [] })]
def zv7 (N : Nat) : Nat → ((List Int) × (Int × (Int × Unit))) → Option (Unit ⊕ (Int × Unit))
 | 0, _ => none
 | n + 1, v =>
  let y1 := decide (v.2.2.1 < (v.1.length : Int))
  bif y1 then
   bif decide (0 ≤ v.2.2.1) then
   bif decide (v.2.2.1.toNat < v.1.length) then
   let y2 := (v.1.getD v.2.2.1.toNat (0 : Int)) == v.2.1
   bif y2 then
    some (.inr ((v.2.2.1, ())))
   else
   zv7 N n (v.1, v.2.1, w64 (v.2.2.1 + (1 : Int)), ())
   else none
   else none
  else
  some (.inl ())
def zty (N : Nat) (x : ((List Int) × (Int × Unit))) : Option (Int × Unit) :=
 (zv7 N N (x.1, x.2.1, (0 : Int), ())).bind fun o3 =>
 Sum.elim (fun o4 =>
  some ((-1 : Int), ())) (fun o5 =>
  some (o5.1, ())) o3
def consl5Place (N : Nat) : Con := { f := 21, din := dinsl5Place, outs := outsl5Place, F := zty N }
def Xsl5Place (N : Nat) : Ctx := { E := Esl5Place N, H := Hsl5Place, lp := [(0, { hd := dsl5Place_0, outs := osl5Place_0, run := fun v => zv7 N N v })], jn := [] }
def bsl5Place_0 : Code := zzv (zzy Tryz.f21) 0
theorem Fsl5Place_eq (N : Nat) (x : ((List Int) × (Int × Unit))) : evFn (Xsl5Place N) Tryz.f21 dinsl5Place outsl5Place x = zty N x := by kernel_rfl
theorem lsl5Place_0_eq (N n : Nat) (v : ((List Int) × (Int × (Int × Unit)))) : zv7 N (n + 1) v = ev (Xsl5Place N) bsl5Place_0 (zzd dsl5Place_0 osl5Place_0 (zv7 N n)) (dsl5Place_0.mk' v) := by kernel_rfl
theorem cxsl5Place (N : Nat) : CtxOk Tryz.prog (Xsl5Place N) := ⟨⟨TE_ok, fun k hk => absurd hk List.not_mem_nil⟩, mixed⟩
theorem lpsl5Place_0 (N : Nat) : zzl Tryz.prog { hd := dsl5Place_0, outs := osl5Place_0, run := fun v => zv7 N N v } bsl5Place_0 :=
 zzx (d := dsl5Place_0) (os := osl5Place_0) (cxsl5Place N) (zzz (ids := []) (by kernel_rfl) (trivial)) (zv7 N) (fun _ => rfl) (fun n v => lsl5Place_0_eq N n v) (fun _ => N)
theorem specsl5Place (N : Nat) : Spec Tryz.prog (consl5Place N) :=
 Spec.of_eq (zzu (cxsl5Place N) (f := 21) (fn := Tryz.f21) (c := zzy Tryz.f21) (by kernel_rfl) (by kernel_rfl) (by kernel_rfl) (zzz (ids := [0]) (by kernel_rfl) ⟨lp_of (lpsl5Place_0 N), trivial⟩) (by kernel_rfl)) (fun x r h => (Fsl5Place_eq N x).trans h)
def dinsl6Put : Desc := { n := 2, regs := [.one (.lit (.row 0)), .one (.val (.int .i64))], bx := [(0, .row (.int .i64))], pins := [] }
def outsl6Put : Outs := [(.ret, { n := 1, regs := [.one (.lit (.row 0))], bx := [(0, .row (.int .i64))], pins := [] })]
def Hsl6Put : Hints := []
def Esl6Put (N : Nat) : Env := { te := TE, cs := [consl5Place N] }
def jsl6Put_3 : Outs := [(.normal, { n := 18, regs := [.one (.lit (.row 0)), .one (.val (.int .i64))], bx := [(0, .row (.int .i64))], pins := [.one (.lit (.row 0))] }), (.ret, { n := 18, regs := [u, u, u, u, .one (.lit (.row 0))], bx := [(0, .row (.int .i64))], pins := [.one (.lit (.row 0))] })]
def Fsl6Put (N : Nat) (x : (Int × ((List Int) × Unit))) : Option ((List Int) × Unit) :=
 Option.bind (
  bif x.1 == (0 : Int) then
   some (.inr ((x.2.1, ())))
  else
  (zty N (x.2.1, x.1, ())).bind fun r1 =>
  bif decide (r1.1 ≥ (0 : Int)) then
   some (.inr ((x.2.1, ())))
  else
  some (.inl (x.1, x.2.1, ()))) fun o2 =>
 Sum.elim (fun o3 =>
  bif decide (o3.2.1.length + [o3.1].length ≤ lim) then
  some (o3.2.1 ++ [o3.1], ())
  else none) (fun o4 =>
  some (o4.1, ())) o2
def consl6Put (N : Nat) : Con := { f := 68, din := dinsl6Put, outs := outsl6Put, F := Fsl6Put N }
def Xsl6Put (N : Nat) : Ctx := { E := Esl6Put N, H := Hsl6Put, lp := [], jn := [(3, jsl6Put_3)] }
theorem Fsl6Put_eq (N : Nat) (x : (Int × ((List Int) × Unit))) : evFn (Xsl6Put N) Tryz.f68 dinsl6Put outsl6Put x = Fsl6Put N x := by kernel_rfl
theorem cxsl6Put (N : Nat) : CtxOk Tryz.prog (Xsl6Put N) := ⟨⟨TE_ok, List.forall_mem_cons.2 ⟨(specsl5Place N), fun k hk => absurd hk List.not_mem_nil⟩⟩, mixed⟩
theorem specsl6Put (N : Nat) : Spec Tryz.prog (consl6Put N) :=
 Spec.of_eq (zzu (cxsl6Put N) (f := 68) (fn := Tryz.f68) (c := zzy Tryz.f68) (by kernel_rfl) (by kernel_rfl) (by kernel_rfl) (zzz (ids := []) (by kernel_rfl) (trivial)) (by kernel_rfl)) (fun x r h => (Fsl6Put_eq N x).trans h)
def dinsStateOk : Desc := { n := 1, regs := [.one (.val tyq10)], bx := [], pins := [] }
def outsStateOk : Outs := [(.ret, { n := 1, regs := [.one (.val .bool)], bx := [], pins := [] })]
def HsStateOk : Hints := [(0, [(0, { fz := true })]),
 (1, [(7, { con := 1 })]),
 (5, [(1, { con := 2 })]),
 (11, [(6, { con := 3 })]),
 (14, [(11, { con := 4 }), (24, { con := 4 })]),
 (16, [(0, { nl := [(0, (.int .i64))] })]),
 (26, [(13, { con := 3 })]),
 (28, [(7, { con := 5 }), (8, { con := 6, sg := [(0, 1204800)] })]),
 (34, [(6, { con := 3 })]),
 (35, [(23, { con := 4 })]),
 (37, [(6, { con := 6, sg := [(0, 1204800)] })]),
 (41, [(6, { con := 3 })]),
 (45, [(13, { con := 3 })]),
 (47, [(7, { con := 5 }), (8, { con := 6, sg := [(0, 1204800)] })])]
def EsStateOk (N : Nat) : Env := { te := TE, cs := [consWordsOk N, consTableOk N, consl6Things N, consl6Find N, consRegionOf N, consl6Now N, consl6Put N] }
def dsStateOk_0 : Desc := { n := 303, regs := [u, .one (.fpt tyq10), u, .one (.val (.sl tyq11)), u, .one (.val (.int .i64))], bx := [], pins := [] }
def osStateOk_0 : Outs := [(.exit 0, { n := 303, regs := [u, .one (.fpt tyq10), u, .one (.val (.sl tyq11))], bx := [], pins := [] }), (.ret, { n := 303, regs := [u, u, .one (.val .bool)], bx := [], pins := [] })]
def dsStateOk_4 : Desc := { n := 303, regs := [u, .one (.fpt tyq10), u, .one (.val (.sl tyq11)), u, u, u, .one (.lit (.row 1204800)), .one (.val (.int .i64)), .one (.lit (.ptr 1256320 0)), .one (.val (.int .i64))], bx := [(1204800, .row (.int .i64)), (1256320, .var [.val (.sl (.int .i64)), .val (.int .i64), .val .bool, .val (.int .i64)])], pins := [] }
def osStateOk_4 : Outs := [(.exit 4, { n := 303, regs := [u, .one (.fpt tyq10), u, .one (.val (.sl tyq11)), u, u, u, .one (.lit (.row 1204800)), .one (.val (.int .i64))], bx := [(1204800, .row (.int .i64))], pins := [] }), (.ret, { n := 303, regs := [u, u, .one (.val .bool)], bx := [], pins := [] })]
def dsStateOk_2 : Desc := { n := 303, regs := [u, .one (.fpt tyq10), u, .one (.val (.sl tyq11)), u, u, u, .one (.lit (.row 1204800)), .one (.val (.int .i64))], bx := [(1204800, .row (.int .i64))], pins := [] }
def osStateOk_2 : Outs := [(.exit 2, { n := 303, regs := [u, .one (.fpt tyq10), u, .one (.val (.sl tyq11)), u, u, u, .one (.lit (.row 1204800))], bx := [(1204800, .row (.int .i64))], pins := [] }), (.ret, { n := 303, regs := [u, u, .one (.val .bool)], bx := [], pins := [] })]
def dsStateOk_6 : Desc := { n := 303, regs := [u, .one (.fpt tyq10), u, .one (.val (.sl tyq11)), u, u, u, .one (.lit (.row 1204800)), u, u, u, .one (.val (.int .i64))], bx := [(1204800, .row (.int .i64))], pins := [] }
def osStateOk_6 : Outs := [(.exit 6, { n := 303, regs := [u, u, u, .one (.val (.sl tyq11)), u, u, u, .one (.lit (.row 1204800))], bx := [(1204800, .row (.int .i64))], pins := [] }), (.ret, { n := 303, regs := [u, u, .one (.val .bool)], bx := [], pins := [] })]
def dsStateOk_10 : Desc := { n := 303, regs := [u, u, u, .one (.val (.sl tyq11)), u, u, u, .one (.lit (.row 1204800)), u, u, u, u, u, .one (.val (.int .i64)), .one (.lit (.ptr 1525376 0)), .one (.val (.int .i64))], bx := [(1204800, .row (.int .i64)), (1525376, .var [.val (.int .i64), .val (.int .i64), .val (.int .i64), .val (.int .i64), .val (.sl (.int .i64)), .val (.sl (.int .i64))])], pins := [] }
def osStateOk_10 : Outs := [(.exit 10, { n := 303, regs := [u, u, u, .one (.val (.sl tyq11)), u, u, u, .one (.lit (.row 1204800)), u, u, u, u, u, .one (.val (.int .i64))], bx := [(1204800, .row (.int .i64))], pins := [] }), (.ret, { n := 303, regs := [u, u, .one (.val .bool)], bx := [], pins := [] })]
def dsStateOk_8 : Desc := { n := 303, regs := [u, u, u, .one (.val (.sl tyq11)), u, u, u, .one (.lit (.row 1204800)), u, u, u, u, u, .one (.val (.int .i64))], bx := [(1204800, .row (.int .i64))], pins := [] }
def osStateOk_8 : Outs := [(.exit 8, { n := 303, regs := [], bx := [], pins := [] }), (.ret, { n := 303, regs := [u, u, .one (.val .bool)], bx := [], pins := [] })]
def jsStateOk_3 : Outs := [(.normal, { n := 303, regs := [u, .one (.fpt tyq10)], bx := [], pins := [] }), (.ret, { n := 303, regs := [u, u, .one (.val .bool)], bx := [], pins := [] })]
def jsStateOk_5 : Outs := [(.normal, { n := 303, regs := [u, .one (.fpt tyq10)], bx := [], pins := [] }), (.ret, { n := 303, regs := [u, u, .one (.val .bool)], bx := [], pins := [] })]
def jsStateOk_14 : Outs := [(.normal, { n := 303, regs := [u, .one (.fpt tyq10), u, .one (.val (.sl tyq11)), u, .one (.val (.int .i64)), .one (.val (.int .i64))], bx := [], pins := [] }), (.ret, { n := 303, regs := [u, u, .one (.val .bool)], bx := [], pins := [] })]
def jsStateOk_23 : Outs := [(.normal, { n := 303, regs := [u, .one (.fpt tyq10), u, .one (.val (.sl tyq11)), u, u, u, .one (.lit (.row 1204800)), .one (.val (.int .i64)), .one (.lit (.ptr 1256320 0))], bx := [(1204800, .row (.int .i64)), (1256320, .var [.val (.sl (.int .i64)), .val (.int .i64), .val .bool, .val (.int .i64)])], pins := [] }), (.ret, { n := 303, regs := [u, u, .one (.val .bool)], bx := [], pins := [] })]
def jsStateOk_28 : Outs := [(.normal, { n := 303, regs := [u, .one (.fpt tyq10), u, .one (.val (.sl tyq11)), u, u, u, .one (.lit (.row 1204800)), .one (.val (.int .i64)), .one (.lit (.ptr 1256320 0)), .one (.val (.int .i64))], bx := [(1204800, .row (.int .i64)), (1256320, .var [.val (.sl (.int .i64)), .val (.int .i64), .val .bool, .val (.int .i64)])], pins := [] }), (.ret, { n := 303, regs := [u, u, .one (.val .bool)], bx := [], pins := [] })]
def jsStateOk_37 : Outs := [(.normal, { n := 303, regs := [u, .one (.fpt tyq10), u, .one (.val (.sl tyq11)), u, u, u, .one (.lit (.row 1204800)), u, u, u, .one (.val (.int .i64))], bx := [(1204800, .row (.int .i64))], pins := [] }), (.ret, { n := 303, regs := [u, u, .one (.val .bool)], bx := [], pins := [] })]
def jsStateOk_47 : Outs := [(.normal, { n := 303, regs := [u, u, u, .one (.val (.sl tyq11)), u, u, u, .one (.lit (.row 1204800)), u, u, u, u, u, .one (.val (.int .i64)), .one (.lit (.ptr 1525376 0)), .one (.val (.int .i64))], bx := [(1204800, .row (.int .i64)), (1525376, .var [.val (.int .i64), .val (.int .i64), .val (.int .i64), .val (.int .i64), .val (.sl (.int .i64)), .val (.sl (.int .i64))])], pins := [] }), (.ret, { n := 303, regs := [u, u, .one (.val .bool)], bx := [], pins := [] })]
def zwm (N : Nat) : Nat → (tyq1 × ((List tyq2) × (Int × Unit))) → Option ((tyq1 × ((List tyq2) × Unit)) ⊕ (Bool × Unit))
 | 0, _ => none
 | n + 1, v =>
  let y12 := decide (v.2.2.1 < (v.2.1.length : Int))
  bif y12 then
   bif decide (0 ≤ v.2.2.1) then
   bif decide (v.2.2.1.toNat < v.2.1.length) then
   let y13 := v.2.1.getD v.2.2.1.toNat ((0 : Int), (0 : Int), ((0 : Int), (0 : Int), ()), ([] : (List Int)), ([] : (List Int)), ())
   (ztk N (v.2.1, y13.2.1, ())).bind fun r14 =>
   Option.bind (
    bif decide (r14.1 < (0 : Int)) then
     some (.inr ((false, ())))
    else
    bif decide (0 ≤ r14.1) then
    bif decide (r14.1.toNat < v.2.1.length) then
    let y15 := v.2.1.getD r14.1.toNat ((0 : Int), (0 : Int), ((0 : Int), (0 : Int), ()), ([] : (List Int)), ([] : (List Int)), ())
    bif decide (0 ≤ r14.1) then
    bif decide (r14.1.toNat < v.2.1.length) then
    let y16 := v.2.1.getD r14.1.toNat ((0 : Int), (0 : Int), ((0 : Int), (0 : Int), ()), ([] : (List Int)), ([] : (List Int)), ())
    bif y15.2.1 != y16.1 then
     some (.inr ((false, ())))
    else
    bif decide (0 ≤ r14.1) then
    bif decide (r14.1.toNat < v.2.1.length) then
    let y17 := v.2.1.getD r14.1.toNat ((0 : Int), (0 : Int), ((0 : Int), (0 : Int), ()), ([] : (List Int)), ([] : (List Int)), ())
    bif decide (0 ≤ v.2.2.1) then
    bif decide (v.2.2.1.toNat < v.2.1.length) then
    let y18 := v.2.1.getD v.2.2.1.toNat ((0 : Int), (0 : Int), ((0 : Int), (0 : Int), ()), ([] : (List Int)), ([] : (List Int)), ())
    let y19 := !((y17.2.2.1.1 == y18.2.2.1.1) && ((y17.2.2.1.2.1 == y18.2.2.1.2.1) && (true)))
    bif y19 then
     some (.inr ((false, ())))
    else
    some (.inl (v.1, v.2.1, v.2.2.1, r14.1, ()))
    else none
    else none
    else none
    else none
    else none
    else none
    else none
    else none) fun o20 =>
   Sum.elim (fun o21 =>
    bif o21.2.2.2.1 != o21.2.2.1 then
     bif decide (0 ≤ o21.2.2.1) then
     bif decide (o21.2.2.1.toNat < o21.2.1.length) then
     let y22 := o21.2.1.getD o21.2.2.1.toNat ((0 : Int), (0 : Int), ((0 : Int), (0 : Int), ()), ([] : (List Int)), ([] : (List Int)), ())
     (ztx N (y22.1, ())).bind fun r23 =>
     bif decide (0 ≤ r23.1) then
     bif decide (r23.1.toNat < o21.1.2.1.length) then
     let y24 := o21.1.2.1.getD r23.1.toNat ((0 : Int), (0 : Int), (0 : Int), (0 : Int), (0 : Int), ())
     bif y24.1 != (4 : Int) then
      some (.inr ((false, ())))
     else
     bif decide (0 ≤ o21.2.2.2.1) then
     bif decide (o21.2.2.2.1.toNat < o21.2.1.length) then
     let y25 := o21.2.1.getD o21.2.2.2.1.toNat ((0 : Int), (0 : Int), ((0 : Int), (0 : Int), ()), ([] : (List Int)), ([] : (List Int)), ())
     (ztx N (y25.1, ())).bind fun r26 =>
     bif decide (0 ≤ r26.1) then
     bif decide (r26.1.toNat < o21.1.2.1.length) then
     let y27 := o21.1.2.1.getD r26.1.toNat ((0 : Int), (0 : Int), (0 : Int), (0 : Int), (0 : Int), ())
     bif y27.1 == (4 : Int) then
      some (.inr ((false, ())))
     else
     zwm N n (o21.1, o21.2.1, w64 (o21.2.2.1 + (1 : Int)), ())
     else none
     else none
     else none
     else none
     else none
     else none
     else none
     else none
    else
    zwm N n (o21.1, o21.2.1, w64 (o21.2.2.1 + (1 : Int)), ())) (fun o28 =>
    some (.inr ((o28.1, ())))) o20
   else none
   else none
  else
  some (.inl (v.1, v.2.1, ()))
def zwb (N : Nat) : Nat → (tyq1 × ((List tyq2) × (Int × (Int × ((List Int) × tyq4))))) → Option ((tyq1 × ((List tyq2) × (Int × ((List Int) × Unit)))) ⊕ (Bool × Unit))
 | 0, _ => none
 | n + 1, v =>
  let y36 := decide (v.2.2.2.1 < (v.2.2.2.2.2.1.length : Int))
  bif y36 then
   Option.bind (
    bif decide (0 ≤ v.2.2.2.1) then
    bif decide (v.2.2.2.1.toNat < v.2.2.2.2.2.1.length) then
    let y37 := v.2.2.2.2.2.1.getD v.2.2.2.1.toNat (0 : Int)
    bif y37 != (0 : Int) then
     bif decide (0 ≤ v.2.2.2.1) then
     bif decide (v.2.2.2.1.toNat < v.2.2.2.2.2.1.length) then
     let y38 := v.2.2.2.2.2.1.getD v.2.2.2.1.toNat (0 : Int)
     (ztk N (v.2.1, y38, ())).bind fun r39 =>
     bif decide (r39.1 < (0 : Int)) then
      some (.inr ((false, ())))
     else
     some (.inl (v.1, v.2.1, v.2.2.1, v.2.2.2.1, v.2.2.2.2.1, v.2.2.2.2.2.1, v.2.2.2.2.2.2.1, v.2.2.2.2.2.2.2.1, v.2.2.2.2.2.2.2.2.1, ()))
     else none
     else none
    else
    some (.inl (v.1, v.2.1, v.2.2.1, v.2.2.2.1, v.2.2.2.2.1, v.2.2.2.2.2.1, v.2.2.2.2.2.2.1, v.2.2.2.2.2.2.2.1, v.2.2.2.2.2.2.2.2.1, ()))
    else none
    else none) fun o40 =>
   Sum.elim (fun o41 =>
    bif decide (0 ≤ o41.2.2.2.1) then
    bif decide (o41.2.2.2.1.toNat < o41.2.2.2.2.2.1.length) then
    let y42 := o41.2.2.2.2.2.1.getD o41.2.2.2.1.toNat (0 : Int)
    (zqm N (o41.2.1, y42, ())).bind fun r43 =>
    (Fsl6Put N (r43.1, o41.2.2.2.2.1, ())).bind fun r44 =>
    zwb N n (o41.1, o41.2.1, o41.2.2.1, w64 (o41.2.2.2.1 + (1 : Int)), r44.1, o41.2.2.2.2.2.1, o41.2.2.2.2.2.2.1, o41.2.2.2.2.2.2.2.1, o41.2.2.2.2.2.2.2.2.1, ())
    else none
    else none) (fun o45 =>
    some (.inr ((o45.1, ())))) o40
  else
  some (.inl (v.1, v.2.1, v.2.2.1, v.2.2.2.2.1, ()))
def zuz (N : Nat) : Nat → (tyq1 × ((List tyq2) × (Int × ((List Int) × Unit)))) → Option ((tyq1 × ((List tyq2) × ((List Int) × Unit))) ⊕ (Bool × Unit))
 | 0, _ => none
 | n + 1, v =>
  let y31 := decide (v.2.2.1 < (v.1.2.2.2.2.2.2.2.2.1.length : Int))
  bif y31 then
   bif decide (0 ≤ v.2.2.1) then
   bif decide (v.2.2.1.toNat < v.1.2.2.2.2.2.2.2.2.1.length) then
   let y32 := v.1.2.2.2.2.2.2.2.2.1.getD v.2.2.1.toNat (([] : (List Int)), (0 : Int), false, (0 : Int), ())
   Option.bind (
    let y33 := decide ((y32.1.length : Int) > (8 : Int))
    bif y33 then
     some (.inr ((false, ())))
    else
    bif decide (y32.2.2.2.1 < (0 : Int)) then
     some (.inr ((false, ())))
    else
    bif decide (y32.2.2.2.1 > (2 : Int)) then
     some (.inr ((false, ())))
    else
    some (.inl (v.1, v.2.1, v.2.2.1, v.2.2.2.1, y32.1, y32.2.1, y32.2.2.1, y32.2.2.2.1, ()))) fun o34 =>
   Sum.elim (fun o35 =>
    (zwb N N (o35.1, o35.2.1, o35.2.2.1, (0 : Int), o35.2.2.2.1, o35.2.2.2.2.1, o35.2.2.2.2.2.1, o35.2.2.2.2.2.2.1, o35.2.2.2.2.2.2.2.1, ())).bind fun o46 =>
    Sum.elim (fun o47 =>
     zuz N n (o47.1, o47.2.1, w64 (o47.2.2.1 + (1 : Int)), o47.2.2.2.1, ())) (fun o48 =>
     some (.inr ((o48.1, ())))) o46) (fun o49 =>
    some (.inr ((o49.1, ())))) o34
   else none
   else none
  else
  some (.inl (v.1, v.2.1, v.2.2.2.1, ()))
def zv9 (N : Nat) : Nat → (tyq1 × ((List tyq2) × (Int × ((List Int) × Unit)))) → Option (((List tyq2) × ((List Int) × Unit)) ⊕ (Bool × Unit))
 | 0, _ => none
 | n + 1, v =>
  let y53 := (v.1.2.2.2.2.2.2.2.2.2.2.1.length : Int)
  bif decide (v.2.2.1 < y53) then
   bif decide (0 ≤ v.2.2.1) then
   bif decide (v.2.2.1.toNat < v.1.2.2.2.2.2.2.2.2.2.2.1.length) then
   let y54 := v.1.2.2.2.2.2.2.2.2.2.2.1.getD v.2.2.1.toNat (0 : Int)
   (ztk N (v.2.1, y54, ())).bind fun r55 =>
   Option.bind (
    bif decide (r55.1 < (0 : Int)) then
     some (.inr ((false, ())))
    else
    bif decide (0 ≤ r55.1) then
    bif decide (r55.1.toNat < v.2.1.length) then
    let y56 := v.2.1.getD r55.1.toNat ((0 : Int), (0 : Int), ((0 : Int), (0 : Int), ()), ([] : (List Int)), ([] : (List Int)), ())
    bif decide (0 ≤ r55.1) then
    bif decide (r55.1.toNat < v.2.1.length) then
    let y57 := v.2.1.getD r55.1.toNat ((0 : Int), (0 : Int), ((0 : Int), (0 : Int), ()), ([] : (List Int)), ([] : (List Int)), ())
    bif y56.2.1 != y57.1 then
     some (.inr ((false, ())))
    else
    bif decide (0 ≤ r55.1) then
    bif decide (r55.1.toNat < v.2.1.length) then
    let y58 := v.2.1.getD r55.1.toNat ((0 : Int), (0 : Int), ((0 : Int), (0 : Int), ()), ([] : (List Int)), ([] : (List Int)), ())
    (ztx N (y58.1, ())).bind fun r59 =>
    bif decide (0 ≤ r59.1) then
    bif decide (r59.1.toNat < v.1.2.1.length) then
    let y60 := v.1.2.1.getD r59.1.toNat ((0 : Int), (0 : Int), (0 : Int), (0 : Int), (0 : Int), ())
    bif y60.1 == (4 : Int) then
     some (.inr ((false, ())))
    else
    some (.inl (v.1, v.2.1, v.2.2.1, v.2.2.2.1, ()))
    else none
    else none
    else none
    else none
    else none
    else none
    else none
    else none) fun o61 =>
   Sum.elim (fun o62 =>
    bif decide (0 ≤ o62.2.2.1) then
    bif decide (o62.2.2.1.toNat < o62.1.2.2.2.2.2.2.2.2.2.2.1.length) then
    let y63 := o62.1.2.2.2.2.2.2.2.2.2.2.1.getD o62.2.2.1.toNat (0 : Int)
    (Fsl6Put N (y63, o62.2.2.2.1, ())).bind fun r64 =>
    zv9 N n (o62.1, o62.2.1, w64 (o62.2.2.1 + (1 : Int)), r64.1, ())
    else none
    else none) (fun o65 =>
    some (.inr ((o65.1, ())))) o61
   else none
   else none
  else
  some (.inl (v.2.1, v.2.2.2.1, ()))
def zx2 (N : Nat) : Nat → ((List tyq2) × (Int × (Int × ((List Int) × tyq8)))) → Option (((List tyq2) × (Int × ((List Int) × Unit))) ⊕ (Bool × Unit))
 | 0, _ => none
 | n + 1, v =>
  let y71 := decide (v.2.2.1 < (v.2.2.2.2.2.2.2.2.1.length : Int))
  bif y71 then
   Option.bind (
    bif decide (0 ≤ v.2.2.1) then
    bif decide (v.2.2.1.toNat < v.2.2.2.2.2.2.2.2.1.length) then
    let y72 := v.2.2.2.2.2.2.2.2.1.getD v.2.2.1.toNat (0 : Int)
    bif y72 != (0 : Int) then
     bif decide (0 ≤ v.2.2.1) then
     bif decide (v.2.2.1.toNat < v.2.2.2.2.2.2.2.2.1.length) then
     let y73 := v.2.2.2.2.2.2.2.2.1.getD v.2.2.1.toNat (0 : Int)
     (ztk N (v.1, y73, ())).bind fun r74 =>
     bif decide (r74.1 < (0 : Int)) then
      some (.inr ((false, ())))
     else
     some (.inl (v.1, v.2.1, v.2.2.1, v.2.2.2.1, v.2.2.2.2.1, v.2.2.2.2.2.1, v.2.2.2.2.2.2.1, v.2.2.2.2.2.2.2.1, v.2.2.2.2.2.2.2.2.1, v.2.2.2.2.2.2.2.2.2.1, ()))
     else none
     else none
    else
    some (.inl (v.1, v.2.1, v.2.2.1, v.2.2.2.1, v.2.2.2.2.1, v.2.2.2.2.2.1, v.2.2.2.2.2.2.1, v.2.2.2.2.2.2.2.1, v.2.2.2.2.2.2.2.2.1, v.2.2.2.2.2.2.2.2.2.1, ()))
    else none
    else none) fun o75 =>
   Sum.elim (fun o76 =>
    bif decide (0 ≤ o76.2.2.1) then
    bif decide (o76.2.2.1.toNat < o76.2.2.2.2.2.2.2.2.1.length) then
    let y77 := o76.2.2.2.2.2.2.2.2.1.getD o76.2.2.1.toNat (0 : Int)
    (zqm N (o76.1, y77, ())).bind fun r78 =>
    (Fsl6Put N (r78.1, o76.2.2.2.1, ())).bind fun r79 =>
    zx2 N n (o76.1, o76.2.1, w64 (o76.2.2.1 + (1 : Int)), r79.1, o76.2.2.2.2.1, o76.2.2.2.2.2.1, o76.2.2.2.2.2.2.1, o76.2.2.2.2.2.2.2.1, o76.2.2.2.2.2.2.2.2.1, o76.2.2.2.2.2.2.2.2.2.1, ())
    else none
    else none) (fun o80 =>
    some (.inr ((o80.1, ())))) o75
  else
  some (.inl (v.1, v.2.1, v.2.2.2.1, ()))
def zv8 (N : Nat) : Nat → ((List tyq2) × (Int × ((List Int) × Unit))) → Option (Unit ⊕ (Bool × Unit))
 | 0, _ => none
 | n + 1, v =>
  let y68 := decide (v.2.1 < (v.2.2.1.length : Int))
  bif y68 then
   bif decide (0 ≤ v.2.1) then
   bif decide (v.2.1.toNat < v.2.2.1.length) then
   (ztk N (v.1, v.2.2.1.getD v.2.1.toNat (0 : Int), ())).bind fun r69 =>
   bif decide (0 ≤ r69.1) then
   bif decide (r69.1.toNat < v.1.length) then
   let y70 := v.1.getD r69.1.toNat ((0 : Int), (0 : Int), ((0 : Int), (0 : Int), ()), ([] : (List Int)), ([] : (List Int)), ())
   (zx2 N N (v.1, v.2.1, (0 : Int), v.2.2.1, y70.1, y70.2.1, y70.2.2.1.1, y70.2.2.1.2.1, y70.2.2.2.1, y70.2.2.2.2.1, ())).bind fun o81 =>
   Sum.elim (fun o82 =>
    zv8 N n (o82.1, w64 (o82.2.1 + (1 : Int)), o82.2.2.1, ())) (fun o83 =>
    some (.inr ((o83.1, ())))) o81
   else none
   else none
   else none
   else none
  else
  some (.inl ())
def FsStateOk (N : Nat) (x : (tyq1 × Unit)) : Option (Bool × Unit) :=
 Option.bind (
  (FsWordsOk N (x.1.1, ())).bind fun r1 =>
  bif !r1.1 then
   some (.inr ((false, ())))
  else
  (FsTableOk N (x.1.2.1, ())).bind fun r2 =>
  bif !r2.1 then
   some (.inr ((false, ())))
  else
  let y3 := w64 ((x.1.2.1.length : Int) * (16 : Int))
  bif y3 != (x.1.1.length : Int) then
   some (.inr ((false, ())))
  else
  let y4 := (x.1.2.2.1.length : Int) != (x.1.1.length : Int)
  bif y4 then
   some (.inr ((false, ())))
  else
  some (.inl (x.1, ()))) fun o5 =>
 Sum.elim (fun o6 =>
  Option.bind (
   bif decide (o6.1.2.2.2.1 < (0 : Int)) then
    some (.inr ((false, ())))
   else
   bif decide (o6.1.2.2.2.1 > (3 : Int)) then
    some (.inr ((false, ())))
   else
   let y7 := (o6.1.2.2.2.2.2.2.2.2.1.length : Int)
   bif decide (y7 < (1 : Int)) then
    some (.inr ((false, ())))
   else
   let y8 := (o6.1.2.2.2.2.2.2.2.2.1.length : Int)
   bif decide (y8 > (3 : Int)) then
    some (.inr ((false, ())))
   else
   some (.inl (o6.1, ()))) fun o9 =>
  Sum.elim (fun o10 =>
   (zoe N (o10.1, ())).bind fun r11 =>
   bif !r11.1 then
    some (false, ())
   else
   (zwm N N (o10.1, r11.2.1, (0 : Int), ())).bind fun o29 =>
   Sum.elim (fun o30 =>
    (zuz N N (o30.1, o30.2.1, (0 : Int), ([] : (List Int)), ())).bind fun o50 =>
    Sum.elim (fun o51 =>
     let y52 := (o51.1.2.2.2.2.2.2.2.2.2.2.1.length : Int)
     bif decide (y52 > (8 : Int)) then
      some (false, ())
     else
     (zv9 N N (o51.1, o51.2.1, (0 : Int), o51.2.2.1, ())).bind fun o66 =>
     Sum.elim (fun o67 =>
      (zv8 N N (o67.1, (0 : Int), o67.2.1, ())).bind fun o84 =>
      Sum.elim (fun o85 =>
       some (true, ())) (fun o86 =>
       some (o86.1, ())) o84) (fun o87 =>
      some (o87.1, ())) o66) (fun o88 =>
     some (o88.1, ())) o50) (fun o89 =>
    some (o89.1, ())) o29) (fun o90 =>
   some (o90.1, ())) o9) (fun o91 =>
  some (o91.1, ())) o5
def consStateOk (N : Nat) : Con := { f := 49, din := dinsStateOk, outs := outsStateOk, F := FsStateOk N }
def XsStateOk (N : Nat) : Ctx := { E := EsStateOk N, H := HsStateOk, lp := [(0, { hd := dsStateOk_0, outs := osStateOk_0, run := fun v => zwm N N v }), (4, { hd := dsStateOk_4, outs := osStateOk_4, run := fun v => zwb N N v }), (2, { hd := dsStateOk_2, outs := osStateOk_2, run := fun v => zuz N N v }), (6, { hd := dsStateOk_6, outs := osStateOk_6, run := fun v => zv9 N N v }), (10, { hd := dsStateOk_10, outs := osStateOk_10, run := fun v => zx2 N N v }), (8, { hd := dsStateOk_8, outs := osStateOk_8, run := fun v => zv8 N N v })], jn := [(3, jsStateOk_3), (5, jsStateOk_5), (14, jsStateOk_14), (23, jsStateOk_23), (28, jsStateOk_28), (37, jsStateOk_37), (47, jsStateOk_47)] }
def bsStateOk_8 : Code := zzv (zzy Tryz.f49) 3
def bsStateOk_10 : Code := zzv bsStateOk_8 0
def bsStateOk_6 : Code := zzv (zzy Tryz.f49) 2
def bsStateOk_2 : Code := zzv (zzy Tryz.f49) 1
def bsStateOk_4 : Code := zzv bsStateOk_2 0
def bsStateOk_0 : Code := zzv (zzy Tryz.f49) 0
theorem FsStateOk_eq (N : Nat) (x : (tyq1 × Unit)) : evFn (XsStateOk N) Tryz.f49 dinsStateOk outsStateOk x = FsStateOk N x := by kernel_rfl
theorem lsStateOk_0_eq (N n : Nat) (v : (tyq1 × ((List tyq2) × (Int × Unit)))) : zwm N (n + 1) v = ev (XsStateOk N) bsStateOk_0 (zzd dsStateOk_0 osStateOk_0 (zwm N n)) (dsStateOk_0.mk' v) := by kernel_rfl
theorem lsStateOk_4_eq (N n : Nat) (v : (tyq1 × ((List tyq2) × (Int × (Int × ((List Int) × tyq4)))))) : zwb N (n + 1) v = ev (XsStateOk N) bsStateOk_4 (zzd dsStateOk_4 osStateOk_4 (zwb N n)) (dsStateOk_4.mk' v) := by kernel_rfl
theorem lsStateOk_2_eq (N n : Nat) (v : (tyq1 × ((List tyq2) × (Int × ((List Int) × Unit))))) : zuz N (n + 1) v = ev (XsStateOk N) bsStateOk_2 (zzd dsStateOk_2 osStateOk_2 (zuz N n)) (dsStateOk_2.mk' v) := by kernel_rfl
theorem lsStateOk_6_eq (N n : Nat) (v : (tyq1 × ((List tyq2) × (Int × ((List Int) × Unit))))) : zv9 N (n + 1) v = ev (XsStateOk N) bsStateOk_6 (zzd dsStateOk_6 osStateOk_6 (zv9 N n)) (dsStateOk_6.mk' v) := by kernel_rfl
theorem lsStateOk_10_eq (N n : Nat) (v : ((List tyq2) × (Int × (Int × ((List Int) × tyq8))))) : zx2 N (n + 1) v = ev (XsStateOk N) bsStateOk_10 (zzd dsStateOk_10 osStateOk_10 (zx2 N n)) (dsStateOk_10.mk' v) := by kernel_rfl
theorem lsStateOk_8_eq (N n : Nat) (v : ((List tyq2) × (Int × ((List Int) × Unit)))) : zv8 N (n + 1) v = ev (XsStateOk N) bsStateOk_8 (zzd dsStateOk_8 osStateOk_8 (zv8 N n)) (dsStateOk_8.mk' v) := by kernel_rfl
theorem zoh (N : Nat) : CtxOk Tryz.prog (XsStateOk N) := ⟨⟨TE_ok, List.forall_mem_cons.2 ⟨(specsWordsOk N), List.forall_mem_cons.2 ⟨(specsTableOk N), List.forall_mem_cons.2 ⟨(specsl6Things N), List.forall_mem_cons.2 ⟨(specsl6Find N), List.forall_mem_cons.2 ⟨(specsRegionOf N), List.forall_mem_cons.2 ⟨(specsl6Now N), List.forall_mem_cons.2 ⟨(specsl6Put N), fun k hk => absurd hk List.not_mem_nil⟩⟩⟩⟩⟩⟩⟩⟩, mixed⟩
theorem lpsStateOk_0 (N : Nat) : zzl Tryz.prog { hd := dsStateOk_0, outs := osStateOk_0, run := fun v => zwm N N v } bsStateOk_0 :=
 zzx (d := dsStateOk_0) (os := osStateOk_0) (zoh N) (zzz (ids := []) (by kernel_rfl) (trivial)) (zwm N) (fun _ => rfl) (fun n v => lsStateOk_0_eq N n v) (fun _ => N)
theorem lpsStateOk_4 (N : Nat) : zzl Tryz.prog { hd := dsStateOk_4, outs := osStateOk_4, run := fun v => zwb N N v } bsStateOk_4 :=
 zzx (d := dsStateOk_4) (os := osStateOk_4) (zoh N) (zzz (ids := []) (by kernel_rfl) (trivial)) (zwb N) (fun _ => rfl) (fun n v => lsStateOk_4_eq N n v) (fun _ => N)
theorem lpsStateOk_2 (N : Nat) : zzl Tryz.prog { hd := dsStateOk_2, outs := osStateOk_2, run := fun v => zuz N N v } bsStateOk_2 :=
 zzx (d := dsStateOk_2) (os := osStateOk_2) (zoh N) (zzz (ids := [4]) (by kernel_rfl) ⟨lp_of (lpsStateOk_4 N), trivial⟩) (zuz N) (fun _ => rfl) (fun n v => lsStateOk_2_eq N n v) (fun _ => N)
theorem lpsStateOk_6 (N : Nat) : zzl Tryz.prog { hd := dsStateOk_6, outs := osStateOk_6, run := fun v => zv9 N N v } bsStateOk_6 :=
 zzx (d := dsStateOk_6) (os := osStateOk_6) (zoh N) (zzz (ids := []) (by kernel_rfl) (trivial)) (zv9 N) (fun _ => rfl) (fun n v => lsStateOk_6_eq N n v) (fun _ => N)
theorem lpsStateOk_10 (N : Nat) : zzl Tryz.prog { hd := dsStateOk_10, outs := osStateOk_10, run := fun v => zx2 N N v } bsStateOk_10 :=
 zzx (d := dsStateOk_10) (os := osStateOk_10) (zoh N) (zzz (ids := []) (by kernel_rfl) (trivial)) (zx2 N) (fun _ => rfl) (fun n v => lsStateOk_10_eq N n v) (fun _ => N)
theorem lpsStateOk_8 (N : Nat) : zzl Tryz.prog { hd := dsStateOk_8, outs := osStateOk_8, run := fun v => zv8 N N v } bsStateOk_8 :=
 zzx (d := dsStateOk_8) (os := osStateOk_8) (zoh N) (zzz (ids := [10]) (by kernel_rfl) ⟨lp_of (lpsStateOk_10 N), trivial⟩) (zv8 N) (fun _ => rfl) (fun n v => lsStateOk_8_eq N n v) (fun _ => N)
theorem specsStateOk (N : Nat) : Spec Tryz.prog (consStateOk N) :=
 Spec.of_eq (zzu (zoh N) (f := 49) (fn := Tryz.f49) (c := zzy Tryz.f49) (by kernel_rfl) (by kernel_rfl) (by kernel_rfl) (zzz (ids := [0, 2, 6, 8]) (by kernel_rfl) ⟨lp_of (lpsStateOk_0 N), ⟨lp_of (lpsStateOk_2 N), ⟨lp_of (lpsStateOk_6 N), ⟨lp_of (lpsStateOk_8 N), trivial⟩⟩⟩⟩) (by kernel_rfl)) (fun x r h => (FsStateOk_eq N x).trans h)
def dinsl7Reached : Desc := { n := 2, regs := [.one (.val tyq10), .one (.val (.sl tyq11))], bx := [], pins := [] }
def outsl7Reached : Outs := [(.ret, { n := 1, regs := [.one (.lit (.row 1012800))], bx := [(1012800, .row (.int .i64))], pins := [] })]
def Hsl7Reached : Hints := [(0, [(0, { fz := true })]),
 (1, [(0, { nl := [(0, (.int .i64))] })]),
 (9, [(5, { con := 1 })]),
 (14, [(6, { con := 2, sg := [(0, 1012800)] })]),
 (18, [(6, { con := 3 })]),
 (23, [(5, { con := 1 })])]
def Esl7Reached (N : Nat) : Env := { te := TE, cs := [consl6Now N, consl5Place N, consl6Put N, consl6Find N] }
def zpc : Desc := { n := 111, regs := [u, .one (.val (.sl tyq11)), .one (.fpt tyq10), u, u, .one (.lit (.row 1012800)), .one (.val (.int .i64)), .one (.val (.int .i64))], bx := [(1012800, .row (.int .i64))], pins := [] }
def osl7Reached_2 : Outs := [(.exit 2, { n := 111, regs := [u, .one (.val (.sl tyq11)), .one (.fpt tyq10), u, u, .one (.lit (.row 1012800)), .one (.val (.int .i64))], bx := [(1012800, .row (.int .i64))], pins := [] })]
def zpb : Desc := { n := 111, regs := [u, .one (.val (.sl tyq11)), .one (.fpt tyq10), u, u, .one (.lit (.row 1012800)), .one (.val (.int .i64))], bx := [(1012800, .row (.int .i64))], pins := [] }
def osl7Reached_0 : Outs := [(.exit 0, { n := 111, regs := [u, .one (.val (.sl tyq11)), .one (.fpt tyq10), u, u, .one (.lit (.row 1012800))], bx := [(1012800, .row (.int .i64))], pins := [] })]
def zpd : Desc := { n := 111, regs := [u, .one (.val (.sl tyq11)), .one (.fpt tyq10), u, u, .one (.lit (.row 1012800)), u, u, u, .one (.val (.int .i64))], bx := [(1012800, .row (.int .i64))], pins := [] }
def osl7Reached_4 : Outs := [(.exit 4, { n := 111, regs := [u, .one (.val (.sl tyq11)), u, u, u, .one (.lit (.row 1012800))], bx := [(1012800, .row (.int .i64))], pins := [] })]
def zpf : Desc := { n := 111, regs := [u, .one (.val (.sl tyq11)), u, u, u, .one (.lit (.row 1012800)), u, u, u, u, .one (.val (.int .i64)), .one (.lit (.ptr 1230976 0)), .one (.val (.int .i64))], bx := [(1012800, .row (.int .i64)), (1230976, .var [.val (.int .i64), .val (.int .i64), .val (.int .i64), .val (.int .i64), .val (.sl (.int .i64)), .val (.sl (.int .i64))])], pins := [] }
def osl7Reached_8 : Outs := [(.exit 8, { n := 111, regs := [u, .one (.val (.sl tyq11)), u, u, u, .one (.lit (.row 1012800)), u, u, u, u, .one (.val (.int .i64))], bx := [(1012800, .row (.int .i64))], pins := [] })]
def zpe : Desc := { n := 111, regs := [u, .one (.val (.sl tyq11)), u, u, u, .one (.lit (.row 1012800)), u, u, u, u, .one (.val (.int .i64))], bx := [(1012800, .row (.int .i64))], pins := [] }
def osl7Reached_6 : Outs := [(.exit 6, { n := 111, regs := [u, u, u, u, u, .one (.lit (.row 1012800))], bx := [(1012800, .row (.int .i64))], pins := [] })]
def zyf (N : Nat) : Nat → ((List tyq2) × (tyq1 × (Int × (Int × ((List Int) × Unit))))) → Option ((List tyq2) × (tyq1 × (Int × ((List Int) × Unit))))
 | 0, _ => none
 | n + 1, v =>
  bif decide (0 ≤ v.2.2.1) then
  bif decide (v.2.2.1.toNat < v.2.1.2.2.2.2.2.2.2.2.1.length) then
  let y2 := v.2.1.2.2.2.2.2.2.2.2.1.getD v.2.2.1.toNat (([] : (List Int)), (0 : Int), false, (0 : Int), ())
  let y3 := decide (v.2.2.2.1 < (y2.1.length : Int))
  bif y3 then
   bif decide (0 ≤ v.2.2.1) then
   bif decide (v.2.2.1.toNat < v.2.1.2.2.2.2.2.2.2.2.1.length) then
   let y4 := v.2.1.2.2.2.2.2.2.2.2.1.getD v.2.2.1.toNat (([] : (List Int)), (0 : Int), false, (0 : Int), ())
   bif decide (0 ≤ v.2.2.2.1) then
   bif decide (v.2.2.2.1.toNat < y4.1.length) then
   (zqm N (v.1, y4.1.getD v.2.2.2.1.toNat (0 : Int), ())).bind fun r5 =>
   bif r5.1 != (0 : Int) then
    (zty N (v.2.2.2.2.1, r5.1, ())).bind fun r6 =>
    bif decide (r6.1 < (0 : Int)) then
     bif decide (v.2.2.2.2.1.length + [r5.1].length ≤ lim) then
     zyf N n (v.1, v.2.1, v.2.2.1, w64 (v.2.2.2.1 + (1 : Int)), v.2.2.2.2.1 ++ [r5.1], ())
     else none
    else
    zyf N n (v.1, v.2.1, v.2.2.1, w64 (v.2.2.2.1 + (1 : Int)), v.2.2.2.2.1, ())
   else
   zyf N n (v.1, v.2.1, v.2.2.1, w64 (v.2.2.2.1 + (1 : Int)), v.2.2.2.2.1, ())
   else none
   else none
   else none
   else none
  else
  some (v.1, v.2.1, v.2.2.1, v.2.2.2.2.1, ())
  else none
  else none
def zvz (N : Nat) : Nat → ((List tyq2) × (tyq1 × (Int × ((List Int) × Unit)))) → Option ((List tyq2) × (tyq1 × ((List Int) × Unit)))
 | 0, _ => none
 | n + 1, v =>
  let y1 := (v.2.1.2.2.2.2.2.2.2.2.1.length : Int)
  bif decide (v.2.2.1 < y1) then
   (zyf N N (v.1, v.2.1, v.2.2.1, (0 : Int), v.2.2.2.1, ())).bind fun o7 =>
   zvz N n (o7.1, o7.2.1, w64 (o7.2.2.1 + (1 : Int)), o7.2.2.2.1, ())
  else
  some (v.1, v.2.1, v.2.2.2.1, ())
def zw9 (N : Nat) : Nat → ((List tyq2) × (tyq1 × (Int × ((List Int) × Unit)))) → Option ((List tyq2) × ((List Int) × Unit))
 | 0, _ => none
 | n + 1, v =>
  let y9 := (v.2.1.2.2.2.2.2.2.2.2.2.2.1.length : Int)
  bif decide (v.2.2.1 < y9) then
   bif decide (0 ≤ v.2.2.1) then
   bif decide (v.2.2.1.toNat < v.2.1.2.2.2.2.2.2.2.2.2.2.1.length) then
   let y10 := v.2.1.2.2.2.2.2.2.2.2.2.2.1.getD v.2.2.1.toNat (0 : Int)
   (Fsl6Put N (y10, v.2.2.2.1, ())).bind fun r11 =>
   zw9 N n (v.1, v.2.1, w64 (v.2.2.1 + (1 : Int)), r11.1, ())
   else none
   else none
  else
  some (v.1, v.2.2.2.1, ())
def zyg (N : Nat) : Nat → ((List tyq2) × (Int × (Int × ((List Int) × tyq8)))) → Option ((List tyq2) × (Int × ((List Int) × Unit)))
 | 0, _ => none
 | n + 1, v =>
  let y16 := decide (v.2.2.1 < (v.2.2.2.2.2.2.2.2.1.length : Int))
  bif y16 then
   bif decide (0 ≤ v.2.2.1) then
   bif decide (v.2.2.1.toNat < v.2.2.2.2.2.2.2.2.1.length) then
   let y17 := v.2.2.2.2.2.2.2.2.1.getD v.2.2.1.toNat (0 : Int)
   (zqm N (v.1, y17, ())).bind fun r18 =>
   bif r18.1 != (0 : Int) then
    (zty N (v.2.2.2.1, r18.1, ())).bind fun r19 =>
    bif decide (r19.1 < (0 : Int)) then
     bif decide (v.2.2.2.1.length + [r18.1].length ≤ lim) then
     zyg N n (v.1, v.2.1, w64 (v.2.2.1 + (1 : Int)), v.2.2.2.1 ++ [r18.1], v.2.2.2.2.1, v.2.2.2.2.2.1, v.2.2.2.2.2.2.1, v.2.2.2.2.2.2.2.1, v.2.2.2.2.2.2.2.2.1, v.2.2.2.2.2.2.2.2.2.1, ())
     else none
    else
    zyg N n (v.1, v.2.1, w64 (v.2.2.1 + (1 : Int)), v.2.2.2.1, v.2.2.2.2.1, v.2.2.2.2.2.1, v.2.2.2.2.2.2.1, v.2.2.2.2.2.2.2.1, v.2.2.2.2.2.2.2.2.1, v.2.2.2.2.2.2.2.2.2.1, ())
   else
   zyg N n (v.1, v.2.1, w64 (v.2.2.1 + (1 : Int)), v.2.2.2.1, v.2.2.2.2.1, v.2.2.2.2.2.1, v.2.2.2.2.2.2.1, v.2.2.2.2.2.2.2.1, v.2.2.2.2.2.2.2.2.1, v.2.2.2.2.2.2.2.2.2.1, ())
   else none
   else none
  else
  some (v.1, v.2.1, v.2.2.2.1, ())
def zwn (N : Nat) : Nat → ((List tyq2) × (Int × ((List Int) × Unit))) → Option ((List Int) × Unit)
 | 0, _ => none
 | n + 1, v =>
  let y13 := decide (v.2.1 < (v.2.2.1.length : Int))
  bif y13 then
   bif decide (0 ≤ v.2.1) then
   bif decide (v.2.1.toNat < v.2.2.1.length) then
   (ztk N (v.1, v.2.2.1.getD v.2.1.toNat (0 : Int), ())).bind fun r14 =>
   bif decide (0 ≤ r14.1) then
   bif decide (r14.1.toNat < v.1.length) then
   let y15 := v.1.getD r14.1.toNat ((0 : Int), (0 : Int), ((0 : Int), (0 : Int), ()), ([] : (List Int)), ([] : (List Int)), ())
   (zyg N N (v.1, v.2.1, (0 : Int), v.2.2.1, y15.1, y15.2.1, y15.2.2.1.1, y15.2.2.1.2.1, y15.2.2.2.1, y15.2.2.2.2.1, ())).bind fun o20 =>
   zwn N n (o20.1, w64 (o20.2.1 + (1 : Int)), o20.2.2.1, ())
   else none
   else none
   else none
   else none
  else
  some (v.2.2.1, ())
def Fsl7Reached (N : Nat) (x : (tyq1 × ((List tyq2) × Unit))) : Option ((List Int) × Unit) :=
 (zvz N N (x.2.1, x.1, (0 : Int), ([] : (List Int)), ())).bind fun o8 =>
 (zw9 N N (o8.1, o8.2.1, (0 : Int), o8.2.2.1, ())).bind fun o12 =>
 (zwn N N (o12.1, (0 : Int), o12.2.1, ())).bind fun o21 =>
 some (o21.1, ())
def consl7Reached (N : Nat) : Con := { f := 51, din := dinsl7Reached, outs := outsl7Reached, F := Fsl7Reached N }
def zqp (N : Nat) : Ctx := { E := Esl7Reached N, H := Hsl7Reached, lp := [(2, { hd := zpc, outs := osl7Reached_2, run := fun v => zyf N N v }), (0, { hd := zpb, outs := osl7Reached_0, run := fun v => zvz N N v }), (4, { hd := zpd, outs := osl7Reached_4, run := fun v => zw9 N N v }), (8, { hd := zpf, outs := osl7Reached_8, run := fun v => zyg N N v }), (6, { hd := zpe, outs := osl7Reached_6, run := fun v => zwn N N v })], jn := [] }
def bsl7Reached_6 : Code := zzv (zzy Tryz.f51) 2
def bsl7Reached_8 : Code := zzv bsl7Reached_6 0
def bsl7Reached_4 : Code := zzv (zzy Tryz.f51) 1
def bsl7Reached_0 : Code := zzv (zzy Tryz.f51) 0
def bsl7Reached_2 : Code := zzv bsl7Reached_0 0
theorem Fsl7Reached_eq (N : Nat) (x : (tyq1 × ((List tyq2) × Unit))) : evFn (zqp N) Tryz.f51 dinsl7Reached outsl7Reached x = Fsl7Reached N x := by kernel_rfl
theorem lsl7Reached_2_eq (N n : Nat) (v : ((List tyq2) × (tyq1 × (Int × (Int × ((List Int) × Unit)))))) : zyf N (n + 1) v = ev (zqp N) bsl7Reached_2 (zzd zpc osl7Reached_2 (zyf N n)) (zpc.mk' v) := by kernel_rfl
theorem lsl7Reached_0_eq (N n : Nat) (v : ((List tyq2) × (tyq1 × (Int × ((List Int) × Unit))))) : zvz N (n + 1) v = ev (zqp N) bsl7Reached_0 (zzd zpb osl7Reached_0 (zvz N n)) (zpb.mk' v) := by kernel_rfl
theorem lsl7Reached_4_eq (N n : Nat) (v : ((List tyq2) × (tyq1 × (Int × ((List Int) × Unit))))) : zw9 N (n + 1) v = ev (zqp N) bsl7Reached_4 (zzd zpd osl7Reached_4 (zw9 N n)) (zpd.mk' v) := by kernel_rfl
theorem lsl7Reached_8_eq (N n : Nat) (v : ((List tyq2) × (Int × (Int × ((List Int) × tyq8))))) : zyg N (n + 1) v = ev (zqp N) bsl7Reached_8 (zzd zpf osl7Reached_8 (zyg N n)) (zpf.mk' v) := by kernel_rfl
theorem lsl7Reached_6_eq (N n : Nat) (v : ((List tyq2) × (Int × ((List Int) × Unit)))) : zwn N (n + 1) v = ev (zqp N) bsl7Reached_6 (zzd zpe osl7Reached_6 (zwn N n)) (zpe.mk' v) := by kernel_rfl
theorem zqc (N : Nat) : CtxOk Tryz.prog (zqp N) := ⟨⟨TE_ok, List.forall_mem_cons.2 ⟨(specsl6Now N), List.forall_mem_cons.2 ⟨(specsl5Place N), List.forall_mem_cons.2 ⟨(specsl6Put N), List.forall_mem_cons.2 ⟨(specsl6Find N), fun k hk => absurd hk List.not_mem_nil⟩⟩⟩⟩⟩, mixed⟩
theorem lpsl7Reached_2 (N : Nat) : zzl Tryz.prog { hd := zpc, outs := osl7Reached_2, run := fun v => zyf N N v } bsl7Reached_2 :=
 zzx (d := zpc) (os := osl7Reached_2) (zqc N) (zzz (ids := []) (by kernel_rfl) (trivial)) (zyf N) (fun _ => rfl) (fun n v => lsl7Reached_2_eq N n v) (fun _ => N)
theorem lpsl7Reached_0 (N : Nat) : zzl Tryz.prog { hd := zpb, outs := osl7Reached_0, run := fun v => zvz N N v } bsl7Reached_0 :=
 zzx (d := zpb) (os := osl7Reached_0) (zqc N) (zzz (ids := [2]) (by kernel_rfl) ⟨lp_of (lpsl7Reached_2 N), trivial⟩) (zvz N) (fun _ => rfl) (fun n v => lsl7Reached_0_eq N n v) (fun _ => N)
theorem lpsl7Reached_4 (N : Nat) : zzl Tryz.prog { hd := zpd, outs := osl7Reached_4, run := fun v => zw9 N N v } bsl7Reached_4 :=
 zzx (d := zpd) (os := osl7Reached_4) (zqc N) (zzz (ids := []) (by kernel_rfl) (trivial)) (zw9 N) (fun _ => rfl) (fun n v => lsl7Reached_4_eq N n v) (fun _ => N)
theorem lpsl7Reached_8 (N : Nat) : zzl Tryz.prog { hd := zpf, outs := osl7Reached_8, run := fun v => zyg N N v } bsl7Reached_8 :=
 zzx (d := zpf) (os := osl7Reached_8) (zqc N) (zzz (ids := []) (by kernel_rfl) (trivial)) (zyg N) (fun _ => rfl) (fun n v => lsl7Reached_8_eq N n v) (fun _ => N)
theorem lpsl7Reached_6 (N : Nat) : zzl Tryz.prog { hd := zpe, outs := osl7Reached_6, run := fun v => zwn N N v } bsl7Reached_6 :=
 zzx (d := zpe) (os := osl7Reached_6) (zqc N) (zzz (ids := [8]) (by kernel_rfl) ⟨lp_of (lpsl7Reached_8 N), trivial⟩) (zwn N) (fun _ => rfl) (fun n v => lsl7Reached_6_eq N n v) (fun _ => N)
theorem specsl7Reached (N : Nat) : Spec Tryz.prog (consl7Reached N) :=
 Spec.of_eq (zzu (zqc N) (f := 51) (fn := Tryz.f51) (c := zzy Tryz.f51) (by kernel_rfl) (by kernel_rfl) (by kernel_rfl) (zzz (ids := [0, 4, 6]) (by kernel_rfl) ⟨lp_of (lpsl7Reached_0 N), ⟨lp_of (lpsl7Reached_4 N), ⟨lp_of (lpsl7Reached_6 N), trivial⟩⟩⟩) (by kernel_rfl)) (fun x r h => (Fsl7Reached_eq N x).trans h)
def dinsl7Sorted : Desc := { n := 1, regs := [.one (.val (.sl (.int .i64)))], bx := [], pins := [] }
def outsl7Sorted : Outs := [(.ret, { n := 1, regs := [.one (.lit (.row 1012800))], bx := [(1012800, .row (.int .i64))], pins := [] })]
def Hsl7Sorted : Hints := [(1, [(0, { nl := [(0, (.int .i64))] })])]
def Esl7Sorted (_N : Nat) : Env := { te := TE, cs := [] }
def dsl7Sorted_2 : Desc := { n := 56, regs := [.one (.val (.sl (.int .i64))), u, u, .one (.lit (.row 1012800)), .one (.val (.int .i64)), .one (.val (.int .i64))], bx := [(1012800, .row (.int .i64))], pins := [] }
def osl7Sorted_2 : Outs := [(.exit 2, { n := 56, regs := [.one (.val (.sl (.int .i64))), u, u, .one (.lit (.row 1012800)), .one (.val (.int .i64))], bx := [(1012800, .row (.int .i64))], pins := [] })]
def dsl7Sorted_0 : Desc := { n := 56, regs := [.one (.val (.sl (.int .i64))), u, u, .one (.lit (.row 1012800)), .one (.val (.int .i64))], bx := [(1012800, .row (.int .i64))], pins := [] }
def osl7Sorted_0 : Outs := [(.exit 0, { n := 56, regs := [u, u, u, .one (.lit (.row 1012800))], bx := [(1012800, .row (.int .i64))], pins := [] })]
def jsl7Sorted_8 : Outs := [(.exit 2, { n := 56, regs := [.one (.val (.sl (.int .i64))), u, u, .one (.lit (.row 1012800)), .one (.val (.int .i64))], bx := [(1012800, .row (.int .i64))], pins := [] }), (.normal, { n := 56, regs := [.one (.val (.sl (.int .i64))), u, u, .one (.lit (.row 1012800)), .one (.val (.int .i64)), .one (.val (.int .i64))], bx := [(1012800, .row (.int .i64))], pins := [] })]
def zve (N : Nat) : Nat → ((List Int) × (Int × (Int × ((List Int) × Unit)))) → Option ((List Int) × (Int × ((List Int) × Unit)))
 | 0, _ => none
 | n + 1, v =>
  Option.bind (
   bif decide (v.2.2.1 > (0 : Int)) then
    bif decide (0 ≤ (w64 (v.2.2.1 - (1 : Int)))) then
    bif decide ((w64 (v.2.2.1 - (1 : Int))).toNat < v.2.2.2.1.length) then
    let y2 := v.2.2.2.1.getD ((w64 (v.2.2.1 - (1 : Int))).toNat) (0 : Int)
    bif decide (0 ≤ v.2.2.1) then
    bif decide (v.2.2.1.toNat < v.2.2.2.1.length) then
    let y3 := v.2.2.2.1.getD v.2.2.1.toNat (0 : Int)
    bif decide (y2 > y3) then
     some (.inr ((v.1, v.2.1, v.2.2.1, v.2.2.2.1, ())))
    else
    some (.inl (v.1, v.2.1, v.2.2.2.1, ()))
    else none
    else none
    else none
    else none
   else
   some (.inl (v.1, v.2.1, v.2.2.2.1, ()))) fun o4 =>
  Sum.elim (fun o5 =>
   some (o5.1, o5.2.1, o5.2.2.1, ())) (fun o6 =>
   bif decide (0 ≤ (w64 (o6.2.2.1 - (1 : Int)))) then
   bif decide ((w64 (o6.2.2.1 - (1 : Int))).toNat < o6.2.2.2.1.length) then
   let y7 := o6.2.2.2.1.getD ((w64 (o6.2.2.1 - (1 : Int))).toNat) (0 : Int)
   bif decide (0 ≤ o6.2.2.1) then
   bif decide (o6.2.2.1.toNat < o6.2.2.2.1.length) then
   let y8 := o6.2.2.2.1.getD o6.2.2.1.toNat (0 : Int)
   bif decide (0 ≤ (w64 (o6.2.2.1 - (1 : Int)))) then
   bif decide ((w64 (o6.2.2.1 - (1 : Int))).toNat < o6.2.2.2.1.length) then
   let y9 := o6.2.2.2.1.set ((w64 (o6.2.2.1 - (1 : Int))).toNat) y8
   bif decide (0 ≤ o6.2.2.1) then
   bif decide (o6.2.2.1.toNat < y9.length) then
   zve N n (o6.1, o6.2.1, w64 (o6.2.2.1 - (1 : Int)), y9.set o6.2.2.1.toNat y7, ())
   else none
   else none
   else none
   else none
   else none
   else none
   else none
   else none) o4
def zvd (N : Nat) : Nat → ((List Int) × (Int × ((List Int) × Unit))) → Option ((List Int) × Unit)
 | 0, _ => none
 | n + 1, v =>
  bif decide (v.2.1 < (v.1.length : Int)) then
   bif decide (0 ≤ v.2.1) then
   bif decide (v.2.1.toNat < v.1.length) then
   bif decide (v.2.2.1.length + [v.1.getD v.2.1.toNat (0 : Int)].length ≤ lim) then
   let y1 := v.2.2.1 ++ [v.1.getD v.2.1.toNat (0 : Int)]
   (zve N N (v.1, v.2.1, (v.2.2.1.length : Int), y1, ())).bind fun o10 =>
   zvd N n (o10.1, w64 (o10.2.1 + (1 : Int)), o10.2.2.1, ())
   else none
   else none
   else none
  else
  some (v.2.2.1, ())
def Fsl7Sorted (N : Nat) (x : ((List Int) × Unit)) : Option ((List Int) × Unit) :=
 (zvd N N (x.1, (0 : Int), ([] : (List Int)), ())).bind fun o11 =>
 some (o11.1, ())
def consl7Sorted (N : Nat) : Con := { f := 50, din := dinsl7Sorted, outs := outsl7Sorted, F := Fsl7Sorted N }
def Xsl7Sorted (N : Nat) : Ctx := { E := Esl7Sorted N, H := Hsl7Sorted, lp := [(2, { hd := dsl7Sorted_2, outs := osl7Sorted_2, run := fun v => zve N N v }), (0, { hd := dsl7Sorted_0, outs := osl7Sorted_0, run := fun v => zvd N N v })], jn := [(8, jsl7Sorted_8)] }
def bsl7Sorted_0 : Code := zzv (zzy Tryz.f50) 0
def bsl7Sorted_2 : Code := zzv bsl7Sorted_0 0
theorem Fsl7Sorted_eq (N : Nat) (x : ((List Int) × Unit)) : evFn (Xsl7Sorted N) Tryz.f50 dinsl7Sorted outsl7Sorted x = Fsl7Sorted N x := by kernel_rfl
theorem lsl7Sorted_2_eq (N n : Nat) (v : ((List Int) × (Int × (Int × ((List Int) × Unit))))) : zve N (n + 1) v = ev (Xsl7Sorted N) bsl7Sorted_2 (zzd dsl7Sorted_2 osl7Sorted_2 (zve N n)) (dsl7Sorted_2.mk' v) := by kernel_rfl
theorem lsl7Sorted_0_eq (N n : Nat) (v : ((List Int) × (Int × ((List Int) × Unit)))) : zvd N (n + 1) v = ev (Xsl7Sorted N) bsl7Sorted_0 (zzd dsl7Sorted_0 osl7Sorted_0 (zvd N n)) (dsl7Sorted_0.mk' v) := by kernel_rfl
theorem cxsl7Sorted (N : Nat) : CtxOk Tryz.prog (Xsl7Sorted N) := ⟨⟨TE_ok, fun k hk => absurd hk List.not_mem_nil⟩, mixed⟩
theorem lpsl7Sorted_2 (N : Nat) : zzl Tryz.prog { hd := dsl7Sorted_2, outs := osl7Sorted_2, run := fun v => zve N N v } bsl7Sorted_2 :=
 zzx (d := dsl7Sorted_2) (os := osl7Sorted_2) (cxsl7Sorted N) (zzz (ids := []) (by kernel_rfl) (trivial)) (zve N) (fun _ => rfl) (fun n v => lsl7Sorted_2_eq N n v) (fun _ => N)
theorem lpsl7Sorted_0 (N : Nat) : zzl Tryz.prog { hd := dsl7Sorted_0, outs := osl7Sorted_0, run := fun v => zvd N N v } bsl7Sorted_0 :=
 zzx (d := dsl7Sorted_0) (os := osl7Sorted_0) (cxsl7Sorted N) (zzz (ids := [2]) (by kernel_rfl) ⟨lp_of (lpsl7Sorted_2 N), trivial⟩) (zvd N) (fun _ => rfl) (fun n v => lsl7Sorted_0_eq N n v) (fun _ => N)
theorem specsl7Sorted (N : Nat) : Spec Tryz.prog (consl7Sorted N) :=
 Spec.of_eq (zzu (cxsl7Sorted N) (f := 50) (fn := Tryz.f50) (c := zzy Tryz.f50) (by kernel_rfl) (by kernel_rfl) (by kernel_rfl) (zzz (ids := [0]) (by kernel_rfl) ⟨lp_of (lpsl7Sorted_0 N), trivial⟩) (by kernel_rfl)) (fun x r h => (Fsl7Sorted_eq N x).trans h)
def dinsFullLive : Desc := { n := 1, regs := [.one (.val tyq10)], bx := [], pins := [] }
def outsFullLive : Outs := [(.ret, { n := 2, regs := [.one (.lit (.row 1025600)), .one (.val .bool)], bx := [(1025600, .row (.int .i64))], pins := [] })]
def HsFullLive : Hints := [(0, [(0, { fz := true })]),
 (2, [(0, { nl := [(0, (.int .i64))] })]),
 (3, [(1, { con := 1 })]),
 (4, [(2, { con := 2 }), (3, { con := 3 })])]
def EsFullLive (N : Nat) : Env := { te := TE, cs := [consStateOk N, consl6Things N, consl7Reached N, consl7Sorted N] }
def FsFullLive (N : Nat) (x : (tyq1 × Unit)) : Option (Bool × ((List Int) × Unit)) :=
 (FsStateOk N (x.1, ())).bind fun r1 =>
 bif !r1.1 then
  some (false, ([] : (List Int)), ())
 else
 (zoe N (x.1, ())).bind fun r2 =>
 (Fsl7Reached N (x.1, r2.2.1, ())).bind fun r3 =>
 (Fsl7Sorted N (r3.1, ())).bind fun r4 =>
 some (true, r4.1, ())
def consFullLive (N : Nat) : Con := { f := 17, din := dinsFullLive, outs := outsFullLive, F := FsFullLive N }
def XsFullLive (N : Nat) : Ctx := { E := EsFullLive N, H := HsFullLive, lp := [], jn := [] }
theorem FsFullLive_eq (N : Nat) (x : (tyq1 × Unit)) : evFn (XsFullLive N) Tryz.f17 dinsFullLive outsFullLive x = FsFullLive N x := by kernel_rfl
theorem cxsFullLive (N : Nat) : CtxOk Tryz.prog (XsFullLive N) := ⟨⟨TE_ok, List.forall_mem_cons.2 ⟨(specsStateOk N), List.forall_mem_cons.2 ⟨(specsl6Things N), List.forall_mem_cons.2 ⟨(specsl7Reached N), List.forall_mem_cons.2 ⟨(specsl7Sorted N), fun k hk => absurd hk List.not_mem_nil⟩⟩⟩⟩⟩, mixed⟩
theorem specsFullLive (N : Nat) : Spec Tryz.prog (consFullLive N) :=
 Spec.of_eq (zzu (cxsFullLive N) (f := 17) (fn := Tryz.f17) (c := zzy Tryz.f17) (by kernel_rfl) (by kernel_rfl) (by kernel_rfl) (zzz (ids := []) (by kernel_rfl) (trivial)) (by kernel_rfl)) (fun x r h => (FsFullLive_eq N x).trans h)
def dinsl5Ints : Desc := { n := 1, regs := [.one (.val (.sl (.int .i64)))], bx := [], pins := [] }
def outsl5Ints : Outs := [(.ret, { n := 1, regs := [.one (.lit (.row 1012800))], bx := [(1012800, .row (.int .i64))], pins := [] })]
def Hsl5Ints : Hints := []
def Esl5Ints (_N : Nat) : Env := { te := TE, cs := [] }
def Fsl5Ints (N : Nat) (x : ((List Int) × Unit)) : Option ((List Int) × Unit) :=
 bif decide (([] : (List Int)).length + x.1.length ≤ lim) then
 some (([] : (List Int)) ++ x.1, ())
 else none
def consl5Ints (N : Nat) : Con := { f := 20, din := dinsl5Ints, outs := outsl5Ints, F := Fsl5Ints N }
def Xsl5Ints (N : Nat) : Ctx := { E := Esl5Ints N, H := Hsl5Ints, lp := [], jn := [] }
theorem Fsl5Ints_eq (N : Nat) (x : ((List Int) × Unit)) : evFn (Xsl5Ints N) Tryz.f20 dinsl5Ints outsl5Ints x = Fsl5Ints N x := by kernel_rfl
theorem cxsl5Ints (N : Nat) : CtxOk Tryz.prog (Xsl5Ints N) := ⟨⟨TE_ok, fun k hk => absurd hk List.not_mem_nil⟩, mixed⟩
theorem specsl5Ints (N : Nat) : Spec Tryz.prog (consl5Ints N) :=
 Spec.of_eq (zzu (cxsl5Ints N) (f := 20) (fn := Tryz.f20) (c := zzy Tryz.f20) (by kernel_rfl) (by kernel_rfl) (by kernel_rfl) (zzz (ids := []) (by kernel_rfl) (trivial)) (by kernel_rfl)) (fun x r h => (Fsl5Ints_eq N x).trans h)
end Go.Fl
set_option maxRecDepth 100000
set_option linter.all false
namespace Go.Fl
open Go Go.Proofs
def dinsStateGraph : Desc := { n := 1, regs := [.one (.val tyq10)], bx := [], pins := [] }
def outsStateGraph : Outs := [(.ret, { n := 2, regs := [.agg [.lit (.row 1038401), .lit (.row 1038402), .lit (.row 1038403)], .one (.val .bool)], bx := [(1038401, .row tyq14), (1038402, .row (.sl (.int .i64))), (1038403, .row (.int .i64))], pins := [] })]
def HsStateGraph : Hints := [(0, [(0, { fz := true })]),
 (3, [(0, { nl := [(0, tyq14), (1, (.sl (.int .i64))), (2, (.int .i64))] })]),
 (4, [(1, { con := 1 })]),
 (5, [(0, { nl := [(0, tyq14), (1, (.sl (.int .i64))), (2, (.int .i64))] })]),
 (9, [(6, { con := 2 })]),
 (10, [(2, { con := 3 }), (3, { nl := [(0, (.int .i64))] })]),
 (14, [(9, { con := 4 }), (10, { con := 5 })]),
 (15, [(3, { dp := true }), (4, { dp := true })]),
 (19, [(0, { nl := [(0, (.int .i64))] })]),
 (23, [(12, { con := 4 }), (13, { con := 5 })]),
 (24, [(3, { dp := true }), (4, { dp := true })]),
 (28, [(8, { con := 5 })])]
def EsStateGraph (N : Nat) : Env := { te := TE, cs := [consFullLive N, consl6Things N, consl6Find N, consl5Ints N, consl6Now N, consl5Place N] }
def zra : Desc := { n := 137, regs := [u, .one (.fpt tyq10), .one (.lit (.ptr 1000064 0)), u, .one (.lit (.row 1012865)), u, .one (.val (.sl tyq11)), u, .one (.lit (.ptr 1064064 0)), .one (.val (.int .i64)), .one (.lit (.ptr 1115776 0)), .one (.lit (.ptr 1128256 0)), .one (.val (.int .i64))], bx := [(1000064, .var [.lit .nil, .lit .nil, .lit .nil]), (1012865, .row (.int .i64)), (1064064, .var [.lit (.row 1064001), .lit (.row 1064002), .lit (.row 1064003)]), (1064001, .row tyq14), (1064002, .row (.sl (.int .i64))), (1064003, .row (.int .i64)), (1115776, .var [.val (.int .i64), .val (.int .i64), .val (.int .i64), .val (.int .i64), .val (.sl (.int .i64)), .val (.sl (.int .i64))]), (1128256, .var [.lit (.row 1128193), .lit (.row 1128129)]), (1128193, .row (.int .i64)), (1128129, .row (.int .i64))], pins := [] }
def osStateGraph_2 : Outs := [(.exit 2, { n := 137, regs := [u, .one (.fpt tyq10), .one (.lit (.ptr 1000064 0)), u, .one (.lit (.row 1012865)), u, .one (.val (.sl tyq11)), u, .one (.lit (.ptr 1064064 0)), .one (.val (.int .i64)), u, .one (.lit (.ptr 1128256 0))], bx := [(1000064, .var [.lit .nil, .lit .nil, .lit .nil]), (1012865, .row (.int .i64)), (1064064, .var [.lit (.row 1064001), .lit (.row 1064002), .lit (.row 1064003)]), (1064001, .row tyq14), (1064002, .row (.sl (.int .i64))), (1064003, .row (.int .i64)), (1128256, .var [.lit (.row 1128193), .lit (.row 1128129)]), (1128193, .row (.int .i64)), (1128129, .row (.int .i64))], pins := [] })]
def zr0 : Desc := { n := 137, regs := [u, .one (.fpt tyq10), .one (.lit (.ptr 1000064 0)), u, .one (.lit (.row 1012865)), u, .one (.val (.sl tyq11)), u, .one (.lit (.ptr 1064064 0)), .one (.val (.int .i64))], bx := [(1000064, .var [.lit .nil, .lit .nil, .lit .nil]), (1012865, .row (.int .i64)), (1064064, .var [.lit (.row 1064001), .lit (.row 1064002), .lit (.row 1064003)]), (1064001, .row tyq14), (1064002, .row (.sl (.int .i64))), (1064003, .row (.int .i64))], pins := [] }
def osStateGraph_0 : Outs := [(.exit 0, { n := 137, regs := [u, .one (.fpt tyq10), .one (.lit (.ptr 1000064 0)), u, .one (.lit (.row 1012865)), u, .one (.val (.sl tyq11)), u, .one (.lit (.ptr 1064064 0))], bx := [(1000064, .var [.lit .nil, .lit .nil, .lit .nil]), (1012865, .row (.int .i64)), (1064064, .var [.lit (.row 1064001), .lit (.row 1064002), .lit (.row 1064003)]), (1064001, .row tyq14), (1064002, .row (.sl (.int .i64))), (1064003, .row (.int .i64))], pins := [] })]
def zrc : Desc := { n := 137, regs := [u, .one (.fpt tyq10), .one (.lit (.ptr 1000064 0)), u, .one (.lit (.row 1012865)), u, .one (.val (.sl tyq11)), u, .one (.lit (.ptr 1064064 0)), u, u, u, u, .one (.val (.int .i64)), .one (.lit (.row 1243200)), .one (.val (.int .i64))], bx := [(1000064, .var [.lit .nil, .lit .nil, .lit .nil]), (1012865, .row (.int .i64)), (1064064, .var [.lit (.row 1064001), .lit (.row 1064002), .lit (.row 1064003)]), (1064001, .row tyq14), (1064002, .row (.sl (.int .i64))), (1064003, .row (.int .i64)), (1243200, .row (.int .i64))], pins := [] }
def osStateGraph_6 : Outs := [(.exit 6, { n := 137, regs := [u, .one (.fpt tyq10), .one (.lit (.ptr 1000064 0)), u, .one (.lit (.row 1012865)), u, .one (.val (.sl tyq11)), u, .one (.lit (.ptr 1064064 0)), u, u, u, u, .one (.val (.int .i64)), .one (.lit (.row 1243200))], bx := [(1000064, .var [.lit .nil, .lit .nil, .lit .nil]), (1012865, .row (.int .i64)), (1064064, .var [.lit (.row 1064001), .lit (.row 1064002), .lit (.row 1064003)]), (1064001, .row tyq14), (1064002, .row (.sl (.int .i64))), (1064003, .row (.int .i64)), (1243200, .row (.int .i64))], pins := [] })]
def zrb : Desc := { n := 137, regs := [u, .one (.fpt tyq10), .one (.lit (.ptr 1000064 0)), u, .one (.lit (.row 1012865)), u, .one (.val (.sl tyq11)), u, .one (.lit (.ptr 1064064 0)), u, u, u, u, .one (.val (.int .i64))], bx := [(1000064, .var [.lit .nil, .lit .nil, .lit .nil]), (1012865, .row (.int .i64)), (1064064, .var [.lit (.row 1064001), .lit (.row 1064002), .lit (.row 1064003)]), (1064001, .row tyq14), (1064002, .row (.sl (.int .i64))), (1064003, .row (.int .i64))], pins := [] }
def osStateGraph_4 : Outs := [(.exit 4, { n := 137, regs := [u, .one (.fpt tyq10), .one (.lit (.ptr 1000064 0)), u, .one (.lit (.row 1012865)), u, u, u, .one (.lit (.ptr 1064064 0))], bx := [(1000064, .var [.lit .nil, .lit .nil, .lit .nil]), (1012865, .row (.int .i64)), (1064064, .var [.lit (.row 1064001), .lit (.row 1064002), .lit (.row 1064003)]), (1064001, .row tyq14), (1064002, .row (.sl (.int .i64))), (1064003, .row (.int .i64))], pins := [] })]
def zrd : Desc := { n := 137, regs := [u, .one (.fpt tyq10), .one (.lit (.ptr 1000064 0)), u, .one (.lit (.row 1012865)), u, u, u, .one (.lit (.ptr 1064064 0)), u, u, u, u, u, u, u, .one (.val (.int .i64))], bx := [(1000064, .var [.lit .nil, .lit .nil, .lit .nil]), (1012865, .row (.int .i64)), (1064064, .var [.lit (.row 1064001), .lit (.row 1064002), .lit (.row 1064003)]), (1064001, .row tyq14), (1064002, .row (.sl (.int .i64))), (1064003, .row (.int .i64))], pins := [] }
def osStateGraph_8 : Outs := [(.exit 8, { n := 137, regs := [u, u, .one (.lit (.ptr 1000064 0)), u, u, u, u, u, .one (.lit (.ptr 1064064 0))], bx := [(1000064, .var [.lit .nil, .lit .nil, .lit .nil]), (1064064, .var [.lit (.row 1064001), .lit (.row 1064002), .lit (.row 1064003)]), (1064001, .row tyq14), (1064002, .row (.sl (.int .i64))), (1064003, .row (.int .i64))], pins := [] })]
def zxj (N : Nat) : Nat → (tyq1 × ((List tyq2) × (Int × (Int × ((List Int) × (tyq6 × ((List (List Int)) × ((List Int) × (Int × (Int × (Int × (Int × ((List Int) × ((List Int) × ((List Int) × ((List Int) × Unit)))))))))))))))) → Option (tyq1 × ((List tyq2) × (Int × ((List Int) × (tyq6 × ((List (List Int)) × ((List Int) × ((List Int) × ((List Int) × Unit)))))))))
 | 0, _ => none
 | n + 1, v =>
  let y10 := (v.2.2.2.2.2.2.2.2.2.2.2.2.1.length : Int)
  bif decide (v.2.2.2.1 < y10) then
   bif decide (0 ≤ v.2.2.2.1) then
   bif decide (v.2.2.2.1.toNat < v.2.2.2.2.2.2.2.2.2.2.2.2.1.length) then
   let y11 := v.2.2.2.2.2.2.2.2.2.2.2.2.1.getD v.2.2.2.1.toNat (0 : Int)
   (zqm N (v.2.1, y11, ())).bind fun r12 =>
   (zty N (v.2.2.2.2.1, r12.1, ())).bind fun r13 =>
   bif decide (v.2.2.2.2.2.2.2.2.2.2.2.2.2.2.1.length + [r13.1].length ≤ lim) then
   let y14 := v.2.2.2.2.2.2.2.2.2.2.2.2.2.2.1 ++ [r13.1]
   zxj N n (v.1, v.2.1, v.2.2.1, w64 (v.2.2.2.1 + (1 : Int)), v.2.2.2.2.1, v.2.2.2.2.2.1, v.2.2.2.2.2.2.1, v.2.2.2.2.2.2.2.1, v.2.2.2.2.2.2.2.2.1, v.2.2.2.2.2.2.2.2.2.1, v.2.2.2.2.2.2.2.2.2.2.1, v.2.2.2.2.2.2.2.2.2.2.2.1, v.2.2.2.2.2.2.2.2.2.2.2.2.1, v.2.2.2.2.2.2.2.2.2.2.2.2.2.1, y14, v.2.2.2.2.2.2.2.2.2.2.2.2.2.2.2.1, ())
   else none
   else none
   else none
  else
  some (v.1, v.2.1, v.2.2.1, v.2.2.2.2.1, v.2.2.2.2.2.1, v.2.2.2.2.2.2.1, v.2.2.2.2.2.2.2.1, v.2.2.2.2.2.2.2.2.2.2.2.2.2.2.1, v.2.2.2.2.2.2.2.2.2.2.2.2.2.2.2.1, ())
def zxi (N : Nat) : Nat → (tyq1 × ((List tyq2) × (Int × ((List Int) × (tyq6 × tyq7))))) → Option (tyq1 × ((List tyq2) × ((List Int) × (tyq6 × tyq7))))
 | 0, _ => none
 | n + 1, v =>
  let y5 := decide (v.2.2.1 < (v.2.2.2.1.length : Int))
  bif y5 then
   bif decide (0 ≤ v.2.2.1) then
   bif decide (v.2.2.1.toNat < v.2.2.2.1.length) then
   let y6 := v.2.2.2.1.getD v.2.2.1.toNat (0 : Int)
   (ztk N (v.2.1, y6, ())).bind fun r7 =>
   bif decide (0 ≤ r7.1) then
   bif decide (r7.1.toNat < v.2.1.length) then
   let y8 := v.2.1.getD r7.1.toNat ((0 : Int), (0 : Int), ((0 : Int), (0 : Int), ()), ([] : (List Int)), ([] : (List Int)), ())
   (Fsl5Ints N (y8.2.2.2.2.1, ())).bind fun r9 =>
   (zxj N N (v.1, v.2.1, v.2.2.1, (0 : Int), v.2.2.2.1, v.2.2.2.2.1, v.2.2.2.2.2.1, v.2.2.2.2.2.2.1, y8.1, y8.2.1, y8.2.2.1.1, y8.2.2.1.2.1, y8.2.2.2.1, y8.2.2.2.2.1, ([] : (List Int)), r9.1, ())).bind fun o15 =>
   let y16 := [(o15.2.2.2.2.2.2.2.1, o15.2.2.2.2.2.2.2.2.1, ())]
   bif decide (o15.2.2.2.2.1.length + y16.length ≤ lim) then
   zxi N n (o15.1, o15.2.1, w64 (o15.2.2.1 + (1 : Int)), o15.2.2.2.1, o15.2.2.2.2.1 ++ y16, o15.2.2.2.2.2.1, o15.2.2.2.2.2.2.1, ())
   else none
   else none
   else none
   else none
   else none
  else
  some (v.1, v.2.1, v.2.2.2.1, v.2.2.2.2.1, v.2.2.2.2.2.1, v.2.2.2.2.2.2.1, ())
def zxl (N : Nat) : Nat → (tyq1 × ((List tyq2) × (Int × (Int × ((List Int) × (tyq6 × ((List (List Int)) × ((List Int) × ((List Int) × Unit))))))))) → Option (tyq1 × ((List tyq2) × (Int × ((List Int) × (tyq6 × ((List (List Int)) × ((List Int) × ((List Int) × Unit))))))))
 | 0, _ => none
 | n + 1, v =>
  bif decide (0 ≤ v.2.2.1) then
  bif decide (v.2.2.1.toNat < v.1.2.2.2.2.2.2.2.2.1.length) then
  let y19 := v.1.2.2.2.2.2.2.2.2.1.getD v.2.2.1.toNat (([] : (List Int)), (0 : Int), false, (0 : Int), ())
  let y20 := decide (v.2.2.2.1 < (y19.1.length : Int))
  bif y20 then
   bif decide (0 ≤ v.2.2.1) then
   bif decide (v.2.2.1.toNat < v.1.2.2.2.2.2.2.2.2.1.length) then
   let y21 := v.1.2.2.2.2.2.2.2.2.1.getD v.2.2.1.toNat (([] : (List Int)), (0 : Int), false, (0 : Int), ())
   bif decide (0 ≤ v.2.2.2.1) then
   bif decide (v.2.2.2.1.toNat < y21.1.length) then
   (zqm N (v.2.1, y21.1.getD v.2.2.2.1.toNat (0 : Int), ())).bind fun r22 =>
   (zty N (v.2.2.2.2.1, r22.1, ())).bind fun r23 =>
   bif decide (v.2.2.2.2.2.2.2.2.1.length + [r23.1].length ≤ lim) then
   zxl N n (v.1, v.2.1, v.2.2.1, w64 (v.2.2.2.1 + (1 : Int)), v.2.2.2.2.1, v.2.2.2.2.2.1, v.2.2.2.2.2.2.1, v.2.2.2.2.2.2.2.1, v.2.2.2.2.2.2.2.2.1 ++ [r23.1], ())
   else none
   else none
   else none
   else none
   else none
  else
  some (v.1, v.2.1, v.2.2.1, v.2.2.2.2.1, v.2.2.2.2.2.1, v.2.2.2.2.2.2.1, v.2.2.2.2.2.2.2.1, v.2.2.2.2.2.2.2.2.1, ())
  else none
  else none
def zxk (N : Nat) : Nat → (tyq1 × ((List tyq2) × (Int × ((List Int) × (tyq6 × tyq7))))) → Option (tyq1 × ((List Int) × (tyq6 × tyq7)))
 | 0, _ => none
 | n + 1, v =>
  let y18 := decide (v.2.2.1 < (v.1.2.2.2.2.2.2.2.2.1.length : Int))
  bif y18 then
   (zxl N N (v.1, v.2.1, v.2.2.1, (0 : Int), v.2.2.2.1, v.2.2.2.2.1, v.2.2.2.2.2.1, v.2.2.2.2.2.2.1, ([] : (List Int)), ())).bind fun o24 =>
   bif decide (o24.2.2.2.2.2.1.length + [o24.2.2.2.2.2.2.2.1].length ≤ lim) then
   let y25 := o24.2.2.2.2.2.1 ++ [o24.2.2.2.2.2.2.2.1]
   zxk N n (o24.1, o24.2.1, w64 (o24.2.2.1 + (1 : Int)), o24.2.2.2.1, o24.2.2.2.2.1, y25, o24.2.2.2.2.2.2.1, ())
   else none
  else
  some (v.1, v.2.2.2.1, v.2.2.2.2.1, v.2.2.2.2.2.1, v.2.2.2.2.2.2.1, ())
def zxm (N : Nat) : Nat → (tyq1 × (Int × ((List Int) × (tyq6 × tyq7)))) → Option (tyq6 × tyq7)
 | 0, _ => none
 | n + 1, v =>
  let y27 := (v.1.2.2.2.2.2.2.2.2.2.2.1.length : Int)
  bif decide (v.2.1 < y27) then
   bif decide (0 ≤ v.2.1) then
   bif decide (v.2.1.toNat < v.1.2.2.2.2.2.2.2.2.2.2.1.length) then
   let y28 := v.1.2.2.2.2.2.2.2.2.2.2.1.getD v.2.1.toNat (0 : Int)
   (zty N (v.2.2.1, y28, ())).bind fun r29 =>
   bif decide (v.2.2.2.2.2.1.length + [r29.1].length ≤ lim) then
   zxm N n (v.1, w64 (v.2.1 + (1 : Int)), v.2.2.1, v.2.2.2.1, v.2.2.2.2.1, v.2.2.2.2.2.1 ++ [r29.1], ())
   else none
   else none
   else none
  else
  some (v.2.2.2.1, v.2.2.2.2.1, v.2.2.2.2.2.1, ())
def FsStateGraph (N : Nat) (x : (tyq1 × Unit)) : Option (Bool × (tyq6 × tyq7)) :=
 (FsFullLive N (x.1, ())).bind fun r1 =>
 bif !r1.1 then
  let y2 := ([] : tyq6)
  some (false, y2, ([] : (List (List Int))), ([] : (List Int)), ())
 else
 (zoe N (x.1, ())).bind fun r3 =>
 let y4 := ([] : tyq6)
 (zxi N N (x.1, r3.2.1, (0 : Int), r1.2.1, y4, ([] : (List (List Int))), ([] : (List Int)), ())).bind fun o17 =>
 (zxk N N (o17.1, o17.2.1, (0 : Int), o17.2.2.1, o17.2.2.2.1, o17.2.2.2.2.1, o17.2.2.2.2.2.1, ())).bind fun o26 =>
 (zxm N N (o26.1, (0 : Int), o26.2.1, o26.2.2.1, o26.2.2.2.1, o26.2.2.2.2.1, ())).bind fun o30 =>
 some (true, o30.1, o30.2.1, o30.2.2.1, ())
def consStateGraph (N : Nat) : Con := { f := 5, din := dinsStateGraph, outs := outsStateGraph, F := FsStateGraph N }
def zs2 (N : Nat) : Ctx := { E := EsStateGraph N, H := HsStateGraph, lp := [(2, { hd := zra, outs := osStateGraph_2, run := fun v => zxj N N v }), (0, { hd := zr0, outs := osStateGraph_0, run := fun v => zxi N N v }), (6, { hd := zrc, outs := osStateGraph_6, run := fun v => zxl N N v }), (4, { hd := zrb, outs := osStateGraph_4, run := fun v => zxk N N v }), (8, { hd := zrd, outs := osStateGraph_8, run := fun v => zxm N N v })], jn := [] }
def bsStateGraph_8 : Code := zzv (zzy Tryz.f5) 2
def bsStateGraph_4 : Code := zzv (zzy Tryz.f5) 1
def bsStateGraph_6 : Code := zzv bsStateGraph_4 0
def bsStateGraph_0 : Code := zzv (zzy Tryz.f5) 0
def bsStateGraph_2 : Code := zzv bsStateGraph_0 0
theorem FsStateGraph_eq (N : Nat) (x : (tyq1 × Unit)) : evFn (zs2 N) Tryz.f5 dinsStateGraph outsStateGraph x = FsStateGraph N x := by kernel_rfl
theorem lsStateGraph_2_eq (N n : Nat) (v : (tyq1 × ((List tyq2) × (Int × (Int × ((List Int) × (tyq6 × ((List (List Int)) × ((List Int) × (Int × (Int × (Int × (Int × ((List Int) × ((List Int) × ((List Int) × ((List Int) × Unit))))))))))))))))) : zxj N (n + 1) v = ev (zs2 N) bsStateGraph_2 (zzd zra osStateGraph_2 (zxj N n)) (zra.mk' v) := by kernel_rfl
theorem lsStateGraph_0_eq (N n : Nat) (v : (tyq1 × ((List tyq2) × (Int × ((List Int) × (tyq6 × tyq7)))))) : zxi N (n + 1) v = ev (zs2 N) bsStateGraph_0 (zzd zr0 osStateGraph_0 (zxi N n)) (zr0.mk' v) := by kernel_rfl
theorem lsStateGraph_6_eq (N n : Nat) (v : (tyq1 × ((List tyq2) × (Int × (Int × ((List Int) × (tyq6 × ((List (List Int)) × ((List Int) × ((List Int) × Unit)))))))))) : zxl N (n + 1) v = ev (zs2 N) bsStateGraph_6 (zzd zrc osStateGraph_6 (zxl N n)) (zrc.mk' v) := by kernel_rfl
theorem lsStateGraph_4_eq (N n : Nat) (v : (tyq1 × ((List tyq2) × (Int × ((List Int) × (tyq6 × tyq7)))))) : zxk N (n + 1) v = ev (zs2 N) bsStateGraph_4 (zzd zrb osStateGraph_4 (zxk N n)) (zrb.mk' v) := by kernel_rfl
theorem lsStateGraph_8_eq (N n : Nat) (v : (tyq1 × (Int × ((List Int) × (tyq6 × tyq7))))) : zxm N (n + 1) v = ev (zs2 N) bsStateGraph_8 (zzd zrd osStateGraph_8 (zxm N n)) (zrd.mk' v) := by kernel_rfl
theorem zrs (N : Nat) : CtxOk Tryz.prog (zs2 N) := ⟨⟨TE_ok, List.forall_mem_cons.2 ⟨(specsFullLive N), List.forall_mem_cons.2 ⟨(specsl6Things N), List.forall_mem_cons.2 ⟨(specsl6Find N), List.forall_mem_cons.2 ⟨(specsl5Ints N), List.forall_mem_cons.2 ⟨(specsl6Now N), List.forall_mem_cons.2 ⟨(specsl5Place N), fun k hk => absurd hk List.not_mem_nil⟩⟩⟩⟩⟩⟩⟩, mixed⟩
theorem lpsStateGraph_2 (N : Nat) : zzl Tryz.prog { hd := zra, outs := osStateGraph_2, run := fun v => zxj N N v } bsStateGraph_2 :=
 zzx (d := zra) (os := osStateGraph_2) (zrs N) (zzz (ids := []) (by kernel_rfl) (trivial)) (zxj N) (fun _ => rfl) (fun n v => lsStateGraph_2_eq N n v) (fun _ => N)
theorem lpsStateGraph_0 (N : Nat) : zzl Tryz.prog { hd := zr0, outs := osStateGraph_0, run := fun v => zxi N N v } bsStateGraph_0 :=
 zzx (d := zr0) (os := osStateGraph_0) (zrs N) (zzz (ids := [2]) (by kernel_rfl) ⟨lp_of (lpsStateGraph_2 N), trivial⟩) (zxi N) (fun _ => rfl) (fun n v => lsStateGraph_0_eq N n v) (fun _ => N)
theorem lpsStateGraph_6 (N : Nat) : zzl Tryz.prog { hd := zrc, outs := osStateGraph_6, run := fun v => zxl N N v } bsStateGraph_6 :=
 zzx (d := zrc) (os := osStateGraph_6) (zrs N) (zzz (ids := []) (by kernel_rfl) (trivial)) (zxl N) (fun _ => rfl) (fun n v => lsStateGraph_6_eq N n v) (fun _ => N)
theorem lpsStateGraph_4 (N : Nat) : zzl Tryz.prog { hd := zrb, outs := osStateGraph_4, run := fun v => zxk N N v } bsStateGraph_4 :=
 zzx (d := zrb) (os := osStateGraph_4) (zrs N) (zzz (ids := [6]) (by kernel_rfl) ⟨lp_of (lpsStateGraph_6 N), trivial⟩) (zxk N) (fun _ => rfl) (fun n v => lsStateGraph_4_eq N n v) (fun _ => N)
theorem lpsStateGraph_8 (N : Nat) : zzl Tryz.prog { hd := zrd, outs := osStateGraph_8, run := fun v => zxm N N v } bsStateGraph_8 :=
 zzx (d := zrd) (os := osStateGraph_8) (zrs N) (zzz (ids := []) (by kernel_rfl) (trivial)) (zxm N) (fun _ => rfl) (fun n v => lsStateGraph_8_eq N n v) (fun _ => N)
theorem specsStateGraph (N : Nat) : Spec Tryz.prog (consStateGraph N) :=
 Spec.of_eq (zzu (zrs N) (f := 5) (fn := Tryz.f5) (c := zzy Tryz.f5) (by kernel_rfl) (by kernel_rfl) (by kernel_rfl) (zzz (ids := [0, 4, 8]) (by kernel_rfl) ⟨lp_of (lpsStateGraph_0 N), ⟨lp_of (lpsStateGraph_4 N), ⟨lp_of (lpsStateGraph_8 N), trivial⟩⟩⟩) (by kernel_rfl)) (fun x r h => (FsStateGraph_eq N x).trans h)
def diniWordsOk : Desc := { n := 1, regs := [.one (.val (.sl (.int .i64)))], bx := [], pins := [] }
def outiWordsOk : Outs := [(.ret, { n := 1, regs := [.one (.val .bool)], bx := [], pins := [] })]
def HiWordsOk : Hints := []
def EiWordsOk (_N : Nat) : Env := { te := TE, cs := [] }
def FiWordsOk (N : Nat) (x : ((List Int) × Unit)) : Option (Bool × Unit) :=
 bif decide ((16 : Int) = 0) then
  none
 else
 let y1 := Int.tmod (x.1.length : Int) (16 : Int)
 bif y1 == (0 : Int) then
  let y2 := decide ((x.1.length : Int) ≥ (32 : Int))
  bif y2 then
   let y3 := decide ((x.1.length : Int) ≤ (192 : Int))
   some (y3, ())
  else
  some (false, ())
 else
 some (false, ())
def coniWordsOk (N : Nat) : Con := { f := 83, din := diniWordsOk, outs := outiWordsOk, F := FiWordsOk N }
def XiWordsOk (N : Nat) : Ctx := { E := EiWordsOk N, H := HiWordsOk, lp := [], jn := [] }
theorem FiWordsOk_eq (N : Nat) (x : ((List Int) × Unit)) : evFn (XiWordsOk N) Tryz.f83 diniWordsOk outiWordsOk x = FiWordsOk N x := by kernel_rfl
theorem cxiWordsOk (N : Nat) : CtxOk Tryz.prog (XiWordsOk N) := ⟨⟨TE_ok, fun k hk => absurd hk List.not_mem_nil⟩, mixed⟩
theorem speciWordsOk (N : Nat) : Spec Tryz.prog (coniWordsOk N) :=
 Spec.of_eq (zzu (cxiWordsOk N) (f := 83) (fn := Tryz.f83) (c := zzy Tryz.f83) (by kernel_rfl) (by kernel_rfl) (by kernel_rfl) (zzz (ids := []) (by kernel_rfl) (trivial)) (by kernel_rfl)) (fun x r h => (FiWordsOk_eq N x).trans h)
def diniedge : Desc := { n := 0, regs := [], bx := [], pins := [] }
def outiedge : Outs := [(.ret, { n := 1, regs := [.agg [.val (.int .i64), .val (.int .i64), .val (.int .i64), .val (.int .i64), .val (.int .i64)]], bx := [], pins := [] })]
def Hiedge : Hints := []
def Eiedge (_N : Nat) : Env := { te := TE, cs := [] }
def Fiedge (N : Nat) (x : Unit) : Option tyq3 :=
 some ((0 : Int), (-1 : Int), (0 : Int), (0 : Int), (0 : Int), ())
def coniedge (N : Nat) : Con := { f := 99, din := diniedge, outs := outiedge, F := Fiedge N }
def Xiedge (N : Nat) : Ctx := { E := Eiedge N, H := Hiedge, lp := [], jn := [] }
theorem Fiedge_eq (N : Nat) (x : Unit) : evFn (Xiedge N) Tryz.f99 diniedge outiedge x = Fiedge N x := by kernel_rfl
theorem cxiedge (N : Nat) : CtxOk Tryz.prog (Xiedge N) := ⟨⟨TE_ok, fun k hk => absurd hk List.not_mem_nil⟩, mixed⟩
theorem speciedge (N : Nat) : Spec Tryz.prog (coniedge N) :=
 Spec.of_eq (zzu (cxiedge N) (f := 99) (fn := Tryz.f99) (c := zzy Tryz.f99) (by kernel_rfl) (by kernel_rfl) (by kernel_rfl) (zzz (ids := []) (by kernel_rfl) (trivial)) (by kernel_rfl)) (fun x r h => (Fiedge_eq N x).trans h)
def diniRegionBase : Desc := { n := 1, regs := [.one (.val (.int .i64))], bx := [], pins := [] }
def outiRegionBase : Outs := [(.ret, { n := 1, regs := [.one (.val (.int .i64))], bx := [], pins := [] })]
def HiRegionBase : Hints := []
def EiRegionBase (_N : Nat) : Env := { te := TE, cs := [] }
def ztt (N : Nat) (x : (Int × Unit)) : Option (Int × Unit) :=
 bif decide (x.1 < (0 : Int)) then
  some ((0 : Int), ())
 else
 bif decide (x.1 ≥ (12 : Int)) then
  some ((0 : Int), ())
 else
 some (w64 (x.1 * (16 : Int)), ())
def coniRegionBase (N : Nat) : Con := { f := 85, din := diniRegionBase, outs := outiRegionBase, F := ztt N }
def XiRegionBase (N : Nat) : Ctx := { E := EiRegionBase N, H := HiRegionBase, lp := [], jn := [] }
theorem FiRegionBase_eq (N : Nat) (x : (Int × Unit)) : evFn (XiRegionBase N) Tryz.f85 diniRegionBase outiRegionBase x = ztt N x := by kernel_rfl
theorem cxiRegionBase (N : Nat) : CtxOk Tryz.prog (XiRegionBase N) := ⟨⟨TE_ok, fun k hk => absurd hk List.not_mem_nil⟩, mixed⟩
theorem speciRegionBase (N : Nat) : Spec Tryz.prog (coniRegionBase N) :=
 Spec.of_eq (zzu (cxiRegionBase N) (f := 85) (fn := Tryz.f85) (c := zzy Tryz.f85) (by kernel_rfl) (by kernel_rfl) (by kernel_rfl) (zzz (ids := []) (by kernel_rfl) (trivial)) (by kernel_rfl)) (fun x r h => (FiRegionBase_eq N x).trans h)
def diniRegion_ok : Desc := { n := 2, regs := [.one (.val tyq12), .one (.val (.int .i64))], bx := [], pins := [] }
def outiRegion_ok : Outs := [(.ret, { n := 1, regs := [.one (.val .bool)], bx := [], pins := [] })]
def HiRegion_ok : Hints := [(0, [(0, { fz := true })])]
def EiRegion_ok (N : Nat) : Env := { te := TE, cs := [coniRegionBase N] }
def jiRegion_ok_4 : Outs := [(.normal, { n := 79, regs := [u, u, .one (.fpt tyq12), u, u, .one (.val (.int .i64))], bx := [], pins := [] }), (.ret, { n := 79, regs := [u, u, u, u, .one (.val .bool)], bx := [], pins := [] })]
def jiRegion_ok_6 : Outs := [(.normal, { n := 79, regs := [u, u, .one (.fpt tyq12)], bx := [], pins := [] }), (.ret, { n := 79, regs := [u, u, u, u, .one (.val .bool)], bx := [], pins := [] })]
def FiRegion_ok (N : Nat) (x : (tyq3 × (Int × Unit))) : Option (Bool × Unit) :=
 (ztt N (x.2.1, ())).bind fun r1 =>
 Option.bind (
  bif decide (x.1.1 < (1 : Int)) then
   some (.inr ((false, ())))
  else
  bif decide (x.1.1 > (4 : Int)) then
   some (.inr ((false, ())))
  else
  bif decide (x.1.2.2.1 < r1.1) then
   some (.inr ((false, ())))
  else
  let y2 := decide (x.1.2.2.1 > (w64 (r1.1 + (16 : Int))))
  bif y2 then
   some (.inr ((false, ())))
  else
  bif decide (x.1.2.2.2.1 < r1.1) then
   some (.inr ((false, ())))
  else
  bif decide (x.1.2.2.2.1 > x.1.2.2.1) then
   some (.inr ((false, ())))
  else
  bif decide (x.1.2.2.2.2.1 < (0 : Int)) then
   some (.inr ((false, ())))
  else
  let y3 := decide (x.1.2.2.2.2.1 > (w64 (x.1.2.2.1 - r1.1)))
  bif y3 then
   some (.inr ((false, ())))
  else
  some (.inl (x.1, r1.1, ()))) fun o4 =>
 Sum.elim (fun o5 =>
  Option.bind (
   bif o5.1.1 == (1 : Int) then
    bif o5.1.2.2.1 != o5.2.1 then
     some (.inr ((false, ())))
    else
    some (.inl (o5.1, ()))
   else
   some (.inl (o5.1, ()))) fun o6 =>
  Sum.elim (fun o7 =>
   bif o7.1.1 == (2 : Int) then
    bif decide (o7.1.2.1 ≥ (0 : Int)) then
     some (decide (o7.1.2.1 ≤ (3 : Int)), ())
    else
    some (false, ())
   else
   some (o7.1.2.1 == (-1 : Int), ())) (fun o8 =>
   some (o8.1, ())) o6) (fun o9 =>
  some (o9.1, ())) o4
def coniRegion_ok (N : Nat) : Con := { f := 100, din := diniRegion_ok, outs := outiRegion_ok, F := FiRegion_ok N }
def XiRegion_ok (N : Nat) : Ctx := { E := EiRegion_ok N, H := HiRegion_ok, lp := [], jn := [(4, jiRegion_ok_4), (6, jiRegion_ok_6)] }
theorem FiRegion_ok_eq (N : Nat) (x : (tyq3 × (Int × Unit))) : evFn (XiRegion_ok N) Tryz.f100 diniRegion_ok outiRegion_ok x = FiRegion_ok N x := by kernel_rfl
theorem cxiRegion_ok (N : Nat) : CtxOk Tryz.prog (XiRegion_ok N) := ⟨⟨TE_ok, List.forall_mem_cons.2 ⟨(speciRegionBase N), fun k hk => absurd hk List.not_mem_nil⟩⟩, mixed⟩
theorem speciRegion_ok (N : Nat) : Spec Tryz.prog (coniRegion_ok N) :=
 Spec.of_eq (zzu (cxiRegion_ok N) (f := 100) (fn := Tryz.f100) (c := zzy Tryz.f100) (by kernel_rfl) (by kernel_rfl) (by kernel_rfl) (zzz (ids := []) (by kernel_rfl) (trivial)) (by kernel_rfl)) (fun x r h => (FiRegion_ok_eq N x).trans h)
def diniTableOk : Desc := { n := 1, regs := [.one (.val (.sl tyq12))], bx := [], pins := [] }
def outiTableOk : Outs := [(.ret, { n := 1, regs := [.one (.val .bool)], bx := [], pins := [] })]
def HiTableOk : Hints := [(8, [(2, { con := 1 })])]
def EiTableOk (N : Nat) : Env := { te := TE, cs := [coniedge N, coniRegion_ok N] }
def diTableOk_0 : Desc := { n := 50, regs := [u, u, u, .one (.lit (.mrow 1038400)), u, u, u, u, u, u, u, u, u, u, u, u, u, u, u, u, u, u, .one (.val (.sl tyq12)), .one (.val (.int .i64)), .one (.val (.int .i64))], bx := [(1038400, .mp .bool)], pins := [] }
def oiTableOk_0 : Outs := [(.exit 0, { n := 50, regs := [], bx := [], pins := [] }), (.ret, { n := 50, regs := [u, u, .one (.val .bool)], bx := [], pins := [] })]
def jiTableOk_3 : Outs := [(.normal, { n := 50, regs := [.one (.val (.sl tyq12))], bx := [], pins := [] }), (.ret, { n := 50, regs := [u, u, .one (.val .bool)], bx := [], pins := [] })]
def zy1 (N : Nat) : Nat → ((List tyq3) × (Int × (Int × ((List (Int × Bool)) × Unit)))) → Option (Unit ⊕ (Bool × Unit))
 | 0, _ => none
 | n + 1, v =>
  bif decide (v.2.2.1 < v.2.1) then
   bif decide (0 ≤ v.2.2.1) then
   bif decide (v.2.2.1.toNat < v.1.length) then
   let y8 := v.1.getD v.2.2.1.toNat ((0 : Int), (0 : Int), (0 : Int), (0 : Int), (0 : Int), ())
   bif v.2.2.1 == (0 : Int) then
    zy1 N n (v.1, v.2.1, w64 (v.2.2.1 + (1 : Int)), v.2.2.2.1, ())
   else
   (FiRegion_ok N ((y8.1, y8.2.1, y8.2.2.1, y8.2.2.2.1, y8.2.2.2.2.1, ()), v.2.2.1, ())).bind fun r9 =>
   bif !r9.1 then
    some (.inr ((false, ())))
   else
   bif decide (y8.2.1 ≥ (0 : Int)) then
    bif (mget v.2.2.2.1 y8.2.1).getD false then
     some (.inr ((false, ())))
    else
    zy1 N n (v.1, v.2.1, w64 (v.2.2.1 + (1 : Int)), mset v.2.2.2.1 y8.2.1 true, ())
   else
   zy1 N n (v.1, v.2.1, w64 (v.2.2.1 + (1 : Int)), mset v.2.2.2.1 y8.2.1 true, ())
   else none
   else none
  else
  some (.inl ())
def FiTableOk (N : Nat) (x : ((List tyq3) × Unit)) : Option (Bool × Unit) :=
 Option.bind (
  let y1 := decide ((x.1.length : Int) < (2 : Int))
  bif y1 then
   some (.inr ((false, ())))
  else
  let y2 := decide ((x.1.length : Int) > (12 : Int))
  bif y2 then
   some (.inr ((false, ())))
  else
  bif decide (0 ≤ (0 : Int)) then
  bif decide ((0 : Int).toNat < x.1.length) then
  let y3 := x.1.getD ((0 : Int).toNat) ((0 : Int), (0 : Int), (0 : Int), (0 : Int), (0 : Int), ())
  (Fiedge N ()).bind fun r4 =>
  let y5 := !((y3.1 == r4.1) && ((y3.2.1 == r4.2.1) && ((y3.2.2.1 == r4.2.2.1) && ((y3.2.2.2.1 == r4.2.2.2.1) && ((y3.2.2.2.2.1 == r4.2.2.2.2.1) && (true))))))
  bif y5 then
   some (.inr ((false, ())))
  else
  some (.inl (x.1, ()))
  else none
  else none) fun o6 =>
 Sum.elim (fun o7 =>
  (zy1 N N (o7.1, (o7.1.length : Int), (0 : Int), ([] : (List (Int × Bool))), ())).bind fun o10 =>
  Sum.elim (fun o11 =>
   some (true, ())) (fun o12 =>
   some (o12.1, ())) o10) (fun o13 =>
  some (o13.1, ())) o6
def coniTableOk (N : Nat) : Con := { f := 84, din := diniTableOk, outs := outiTableOk, F := FiTableOk N }
def XiTableOk (N : Nat) : Ctx := { E := EiTableOk N, H := HiTableOk, lp := [(0, { hd := diTableOk_0, outs := oiTableOk_0, run := fun v => zy1 N N v })], jn := [(3, jiTableOk_3)] }
def biTableOk_0 : Code := zzv (zzy Tryz.f84) 0
theorem FiTableOk_eq (N : Nat) (x : ((List tyq3) × Unit)) : evFn (XiTableOk N) Tryz.f84 diniTableOk outiTableOk x = FiTableOk N x := by kernel_rfl
theorem liTableOk_0_eq (N n : Nat) (v : ((List tyq3) × (Int × (Int × ((List (Int × Bool)) × Unit))))) : zy1 N (n + 1) v = ev (XiTableOk N) biTableOk_0 (zzd diTableOk_0 oiTableOk_0 (zy1 N n)) (diTableOk_0.mk' v) := by kernel_rfl
theorem cxiTableOk (N : Nat) : CtxOk Tryz.prog (XiTableOk N) := ⟨⟨TE_ok, List.forall_mem_cons.2 ⟨(speciedge N), List.forall_mem_cons.2 ⟨(speciRegion_ok N), fun k hk => absurd hk List.not_mem_nil⟩⟩⟩, mixed⟩
theorem lpiTableOk_0 (N : Nat) : zzl Tryz.prog { hd := diTableOk_0, outs := oiTableOk_0, run := fun v => zy1 N N v } biTableOk_0 :=
 zzx (d := diTableOk_0) (os := oiTableOk_0) (cxiTableOk N) (zzz (ids := []) (by kernel_rfl) (trivial)) (zy1 N) (fun _ => rfl) (fun n v => liTableOk_0_eq N n v) (fun _ => N)
theorem speciTableOk (N : Nat) : Spec Tryz.prog (coniTableOk N) :=
 Spec.of_eq (zzu (cxiTableOk N) (f := 84) (fn := Tryz.f84) (c := zzy Tryz.f84) (by kernel_rfl) (by kernel_rfl) (by kernel_rfl) (zzz (ids := [0]) (by kernel_rfl) ⟨lp_of (lpiTableOk_0 N), trivial⟩) (by kernel_rfl)) (fun x r h => (FiTableOk_eq N x).trans h)
def diniState_whole : Desc := { n := 1, regs := [.one (.val tyq10)], bx := [], pins := [] }
def outiState_whole : Outs := [(.ret, { n := 1, regs := [.one (.val .bool)], bx := [], pins := [] })]
def HiState_whole : Hints := [(0, [(0, { fz := true })]),
 (1, [(6, { con := 1 })])]
def EiState_whole (N : Nat) : Env := { te := TE, cs := [coniWordsOk N, coniTableOk N] }
def zoy (N : Nat) (x : (tyq1 × Unit)) : Option (Bool × Unit) :=
 (FiWordsOk N (x.1.1, ())).bind fun r1 =>
 bif r1.1 then
  (FiTableOk N (x.1.2.1, ())).bind fun r2 =>
  bif r2.1 then
   bif decide ((16 : Int) = 0) then
    none
   else
   let y3 := w64 (Int.tdiv (x.1.1.length : Int) (16 : Int))
   bif (x.1.2.1.length : Int) == y3 then
    let y4 := (x.1.2.2.1.length : Int) == (x.1.1.length : Int)
    some (y4, ())
   else
   some (false, ())
  else
  some (false, ())
 else
 some (false, ())
def coniState_whole (N : Nat) : Con := { f := 72, din := diniState_whole, outs := outiState_whole, F := zoy N }
def XiState_whole (N : Nat) : Ctx := { E := EiState_whole N, H := HiState_whole, lp := [], jn := [] }
theorem FiState_whole_eq (N : Nat) (x : (tyq1 × Unit)) : evFn (XiState_whole N) Tryz.f72 diniState_whole outiState_whole x = zoy N x := by kernel_rfl
theorem cxiState_whole (N : Nat) : CtxOk Tryz.prog (XiState_whole N) := ⟨⟨TE_ok, List.forall_mem_cons.2 ⟨(speciWordsOk N), List.forall_mem_cons.2 ⟨(speciTableOk N), fun k hk => absurd hk List.not_mem_nil⟩⟩⟩, mixed⟩
theorem speciState_whole (N : Nat) : Spec Tryz.prog (coniState_whole N) :=
 Spec.of_eq (zzu (cxiState_whole N) (f := 72) (fn := Tryz.f72) (c := zzy Tryz.f72) (by kernel_rfl) (by kernel_rfl) (by kernel_rfl) (zzz (ids := []) (by kernel_rfl) (trivial)) (by kernel_rfl)) (fun x r h => (FiState_whole_eq N x).trans h)
def dinifits : Desc := { n := 3, regs := [.one (.val (.sl (.int .i64))), .one (.val (.int .i64)), .one (.val (.int .i64))], bx := [], pins := [] }
def outifits : Outs := [(.ret, { n := 1, regs := [.one (.val .bool)], bx := [], pins := [] })]
def Hifits : Hints := []
def Eifits (N : Nat) : Env := { te := TE, cs := [coniWordsOk N] }
def Fifits (N : Nat) (x : ((List Int) × (Int × (Int × Unit)))) : Option (Bool × Unit) :=
 (FiWordsOk N (x.1, ())).bind fun r1 =>
 bif r1.1 then
  bif decide (x.2.1 ≥ (16 : Int)) then
   bif decide (x.2.1 < (x.1.length : Int)) then
    bif decide ((16 : Int) = 0) then
     none
    else
    let y2 := w64 ((Int.tmod x.2.1 (16 : Int)) + x.2.2.1)
    some (decide (y2 ≤ (16 : Int)), ())
   else
   some (false, ())
  else
  some (false, ())
 else
 some (false, ())
def conifits (N : Nat) : Con := { f := 101, din := dinifits, outs := outifits, F := Fifits N }
def Xifits (N : Nat) : Ctx := { E := Eifits N, H := Hifits, lp := [], jn := [] }
theorem Fifits_eq (N : Nat) (x : ((List Int) × (Int × (Int × Unit)))) : evFn (Xifits N) Tryz.f101 dinifits outifits x = Fifits N x := by kernel_rfl
theorem cxifits (N : Nat) : CtxOk Tryz.prog (Xifits N) := ⟨⟨TE_ok, List.forall_mem_cons.2 ⟨(speciWordsOk N), fun k hk => absurd hk List.not_mem_nil⟩⟩, mixed⟩
theorem specifits (N : Nat) : Spec Tryz.prog (conifits N) :=
 Spec.of_eq (zzu (cxifits N) (f := 101) (fn := Tryz.f101) (c := zzy Tryz.f101) (by kernel_rfl) (by kernel_rfl) (by kernel_rfl) (zzz (ids := []) (by kernel_rfl) (trivial)) (by kernel_rfl)) (fun x r h => (Fifits_eq N x).trans h)
def diniShapeOk : Desc := { n := 1, regs := [.one (.val (.pair (.int .i64) (.pair (.int .i64) .unit)))], bx := [], pins := [] }
def outiShapeOk : Outs := [(.ret, { n := 1, regs := [.one (.val .bool)], bx := [], pins := [] })]
def HiShapeOk : Hints := [(0, [(0, { fz := true })])]
def EiShapeOk (_N : Nat) : Env := { te := TE, cs := [] }
def FiShapeOk (N : Nat) (x : ((Int × (Int × Unit)) × Unit)) : Option (Bool × Unit) :=
 bif decide (x.1.1 ≥ (0 : Int)) then
  bif decide (x.1.1 ≤ (4 : Int)) then
   bif decide (x.1.2.1 ≥ (0 : Int)) then
    some (decide (x.1.2.1 ≤ (4 : Int)), ())
   else
   some (false, ())
  else
  some (false, ())
 else
 some (false, ())
def coniShapeOk (N : Nat) : Con := { f := 109, din := diniShapeOk, outs := outiShapeOk, F := FiShapeOk N }
def XiShapeOk (N : Nat) : Ctx := { E := EiShapeOk N, H := HiShapeOk, lp := [], jn := [] }
theorem FiShapeOk_eq (N : Nat) (x : ((Int × (Int × Unit)) × Unit)) : evFn (XiShapeOk N) Tryz.f109 diniShapeOk outiShapeOk x = FiShapeOk N x := by kernel_rfl
theorem cxiShapeOk (N : Nat) : CtxOk Tryz.prog (XiShapeOk N) := ⟨⟨TE_ok, fun k hk => absurd hk List.not_mem_nil⟩, mixed⟩
theorem speciShapeOk (N : Nat) : Spec Tryz.prog (coniShapeOk N) :=
 Spec.of_eq (zzu (cxiShapeOk N) (f := 109) (fn := Tryz.f109) (c := zzy Tryz.f109) (by kernel_rfl) (by kernel_rfl) (by kernel_rfl) (zzz (ids := []) (by kernel_rfl) (trivial)) (by kernel_rfl)) (fun x r h => (FiShapeOk_eq N x).trans h)
def diniShapeOf : Desc := { n := 1, regs := [.one (.val (.int .i64))], bx := [], pins := [] }
def outiShapeOf : Outs := [(.ret, { n := 2, regs := [.agg [.val (.int .i64), .val (.int .i64)], .one (.val .bool)], bx := [], pins := [] })]
def HiShapeOf : Hints := []
def EiShapeOf (N : Nat) : Env := { te := TE, cs := [coniShapeOk N] }
def FiShapeOf (N : Nat) (x : (Int × Unit)) : Option (Int × (Int × (Bool × Unit))) :=
 bif decide (x.1 < (0 : Int)) then
  some ((0 : Int), (0 : Int), false, ())
 else
 bif decide ((16 : Int) = 0) then
  none
 else
 bif decide ((16 : Int) = 0) then
  none
 else
 (FiShapeOk N ((w64 (Int.tdiv x.1 (16 : Int)), Int.tmod x.1 (16 : Int), ()), ())).bind fun r1 =>
 bif !r1.1 then
  some ((0 : Int), (0 : Int), false, ())
 else
 some (w64 (Int.tdiv x.1 (16 : Int)), Int.tmod x.1 (16 : Int), true, ())
def coniShapeOf (N : Nat) : Con := { f := 102, din := diniShapeOf, outs := outiShapeOf, F := FiShapeOf N }
def XiShapeOf (N : Nat) : Ctx := { E := EiShapeOf N, H := HiShapeOf, lp := [], jn := [] }
theorem FiShapeOf_eq (N : Nat) (x : (Int × Unit)) : evFn (XiShapeOf N) Tryz.f102 diniShapeOf outiShapeOf x = FiShapeOf N x := by kernel_rfl
theorem cxiShapeOf (N : Nat) : CtxOk Tryz.prog (XiShapeOf N) := ⟨⟨TE_ok, List.forall_mem_cons.2 ⟨(speciShapeOk N), fun k hk => absurd hk List.not_mem_nil⟩⟩, mixed⟩
theorem speciShapeOf (N : Nat) : Spec Tryz.prog (coniShapeOf N) :=
 Spec.of_eq (zzu (cxiShapeOf N) (f := 102) (fn := Tryz.f102) (c := zzy Tryz.f102) (by kernel_rfl) (by kernel_rfl) (by kernel_rfl) (zzz (ids := []) (by kernel_rfl) (trivial)) (by kernel_rfl)) (fun x r h => (FiShapeOf_eq N x).trans h)
def diniShapeSize : Desc := { n := 1, regs := [.one (.val (.pair (.int .i64) (.pair (.int .i64) .unit)))], bx := [], pins := [] }
def outiShapeSize : Outs := [(.ret, { n := 1, regs := [.one (.val (.int .i64))], bx := [], pins := [] })]
def HiShapeSize : Hints := [(0, [(0, { fz := true })])]
def EiShapeSize (N : Nat) : Env := { te := TE, cs := [coniShapeOk N] }
def FiShapeSize (N : Nat) (x : ((Int × (Int × Unit)) × Unit)) : Option (Int × Unit) :=
 (FiShapeOk N (x.1, ())).bind fun r1 =>
 bif !r1.1 then
  some ((0 : Int), ())
 else
 let y2 := w64 ((w64 ((2 : Int) + x.1.1)) + x.1.2.1)
 some (y2, ())
def coniShapeSize (N : Nat) : Con := { f := 103, din := diniShapeSize, outs := outiShapeSize, F := FiShapeSize N }
def XiShapeSize (N : Nat) : Ctx := { E := EiShapeSize N, H := HiShapeSize, lp := [], jn := [] }
theorem FiShapeSize_eq (N : Nat) (x : ((Int × (Int × Unit)) × Unit)) : evFn (XiShapeSize N) Tryz.f103 diniShapeSize outiShapeSize x = FiShapeSize N x := by kernel_rfl
theorem cxiShapeSize (N : Nat) : CtxOk Tryz.prog (XiShapeSize N) := ⟨⟨TE_ok, List.forall_mem_cons.2 ⟨(speciShapeOk N), fun k hk => absurd hk List.not_mem_nil⟩⟩, mixed⟩
theorem speciShapeSize (N : Nat) : Spec Tryz.prog (coniShapeSize N) :=
 Spec.of_eq (zzu (cxiShapeSize N) (f := 103) (fn := Tryz.f103) (c := zzy Tryz.f103) (by kernel_rfl) (by kernel_rfl) (by kernel_rfl) (zzz (ids := []) (by kernel_rfl) (trivial)) (by kernel_rfl)) (fun x r h => (FiShapeSize_eq N x).trans h)
def dinkClone_Sint_int : Desc := { n := 1, regs := [.one (.val (.sl (.int .i64)))], bx := [], pins := [] }
def outkClone_Sint_int : Outs := [(.ret, { n := 1, regs := [.one (.lit (.row 1025600))], bx := [(1025600, .row (.int .i64))], pins := [] })]
def HkClone_Sint_int : Hints := [(2, [(0, { nl := [(0, (.int .i64))] })])]
def EkClone_Sint_int (_N : Nat) : Env := { te := TE, cs := [] }
def zxx (N : Nat) (x : ((List Int) × Unit)) : Option ((List Int) × Unit) :=
 bif x.1.isEmpty then
  anyOf (2) fun i1 =>
   bif bif i1 == 0 then false else true then
    some (([] : (List Int)), ())
   else
   bif decide (([] : (List Int)).length + x.1.length ≤ lim) then
   some (([] : (List Int)) ++ x.1, ())
   else none
 else
 bif decide (([] : (List Int)).length + x.1.length ≤ lim) then
 some (([] : (List Int)) ++ x.1, ())
 else none
def zuj (N : Nat) : Con := { f := 30, din := dinkClone_Sint_int, outs := outkClone_Sint_int, F := zxx N }
def XkClone_Sint_int (N : Nat) : Ctx := { E := EkClone_Sint_int N, H := HkClone_Sint_int, lp := [], jn := [] }
theorem FkClone_Sint_int_eq (N : Nat) (x : ((List Int) × Unit)) : evFn (XkClone_Sint_int N) Tryz.f30 dinkClone_Sint_int outkClone_Sint_int x = zxx N x := by kernel_rfl
theorem cxkClone_Sint_int (N : Nat) : CtxOk Tryz.prog (XkClone_Sint_int N) := ⟨⟨TE_ok, fun k hk => absurd hk List.not_mem_nil⟩, mixed⟩
theorem ztq (N : Nat) : Spec Tryz.prog (zuj N) :=
 Spec.of_eq (zzu (cxkClone_Sint_int N) (f := 30) (fn := Tryz.f30) (c := zzy Tryz.f30) (by kernel_rfl) (by kernel_rfl) (by kernel_rfl) (zzz (ids := []) (by kernel_rfl) (trivial)) (by kernel_rfl)) (fun x r h => (FkClone_Sint_int_eq N x).trans h)
def diniThingAt_r_ : Desc := { n := 2, regs := [.one (.val (.sl (.int .i64))), .one (.val (.int .i64))], bx := [], pins := [] }
def outiThingAt_r_ : Outs := [(.ret, { n := 2, regs := [.agg [.val (.int .i64), .val (.int .i64), .val (.int .i64), .val (.int .i64), .val (.sl (.int .i64)), .val (.sl (.int .i64))], .one (.val .bool)], bx := [], pins := [] })]
def HiThingAt_r_ : Hints := [(3, [(5, { con := 1 })]),
 (4, [(6, { con := 2 })]),
 (8, [(10, { con := 3 }), (18, { con := 3 })])]
def EiThingAt_r_ (N : Nat) : Env := { te := TE, cs := [conifits N, coniShapeOf N, coniShapeSize N, zuj N] }
def jiThingAt_r__6 : Outs := [(.normal, { n := 61, regs := [.one (.val (.sl (.int .i64))), .one (.val (.int .i64)), u, u, .one (.lit (.ptr 1000000 0)), u, .one (.lit (.ptr 1038976 0))], bx := [(1000000, .var [.val (.int .i64), .val (.int .i64), .val (.int .i64), .val (.int .i64), .lit .nil, .lit .nil]), (1038976, .var [.val (.int .i64), .val (.int .i64)])], pins := [] }), (.ret, { n := 61, regs := [u, u, u, u, .one (.lit (.ptr 1000000 0)), .one (.val .bool)], bx := [(1000000, .var [.val (.int .i64), .val (.int .i64), .val (.int .i64), .val (.int .i64), .lit .nil, .lit .nil])], pins := [] })]
def FiThingAt_r_ (N : Nat) (x : ((List Int) × (Int × Unit))) : Option (Int × (Int × (Int × (Int × ((List Int) × ((List Int) × (Bool × Unit))))))) :=
 (Fifits N (x.1, x.2.1, (2 : Int), ())).bind fun r1 =>
 bif !r1.1 then
  some ((0 : Int), (0 : Int), (0 : Int), (0 : Int), ([] : (List Int)), ([] : (List Int)), false, ())
 else
 bif decide (0 ≤ (w64 (x.2.1 + (1 : Int)))) then
 bif decide ((w64 (x.2.1 + (1 : Int))).toNat < x.1.length) then
 let y2 := x.1.getD ((w64 (x.2.1 + (1 : Int))).toNat) (0 : Int)
 (FiShapeOf N (y2, ())).bind fun r3 =>
 Option.bind (
  bif !r3.2.2.1 then
   some (.inr ((false, (0 : Int), (0 : Int), (0 : Int), (0 : Int), ())))
  else
  (FiShapeSize N ((r3.1, r3.2.1, ()), ())).bind fun r4 =>
  (Fifits N (x.1, x.2.1, r4.1, ())).bind fun r5 =>
  bif !r5.1 then
   some (.inr ((false, (0 : Int), (0 : Int), (0 : Int), (0 : Int), ())))
  else
  some (.inl (x.1, x.2.1, (0 : Int), (0 : Int), (0 : Int), (0 : Int), r3.1, r3.2.1, ()))) fun o6 =>
 Sum.elim (fun o7 =>
  let y8 := w64 ((w64 (o7.2.1 + (2 : Int))) + o7.2.2.2.2.2.2.1)
  bif decide (0 ≤ o7.2.1) then
  bif decide (o7.2.1.toNat < o7.1.length) then
  bif decide (0 ≤ y8) then
  bif decide (y8 ≤ (o7.1.length : Int)) then
  bif decide (0 ≤ (w64 (o7.2.1 + (2 : Int)))) then
  bif decide ((w64 (o7.2.1 + (2 : Int))) ≤ y8) then
  let y9 := (o7.1.drop (w64 (o7.2.1 + (2 : Int))).toNat).take (y8.toNat - (w64 (o7.2.1 + (2 : Int))).toNat)
  (zxx N (y9, ())).bind fun r10 =>
  bif decide (0 ≤ (w64 (y8 + o7.2.2.2.2.2.2.2.1))) then
  bif decide ((w64 (y8 + o7.2.2.2.2.2.2.2.1)) ≤ (o7.1.length : Int)) then
  bif decide (0 ≤ y8) then
  bif decide (y8 ≤ (w64 (y8 + o7.2.2.2.2.2.2.2.1))) then
  let y11 := (o7.1.drop y8.toNat).take ((w64 (y8 + o7.2.2.2.2.2.2.2.1)).toNat - y8.toNat)
  (zxx N (y11, ())).bind fun r12 =>
  some (o7.2.1, o7.1.getD o7.2.1.toNat (0 : Int), o7.2.2.2.2.2.2.1, o7.2.2.2.2.2.2.2.1, r10.1, r12.1, true, ())
  else none
  else none
  else none
  else none
  else none
  else none
  else none
  else none
  else none
  else none) (fun o13 =>
  some (o13.2.1, o13.2.2.1, o13.2.2.2.1, o13.2.2.2.2.1, ([] : (List Int)), ([] : (List Int)), o13.1, ())) o6
 else none
 else none
def coniThingAt_r_ (N : Nat) : Con := { f := 86, din := diniThingAt_r_, outs := outiThingAt_r_, F := FiThingAt_r_ N }
def XiThingAt_r_ (N : Nat) : Ctx := { E := EiThingAt_r_ N, H := HiThingAt_r_, lp := [], jn := [(6, jiThingAt_r__6)] }
theorem FiThingAt_r__eq (N : Nat) (x : ((List Int) × (Int × Unit))) : evFn (XiThingAt_r_ N) Tryz.f86 diniThingAt_r_ outiThingAt_r_ x = FiThingAt_r_ N x := by kernel_rfl
theorem cxiThingAt_r_ (N : Nat) : CtxOk Tryz.prog (XiThingAt_r_ N) := ⟨⟨TE_ok, List.forall_mem_cons.2 ⟨(specifits N), List.forall_mem_cons.2 ⟨(speciShapeOf N), List.forall_mem_cons.2 ⟨(speciShapeSize N), List.forall_mem_cons.2 ⟨(ztq N), fun k hk => absurd hk List.not_mem_nil⟩⟩⟩⟩⟩, mixed⟩
theorem speciThingAt_r_ (N : Nat) : Spec Tryz.prog (coniThingAt_r_ N) :=
 Spec.of_eq (zzu (cxiThingAt_r_ N) (f := 86) (fn := Tryz.f86) (c := zzy Tryz.f86) (by kernel_rfl) (by kernel_rfl) (by kernel_rfl) (zzz (ids := []) (by kernel_rfl) (trivial)) (by kernel_rfl)) (fun x r h => (FiThingAt_r__eq N x).trans h)
def diniThing_size : Desc := { n := 1, regs := [.one (.val tyq11)], bx := [], pins := [] }
def outiThing_size : Outs := [(.ret, { n := 1, regs := [.one (.val (.int .i64))], bx := [], pins := [] })]
def HiThing_size : Hints := [(0, [(0, { fz := true })])]
def EiThing_size (N : Nat) : Env := { te := TE, cs := [coniShapeSize N] }
def zq7 (N : Nat) (x : (tyq2 × Unit)) : Option (Int × Unit) :=
 (FiShapeSize N (x.1.2.2.1, ())).bind fun r1 =>
 some (r1.1, ())
def coniThing_size (N : Nat) : Con := { f := 87, din := diniThing_size, outs := outiThing_size, F := zq7 N }
def XiThing_size (N : Nat) : Ctx := { E := EiThing_size N, H := HiThing_size, lp := [], jn := [] }
theorem FiThing_size_eq (N : Nat) (x : (tyq2 × Unit)) : evFn (XiThing_size N) Tryz.f87 diniThing_size outiThing_size x = zq7 N x := by kernel_rfl
theorem cxiThing_size (N : Nat) : CtxOk Tryz.prog (XiThing_size N) := ⟨⟨TE_ok, List.forall_mem_cons.2 ⟨(speciShapeSize N), fun k hk => absurd hk List.not_mem_nil⟩⟩, mixed⟩
theorem speciThing_size (N : Nat) : Spec Tryz.prog (coniThing_size N) :=
 Spec.of_eq (zzu (cxiThing_size N) (f := 87) (fn := Tryz.f87) (c := zzy Tryz.f87) (by kernel_rfl) (by kernel_rfl) (by kernel_rfl) (zzz (ids := []) (by kernel_rfl) (trivial)) (by kernel_rfl)) (fun x r h => (FiThing_size_eq N x).trans h)
def diniThingsIn : Desc := { n := 3, regs := [.one (.val (.sl (.int .i64))), .one (.val (.int .i64)), .one (.val (.int .i64))], bx := [], pins := [] }
def outiThingsIn : Outs := [(.ret, { n := 2, regs := [.one (.lit (.row 1038400)), .one (.val .bool)], bx := [(1038400, .row (.fz tyq11))], pins := [] })]
def HiThingsIn : Hints := [(1, [(17, { con := 1 }), (23, { con := 1 })]),
 (2, [(0, { nl := [(0, (.fz tyq11))] })]),
 (3, [(0, { nl := [(0, (.fz tyq11))] })]),
 (4, [(1, { con := 1 })]),
 (6, [(2, { con := 2 })]),
 (7, [(5, { con := 3 })]),
 (8, [(0, { nl := [(0, (.fz tyq11))] })]),
 (10, [(2, { con := 3 })])]
def EiThingsIn (N : Nat) : Env := { te := TE, cs := [coniWordsOk N, coniRegionBase N, coniThingAt_r_ N, coniThing_size N] }
def diThingsIn_0 : Desc := { n := 69, regs := [.one (.val (.sl (.int .i64))), u, .one (.val (.int .i64)), u, u, u, u, u, .one (.lit (.row 1038400)), .one (.val (.int .i64))], bx := [(1038400, .row (.fz tyq11))], pins := [] }
def oiThingsIn_0 : Outs := [(.exit 0, { n := 69, regs := [u, u, u, u, u, u, u, u, .one (.lit (.row 1038400))], bx := [(1038400, .row (.fz tyq11))], pins := [] }), (.ret, { n := 69, regs := [u, u, u, u, u, u, .one (.lit (.row 1102400)), .one (.val .bool)], bx := [(1102400, .row (.fz tyq11))], pins := [] })]
def jiThingsIn_3 : Outs := [(.normal, { n := 69, regs := [.one (.val (.sl (.int .i64))), .one (.val (.int .i64)), .one (.val (.int .i64))], bx := [], pins := [] }), (.ret, { n := 69, regs := [u, u, u, u, u, u, .one (.lit (.row 1025600)), .one (.val .bool)], bx := [(1025600, .row (.fz tyq11))], pins := [] })]
def jiThingsIn_9 : Outs := [(.normal, { n := 69, regs := [.one (.val (.sl (.int .i64))), u, .one (.val (.int .i64)), u, u, u, u, u, .one (.lit (.row 1038400)), .one (.val (.int .i64)), .one (.lit (.ptr 1077184 0))], bx := [(1038400, .row (.fz tyq11)), (1077184, .var [.val (.int .i64), .val (.int .i64), .val (.int .i64), .val (.int .i64), .val (.sl (.int .i64)), .val (.sl (.int .i64))])], pins := [] }), (.ret, { n := 69, regs := [u, u, u, u, u, u, .one (.lit (.row 1102400)), .one (.val .bool)], bx := [(1102400, .row (.fz tyq11))], pins := [] })]
def zul (N : Nat) : Nat → ((List Int) × (Int × (Int × ((List tyq2) × Unit)))) → Option (((List tyq2) × Unit) ⊕ (Bool × ((List tyq2) × Unit)))
 | 0, _ => none
 | n + 1, v =>
  bif decide (v.2.2.1 < v.2.1) then
   (FiThingAt_r_ N (v.1, v.2.2.1, ())).bind fun r15 =>
   Option.bind (
    bif !r15.2.2.2.2.2.2.1 then
     let y16 := ([] : (List tyq2))
     some (.inr ((false, y16, ())))
    else
    (zq7 N ((r15.1, r15.2.1, (r15.2.2.1, r15.2.2.2.1, ()), r15.2.2.2.2.1, r15.2.2.2.2.2.1, ()), ())).bind fun r17 =>
    let y18 := decide ((w64 (v.2.2.1 + r17.1)) > v.2.1)
    bif y18 then
     let y19 := ([] : (List tyq2))
     some (.inr ((false, y19, ())))
    else
    some (.inl (v.1, v.2.1, v.2.2.1, v.2.2.2.1, r15.1, r15.2.1, r15.2.2.1, r15.2.2.2.1, r15.2.2.2.2.1, r15.2.2.2.2.2.1, ()))) fun o20 =>
   Sum.elim (fun o21 =>
    let y22 := [(o21.2.2.2.2.1, o21.2.2.2.2.2.1, (o21.2.2.2.2.2.2.1, o21.2.2.2.2.2.2.2.1, ()), o21.2.2.2.2.2.2.2.2.1, o21.2.2.2.2.2.2.2.2.2.1, ())]
    bif decide (o21.2.2.2.1.length + y22.length ≤ lim) then
    (zq7 N ((o21.2.2.2.2.1, o21.2.2.2.2.2.1, (o21.2.2.2.2.2.2.1, o21.2.2.2.2.2.2.2.1, ()), o21.2.2.2.2.2.2.2.2.1, o21.2.2.2.2.2.2.2.2.2.1, ()), ())).bind fun r23 =>
    zul N n (o21.1, o21.2.1, w64 (o21.2.2.1 + r23.1), o21.2.2.2.1 ++ y22, ())
    else none) (fun o24 =>
    some (.inr ((o24.1, o24.2.1, ())))) o20
  else
  some (.inl (v.2.2.2.1, ()))
def FiThingsIn (N : Nat) (x : ((List Int) × (Int × (Int × Unit)))) : Option (Bool × ((List tyq2) × Unit)) :=
 Option.bind (
  (FiWordsOk N (x.1, ())).bind fun r1 =>
  bif !r1.1 then
   let y2 := ([] : (List tyq2))
   some (.inr ((false, y2, ())))
  else
  bif decide (x.2.1 < (1 : Int)) then
   let y3 := ([] : (List tyq2))
   some (.inr ((false, y3, ())))
  else
  bif decide ((16 : Int) = 0) then
   none
  else
  let y4 := w64 (Int.tdiv (x.1.length : Int) (16 : Int))
  bif decide (x.2.1 ≥ y4) then
   let y5 := ([] : (List tyq2))
   some (.inr ((false, y5, ())))
  else
  (ztt N (x.2.1, ())).bind fun r6 =>
  bif decide (x.2.2.1 < r6.1) then
   let y7 := ([] : (List tyq2))
   some (.inr ((false, y7, ())))
  else
  (ztt N (x.2.1, ())).bind fun r8 =>
  let y9 := decide (x.2.2.1 > (w64 (r8.1 + (16 : Int))))
  bif y9 then
   let y10 := ([] : (List tyq2))
   some (.inr ((false, y10, ())))
  else
  some (.inl (x.1, x.2.1, x.2.2.1, ()))) fun o11 =>
 Sum.elim (fun o12 =>
  let y13 := ([] : (List tyq2))
  (ztt N (o12.2.1, ())).bind fun r14 =>
  (zul N N (o12.1, o12.2.2.1, r14.1, y13, ())).bind fun o25 =>
  Sum.elim (fun o26 =>
   some (true, o26.1, ())) (fun o27 =>
   some (o27.1, o27.2.1, ())) o25) (fun o28 =>
  some (o28.1, o28.2.1, ())) o11
def coniThingsIn (N : Nat) : Con := { f := 73, din := diniThingsIn, outs := outiThingsIn, F := FiThingsIn N }
def XiThingsIn (N : Nat) : Ctx := { E := EiThingsIn N, H := HiThingsIn, lp := [(0, { hd := diThingsIn_0, outs := oiThingsIn_0, run := fun v => zul N N v })], jn := [(3, jiThingsIn_3), (9, jiThingsIn_9)] }
def biThingsIn_0 : Code := zzv (zzy Tryz.f73) 0
theorem FiThingsIn_eq (N : Nat) (x : ((List Int) × (Int × (Int × Unit)))) : evFn (XiThingsIn N) Tryz.f73 diniThingsIn outiThingsIn x = FiThingsIn N x := by kernel_rfl
theorem liThingsIn_0_eq (N n : Nat) (v : ((List Int) × (Int × (Int × ((List tyq2) × Unit))))) : zul N (n + 1) v = ev (XiThingsIn N) biThingsIn_0 (zzd diThingsIn_0 oiThingsIn_0 (zul N n)) (diThingsIn_0.mk' v) := by kernel_rfl
theorem cxiThingsIn (N : Nat) : CtxOk Tryz.prog (XiThingsIn N) := ⟨⟨TE_ok, List.forall_mem_cons.2 ⟨(speciWordsOk N), List.forall_mem_cons.2 ⟨(speciRegionBase N), List.forall_mem_cons.2 ⟨(speciThingAt_r_ N), List.forall_mem_cons.2 ⟨(speciThing_size N), fun k hk => absurd hk List.not_mem_nil⟩⟩⟩⟩⟩, mixed⟩
theorem lpiThingsIn_0 (N : Nat) : zzl Tryz.prog { hd := diThingsIn_0, outs := oiThingsIn_0, run := fun v => zul N N v } biThingsIn_0 :=
 zzx (d := diThingsIn_0) (os := oiThingsIn_0) (cxiThingsIn N) (zzz (ids := []) (by kernel_rfl) (trivial)) (zul N) (fun _ => rfl) (fun n v => liThingsIn_0_eq N n v) (fun _ => N)
theorem speciThingsIn (N : Nat) : Spec Tryz.prog (coniThingsIn N) :=
 Spec.of_eq (zzu (cxiThingsIn N) (f := 73) (fn := Tryz.f73) (c := zzy Tryz.f73) (by kernel_rfl) (by kernel_rfl) (by kernel_rfl) (zzz (ids := [0]) (by kernel_rfl) ⟨lp_of (lpiThingsIn_0 N), trivial⟩) (by kernel_rfl)) (fun x r h => (FiThingsIn_eq N x).trans h)
def diniState_things : Desc := { n := 1, regs := [.one (.val tyq10)], bx := [], pins := [] }
def outiState_things : Outs := [(.ret, { n := 2, regs := [.one (.val (.mp tyq11)), .one (.val .bool)], bx := [], pins := [] })]
def HiState_things : Hints := [(0, [(0, { fz := true })]),
 (7, [(9, { con := 1 })])]
def EiState_things (N : Nat) : Env := { te := TE, cs := [coniState_whole N, coniThingsIn N] }
def ztd : Desc := { n := 48, regs := [u, .one (.fpt tyq10), u, u, .one (.lit (.mrow 1038400)), .one (.val (.int .i64)), u, u, u, u, u, u, u, u, u, u, u, u, u, u, u, u, u, u, u, u, u, u, u, u, u, u, u, u, u, u, .one (.lit (.row 1090177)), .one (.val (.int .i64)), .one (.val (.int .i64))], bx := [(1038400, .mp tyq11), (1090177, .row (.fz tyq11))], pins := [] }
def zqw : Outs := [(.exit 2, { n := 48, regs := [u, .one (.fpt tyq10), u, u, .one (.lit (.mrow 1038400)), .one (.val (.int .i64))], bx := [(1038400, .mp tyq11)], pins := [] })]
def ztc : Desc := { n := 48, regs := [u, .one (.fpt tyq10), u, u, .one (.lit (.mrow 1038400)), .one (.val (.int .i64))], bx := [(1038400, .mp tyq11)], pins := [] }
def zqv : Outs := [(.exit 0, { n := 48, regs := [u, u, u, u, .one (.lit (.mrow 1038400))], bx := [(1038400, .mp tyq11)], pins := [] }), (.ret, { n := 48, regs := [u, u, .one (.lit .mnil), .one (.val .bool)], bx := [], pins := [] })]
def zxz (N : Nat) : Nat → (tyq1 × (Int × (Int × (Int × ((List (Int × tyq2)) × ((List tyq2) × Unit)))))) → Option (tyq1 × (Int × ((List (Int × tyq2)) × Unit)))
 | 0, _ => none
 | n + 1, v =>
  bif decide (v.2.2.2.1 < v.2.2.1) then
   bif decide (0 ≤ v.2.2.2.1) then
   bif decide (v.2.2.2.1.toNat < v.2.2.2.2.2.1.length) then
   let y6 := v.2.2.2.2.2.1.getD v.2.2.2.1.toNat ((0 : Int), (0 : Int), ((0 : Int), (0 : Int), ()), ([] : (List Int)), ([] : (List Int)), ())
   let y7 := mset v.2.2.2.2.1 y6.1 (y6.1, y6.2.1, (y6.2.2.1.1, y6.2.2.1.2.1, ()), y6.2.2.2.1, y6.2.2.2.2.1, ())
   zxz N n (v.1, v.2.1, v.2.2.1, w64 (v.2.2.2.1 + (1 : Int)), y7, v.2.2.2.2.2.1, ())
   else none
   else none
  else
  some (v.1, v.2.1, v.2.2.2.2.1, ())
def zxy (N : Nat) : Nat → (tyq1 × (Int × ((List (Int × tyq2)) × Unit))) → Option (((List (Int × tyq2)) × Unit) ⊕ (Bool × Unit))
 | 0, _ => none
 | n + 1, v =>
  let y3 := decide (v.2.1 < (v.1.2.1.length : Int))
  bif y3 then
   bif decide (0 ≤ v.2.1) then
   bif decide (v.2.1.toNat < v.1.2.1.length) then
   let y4 := v.1.2.1.getD v.2.1.toNat ((0 : Int), (0 : Int), (0 : Int), (0 : Int), (0 : Int), ())
   (FiThingsIn N (v.1.1, v.2.1, y4.2.2.1, ())).bind fun r5 =>
   bif !r5.1 then
    some (.inr ((false, ())))
   else
   (zxz N N (v.1, v.2.1, (r5.2.1.length : Int), (0 : Int), v.2.2.1, r5.2.1, ())).bind fun o8 =>
   zxy N n (o8.1, w64 (o8.2.1 + (1 : Int)), o8.2.2.1, ())
   else none
   else none
  else
  some (.inl (v.2.2.1, ()))
def zr8 (N : Nat) (x : (tyq1 × Unit)) : Option ((List (Int × tyq2)) × (Bool × Unit)) :=
 (zoy N (x.1, ())).bind fun r1 =>
 bif !r1.1 then
  some (([] : (List (Int × tyq2))), false, ())
 else
 let y2 := ([] : (List (Int × tyq2)))
 (zxy N N (x.1, (1 : Int), y2, ())).bind fun o9 =>
 Sum.elim (fun o10 =>
  some (o10.1, true, ())) (fun o11 =>
  some (([] : (List (Int × tyq2))), o11.1, ())) o9
def coniState_things (N : Nat) : Con := { f := 55, din := diniState_things, outs := outiState_things, F := zr8 N }
def XiState_things (N : Nat) : Ctx := { E := EiState_things N, H := HiState_things, lp := [(2, { hd := ztd, outs := zqw, run := fun v => zxz N N v }), (0, { hd := ztc, outs := zqv, run := fun v => zxy N N v })], jn := [] }
def biState_things_0 : Code := zzv (zzy Tryz.f55) 0
def biState_things_2 : Code := zzv biState_things_0 0
theorem FiState_things_eq (N : Nat) (x : (tyq1 × Unit)) : evFn (XiState_things N) Tryz.f55 diniState_things outiState_things x = zr8 N x := by kernel_rfl
theorem liState_things_2_eq (N n : Nat) (v : (tyq1 × (Int × (Int × (Int × ((List (Int × tyq2)) × ((List tyq2) × Unit))))))) : zxz N (n + 1) v = ev (XiState_things N) biState_things_2 (zzd ztd zqw (zxz N n)) (ztd.mk' v) := by kernel_rfl
theorem liState_things_0_eq (N n : Nat) (v : (tyq1 × (Int × ((List (Int × tyq2)) × Unit)))) : zxy N (n + 1) v = ev (XiState_things N) biState_things_0 (zzd ztc zqv (zxy N n)) (ztc.mk' v) := by kernel_rfl
theorem cxiState_things (N : Nat) : CtxOk Tryz.prog (XiState_things N) := ⟨⟨TE_ok, List.forall_mem_cons.2 ⟨(speciState_whole N), List.forall_mem_cons.2 ⟨(speciThingsIn N), fun k hk => absurd hk List.not_mem_nil⟩⟩⟩, mixed⟩
theorem lpiState_things_2 (N : Nat) : zzl Tryz.prog { hd := ztd, outs := zqw, run := fun v => zxz N N v } biState_things_2 :=
 zzx (d := ztd) (os := zqw) (cxiState_things N) (zzz (ids := []) (by kernel_rfl) (trivial)) (zxz N) (fun _ => rfl) (fun n v => liState_things_2_eq N n v) (fun _ => N)
theorem lpiState_things_0 (N : Nat) : zzl Tryz.prog { hd := ztc, outs := zqv, run := fun v => zxy N N v } biState_things_0 :=
 zzx (d := ztc) (os := zqv) (cxiState_things N) (zzz (ids := [2]) (by kernel_rfl) ⟨lp_of (lpiState_things_2 N), trivial⟩) (zxy N) (fun _ => rfl) (fun n v => liState_things_0_eq N n v) (fun _ => N)
theorem speciState_things (N : Nat) : Spec Tryz.prog (coniState_things N) :=
 Spec.of_eq (zzu (cxiState_things N) (f := 55) (fn := Tryz.f55) (c := zzy Tryz.f55) (by kernel_rfl) (by kernel_rfl) (by kernel_rfl) (zzz (ids := [0]) (by kernel_rfl) ⟨lp_of (lpiState_things_0 N), trivial⟩) (by kernel_rfl)) (fun x r h => (FiState_things_eq N x).trans h)
def diniRegionOf : Desc := { n := 1, regs := [.one (.val (.int .i64))], bx := [], pins := [] }
def outiRegionOf : Outs := [(.ret, { n := 1, regs := [.one (.val (.int .i64))], bx := [], pins := [] })]
def HiRegionOf : Hints := []
def EiRegionOf (_N : Nat) : Env := { te := TE, cs := [] }
def FiRegionOf (N : Nat) (x : (Int × Unit)) : Option (Int × Unit) :=
 bif decide (x.1 < (0 : Int)) then
  some ((-1 : Int), ())
 else
 bif decide ((16 : Int) = 0) then
  none
 else
 some (w64 (Int.tdiv x.1 (16 : Int)), ())
def coniRegionOf (N : Nat) : Con := { f := 74, din := diniRegionOf, outs := outiRegionOf, F := FiRegionOf N }
def XiRegionOf (N : Nat) : Ctx := { E := EiRegionOf N, H := HiRegionOf, lp := [], jn := [] }
theorem FiRegionOf_eq (N : Nat) (x : (Int × Unit)) : evFn (XiRegionOf N) Tryz.f74 diniRegionOf outiRegionOf x = FiRegionOf N x := by kernel_rfl
theorem cxiRegionOf (N : Nat) : CtxOk Tryz.prog (XiRegionOf N) := ⟨⟨TE_ok, fun k hk => absurd hk List.not_mem_nil⟩, mixed⟩
theorem speciRegionOf (N : Nat) : Spec Tryz.prog (coniRegionOf N) :=
 Spec.of_eq (zzu (cxiRegionOf N) (f := 74) (fn := Tryz.f74) (c := zzy Tryz.f74) (by kernel_rfl) (by kernel_rfl) (by kernel_rfl) (zzz (ids := []) (by kernel_rfl) (trivial)) (by kernel_rfl)) (fun x r h => (FiRegionOf_eq N x).trans h)
def diniState_from : Desc := { n := 2, regs := [.one (.val tyq10), .one (.val (.int .i64))], bx := [], pins := [] }
def outiState_from : Outs := [(.ret, { n := 1, regs := [.one (.val .bool)], bx := [], pins := [] })]
def HiState_from : Hints := [(0, [(0, { fz := true })])]
def EiState_from (N : Nat) : Env := { te := TE, cs := [coniRegionOf N] }
def zs8 (N : Nat) (x : (tyq1 × (Int × Unit))) : Option (Bool × Unit) :=
 (FiRegionOf N (x.2.1, ())).bind fun r1 =>
 bif decide (r1.1 ≥ (0 : Int)) then
  let y2 := decide (r1.1 < (x.1.2.1.length : Int))
  bif y2 then
   bif decide (0 ≤ r1.1) then
   bif decide (r1.1.toNat < x.1.2.1.length) then
   let y3 := x.1.2.1.getD r1.1.toNat ((0 : Int), (0 : Int), (0 : Int), (0 : Int), (0 : Int), ())
   some (y3.1 == (4 : Int), ())
   else none
   else none
  else
  some (false, ())
 else
 some (false, ())
def coniState_from (N : Nat) : Con := { f := 57, din := diniState_from, outs := outiState_from, F := zs8 N }
def XiState_from (N : Nat) : Ctx := { E := EiState_from N, H := HiState_from, lp := [], jn := [] }
theorem FiState_from_eq (N : Nat) (x : (tyq1 × (Int × Unit))) : evFn (XiState_from N) Tryz.f57 diniState_from outiState_from x = zs8 N x := by kernel_rfl
theorem cxiState_from (N : Nat) : CtxOk Tryz.prog (XiState_from N) := ⟨⟨TE_ok, List.forall_mem_cons.2 ⟨(speciRegionOf N), fun k hk => absurd hk List.not_mem_nil⟩⟩, mixed⟩
theorem speciState_from (N : Nat) : Spec Tryz.prog (coniState_from N) :=
 Spec.of_eq (zzu (cxiState_from N) (f := 57) (fn := Tryz.f57) (c := zzy Tryz.f57) (by kernel_rfl) (by kernel_rfl) (by kernel_rfl) (zzz (ids := []) (by kernel_rfl) (trivial)) (by kernel_rfl)) (fun x r h => (FiState_from_eq N x).trans h)
def diniState_settled : Desc := { n := 2, regs := [.one (.val tyq10), .one (.val (.mp tyq11))], bx := [], pins := [] }
def outiState_settled : Outs := [(.ret, { n := 1, regs := [.one (.val .bool)], bx := [], pins := [] })]
def HiState_settled : Hints := [(0, [(0, { fz := true })])]
def EiState_settled (N : Nat) : Env := { te := TE, cs := [coniState_from N] }
def ztz : Desc := { n := 56, regs := [u, .one (.val (.mp tyq11)), .one (.fpt tyq10), u, u, u, u, u, u, u, .one (.lit (.it 1012864))], bx := [(1012864, .it tyq11)], pins := [] }
def zry : Outs := [(.exit 0, { n := 56, regs := [], bx := [], pins := [] }), (.ret, { n := 56, regs := [u, u, u, u, .one (.val .bool)], bx := [], pins := [] })]
def zym (N : Nat) : Nat → ((List (Int × tyq2)) × (tyq1 × ((List (Int × tyq2)) × Unit))) → Option (Unit ⊕ (Bool × Unit))
 | 0, _ => none
 | n + 1, v =>
  bif v.2.2.1.isEmpty then
   some (.inl ())
  else
  anyOf (v.2.2.1.length) fun i1 =>
   let y2 := (v.2.2.1.getD i1 (0, ((0 : Int), (0 : Int), ((0 : Int), (0 : Int), ()), ([] : (List Int)), ([] : (List Int)), ()))).1
   let y3 := (v.2.2.1.getD i1 (0, ((0 : Int), (0 : Int), ((0 : Int), (0 : Int), ()), ([] : (List Int)), ([] : (List Int)), ()))).2
   bif y3.2.1 == y3.1 then
    zym N n (v.1, v.2.1, v.2.2.1.eraseIdx i1, ())
   else
   let y4 := (mget v.1 y3.2.1).getD ((0 : Int), (0 : Int), ((0 : Int), (0 : Int), ()), ([] : (List Int)), ([] : (List Int)), ())
   bif !((mget v.1 y3.2.1).isSome) then
    some (.inr ((false, ())))
   else
   let y5 := !((y4.2.2.1.1 == y3.2.2.1.1) && ((y4.2.2.1.2.1 == y3.2.2.1.2.1) && (true)))
   bif y5 then
    some (.inr ((false, ())))
   else
   bif y4.2.1 != y4.1 then
    some (.inr ((false, ())))
   else
   (zs8 N (v.2.1, y4.1, ())).bind fun r6 =>
   bif r6.1 then
    some (.inr ((false, ())))
   else
   (zs8 N (v.2.1, y3.1, ())).bind fun r7 =>
   bif !r7.1 then
    some (.inr ((false, ())))
   else
   zym N n (v.1, v.2.1, v.2.2.1.eraseIdx i1, ())
def zs7 (N : Nat) (x : (tyq1 × ((List (Int × tyq2)) × Unit))) : Option (Bool × Unit) :=
 (zym N N (x.2.1, x.1, x.2.1, ())).bind fun o8 =>
 Sum.elim (fun o9 =>
  some (true, ())) (fun o10 =>
  some (o10.1, ())) o8
def coniState_settled (N : Nat) : Con := { f := 56, din := diniState_settled, outs := outiState_settled, F := zs7 N }
def XiState_settled (N : Nat) : Ctx := { E := EiState_settled N, H := HiState_settled, lp := [(0, { hd := ztz, outs := zry, run := fun v => zym N N v })], jn := [] }
def biState_settled_0 : Code := zzv (zzy Tryz.f56) 0
theorem FiState_settled_eq (N : Nat) (x : (tyq1 × ((List (Int × tyq2)) × Unit))) : evFn (XiState_settled N) Tryz.f56 diniState_settled outiState_settled x = zs7 N x := by kernel_rfl
theorem liState_settled_0_eq (N n : Nat) (v : ((List (Int × tyq2)) × (tyq1 × ((List (Int × tyq2)) × Unit)))) : zym N (n + 1) v = ev (XiState_settled N) biState_settled_0 (zzd ztz zry (zym N n)) (ztz.mk' v) := by kernel_rfl
theorem cxiState_settled (N : Nat) : CtxOk Tryz.prog (XiState_settled N) := ⟨⟨TE_ok, List.forall_mem_cons.2 ⟨(speciState_from N), fun k hk => absurd hk List.not_mem_nil⟩⟩, mixed⟩
theorem lpiState_settled_0 (N : Nat) : zzl Tryz.prog { hd := ztz, outs := zry, run := fun v => zym N N v } biState_settled_0 :=
 zzx (d := ztz) (os := zry) (cxiState_settled N) (zzz (ids := []) (by kernel_rfl) (trivial)) (zym N) (fun _ => rfl) (fun n v => liState_settled_0_eq N n v) (fun _ => N)
theorem speciState_settled (N : Nat) : Spec Tryz.prog (coniState_settled N) :=
 Spec.of_eq (zzu (cxiState_settled N) (f := 56) (fn := Tryz.f56) (c := zzy Tryz.f56) (by kernel_rfl) (by kernel_rfl) (by kernel_rfl) (zzz (ids := [0]) (by kernel_rfl) ⟨lp_of (lpiState_settled_0 N), trivial⟩) (by kernel_rfl)) (fun x r h => (FiState_settled_eq N x).trans h)
def diniState_roots : Desc := { n := 1, regs := [.one (.val tyq10)], bx := [], pins := [] }
def outiState_roots : Outs := [(.ret, { n := 1, regs := [.one (.lit (.row 1012800))], bx := [(1012800, .row (.int .i64))], pins := [] })]
def HiState_roots : Hints := [(0, [(0, { fz := true })]),
 (1, [(0, { nl := [(0, (.int .i64))] })])]
def EiState_roots (_N : Nat) : Env := { te := TE, cs := [] }
def zsd : Desc := { n := 22, regs := [u, .one (.fpt tyq10), u, .one (.lit (.row 1012800)), u, u, u, .one (.val (.sl tyq13)), .one (.val (.int .i64)), .one (.val (.int .i64))], bx := [(1012800, .row (.int .i64))], pins := [] }
def zpt : Outs := [(.exit 0, { n := 22, regs := [u, .one (.fpt tyq10), u, .one (.lit (.row 1012800))], bx := [(1012800, .row (.int .i64))], pins := [] })]
def zxg (N : Nat) : Nat → (tyq1 × ((List tyq4) × (Int × (Int × ((List Int) × Unit))))) → Option (tyq1 × ((List Int) × Unit))
 | 0, _ => none
 | n + 1, v =>
  bif decide (v.2.2.2.1 < v.2.2.1) then
   bif decide (0 ≤ v.2.2.2.1) then
   bif decide (v.2.2.2.1.toNat < v.2.1.length) then
   let y1 := v.2.1.getD v.2.2.2.1.toNat (([] : (List Int)), (0 : Int), false, (0 : Int), ())
   bif decide (v.2.2.2.2.1.length + y1.1.length ≤ lim) then
   zxg N n (v.1, v.2.1, v.2.2.1, w64 (v.2.2.2.1 + (1 : Int)), v.2.2.2.2.1 ++ y1.1, ())
   else none
   else none
   else none
  else
  some (v.1, v.2.2.2.2.1, ())
def zox (N : Nat) (x : (tyq1 × Unit)) : Option ((List Int) × Unit) :=
 (zxg N N (x.1, x.1.2.2.2.2.2.2.2.2.1, (x.1.2.2.2.2.2.2.2.2.1.length : Int), (0 : Int), ([] : (List Int)), ())).bind fun o2 =>
 bif decide (o2.2.1.length + o2.1.2.2.2.2.2.2.2.2.2.2.1.length ≤ lim) then
 some (o2.2.1 ++ o2.1.2.2.2.2.2.2.2.2.2.2.1, ())
 else none
def coniState_roots (N : Nat) : Con := { f := 76, din := diniState_roots, outs := outiState_roots, F := zox N }
def XiState_roots (N : Nat) : Ctx := { E := EiState_roots N, H := HiState_roots, lp := [(0, { hd := zsd, outs := zpt, run := fun v => zxg N N v })], jn := [] }
def biState_roots_0 : Code := zzv (zzy Tryz.f76) 0
theorem FiState_roots_eq (N : Nat) (x : (tyq1 × Unit)) : evFn (XiState_roots N) Tryz.f76 diniState_roots outiState_roots x = zox N x := by kernel_rfl
theorem liState_roots_0_eq (N n : Nat) (v : (tyq1 × ((List tyq4) × (Int × (Int × ((List Int) × Unit)))))) : zxg N (n + 1) v = ev (XiState_roots N) biState_roots_0 (zzd zsd zpt (zxg N n)) (zsd.mk' v) := by kernel_rfl
theorem cxiState_roots (N : Nat) : CtxOk Tryz.prog (XiState_roots N) := ⟨⟨TE_ok, fun k hk => absurd hk List.not_mem_nil⟩, mixed⟩
theorem lpiState_roots_0 (N : Nat) : zzl Tryz.prog { hd := zsd, outs := zpt, run := fun v => zxg N N v } biState_roots_0 :=
 zzx (d := zsd) (os := zpt) (cxiState_roots N) (zzz (ids := []) (by kernel_rfl) (trivial)) (zxg N) (fun _ => rfl) (fun n v => liState_roots_0_eq N n v) (fun _ => N)
theorem speciState_roots (N : Nat) : Spec Tryz.prog (coniState_roots N) :=
 Spec.of_eq (zzu (cxiState_roots N) (f := 76) (fn := Tryz.f76) (c := zzy Tryz.f76) (by kernel_rfl) (by kernel_rfl) (by kernel_rfl) (zzz (ids := [0]) (by kernel_rfl) ⟨lp_of (lpiState_roots_0 N), trivial⟩) (by kernel_rfl)) (fun x r h => (FiState_roots_eq N x).trans h)
def diniheap_now : Desc := { n := 2, regs := [.one (.fpt (.pair tyq10 (.pair (.mp tyq11) (.pair (.sl (.int .i64)) .unit)))), .one (.val (.int .i64))], bx := [], pins := [] }
def outiheap_now : Outs := [(.ret, { n := 1, regs := [.one (.val (.int .i64))], bx := [], pins := [] })]
def Hiheap_now : Hints := []
def Eiheap_now (_N : Nat) : Env := { te := TE, cs := [] }
def Fiheap_now (N : Nat) (x : ((tyq1 × ((List (Int × tyq2)) × ((List Int) × Unit))) × (Int × Unit))) : Option (Int × Unit) :=
 bif x.2.1 == (0 : Int) then
  some ((0 : Int), ())
 else
 let y1 := (mget x.1.2.1 x.2.1).getD ((0 : Int), (0 : Int), ((0 : Int), (0 : Int), ()), ([] : (List Int)), ([] : (List Int)), ())
 some (y1.2.1, ())
def coniheap_now (N : Nat) : Con := { f := 32, din := diniheap_now, outs := outiheap_now, F := Fiheap_now N }
def Xiheap_now (N : Nat) : Ctx := { E := Eiheap_now N, H := Hiheap_now, lp := [], jn := [] }
theorem Fiheap_now_eq (N : Nat) (x : ((tyq1 × ((List (Int × tyq2)) × ((List Int) × Unit))) × (Int × Unit))) : evFn (Xiheap_now N) Tryz.f32 diniheap_now outiheap_now x = Fiheap_now N x := by kernel_rfl
theorem cxiheap_now (N : Nat) : CtxOk Tryz.prog (Xiheap_now N) := ⟨⟨TE_ok, fun k hk => absurd hk List.not_mem_nil⟩, mixed⟩
theorem speciheap_now (N : Nat) : Spec Tryz.prog (coniheap_now N) :=
 Spec.of_eq (zzu (cxiheap_now N) (f := 32) (fn := Tryz.f32) (c := zzy Tryz.f32) (by kernel_rfl) (by kernel_rfl) (by kernel_rfl) (zzz (ids := []) (by kernel_rfl) (trivial)) (by kernel_rfl)) (fun x r h => (Fiheap_now_eq N x).trans h)
def diniheap_reach_1 : Desc := { n := 3, regs := [.one (.val (.sl (.int .i64))), .one (.lit (.ptr 64 0)), .one (.lit (.ptr 128 0))], bx := [(64, .var [.lit (.ptr 65 0)]), (65, .var [.val (.sl (.int .i64)), .val (.sl tyq12), .val (.sl .bool), .val (.int .i64), .val .bool, .val .bool, .val .bool, .val (.int .i64), .val (.sl tyq13), .val (.sl (.int .i64)), .val (.sl (.int .i64)), .val (.int .i64), .val (.int .i64), .val (.mp tyq11), .lit (.row 66)]), (66, .row (.int .i64)), (128, .var [.lit (.mrow 129)]), (129, .mp .bool)], pins := [] }
def outiheap_reach_1 : Outs := [(.ret, { n := 1, regs := [.one (.val .bool)], bx := [(64, .var [.lit (.ptr 65 0)]), (65, .var [.val (.sl (.int .i64)), .val (.sl tyq12), .val (.sl .bool), .val (.int .i64), .val .bool, .val .bool, .val .bool, .val (.int .i64), .val (.sl tyq13), .val (.sl (.int .i64)), .val (.sl (.int .i64)), .val (.int .i64), .val (.int .i64), .val (.mp tyq11), .lit (.row 66)]), (66, .row (.int .i64)), (128, .var [.lit (.mrow 129)]), (129, .mp .bool)], pins := [u, .one (.lit (.ptr 64 0)), .one (.lit (.ptr 128 0)), .one (.lit (.ptr 65 0))] })]
def Hiheap_reach_1 : Hints := []
def Eiheap_reach_1 (N : Nat) : Env := { te := TE, cs := [coniheap_now N] }
def zte : Desc := { n := 49, regs := [u, .one (.lit (.ptr 64 0)), .one (.lit (.ptr 128 0)), u, u, u, u, u, u, u, .one (.val (.sl (.int .i64))), .one (.val (.int .i64)), .one (.val (.int .i64))], bx := [(64, .var [.lit (.ptr 65 0)]), (65, .var [.val (.sl (.int .i64)), .val (.sl tyq12), .val (.sl .bool), .val (.int .i64), .val .bool, .val .bool, .val .bool, .val (.int .i64), .val (.sl tyq13), .val (.sl (.int .i64)), .val (.sl (.int .i64)), .val (.int .i64), .val (.int .i64), .val (.mp tyq11), .lit (.row 66)]), (66, .row (.int .i64)), (128, .var [.lit (.mrow 129)]), (129, .mp .bool)], pins := [u, .one (.lit (.ptr 64 0)), .one (.lit (.ptr 128 0)), .one (.lit (.ptr 65 0))] }
def zqx : Outs := [(.exit 0, { n := 49, regs := [], bx := [(64, .var [.lit (.ptr 65 0)]), (65, .var [.val (.sl (.int .i64)), .val (.sl tyq12), .val (.sl .bool), .val (.int .i64), .val .bool, .val .bool, .val .bool, .val (.int .i64), .val (.sl tyq13), .val (.sl (.int .i64)), .val (.sl (.int .i64)), .val (.int .i64), .val (.int .i64), .val (.mp tyq11), .lit (.row 66)]), (66, .row (.int .i64)), (128, .var [.lit (.mrow 129)]), (129, .mp .bool)], pins := [u, .one (.lit (.ptr 64 0)), .one (.lit (.ptr 128 0)), .one (.lit (.ptr 65 0))] }), (.ret, { n := 49, regs := [u, u, u, u, .one (.val .bool)], bx := [(64, .var [.lit (.ptr 65 0)]), (65, .var [.val (.sl (.int .i64)), .val (.sl tyq12), .val (.sl .bool), .val (.int .i64), .val .bool, .val .bool, .val .bool, .val (.int .i64), .val (.sl tyq13), .val (.sl (.int .i64)), .val (.sl (.int .i64)), .val (.int .i64), .val (.int .i64), .val (.mp tyq11), .lit (.row 66)]), (66, .row (.int .i64)), (128, .var [.lit (.mrow 129)]), (129, .mp .bool)], pins := [u, .one (.lit (.ptr 64 0)), .one (.lit (.ptr 128 0)), .one (.lit (.ptr 65 0))] })]
def zyz (N : Nat) : Nat → ((List Int) × (Int × (Int × ((List Int) × ((List tyq3) × ((List Bool) × (Int × (Bool × (Bool × (Bool × (Int × ((List tyq4) × ((List Int) × ((List Int) × (Int × (Int × ((List (Int × tyq2)) × tyq9))))))))))))))))) → Option (((List Int) × ((List tyq3) × ((List Bool) × (Int × (Bool × (Bool × (Bool × (Int × ((List tyq4) × ((List Int) × ((List Int) × (Int × (Int × ((List (Int × tyq2)) × tyq9)))))))))))))) ⊕ (Bool × ((List Int) × ((List tyq3) × ((List Bool) × (Int × (Bool × (Bool × (Bool × (Int × ((List tyq4) × ((List Int) × ((List Int) × (Int × (Int × ((List (Int × tyq2)) × tyq9))))))))))))))))
 | 0, _ => none
 | n + 1, v =>
  bif decide (v.2.2.1 < v.2.1) then
   bif decide (0 ≤ v.2.2.1) then
   bif decide (v.2.2.1.toNat < v.1.length) then
   let y1 := (v.1.getD v.2.2.1.toNat (0 : Int)) == (0 : Int)
   bif y1 then
    zyz N n (v.1, v.2.1, w64 (v.2.2.1 + (1 : Int)), v.2.2.2.1, v.2.2.2.2.1, v.2.2.2.2.2.1, v.2.2.2.2.2.2.1, v.2.2.2.2.2.2.2.1, v.2.2.2.2.2.2.2.2.1, v.2.2.2.2.2.2.2.2.2.1, v.2.2.2.2.2.2.2.2.2.2.1, v.2.2.2.2.2.2.2.2.2.2.2.1, v.2.2.2.2.2.2.2.2.2.2.2.2.1, v.2.2.2.2.2.2.2.2.2.2.2.2.2.1, v.2.2.2.2.2.2.2.2.2.2.2.2.2.2.1, v.2.2.2.2.2.2.2.2.2.2.2.2.2.2.2.1, v.2.2.2.2.2.2.2.2.2.2.2.2.2.2.2.2.1, v.2.2.2.2.2.2.2.2.2.2.2.2.2.2.2.2.2.1, v.2.2.2.2.2.2.2.2.2.2.2.2.2.2.2.2.2.2.1, ())
   else
   let y2 := (mget v.2.2.2.2.2.2.2.2.2.2.2.2.2.2.2.2.1 (v.1.getD v.2.2.1.toNat (0 : Int))).getD ((0 : Int), (0 : Int), ((0 : Int), (0 : Int), ()), ([] : (List Int)), ([] : (List Int)), ())
   let y3 := (mget v.2.2.2.2.2.2.2.2.2.2.2.2.2.2.2.2.1 (v.1.getD v.2.2.1.toNat (0 : Int))).isSome
   bif !y3 then
    some (.inr ((false, v.2.2.2.1, v.2.2.2.2.1, v.2.2.2.2.2.1, v.2.2.2.2.2.2.1, v.2.2.2.2.2.2.2.1, v.2.2.2.2.2.2.2.2.1, v.2.2.2.2.2.2.2.2.2.1, v.2.2.2.2.2.2.2.2.2.2.1, v.2.2.2.2.2.2.2.2.2.2.2.1, v.2.2.2.2.2.2.2.2.2.2.2.2.1, v.2.2.2.2.2.2.2.2.2.2.2.2.2.1, v.2.2.2.2.2.2.2.2.2.2.2.2.2.2.1, v.2.2.2.2.2.2.2.2.2.2.2.2.2.2.2.1, v.2.2.2.2.2.2.2.2.2.2.2.2.2.2.2.2.1, v.2.2.2.2.2.2.2.2.2.2.2.2.2.2.2.2.2.1, v.2.2.2.2.2.2.2.2.2.2.2.2.2.2.2.2.2.2.1, ())))
   else
   (Fiheap_now N (((v.2.2.2.1, v.2.2.2.2.1, v.2.2.2.2.2.1, v.2.2.2.2.2.2.1, v.2.2.2.2.2.2.2.1, v.2.2.2.2.2.2.2.2.1, v.2.2.2.2.2.2.2.2.2.1, v.2.2.2.2.2.2.2.2.2.2.1, v.2.2.2.2.2.2.2.2.2.2.2.1, v.2.2.2.2.2.2.2.2.2.2.2.2.1, v.2.2.2.2.2.2.2.2.2.2.2.2.2.1, v.2.2.2.2.2.2.2.2.2.2.2.2.2.2.1, v.2.2.2.2.2.2.2.2.2.2.2.2.2.2.2.1, ()), v.2.2.2.2.2.2.2.2.2.2.2.2.2.2.2.2.1, v.2.2.2.2.2.2.2.2.2.2.2.2.2.2.2.2.2.1, ()), v.1.getD v.2.2.1.toNat (0 : Int), ())).bind fun r4 =>
   let y5 := (mget v.2.2.2.2.2.2.2.2.2.2.2.2.2.2.2.2.2.2.1 r4.1).getD false
   bif !y5 then
    let y6 := mset v.2.2.2.2.2.2.2.2.2.2.2.2.2.2.2.2.2.2.1 r4.1 true
    bif decide (v.2.2.2.2.2.2.2.2.2.2.2.2.2.2.2.2.2.1.length + [r4.1].length ≤ lim) then
    let y7 := v.2.2.2.2.2.2.2.2.2.2.2.2.2.2.2.2.2.1 ++ [r4.1]
    zyz N n (v.1, v.2.1, w64 (v.2.2.1 + (1 : Int)), v.2.2.2.1, v.2.2.2.2.1, v.2.2.2.2.2.1, v.2.2.2.2.2.2.1, v.2.2.2.2.2.2.2.1, v.2.2.2.2.2.2.2.2.1, v.2.2.2.2.2.2.2.2.2.1, v.2.2.2.2.2.2.2.2.2.2.1, v.2.2.2.2.2.2.2.2.2.2.2.1, v.2.2.2.2.2.2.2.2.2.2.2.2.1, v.2.2.2.2.2.2.2.2.2.2.2.2.2.1, v.2.2.2.2.2.2.2.2.2.2.2.2.2.2.1, v.2.2.2.2.2.2.2.2.2.2.2.2.2.2.2.1, v.2.2.2.2.2.2.2.2.2.2.2.2.2.2.2.2.1, y7, y6, ())
    else none
   else
   zyz N n (v.1, v.2.1, w64 (v.2.2.1 + (1 : Int)), v.2.2.2.1, v.2.2.2.2.1, v.2.2.2.2.2.1, v.2.2.2.2.2.2.1, v.2.2.2.2.2.2.2.1, v.2.2.2.2.2.2.2.2.1, v.2.2.2.2.2.2.2.2.2.1, v.2.2.2.2.2.2.2.2.2.2.1, v.2.2.2.2.2.2.2.2.2.2.2.1, v.2.2.2.2.2.2.2.2.2.2.2.2.1, v.2.2.2.2.2.2.2.2.2.2.2.2.2.1, v.2.2.2.2.2.2.2.2.2.2.2.2.2.2.1, v.2.2.2.2.2.2.2.2.2.2.2.2.2.2.2.1, v.2.2.2.2.2.2.2.2.2.2.2.2.2.2.2.2.1, v.2.2.2.2.2.2.2.2.2.2.2.2.2.2.2.2.2.1, v.2.2.2.2.2.2.2.2.2.2.2.2.2.2.2.2.2.2.1, ())
   else none
   else none
  else
  some (.inl (v.2.2.2.1, v.2.2.2.2.1, v.2.2.2.2.2.1, v.2.2.2.2.2.2.1, v.2.2.2.2.2.2.2.1, v.2.2.2.2.2.2.2.2.1, v.2.2.2.2.2.2.2.2.2.1, v.2.2.2.2.2.2.2.2.2.2.1, v.2.2.2.2.2.2.2.2.2.2.2.1, v.2.2.2.2.2.2.2.2.2.2.2.2.1, v.2.2.2.2.2.2.2.2.2.2.2.2.2.1, v.2.2.2.2.2.2.2.2.2.2.2.2.2.2.1, v.2.2.2.2.2.2.2.2.2.2.2.2.2.2.2.1, v.2.2.2.2.2.2.2.2.2.2.2.2.2.2.2.2.1, v.2.2.2.2.2.2.2.2.2.2.2.2.2.2.2.2.2.1, v.2.2.2.2.2.2.2.2.2.2.2.2.2.2.2.2.2.2.1, ()))
def zvb (N : Nat) (x : ((List Int) × ((List Int) × ((List tyq3) × ((List Bool) × (Int × (Bool × (Bool × (Bool × (Int × ((List tyq4) × ((List Int) × ((List Int) × (Int × (Int × ((List (Int × tyq2)) × tyq9)))))))))))))))) : Option (Bool × ((List Int) × ((List tyq3) × ((List Bool) × (Int × (Bool × (Bool × (Bool × (Int × ((List tyq4) × ((List Int) × ((List Int) × (Int × (Int × ((List (Int × tyq2)) × tyq9))))))))))))))) :=
 (zyz N N (x.1, (x.1.length : Int), (0 : Int), x.2.1, x.2.2.1, x.2.2.2.1, x.2.2.2.2.1, x.2.2.2.2.2.1, x.2.2.2.2.2.2.1, x.2.2.2.2.2.2.2.1, x.2.2.2.2.2.2.2.2.1, x.2.2.2.2.2.2.2.2.2.1, x.2.2.2.2.2.2.2.2.2.2.1, x.2.2.2.2.2.2.2.2.2.2.2.1, x.2.2.2.2.2.2.2.2.2.2.2.2.1, x.2.2.2.2.2.2.2.2.2.2.2.2.2.1, x.2.2.2.2.2.2.2.2.2.2.2.2.2.2.1, x.2.2.2.2.2.2.2.2.2.2.2.2.2.2.2.1, x.2.2.2.2.2.2.2.2.2.2.2.2.2.2.2.2.1, ())).bind fun o8 =>
 Sum.elim (fun o9 =>
  some (true, o9.1, o9.2.1, o9.2.2.1, o9.2.2.2.1, o9.2.2.2.2.1, o9.2.2.2.2.2.1, o9.2.2.2.2.2.2.1, o9.2.2.2.2.2.2.2.1, o9.2.2.2.2.2.2.2.2.1, o9.2.2.2.2.2.2.2.2.2.1, o9.2.2.2.2.2.2.2.2.2.2.1, o9.2.2.2.2.2.2.2.2.2.2.2.1, o9.2.2.2.2.2.2.2.2.2.2.2.2.1, o9.2.2.2.2.2.2.2.2.2.2.2.2.2.1, o9.2.2.2.2.2.2.2.2.2.2.2.2.2.2.1, o9.2.2.2.2.2.2.2.2.2.2.2.2.2.2.2.1, ())) (fun o10 =>
  some (o10.1, o10.2.1, o10.2.2.1, o10.2.2.2.1, o10.2.2.2.2.1, o10.2.2.2.2.2.1, o10.2.2.2.2.2.2.1, o10.2.2.2.2.2.2.2.1, o10.2.2.2.2.2.2.2.2.1, o10.2.2.2.2.2.2.2.2.2.1, o10.2.2.2.2.2.2.2.2.2.2.1, o10.2.2.2.2.2.2.2.2.2.2.2.1, o10.2.2.2.2.2.2.2.2.2.2.2.2.1, o10.2.2.2.2.2.2.2.2.2.2.2.2.2.1, o10.2.2.2.2.2.2.2.2.2.2.2.2.2.2.1, o10.2.2.2.2.2.2.2.2.2.2.2.2.2.2.2.1, o10.2.2.2.2.2.2.2.2.2.2.2.2.2.2.2.2.1, ())) o8
def coniheap_reach_1 (N : Nat) : Con := { f := 75, din := diniheap_reach_1, outs := outiheap_reach_1, F := zvb N }
def Xiheap_reach_1 (N : Nat) : Ctx := { E := Eiheap_reach_1 N, H := Hiheap_reach_1, lp := [(0, { hd := zte, outs := zqx, run := fun v => zyz N N v })], jn := [] }
def biheap_reach_1_0 : Code := zzv (zzy Tryz.f75) 0
theorem Fiheap_reach_1_eq (N : Nat) (x : ((List Int) × ((List Int) × ((List tyq3) × ((List Bool) × (Int × (Bool × (Bool × (Bool × (Int × ((List tyq4) × ((List Int) × ((List Int) × (Int × (Int × ((List (Int × tyq2)) × tyq9)))))))))))))))) : evFn (Xiheap_reach_1 N) Tryz.f75 diniheap_reach_1 outiheap_reach_1 x = zvb N x := by kernel_rfl
theorem liheap_reach_1_0_eq (N n : Nat) (v : ((List Int) × (Int × (Int × ((List Int) × ((List tyq3) × ((List Bool) × (Int × (Bool × (Bool × (Bool × (Int × ((List tyq4) × ((List Int) × ((List Int) × (Int × (Int × ((List (Int × tyq2)) × tyq9)))))))))))))))))) : zyz N (n + 1) v = ev (Xiheap_reach_1 N) biheap_reach_1_0 (zzd zte zqx (zyz N n)) (zte.mk' v) := by kernel_rfl
theorem cxiheap_reach_1 (N : Nat) : CtxOk Tryz.prog (Xiheap_reach_1 N) := ⟨⟨TE_ok, List.forall_mem_cons.2 ⟨(speciheap_now N), fun k hk => absurd hk List.not_mem_nil⟩⟩, mixed⟩
theorem lpiheap_reach_1_0 (N : Nat) : zzl Tryz.prog { hd := zte, outs := zqx, run := fun v => zyz N N v } biheap_reach_1_0 :=
 zzx (d := zte) (os := zqx) (cxiheap_reach_1 N) (zzz (ids := []) (by kernel_rfl) (trivial)) (zyz N) (fun _ => rfl) (fun n v => liheap_reach_1_0_eq N n v) (fun _ => N)
theorem speciheap_reach_1 (N : Nat) : Spec Tryz.prog (coniheap_reach_1 N) :=
 Spec.of_eq (zzu (cxiheap_reach_1 N) (f := 75) (fn := Tryz.f75) (c := zzy Tryz.f75) (by kernel_rfl) (by kernel_rfl) (by kernel_rfl) (zzz (ids := [0]) (by kernel_rfl) ⟨lp_of (lpiheap_reach_1_0 N), trivial⟩) (by kernel_rfl)) (fun x r h => (Fiheap_reach_1_eq N x).trans h)
def diniheap_reach : Desc := { n := 1, regs := [.one (.lit (.ptr 0 0))], bx := [(0, .var [.val (.sl (.int .i64)), .val (.sl tyq12), .val (.sl .bool), .val (.int .i64), .val .bool, .val .bool, .val .bool, .val (.int .i64), .val (.sl tyq13), .val (.sl (.int .i64)), .val (.sl (.int .i64)), .val (.int .i64), .val (.int .i64), .val (.mp tyq11), .lit (.row 1)]), (1, .row (.int .i64))], pins := [] }
def outiheap_reach : Outs := [(.ret, { n := 1, regs := [.one (.val .bool)], bx := [(0, .var [.val (.sl (.int .i64)), .val (.sl tyq12), .val (.sl .bool), .val (.int .i64), .val .bool, .val .bool, .val .bool, .val (.int .i64), .val (.sl tyq13), .val (.sl (.int .i64)), .val (.sl (.int .i64)), .val (.int .i64), .val (.int .i64), .val (.mp tyq11), .lit (.row 1)]), (1, .row (.int .i64))], pins := [.one (.lit (.ptr 0 0))] })]
def Hiheap_reach : Hints := [(3, [(6, { con := 1, sg := [(64, 1000000), (65, 0), (66, 1), (128, 1012864), (129, 1012800)], pre := [.freeze 1038721] })]),
 (8, [(14, { con := 1, sg := [(64, 1000000), (65, 0), (66, 1), (128, 1012864), (129, 1012800)] })])]
def Eiheap_reach (N : Nat) : Env := { te := TE, cs := [coniState_roots N, coniheap_reach_1 N] }
def zr2 : Desc := { n := 41, regs := [u, .one (.lit (.ptr 1000000 0)), u, u, .one (.clo 75 [.inl 1000000, .inl 1012864]), .one (.val (.int .i64))], bx := [(1000000, .var [.lit (.ptr 0 0)]), (0, .var [.val (.sl (.int .i64)), .val (.sl tyq12), .val (.sl .bool), .val (.int .i64), .val .bool, .val .bool, .val .bool, .val (.int .i64), .val (.sl tyq13), .val (.sl (.int .i64)), .val (.sl (.int .i64)), .val (.int .i64), .val (.int .i64), .val (.mp tyq11), .lit (.row 1)]), (1, .row (.int .i64)), (1012864, .var [.lit (.mrow 1012800)]), (1012800, .mp .bool)], pins := [.one (.lit (.ptr 0 0))] }
def oiheap_reach_0 : Outs := [(.exit 0, { n := 41, regs := [], bx := [(0, .var [.val (.sl (.int .i64)), .val (.sl tyq12), .val (.sl .bool), .val (.int .i64), .val .bool, .val .bool, .val .bool, .val (.int .i64), .val (.sl tyq13), .val (.sl (.int .i64)), .val (.sl (.int .i64)), .val (.int .i64), .val (.int .i64), .val (.mp tyq11), .lit (.row 1)]), (1, .row (.int .i64))], pins := [.one (.lit (.ptr 0 0))] }), (.ret, { n := 41, regs := [u, u, .one (.val .bool)], bx := [(0, .var [.val (.sl (.int .i64)), .val (.sl tyq12), .val (.sl .bool), .val (.int .i64), .val .bool, .val .bool, .val .bool, .val (.int .i64), .val (.sl tyq13), .val (.sl (.int .i64)), .val (.sl (.int .i64)), .val (.int .i64), .val (.int .i64), .val (.mp tyq11), .lit (.row 1)]), (1, .row (.int .i64))], pins := [.one (.lit (.ptr 0 0))] })]
def zxh (N : Nat) : Nat → (Int × ((List Int) × ((List tyq3) × ((List Bool) × (Int × (Bool × (Bool × (Bool × (Int × ((List tyq4) × ((List Int) × ((List Int) × (Int × (Int × ((List (Int × tyq2)) × tyq9))))))))))))))) → Option (((List Int) × ((List tyq3) × ((List Bool) × (Int × (Bool × (Bool × (Bool × (Int × ((List tyq4) × ((List Int) × ((List Int) × (Int × (Int × ((List (Int × tyq2)) × ((List Int) × Unit))))))))))))))) ⊕ (Bool × ((List Int) × ((List tyq3) × ((List Bool) × (Int × (Bool × (Bool × (Bool × (Int × ((List tyq4) × ((List Int) × ((List Int) × (Int × (Int × ((List (Int × tyq2)) × ((List Int) × Unit)))))))))))))))))
 | 0, _ => none
 | n + 1, v =>
  let y3 := (v.2.2.2.2.2.2.2.2.2.2.2.2.2.2.2.1.length : Int)
  bif decide (v.1 < y3) then
   bif decide (0 ≤ v.1) then
   bif decide (v.1.toNat < v.2.2.2.2.2.2.2.2.2.2.2.2.2.2.2.1.length) then
   let y4 := v.2.2.2.2.2.2.2.2.2.2.2.2.2.2.2.1.getD v.1.toNat (0 : Int)
   let y5 := (mget v.2.2.2.2.2.2.2.2.2.2.2.2.2.2.1 y4).getD ((0 : Int), (0 : Int), ((0 : Int), (0 : Int), ()), ([] : (List Int)), ([] : (List Int)), ())
   (zvb N (y5.2.2.2.1, v.2.1, v.2.2.1, v.2.2.2.1, v.2.2.2.2.1, v.2.2.2.2.2.1, v.2.2.2.2.2.2.1, v.2.2.2.2.2.2.2.1, v.2.2.2.2.2.2.2.2.1, v.2.2.2.2.2.2.2.2.2.1, v.2.2.2.2.2.2.2.2.2.2.1, v.2.2.2.2.2.2.2.2.2.2.2.1, v.2.2.2.2.2.2.2.2.2.2.2.2.1, v.2.2.2.2.2.2.2.2.2.2.2.2.2.1, v.2.2.2.2.2.2.2.2.2.2.2.2.2.2.1, v.2.2.2.2.2.2.2.2.2.2.2.2.2.2.2.1, v.2.2.2.2.2.2.2.2.2.2.2.2.2.2.2.2.1, ())).bind fun r6 =>
   bif !r6.1 then
    some (.inr ((false, r6.2.1, r6.2.2.1, r6.2.2.2.1, r6.2.2.2.2.1, r6.2.2.2.2.2.1, r6.2.2.2.2.2.2.1, r6.2.2.2.2.2.2.2.1, r6.2.2.2.2.2.2.2.2.1, r6.2.2.2.2.2.2.2.2.2.1, r6.2.2.2.2.2.2.2.2.2.2.1, r6.2.2.2.2.2.2.2.2.2.2.2.1, r6.2.2.2.2.2.2.2.2.2.2.2.2.1, r6.2.2.2.2.2.2.2.2.2.2.2.2.2.1, r6.2.2.2.2.2.2.2.2.2.2.2.2.2.2.1, r6.2.2.2.2.2.2.2.2.2.2.2.2.2.2.2.1, ())))
   else
   zxh N n (w64 (v.1 + (1 : Int)), r6.2.1, r6.2.2.1, r6.2.2.2.1, r6.2.2.2.2.1, r6.2.2.2.2.2.1, r6.2.2.2.2.2.2.1, r6.2.2.2.2.2.2.2.1, r6.2.2.2.2.2.2.2.2.1, r6.2.2.2.2.2.2.2.2.2.1, r6.2.2.2.2.2.2.2.2.2.2.1, r6.2.2.2.2.2.2.2.2.2.2.2.1, r6.2.2.2.2.2.2.2.2.2.2.2.2.1, r6.2.2.2.2.2.2.2.2.2.2.2.2.2.1, r6.2.2.2.2.2.2.2.2.2.2.2.2.2.2.1, r6.2.2.2.2.2.2.2.2.2.2.2.2.2.2.2.1, r6.2.2.2.2.2.2.2.2.2.2.2.2.2.2.2.2.1, ())
   else none
   else none
  else
  some (.inl (v.2.1, v.2.2.1, v.2.2.2.1, v.2.2.2.2.1, v.2.2.2.2.2.1, v.2.2.2.2.2.2.1, v.2.2.2.2.2.2.2.1, v.2.2.2.2.2.2.2.2.1, v.2.2.2.2.2.2.2.2.2.1, v.2.2.2.2.2.2.2.2.2.2.1, v.2.2.2.2.2.2.2.2.2.2.2.1, v.2.2.2.2.2.2.2.2.2.2.2.2.1, v.2.2.2.2.2.2.2.2.2.2.2.2.2.1, v.2.2.2.2.2.2.2.2.2.2.2.2.2.2.1, v.2.2.2.2.2.2.2.2.2.2.2.2.2.2.2.1, ()))
def ztu (N : Nat) (x : ((List Int) × ((List tyq3) × ((List Bool) × (Int × (Bool × (Bool × (Bool × (Int × ((List tyq4) × ((List Int) × ((List Int) × (Int × (Int × ((List (Int × tyq2)) × ((List Int) × Unit)))))))))))))))) : Option (Bool × ((List Int) × ((List tyq3) × ((List Bool) × (Int × (Bool × (Bool × (Bool × (Int × ((List tyq4) × ((List Int) × ((List Int) × (Int × (Int × ((List (Int × tyq2)) × ((List Int) × Unit)))))))))))))))) :=
 (zox N ((x.1, x.2.1, x.2.2.1, x.2.2.2.1, x.2.2.2.2.1, x.2.2.2.2.2.1, x.2.2.2.2.2.2.1, x.2.2.2.2.2.2.2.1, x.2.2.2.2.2.2.2.2.1, x.2.2.2.2.2.2.2.2.2.1, x.2.2.2.2.2.2.2.2.2.2.1, x.2.2.2.2.2.2.2.2.2.2.2.1, x.2.2.2.2.2.2.2.2.2.2.2.2.1, ()), ())).bind fun r1 =>
 (zvb N (r1.1, x.1, x.2.1, x.2.2.1, x.2.2.2.1, x.2.2.2.2.1, x.2.2.2.2.2.1, x.2.2.2.2.2.2.1, x.2.2.2.2.2.2.2.1, x.2.2.2.2.2.2.2.2.1, x.2.2.2.2.2.2.2.2.2.1, x.2.2.2.2.2.2.2.2.2.2.1, x.2.2.2.2.2.2.2.2.2.2.2.1, x.2.2.2.2.2.2.2.2.2.2.2.2.1, x.2.2.2.2.2.2.2.2.2.2.2.2.2.1, x.2.2.2.2.2.2.2.2.2.2.2.2.2.2.1, ([] : (List (Int × Bool))), ())).bind fun r2 =>
 bif !r2.1 then
  some (false, r2.2.1, r2.2.2.1, r2.2.2.2.1, r2.2.2.2.2.1, r2.2.2.2.2.2.1, r2.2.2.2.2.2.2.1, r2.2.2.2.2.2.2.2.1, r2.2.2.2.2.2.2.2.2.1, r2.2.2.2.2.2.2.2.2.2.1, r2.2.2.2.2.2.2.2.2.2.2.1, r2.2.2.2.2.2.2.2.2.2.2.2.1, r2.2.2.2.2.2.2.2.2.2.2.2.2.1, r2.2.2.2.2.2.2.2.2.2.2.2.2.2.1, r2.2.2.2.2.2.2.2.2.2.2.2.2.2.2.1, r2.2.2.2.2.2.2.2.2.2.2.2.2.2.2.2.1, ())
 else
 (zxh N N ((0 : Int), r2.2.1, r2.2.2.1, r2.2.2.2.1, r2.2.2.2.2.1, r2.2.2.2.2.2.1, r2.2.2.2.2.2.2.1, r2.2.2.2.2.2.2.2.1, r2.2.2.2.2.2.2.2.2.1, r2.2.2.2.2.2.2.2.2.2.1, r2.2.2.2.2.2.2.2.2.2.2.1, r2.2.2.2.2.2.2.2.2.2.2.2.1, r2.2.2.2.2.2.2.2.2.2.2.2.2.1, r2.2.2.2.2.2.2.2.2.2.2.2.2.2.1, r2.2.2.2.2.2.2.2.2.2.2.2.2.2.2.1, r2.2.2.2.2.2.2.2.2.2.2.2.2.2.2.2.1, r2.2.2.2.2.2.2.2.2.2.2.2.2.2.2.2.2.1, ())).bind fun o7 =>
 Sum.elim (fun o8 =>
  some (true, o8.1, o8.2.1, o8.2.2.1, o8.2.2.2.1, o8.2.2.2.2.1, o8.2.2.2.2.2.1, o8.2.2.2.2.2.2.1, o8.2.2.2.2.2.2.2.1, o8.2.2.2.2.2.2.2.2.1, o8.2.2.2.2.2.2.2.2.2.1, o8.2.2.2.2.2.2.2.2.2.2.1, o8.2.2.2.2.2.2.2.2.2.2.2.1, o8.2.2.2.2.2.2.2.2.2.2.2.2.1, o8.2.2.2.2.2.2.2.2.2.2.2.2.2.1, o8.2.2.2.2.2.2.2.2.2.2.2.2.2.2.1, ())) (fun o9 =>
  some (o9.1, o9.2.1, o9.2.2.1, o9.2.2.2.1, o9.2.2.2.2.1, o9.2.2.2.2.2.1, o9.2.2.2.2.2.2.1, o9.2.2.2.2.2.2.2.1, o9.2.2.2.2.2.2.2.2.1, o9.2.2.2.2.2.2.2.2.2.1, o9.2.2.2.2.2.2.2.2.2.2.1, o9.2.2.2.2.2.2.2.2.2.2.2.1, o9.2.2.2.2.2.2.2.2.2.2.2.2.1, o9.2.2.2.2.2.2.2.2.2.2.2.2.2.1, o9.2.2.2.2.2.2.2.2.2.2.2.2.2.2.1, o9.2.2.2.2.2.2.2.2.2.2.2.2.2.2.2.1, ())) o7
def coniheap_reach (N : Nat) : Con := { f := 58, din := diniheap_reach, outs := outiheap_reach, F := ztu N }
def Xiheap_reach (N : Nat) : Ctx := { E := Eiheap_reach N, H := Hiheap_reach, lp := [(0, { hd := zr2, outs := oiheap_reach_0, run := fun v => zxh N N v })], jn := [] }
def biheap_reach_0 : Code := zzv (zzy Tryz.f58) 0
theorem Fiheap_reach_eq (N : Nat) (x : ((List Int) × ((List tyq3) × ((List Bool) × (Int × (Bool × (Bool × (Bool × (Int × ((List tyq4) × ((List Int) × ((List Int) × (Int × (Int × ((List (Int × tyq2)) × ((List Int) × Unit)))))))))))))))) : evFn (Xiheap_reach N) Tryz.f58 diniheap_reach outiheap_reach x = ztu N x := by kernel_rfl
theorem liheap_reach_0_eq (N n : Nat) (v : (Int × ((List Int) × ((List tyq3) × ((List Bool) × (Int × (Bool × (Bool × (Bool × (Int × ((List tyq4) × ((List Int) × ((List Int) × (Int × (Int × ((List (Int × tyq2)) × tyq9)))))))))))))))) : zxh N (n + 1) v = ev (Xiheap_reach N) biheap_reach_0 (zzd zr2 oiheap_reach_0 (zxh N n)) (zr2.mk' v) := by kernel_rfl
theorem cxiheap_reach (N : Nat) : CtxOk Tryz.prog (Xiheap_reach N) := ⟨⟨TE_ok, List.forall_mem_cons.2 ⟨(speciState_roots N), List.forall_mem_cons.2 ⟨(speciheap_reach_1 N), fun k hk => absurd hk List.not_mem_nil⟩⟩⟩, mixed⟩
theorem lpiheap_reach_0 (N : Nat) : zzl Tryz.prog { hd := zr2, outs := oiheap_reach_0, run := fun v => zxh N N v } biheap_reach_0 :=
 zzx (d := zr2) (os := oiheap_reach_0) (cxiheap_reach N) (zzz (ids := []) (by kernel_rfl) (trivial)) (zxh N) (fun _ => rfl) (fun n v => liheap_reach_0_eq N n v) (fun _ => N)
theorem speciheap_reach (N : Nat) : Spec Tryz.prog (coniheap_reach N) :=
 Spec.of_eq (zzu (cxiheap_reach N) (f := 58) (fn := Tryz.f58) (c := zzy Tryz.f58) (by kernel_rfl) (by kernel_rfl) (by kernel_rfl) (zzz (ids := [0]) (by kernel_rfl) ⟨lp_of (lpiheap_reach_0 N), trivial⟩) (by kernel_rfl)) (fun x r h => (Fiheap_reach_eq N x).trans h)
def diniheapOf : Desc := { n := 1, regs := [.one (.val tyq10)], bx := [], pins := [] }
def outiheapOf : Outs := [(.ret, { n := 1, regs := [.one (.lit .pnil)], bx := [], pins := [] }), (.ret, { n := 1, regs := [.one (.lit (.ptr 1217792 0))], bx := [(1217792, .var [.val (.sl (.int .i64)), .val (.sl tyq12), .val (.sl .bool), .val (.int .i64), .val .bool, .val .bool, .val .bool, .val (.int .i64), .val (.sl tyq13), .val (.sl (.int .i64)), .val (.sl (.int .i64)), .val (.int .i64), .val (.int .i64), .val (.mp tyq11), .lit (.row 1217807)]), (1217807, .row (.int .i64))], pins := [] })]
def HiheapOf : Hints := [(0, [(0, { fz := true })]),
 (2, [(5, { con := 1 })]),
 (14, [(11, { con := 2 })]),
 (17, [(3, { nl := [(14, (.int .i64))] })]),
 (18, [(1, { con := 3, sg := [(0, 1217792), (1, 1217807)] })])]
def EiheapOf (N : Nat) : Env := { te := TE, cs := [coniState_things N, coniState_settled N, coniState_from N, coniheap_reach N] }
def diheapOf_0 : Desc := { n := 110, regs := [u, .one (.fpt tyq10), u, .one (.val (.mp tyq11)), u, u, u, u, u, u, u, u, u, u, u, u, u, u, u, u, u, u, u, u, u, u, u, u, u, u, u, u, u, u, u, u, u, u, u, u, u, u, u, u, u, u, u, u, u, u, u, u, u, u, .one (.val (.sl tyq13)), .one (.val (.int .i64)), .one (.val (.int .i64))], bx := [], pins := [] }
def oiheapOf_0 : Outs := [(.exit 0, { n := 110, regs := [u, .one (.fpt tyq10), u, .one (.val (.mp tyq11))], bx := [], pins := [] }), (.ret, { n := 110, regs := [u, u, .one (.lit .pnil)], bx := [], pins := [] })]
def diheapOf_2 : Desc := { n := 110, regs := [u, .one (.fpt tyq10), u, .one (.val (.mp tyq11)), u, u, u, u, u, u, u, u, u, u, u, u, u, u, u, u, u, u, u, u, u, u, u, u, u, u, u, u, u, u, u, u, u, u, u, u, u, u, u, u, u, u, u, u, u, u, u, u, u, u, u, u, u, u, u, u, u, u, u, u, u, u, u, u, u, u, u, u, u, u, u, u, .one (.val (.sl (.int .i64))), .one (.val (.int .i64)), .one (.val (.int .i64))], bx := [], pins := [] }
def oiheapOf_2 : Outs := [(.exit 2, { n := 110, regs := [u, .one (.fpt tyq10), u, .one (.val (.mp tyq11))], bx := [], pins := [] }), (.ret, { n := 110, regs := [u, u, .one (.lit .pnil)], bx := [], pins := [] })]
def jiheapOf_4 : Outs := [(.normal, { n := 110, regs := [u, .one (.fpt tyq10), u, .one (.val (.mp tyq11))], bx := [], pins := [] }), (.ret, { n := 110, regs := [u, u, .one (.lit .pnil)], bx := [], pins := [] })]
def zv0 (N : Nat) : Nat → (tyq1 × ((List (Int × tyq2)) × ((List tyq4) × (Int × (Int × Unit))))) → Option ((tyq1 × ((List (Int × tyq2)) × Unit)) ⊕ Unit)
 | 0, _ => none
 | n + 1, v =>
  bif decide (v.2.2.2.2.1 < v.2.2.2.1) then
   bif decide (0 ≤ v.2.2.2.2.1) then
   bif decide (v.2.2.2.2.1.toNat < v.2.2.1.length) then
   let y9 := v.2.2.1.getD v.2.2.2.2.1.toNat (([] : (List Int)), (0 : Int), false, (0 : Int), ())
   let y10 := decide ((y9.1.length : Int) > (8 : Int))
   bif y10 then
    some (.inr (()))
   else
   bif decide (y9.2.2.2.1 < (0 : Int)) then
    some (.inr (()))
   else
   bif decide (y9.2.2.2.1 > (2 : Int)) then
    some (.inr (()))
   else
   zv0 N n (v.1, v.2.1, v.2.2.1, v.2.2.2.1, w64 (v.2.2.2.2.1 + (1 : Int)), ())
   else none
   else none
  else
  some (.inl (v.1, v.2.1, ()))
def zva (N : Nat) : Nat → (tyq1 × ((List (Int × tyq2)) × ((List Int) × (Int × (Int × Unit))))) → Option ((tyq1 × ((List (Int × tyq2)) × Unit)) ⊕ Unit)
 | 0, _ => none
 | n + 1, v =>
  bif decide (v.2.2.2.2.1 < v.2.2.2.1) then
   bif decide (0 ≤ v.2.2.2.2.1) then
   bif decide (v.2.2.2.2.1.toNat < v.2.2.1.length) then
   let y14 := v.2.2.1.getD v.2.2.2.2.1.toNat (0 : Int)
   let y15 := (mget v.2.1 y14).getD ((0 : Int), (0 : Int), ((0 : Int), (0 : Int), ()), ([] : (List Int)), ([] : (List Int)), ())
   bif !((mget v.2.1 y14).isSome) then
    some (.inr (()))
   else
   bif y15.2.1 != y14 then
    some (.inr (()))
   else
   (zs8 N (v.1, y14, ())).bind fun r16 =>
   bif r16.1 then
    some (.inr (()))
   else
   zva N n (v.1, v.2.1, v.2.2.1, v.2.2.2.1, w64 (v.2.2.2.2.1 + (1 : Int)), ())
   else none
   else none
  else
  some (.inl (v.1, v.2.1, ()))
def FiheapOf (N : Nat) (x : (tyq1 × Unit)) : Option (Unit ⊕ ((List Int) × ((List tyq3) × ((List Bool) × (Int × (Bool × (Bool × (Bool × (Int × ((List tyq4) × ((List Int) × ((List Int) × (Int × (Int × ((List (Int × tyq2)) × ((List Int) × Unit)))))))))))))))) :=
 (zr8 N (x.1, ())).bind fun r1 =>
 Option.bind (
  bif !r1.2.1 then
   some (.inr (()))
  else
  (zs7 N (x.1, r1.1, ())).bind fun r2 =>
  bif !r2.1 then
   some (.inr (()))
  else
  bif decide (x.1.2.2.2.1 < (0 : Int)) then
   some (.inr (()))
  else
  bif decide (x.1.2.2.2.1 > (3 : Int)) then
   some (.inr (()))
  else
  let y3 := decide ((x.1.2.2.2.2.2.2.2.2.1.length : Int) < (1 : Int))
  bif y3 then
   some (.inr (()))
  else
  let y4 := decide ((x.1.2.2.2.2.2.2.2.2.1.length : Int) > (3 : Int))
  bif y4 then
   some (.inr (()))
  else
  let y5 := (x.1.2.2.2.2.2.2.2.2.2.2.1.length : Int)
  bif decide (y5 > (8 : Int)) then
   some (.inr (()))
  else
  some (.inl (x.1, r1.1, ()))) fun o6 =>
 Sum.elim (fun o7 =>
  let y8 := (o7.1.2.2.2.2.2.2.2.2.1.length : Int)
  (zv0 N N (o7.1, o7.2.1, o7.1.2.2.2.2.2.2.2.2.1, y8, (0 : Int), ())).bind fun o11 =>
  Sum.elim (fun o12 =>
   let y13 := (o12.1.2.2.2.2.2.2.2.2.2.2.1.length : Int)
   (zva N N (o12.1, o12.2.1, o12.1.2.2.2.2.2.2.2.2.2.2.1, y13, (0 : Int), ())).bind fun o17 =>
   Sum.elim (fun o18 =>
    (ztu N (o18.1.1, o18.1.2.1, o18.1.2.2.1, o18.1.2.2.2.1, o18.1.2.2.2.2.1, o18.1.2.2.2.2.2.1, o18.1.2.2.2.2.2.2.1, o18.1.2.2.2.2.2.2.2.1, o18.1.2.2.2.2.2.2.2.2.1, o18.1.2.2.2.2.2.2.2.2.2.1, o18.1.2.2.2.2.2.2.2.2.2.2.1, o18.1.2.2.2.2.2.2.2.2.2.2.2.1, o18.1.2.2.2.2.2.2.2.2.2.2.2.2.1, o18.2.1, ([] : (List Int)), ())).bind fun r19 =>
    bif !r19.1 then
     some (.inl ())
    else
    some (.inr ((r19.2.1, r19.2.2.1, r19.2.2.2.1, r19.2.2.2.2.1, r19.2.2.2.2.2.1, r19.2.2.2.2.2.2.1, r19.2.2.2.2.2.2.2.1, r19.2.2.2.2.2.2.2.2.1, r19.2.2.2.2.2.2.2.2.2.1, r19.2.2.2.2.2.2.2.2.2.2.1, r19.2.2.2.2.2.2.2.2.2.2.2.1, r19.2.2.2.2.2.2.2.2.2.2.2.2.1, r19.2.2.2.2.2.2.2.2.2.2.2.2.2.1, r19.2.2.2.2.2.2.2.2.2.2.2.2.2.2.1, r19.2.2.2.2.2.2.2.2.2.2.2.2.2.2.2.1, ())))) (fun o20 =>
    some (.inl ())) o17) (fun o21 =>
   some (.inl ())) o11) (fun o22 =>
  some (.inl ())) o6
def coniheapOf (N : Nat) : Con := { f := 27, din := diniheapOf, outs := outiheapOf, F := FiheapOf N }
def XiheapOf (N : Nat) : Ctx := { E := EiheapOf N, H := HiheapOf, lp := [(0, { hd := diheapOf_0, outs := oiheapOf_0, run := fun v => zv0 N N v }), (2, { hd := diheapOf_2, outs := oiheapOf_2, run := fun v => zva N N v })], jn := [(4, jiheapOf_4)] }
def biheapOf_2 : Code := zzv (zzy Tryz.f27) 1
def biheapOf_0 : Code := zzv (zzy Tryz.f27) 0
theorem FiheapOf_eq (N : Nat) (x : (tyq1 × Unit)) : evFn (XiheapOf N) Tryz.f27 diniheapOf outiheapOf x = FiheapOf N x := by kernel_rfl
theorem liheapOf_0_eq (N n : Nat) (v : (tyq1 × ((List (Int × tyq2)) × ((List tyq4) × (Int × (Int × Unit)))))) : zv0 N (n + 1) v = ev (XiheapOf N) biheapOf_0 (zzd diheapOf_0 oiheapOf_0 (zv0 N n)) (diheapOf_0.mk' v) := by kernel_rfl
theorem liheapOf_2_eq (N n : Nat) (v : (tyq1 × ((List (Int × tyq2)) × ((List Int) × (Int × (Int × Unit)))))) : zva N (n + 1) v = ev (XiheapOf N) biheapOf_2 (zzd diheapOf_2 oiheapOf_2 (zva N n)) (diheapOf_2.mk' v) := by kernel_rfl
theorem cxiheapOf (N : Nat) : CtxOk Tryz.prog (XiheapOf N) := ⟨⟨TE_ok, List.forall_mem_cons.2 ⟨(speciState_things N), List.forall_mem_cons.2 ⟨(speciState_settled N), List.forall_mem_cons.2 ⟨(speciState_from N), List.forall_mem_cons.2 ⟨(speciheap_reach N), fun k hk => absurd hk List.not_mem_nil⟩⟩⟩⟩⟩, mixed⟩
theorem lpiheapOf_0 (N : Nat) : zzl Tryz.prog { hd := diheapOf_0, outs := oiheapOf_0, run := fun v => zv0 N N v } biheapOf_0 :=
 zzx (d := diheapOf_0) (os := oiheapOf_0) (cxiheapOf N) (zzz (ids := []) (by kernel_rfl) (trivial)) (zv0 N) (fun _ => rfl) (fun n v => liheapOf_0_eq N n v) (fun _ => N)
theorem lpiheapOf_2 (N : Nat) : zzl Tryz.prog { hd := diheapOf_2, outs := oiheapOf_2, run := fun v => zva N N v } biheapOf_2 :=
 zzx (d := diheapOf_2) (os := oiheapOf_2) (cxiheapOf N) (zzz (ids := []) (by kernel_rfl) (trivial)) (zva N) (fun _ => rfl) (fun n v => liheapOf_2_eq N n v) (fun _ => N)
theorem speciheapOf (N : Nat) : Spec Tryz.prog (coniheapOf N) :=
 Spec.of_eq (zzu (cxiheapOf N) (f := 27) (fn := Tryz.f27) (c := zzy Tryz.f27) (by kernel_rfl) (by kernel_rfl) (by kernel_rfl) (zzz (ids := [0, 2]) (by kernel_rfl) ⟨lp_of (lpiheapOf_0 N), ⟨lp_of (lpiheapOf_2 N), trivial⟩⟩) (by kernel_rfl)) (fun x r h => (FiheapOf_eq N x).trans h)
def dinmath_bits_Len64 : Desc := { n := 1, regs := [.one (.val (.int .u64))], bx := [], pins := [] }
def outmath_bits_Len64 : Outs := [(.ret, { n := 1, regs := [.one (.val (.int .i64))], bx := [], pins := [] })]
def Hmath_bits_Len64 : Hints := []
def Emath_bits_Len64 (_N : Nat) : Env := { te := TE, cs := [] }
def jmath_bits_Len64_4 : Outs := [(.normal, { n := 25, regs := [.one (.val (.int .u64)), u, .one (.val (.int .i64))], bx := [], pins := [] })]
def jmath_bits_Len64_7 : Outs := [(.normal, { n := 25, regs := [.one (.val (.int .u64)), u, .one (.val (.int .i64))], bx := [], pins := [] })]
def jmath_bits_Len64_10 : Outs := [(.normal, { n := 25, regs := [.one (.val (.int .u64)), u, .one (.val (.int .i64))], bx := [], pins := [] })]
def Fmath_bits_Len64 (N : Nat) (x : (Int × Unit)) : Option (Int × Unit) :=
 Option.bind (
  bif decide (x.1 ≥ (4294967296 : Int)) then
   bif decide (0 ≤ (32 : Int)) then
   let y1 := Int.fdiv x.1 (2 ^ min (32 : Int).toNat 64)
   some (y1, (32 : Int), ())
   else none
  else
  some (x.1, (0 : Int), ())) fun o2 =>
 Option.bind (
  bif decide (o2.1 ≥ (65536 : Int)) then
   bif decide (0 ≤ (16 : Int)) then
   let y3 := Int.fdiv o2.1 (2 ^ min (16 : Int).toNat 64)
   some (y3, w64 (o2.2.1 + (16 : Int)), ())
   else none
  else
  some (o2.1, o2.2.1, ())) fun o4 =>
 Option.bind (
  bif decide (o4.1 ≥ (256 : Int)) then
   bif decide (0 ≤ (8 : Int)) then
   let y5 := Int.fdiv o4.1 (2 ^ min (8 : Int).toNat 64)
   some (y5, w64 (o4.2.1 + (8 : Int)), ())
   else none
  else
  some (o4.1, o4.2.1, ())) fun o6 =>
 bif decide (0 ≤ (IntKind.wrap .u8 (o6.1))) then
 bif decide ((IntKind.wrap .u8 (o6.1)).toNat < (ByteArray.mk #[0, 1, 2, 2, 3, 3, 3, 3, 4, 4, 4, 4, 4, 4, 4, 4, 5, 5, 5, 5, 5, 5, 5, 5, 5, 5, 5, 5, 5, 5, 5, 5, 6, 6, 6, 6, 6, 6, 6, 6, 6, 6, 6, 6, 6, 6, 6, 6, 6, 6, 6, 6, 6, 6, 6, 6, 6, 6, 6, 6, 6, 6, 6, 6, 7, 7, 7, 7, 7, 7, 7, 7, 7, 7, 7, 7, 7, 7, 7, 7, 7, 7, 7, 7, 7, 7, 7, 7, 7, 7, 7, 7, 7, 7, 7, 7, 7, 7, 7, 7, 7, 7, 7, 7, 7, 7, 7, 7, 7, 7, 7, 7, 7, 7, 7, 7, 7, 7, 7, 7, 7, 7, 7, 7, 7, 7, 7, 7, 8, 8, 8, 8, 8, 8, 8, 8, 8, 8, 8, 8, 8, 8, 8, 8, 8, 8, 8, 8, 8, 8, 8, 8, 8, 8, 8, 8, 8, 8, 8, 8, 8, 8, 8, 8, 8, 8, 8, 8, 8, 8, 8, 8, 8, 8, 8, 8, 8, 8, 8, 8, 8, 8, 8, 8, 8, 8, 8, 8, 8, 8, 8, 8, 8, 8, 8, 8, 8, 8, 8, 8, 8, 8, 8, 8, 8, 8, 8, 8, 8, 8, 8, 8, 8, 8, 8, 8, 8, 8, 8, 8, 8, 8, 8, 8, 8, 8, 8, 8, 8, 8, 8, 8, 8, 8, 8, 8, 8, 8, 8, 8, 8, 8, 8, 8, 8, 8, 8, 8, 8, 8, 8, 8, 8, 8, 8, 8]).size) then
 let y7 := (((ByteArray.mk #[0, 1, 2, 2, 3, 3, 3, 3, 4, 4, 4, 4, 4, 4, 4, 4, 5, 5, 5, 5, 5, 5, 5, 5, 5, 5, 5, 5, 5, 5, 5, 5, 6, 6, 6, 6, 6, 6, 6, 6, 6, 6, 6, 6, 6, 6, 6, 6, 6, 6, 6, 6, 6, 6, 6, 6, 6, 6, 6, 6, 6, 6, 6, 6, 7, 7, 7, 7, 7, 7, 7, 7, 7, 7, 7, 7, 7, 7, 7, 7, 7, 7, 7, 7, 7, 7, 7, 7, 7, 7, 7, 7, 7, 7, 7, 7, 7, 7, 7, 7, 7, 7, 7, 7, 7, 7, 7, 7, 7, 7, 7, 7, 7, 7, 7, 7, 7, 7, 7, 7, 7, 7, 7, 7, 7, 7, 7, 7, 8, 8, 8, 8, 8, 8, 8, 8, 8, 8, 8, 8, 8, 8, 8, 8, 8, 8, 8, 8, 8, 8, 8, 8, 8, 8, 8, 8, 8, 8, 8, 8, 8, 8, 8, 8, 8, 8, 8, 8, 8, 8, 8, 8, 8, 8, 8, 8, 8, 8, 8, 8, 8, 8, 8, 8, 8, 8, 8, 8, 8, 8, 8, 8, 8, 8, 8, 8, 8, 8, 8, 8, 8, 8, 8, 8, 8, 8, 8, 8, 8, 8, 8, 8, 8, 8, 8, 8, 8, 8, 8, 8, 8, 8, 8, 8, 8, 8, 8, 8, 8, 8, 8, 8, 8, 8, 8, 8, 8, 8, 8, 8, 8, 8, 8, 8, 8, 8, 8, 8, 8, 8, 8, 8, 8, 8, 8, 8]).data.getD (IntKind.wrap .u8 (o6.1)).toNat 0).toNat : Int)
 some (w64 (o6.2.1 + (w64 (y7))), ())
 else none
 else none
def conmath_bits_Len64 (N : Nat) : Con := { f := 97, din := dinmath_bits_Len64, outs := outmath_bits_Len64, F := Fmath_bits_Len64 N }
def Xmath_bits_Len64 (N : Nat) : Ctx := { E := Emath_bits_Len64 N, H := Hmath_bits_Len64, lp := [], jn := [(4, jmath_bits_Len64_4), (7, jmath_bits_Len64_7), (10, jmath_bits_Len64_10)] }
theorem Fmath_bits_Len64_eq (N : Nat) (x : (Int × Unit)) : evFn (Xmath_bits_Len64 N) Tryz.f97 dinmath_bits_Len64 outmath_bits_Len64 x = Fmath_bits_Len64 N x := by kernel_rfl
theorem cxmath_bits_Len64 (N : Nat) : CtxOk Tryz.prog (Xmath_bits_Len64 N) := ⟨⟨TE_ok, fun k hk => absurd hk List.not_mem_nil⟩, mixed⟩
theorem specmath_bits_Len64 (N : Nat) : Spec Tryz.prog (conmath_bits_Len64 N) :=
 Spec.of_eq (zzu (cxmath_bits_Len64 N) (f := 97) (fn := Tryz.f97) (c := zzy Tryz.f97) (by kernel_rfl) (by kernel_rfl) (by kernel_rfl) (zzz (ids := []) (by kernel_rfl) (trivial)) (by kernel_rfl)) (fun x r h => (Fmath_bits_Len64_eq N x).trans h)
def dinmath_bits_Len : Desc := { n := 1, regs := [.one (.val (.int .u64))], bx := [], pins := [] }
def outmath_bits_Len : Outs := [(.ret, { n := 1, regs := [.one (.val (.int .i64))], bx := [], pins := [] })]
def Hmath_bits_Len : Hints := []
def Emath_bits_Len (N : Nat) : Env := { te := TE, cs := [conmath_bits_Len64 N] }
def zvy (N : Nat) (x : (Int × Unit)) : Option (Int × Unit) :=
 (Fmath_bits_Len64 N (x.1, ())).bind fun r1 =>
 some (r1.1, ())
def conmath_bits_Len (N : Nat) : Con := { f := 78, din := dinmath_bits_Len, outs := outmath_bits_Len, F := zvy N }
def Xmath_bits_Len (N : Nat) : Ctx := { E := Emath_bits_Len N, H := Hmath_bits_Len, lp := [], jn := [] }
theorem Fmath_bits_Len_eq (N : Nat) (x : (Int × Unit)) : evFn (Xmath_bits_Len N) Tryz.f78 dinmath_bits_Len outmath_bits_Len x = zvy N x := by kernel_rfl
theorem cxmath_bits_Len (N : Nat) : CtxOk Tryz.prog (Xmath_bits_Len N) := ⟨⟨TE_ok, List.forall_mem_cons.2 ⟨(specmath_bits_Len64 N), fun k hk => absurd hk List.not_mem_nil⟩⟩, mixed⟩
theorem specmath_bits_Len (N : Nat) : Spec Tryz.prog (conmath_bits_Len N) :=
 Spec.of_eq (zzu (cxmath_bits_Len N) (f := 78) (fn := Tryz.f78) (c := zzy Tryz.f78) (by kernel_rfl) (by kernel_rfl) (by kernel_rfl) (zzz (ids := []) (by kernel_rfl) (trivial)) (by kernel_rfl)) (fun x r h => (Fmath_bits_Len_eq N x).trans h)
def dincmp_isNaN_int : Desc := { n := 1, regs := [.one (.val (.int .i64))], bx := [], pins := [] }
def outcmp_isNaN_int : Outs := [(.ret, { n := 1, regs := [.one (.val .bool)], bx := [], pins := [] })]
def Hcmp_isNaN_int : Hints := []
def Ecmp_isNaN_int (_N : Nat) : Env := { te := TE, cs := [] }
def zr9 (N : Nat) (x : (Int × Unit)) : Option (Bool × Unit) :=
 some (x.1 != x.1, ())
def concmp_isNaN_int (N : Nat) : Con := { f := 79, din := dincmp_isNaN_int, outs := outcmp_isNaN_int, F := zr9 N }
def Xcmp_isNaN_int (N : Nat) : Ctx := { E := Ecmp_isNaN_int N, H := Hcmp_isNaN_int, lp := [], jn := [] }
theorem Fcmp_isNaN_int_eq (N : Nat) (x : (Int × Unit)) : evFn (Xcmp_isNaN_int N) Tryz.f79 dincmp_isNaN_int outcmp_isNaN_int x = zr9 N x := by kernel_rfl
theorem cxcmp_isNaN_int (N : Nat) : CtxOk Tryz.prog (Xcmp_isNaN_int N) := ⟨⟨TE_ok, fun k hk => absurd hk List.not_mem_nil⟩, mixed⟩
theorem speccmp_isNaN_int (N : Nat) : Spec Tryz.prog (concmp_isNaN_int N) :=
 Spec.of_eq (zzu (cxcmp_isNaN_int N) (f := 79) (fn := Tryz.f79) (c := zzy Tryz.f79) (by kernel_rfl) (by kernel_rfl) (by kernel_rfl) (zzz (ids := []) (by kernel_rfl) (trivial)) (by kernel_rfl)) (fun x r h => (Fcmp_isNaN_int_eq N x).trans h)
def dincmp_Less_int : Desc := { n := 2, regs := [.one (.val (.int .i64)), .one (.val (.int .i64))], bx := [], pins := [] }
def outcmp_Less_int : Outs := [(.ret, { n := 1, regs := [.one (.val .bool)], bx := [], pins := [] })]
def Hcmp_Less_int : Hints := []
def Ecmp_Less_int (N : Nat) : Env := { te := TE, cs := [concmp_isNaN_int N] }
def zz9 (N : Nat) (x : (Int × (Int × Unit))) : Option (Bool × Unit) :=
 (zr9 N (x.1, ())).bind fun r1 =>
 bif r1.1 then
  (zr9 N (x.2.1, ())).bind fun r2 =>
  bif !r2.1 then
   some (true, ())
  else
  some (decide (x.1 < x.2.1), ())
 else
 some (decide (x.1 < x.2.1), ())
def zwi (N : Nat) : Con := { f := 60, din := dincmp_Less_int, outs := outcmp_Less_int, F := zz9 N }
def Xcmp_Less_int (N : Nat) : Ctx := { E := Ecmp_Less_int N, H := Hcmp_Less_int, lp := [], jn := [] }
theorem Fcmp_Less_int_eq (N : Nat) (x : (Int × (Int × Unit))) : evFn (Xcmp_Less_int N) Tryz.f60 dincmp_Less_int outcmp_Less_int x = zz9 N x := by kernel_rfl
theorem cxcmp_Less_int (N : Nat) : CtxOk Tryz.prog (Xcmp_Less_int N) := ⟨⟨TE_ok, List.forall_mem_cons.2 ⟨(speccmp_isNaN_int N), fun k hk => absurd hk List.not_mem_nil⟩⟩, mixed⟩
theorem zwg (N : Nat) : Spec Tryz.prog (zwi N) :=
 Spec.of_eq (zzu (cxcmp_Less_int N) (f := 60) (fn := Tryz.f60) (c := zzy Tryz.f60) (by kernel_rfl) (by kernel_rfl) (by kernel_rfl) (zzz (ids := []) (by kernel_rfl) (trivial)) (by kernel_rfl)) (fun x r h => (Fcmp_Less_int_eq N x).trans h)
def zsv : Desc := { n := 3, regs := [.one (.lit (.row 0)), .one (.val (.int .i64)), .one (.val (.int .i64))], bx := [(0, .row (.int .i64))], pins := [] }
def zsy : Outs := [(.ret, { n := 0, regs := [], bx := [(0, .row (.int .i64))], pins := [.one (.lit (.row 0))] })]
def HkinsertionSortOrdered_int : Hints := []
def EkinsertionSortOrdered_int (N : Nat) : Env := { te := TE, cs := [zwi N] }
def zy3 : Desc := { n := 49, regs := [.one (.lit (.row 0)), .one (.val (.int .i64)), .one (.val (.int .i64)), u, u, u, .one (.val (.int .i64)), .one (.val (.int .i64))], bx := [(0, .row (.int .i64))], pins := [.one (.lit (.row 0))] }
def zwy : Outs := [(.exit 2, { n := 49, regs := [.one (.lit (.row 0)), .one (.val (.int .i64)), .one (.val (.int .i64)), u, u, u, .one (.val (.int .i64))], bx := [(0, .row (.int .i64))], pins := [.one (.lit (.row 0))] })]
def zy4 : Desc := { n := 49, regs := [.one (.lit (.row 0)), .one (.val (.int .i64)), .one (.val (.int .i64)), u, u, u, .one (.val (.int .i64))], bx := [(0, .row (.int .i64))], pins := [.one (.lit (.row 0))] }
def zwx : Outs := [(.exit 0, { n := 49, regs := [], bx := [(0, .row (.int .i64))], pins := [.one (.lit (.row 0))] })]
def jkinsertionSortOrdered_int_6 : Outs := [(.exit 2, { n := 49, regs := [.one (.lit (.row 0)), .one (.val (.int .i64)), .one (.val (.int .i64)), u, u, u, .one (.val (.int .i64))], bx := [(0, .row (.int .i64))], pins := [.one (.lit (.row 0))] }), (.normal, { n := 49, regs := [.one (.lit (.row 0)), .one (.val (.int .i64)), .one (.val (.int .i64)), u, u, u, .one (.val (.int .i64)), .one (.val (.int .i64))], bx := [(0, .row (.int .i64))], pins := [.one (.lit (.row 0))] })]
def zzk (N : Nat) : Nat → (Int × tyq5) → Option tyq5
 | 0, _ => none
 | n + 1, v =>
  Option.bind (
   bif decide (v.2.2.2.1 > v.1) then
    bif decide (0 ≤ v.2.2.2.1) then
    bif decide (v.2.2.2.1.toNat < v.2.2.2.2.1.length) then
    let y1 := v.2.2.2.2.1.getD v.2.2.2.1.toNat (0 : Int)
    bif decide (0 ≤ (w64 (v.2.2.2.1 - (1 : Int)))) then
    bif decide ((w64 (v.2.2.2.1 - (1 : Int))).toNat < v.2.2.2.2.1.length) then
    let y2 := v.2.2.2.2.1.getD ((w64 (v.2.2.2.1 - (1 : Int))).toNat) (0 : Int)
    (zz9 N (y1, y2, ())).bind fun r3 =>
    bif r3.1 then
     some (.inr ((v.1, v.2.1, v.2.2.1, v.2.2.2.1, v.2.2.2.2.1, ())))
    else
    some (.inl (v.1, v.2.1, v.2.2.1, v.2.2.2.2.1, ()))
    else none
    else none
    else none
    else none
   else
   some (.inl (v.1, v.2.1, v.2.2.1, v.2.2.2.2.1, ()))) fun o4 =>
  Sum.elim (fun o5 =>
   some (o5.1, o5.2.1, o5.2.2.1, o5.2.2.2.1, ())) (fun o6 =>
   bif decide (0 ≤ (w64 (o6.2.2.2.1 - (1 : Int)))) then
   bif decide ((w64 (o6.2.2.2.1 - (1 : Int))).toNat < o6.2.2.2.2.1.length) then
   let y7 := o6.2.2.2.2.1.getD ((w64 (o6.2.2.2.1 - (1 : Int))).toNat) (0 : Int)
   bif decide (0 ≤ o6.2.2.2.1) then
   bif decide (o6.2.2.2.1.toNat < o6.2.2.2.2.1.length) then
   let y8 := o6.2.2.2.2.1.getD o6.2.2.2.1.toNat (0 : Int)
   bif decide (0 ≤ o6.2.2.2.1) then
   bif decide (o6.2.2.2.1.toNat < o6.2.2.2.2.1.length) then
   bif decide (0 ≤ (w64 (o6.2.2.2.1 - (1 : Int)))) then
   bif decide ((w64 (o6.2.2.2.1 - (1 : Int))).toNat < (o6.2.2.2.2.1.set o6.2.2.2.1.toNat y7).length) then
   let y9 := (o6.2.2.2.2.1.set o6.2.2.2.1.toNat y7).set ((w64 (o6.2.2.2.1 - (1 : Int))).toNat) y8
   zzk N n (o6.1, o6.2.1, o6.2.2.1, w64 (o6.2.2.2.1 - (1 : Int)), y9, ())
   else none
   else none
   else none
   else none
   else none
   else none
   else none
   else none) o4
def zzj (N : Nat) : Nat → tyq5 → Option ((List Int) × Unit)
 | 0, _ => none
 | n + 1, v =>
  bif decide (v.2.2.1 < v.2.1) then
   (zzk N N (v.1, v.2.1, v.2.2.1, v.2.2.1, v.2.2.2.1, ())).bind fun o10 =>
   zzj N n (o10.1, o10.2.1, w64 (o10.2.2.1 + (1 : Int)), o10.2.2.2.1, ())
  else
  some (v.2.2.2.1, ())
def zxs (N : Nat) (x : (Int × (Int × ((List Int) × Unit)))) : Option ((List Int) × Unit) :=
 (zzj N N (x.1, x.2.1, w64 (x.1 + (1 : Int)), x.2.2.1, ())).bind fun o11 =>
 some (o11.1, ())
def zst (N : Nat) : Con := { f := 88, din := zsv, outs := zsy, F := zxs N }
def zwe (N : Nat) : Ctx := { E := EkinsertionSortOrdered_int N, H := HkinsertionSortOrdered_int, lp := [(2, { hd := zy3, outs := zwy, run := fun v => zzk N N v }), (0, { hd := zy4, outs := zwx, run := fun v => zzj N N v })], jn := [(6, jkinsertionSortOrdered_int_6)] }
def zvh : Code := zzv (zzy Tryz.f88) 0
def zsr : Code := zzv zvh 0
theorem FkinsertionSortOrdered_int_eq (N : Nat) (x : (Int × (Int × ((List Int) × Unit)))) : evFn (zwe N) Tryz.f88 zsv zsy x = zxs N x := by kernel_rfl
theorem zok (N n : Nat) (v : (Int × tyq5)) : zzk N (n + 1) v = ev (zwe N) zsr (zzd zy3 zwy (zzk N n)) (zy3.mk' v) := by kernel_rfl
theorem zoj (N n : Nat) (v : tyq5) : zzj N (n + 1) v = ev (zwe N) zvh (zzd zy4 zwx (zzj N n)) (zy4.mk' v) := by kernel_rfl
theorem zux (N : Nat) : CtxOk Tryz.prog (zwe N) := ⟨⟨TE_ok, List.forall_mem_cons.2 ⟨(zwg N), fun k hk => absurd hk List.not_mem_nil⟩⟩, mixed⟩
theorem lpkinsertionSortOrdered_int_2 (N : Nat) : zzl Tryz.prog { hd := zy3, outs := zwy, run := fun v => zzk N N v } zsr :=
 zzx (d := zy3) (os := zwy) (zux N) (zzz (ids := []) (by kernel_rfl) (trivial)) (zzk N) (fun _ => rfl) (fun n v => zok N n v) (fun _ => N)
theorem lpkinsertionSortOrdered_int_0 (N : Nat) : zzl Tryz.prog { hd := zy4, outs := zwx, run := fun v => zzj N N v } zvh :=
 zzx (d := zy4) (os := zwx) (zux N) (zzz (ids := [2]) (by kernel_rfl) ⟨lp_of (lpkinsertionSortOrdered_int_2 N), trivial⟩) (zzj N) (fun _ => rfl) (fun n v => zoj N n v) (fun _ => N)
theorem speckinsertionSortOrdered_int (N : Nat) : Spec Tryz.prog (zst N) :=
 Spec.of_eq (zzu (zux N) (f := 88) (fn := Tryz.f88) (c := zzy Tryz.f88) (by kernel_rfl) (by kernel_rfl) (by kernel_rfl) (zzz (ids := [0]) (by kernel_rfl) ⟨lp_of (lpkinsertionSortOrdered_int_0 N), trivial⟩) (by kernel_rfl)) (fun x r h => (FkinsertionSortOrdered_int_eq N x).trans h)
def zpa : Desc := { n := 4, regs := [.one (.lit (.row 0)), .one (.val (.int .i64)), .one (.val (.int .i64)), .one (.val (.int .i64))], bx := [(0, .row (.int .i64))], pins := [] }
def zpv : Outs := [(.ret, { n := 0, regs := [], bx := [(0, .row (.int .i64))], pins := [.one (.lit (.row 0))] })]
def HksiftDownOrdered_int : Hints := []
def EksiftDownOrdered_int (N : Nat) : Env := { te := TE, cs := [zwi N] }
def zwl : Desc := { n := 76, regs := [.one (.lit (.row 0)), u, .one (.val (.int .i64)), .one (.val (.int .i64)), u, u, u, u, .one (.val (.int .i64))], bx := [(0, .row (.int .i64))], pins := [.one (.lit (.row 0))] }
def zvm : Outs := [(.exit 0, { n := 76, regs := [], bx := [(0, .row (.int .i64))], pins := [.one (.lit (.row 0))] }), (.ret, { n := 76, regs := [], bx := [(0, .row (.int .i64))], pins := [.one (.lit (.row 0))] })]
def jksiftDownOrdered_int_5 : Outs := [(.normal, { n := 76, regs := [.one (.lit (.row 0)), u, .one (.val (.int .i64)), .one (.val (.int .i64)), u, u, u, u, .one (.val (.int .i64)), .one (.val (.int .i64))], bx := [(0, .row (.int .i64))], pins := [.one (.lit (.row 0))] })]
def zz0 (N : Nat) : Nat → tyq5 → Option (((List Int) × Unit) ⊕ ((List Int) × Unit))
 | 0, _ => none
 | n + 1, v =>
  let y1 := w64 ((w64 ((2 : Int) * v.2.2.1)) + (1 : Int))
  bif decide (y1 ≥ v.1) then
   some (.inl (v.2.2.2.1, ()))
  else
  Option.bind (
   let y2 := decide ((w64 (y1 + (1 : Int))) < v.1)
   bif y2 then
    bif decide (0 ≤ (w64 (v.2.1 + y1))) then
    bif decide ((w64 (v.2.1 + y1)).toNat < v.2.2.2.1.length) then
    let y3 := v.2.2.2.1.getD ((w64 (v.2.1 + y1)).toNat) (0 : Int)
    bif decide (0 ≤ (w64 ((w64 (v.2.1 + y1)) + (1 : Int)))) then
    bif decide ((w64 ((w64 (v.2.1 + y1)) + (1 : Int))).toNat < v.2.2.2.1.length) then
    let y4 := (w64 ((w64 (v.2.1 + y1)) + (1 : Int))).toNat
    (zz9 N (y3, v.2.2.2.1.getD y4 (0 : Int), ())).bind fun r5 =>
    bif r5.1 then
     some (v.1, v.2.1, v.2.2.1, w64 (y1 + (1 : Int)), v.2.2.2.1, ())
    else
    some (v.1, v.2.1, v.2.2.1, y1, v.2.2.2.1, ())
    else none
    else none
    else none
    else none
   else
   some (v.1, v.2.1, v.2.2.1, y1, v.2.2.2.1, ())) fun o6 =>
  bif decide (0 ≤ (w64 (o6.2.1 + o6.2.2.1))) then
  bif decide ((w64 (o6.2.1 + o6.2.2.1)).toNat < o6.2.2.2.2.1.length) then
  let y7 := o6.2.2.2.2.1.getD ((w64 (o6.2.1 + o6.2.2.1)).toNat) (0 : Int)
  bif decide (0 ≤ (w64 (o6.2.1 + o6.2.2.2.1))) then
  bif decide ((w64 (o6.2.1 + o6.2.2.2.1)).toNat < o6.2.2.2.2.1.length) then
  let y8 := o6.2.2.2.2.1.getD ((w64 (o6.2.1 + o6.2.2.2.1)).toNat) (0 : Int)
  (zz9 N (y7, y8, ())).bind fun r9 =>
  bif !r9.1 then
   some (.inr ((o6.2.2.2.2.1, ())))
  else
  bif decide (0 ≤ (w64 (o6.2.1 + o6.2.2.2.1))) then
  bif decide ((w64 (o6.2.1 + o6.2.2.2.1)).toNat < o6.2.2.2.2.1.length) then
  let y10 := o6.2.2.2.2.1.getD ((w64 (o6.2.1 + o6.2.2.2.1)).toNat) (0 : Int)
  bif decide (0 ≤ (w64 (o6.2.1 + o6.2.2.1))) then
  bif decide ((w64 (o6.2.1 + o6.2.2.1)).toNat < o6.2.2.2.2.1.length) then
  let y11 := o6.2.2.2.2.1.getD ((w64 (o6.2.1 + o6.2.2.1)).toNat) (0 : Int)
  bif decide (0 ≤ (w64 (o6.2.1 + o6.2.2.1))) then
  bif decide ((w64 (o6.2.1 + o6.2.2.1)).toNat < o6.2.2.2.2.1.length) then
  let y12 := o6.2.2.2.2.1.set ((w64 (o6.2.1 + o6.2.2.1)).toNat) y10
  bif decide (0 ≤ (w64 (o6.2.1 + o6.2.2.2.1))) then
  bif decide ((w64 (o6.2.1 + o6.2.2.2.1)).toNat < y12.length) then
  let y13 := y12.set ((w64 (o6.2.1 + o6.2.2.2.1)).toNat) y11
  zz0 N n (o6.1, o6.2.1, o6.2.2.2.1, y13, ())
  else none
  else none
  else none
  else none
  else none
  else none
  else none
  else none
  else none
  else none
  else none
  else none
def zx9 (N : Nat) (x : tyq5) : Option ((List Int) × Unit) :=
 (zz0 N N (x.2.1, x.2.2.1, x.1, x.2.2.2.1, ())).bind fun o14 =>
 Sum.elim (fun o15 =>
  some (o15.1, ())) (fun o16 =>
  some (o16.1, ())) o14
def zp1 (N : Nat) : Con := { f := 104, din := zpa, outs := zpv, F := zx9 N }
def zs3 (N : Nat) : Ctx := { E := EksiftDownOrdered_int N, H := HksiftDownOrdered_int, lp := [(0, { hd := zwl, outs := zvm, run := fun v => zz0 N N v })], jn := [(5, jksiftDownOrdered_int_5)] }
def zp3 : Code := zzv (zzy Tryz.f104) 0
theorem FksiftDownOrdered_int_eq (N : Nat) (x : tyq5) : evFn (zs3 N) Tryz.f104 zpa zpv x = zx9 N x := by kernel_rfl
theorem lksiftDownOrdered_int_0_eq (N n : Nat) (v : tyq5) : zz0 N (n + 1) v = ev (zs3 N) zp3 (zzd zwl zvm (zz0 N n)) (zwl.mk' v) := by kernel_rfl
theorem zoq (N : Nat) : CtxOk Tryz.prog (zs3 N) := ⟨⟨TE_ok, List.forall_mem_cons.2 ⟨(zwg N), fun k hk => absurd hk List.not_mem_nil⟩⟩, mixed⟩
theorem lpksiftDownOrdered_int_0 (N : Nat) : zzl Tryz.prog { hd := zwl, outs := zvm, run := fun v => zz0 N N v } zp3 :=
 zzx (d := zwl) (os := zvm) (zoq N) (zzz (ids := []) (by kernel_rfl) (trivial)) (zz0 N) (fun _ => rfl) (fun n v => lksiftDownOrdered_int_0_eq N n v) (fun _ => N)
theorem specksiftDownOrdered_int (N : Nat) : Spec Tryz.prog (zp1 N) :=
 Spec.of_eq (zzu (zoq N) (f := 104) (fn := Tryz.f104) (c := zzy Tryz.f104) (by kernel_rfl) (by kernel_rfl) (by kernel_rfl) (zzz (ids := [0]) (by kernel_rfl) ⟨lp_of (lpksiftDownOrdered_int_0 N), trivial⟩) (by kernel_rfl)) (fun x r h => (FksiftDownOrdered_int_eq N x).trans h)
def zp0 : Desc := { n := 3, regs := [.one (.lit (.row 0)), .one (.val (.int .i64)), .one (.val (.int .i64))], bx := [(0, .row (.int .i64))], pins := [] }
def zpu : Outs := [(.ret, { n := 0, regs := [], bx := [(0, .row (.int .i64))], pins := [.one (.lit (.row 0))] })]
def HkheapSortOrdered_int : Hints := []
def EkheapSortOrdered_int (N : Nat) : Env := { te := TE, cs := [zp1 N] }
def zwj : Desc := { n := 56, regs := [.one (.lit (.row 0)), u, u, u, u, u, .one (.val (.int .i64)), .one (.val (.int .i64)), .one (.val (.int .i64)), .one (.val (.int .i64))], bx := [(0, .row (.int .i64))], pins := [.one (.lit (.row 0))] }
def zvk : Outs := [(.exit 0, { n := 56, regs := [.one (.lit (.row 0)), u, u, u, u, u, .one (.val (.int .i64)), .one (.val (.int .i64)), .one (.val (.int .i64))], bx := [(0, .row (.int .i64))], pins := [.one (.lit (.row 0))] })]
def zwk : Desc := { n := 56, regs := [.one (.lit (.row 0)), u, u, u, u, u, .one (.val (.int .i64)), .one (.val (.int .i64)), u, u, .one (.val (.int .i64))], bx := [(0, .row (.int .i64))], pins := [.one (.lit (.row 0))] }
def zvl : Outs := [(.exit 2, { n := 56, regs := [], bx := [(0, .row (.int .i64))], pins := [.one (.lit (.row 0))] })]
def zz5 (N : Nat) : Nat → (Int × tyq5) → Option tyq5
 | 0, _ => none
 | n + 1, v =>
  bif decide (v.2.2.2.1 ≥ (0 : Int)) then
   (zx9 N (v.2.2.2.1, v.2.2.1, v.1, v.2.2.2.2.1, ())).bind fun r2 =>
   zz5 N n (v.1, v.2.1, v.2.2.1, w64 (v.2.2.2.1 - (1 : Int)), r2.1, ())
  else
  some (v.1, v.2.1, v.2.2.1, v.2.2.2.2.1, ())
def zz4 (N : Nat) : Nat → tyq5 → Option ((List Int) × Unit)
 | 0, _ => none
 | n + 1, v =>
  bif decide (v.2.2.1 ≥ (0 : Int)) then
   bif decide (0 ≤ (w64 (v.1 + v.2.2.1))) then
   bif decide ((w64 (v.1 + v.2.2.1)).toNat < v.2.2.2.1.length) then
   let y4 := v.2.2.2.1.getD ((w64 (v.1 + v.2.2.1)).toNat) (0 : Int)
   bif decide (0 ≤ v.1) then
   bif decide (v.1.toNat < v.2.2.2.1.length) then
   bif decide (0 ≤ v.1) then
   bif decide (v.1.toNat < v.2.2.2.1.length) then
   bif decide (0 ≤ (w64 (v.1 + v.2.2.1))) then
   bif decide ((w64 (v.1 + v.2.2.1)).toNat < (v.2.2.2.1.set v.1.toNat y4).length) then
   let y5 := (v.2.2.2.1.set v.1.toNat y4).set ((w64 (v.1 + v.2.2.1)).toNat) (v.2.2.2.1.getD v.1.toNat (0 : Int))
   (zx9 N (v.2.1, v.2.2.1, v.1, y5, ())).bind fun r6 =>
   zz4 N n (v.1, v.2.1, w64 (v.2.2.1 - (1 : Int)), r6.1, ())
   else none
   else none
   else none
   else none
   else none
   else none
   else none
   else none
  else
  some (v.2.2.2.1, ())
def zvu (N : Nat) (x : (Int × (Int × ((List Int) × Unit)))) : Option ((List Int) × Unit) :=
 let y1 := w64 ((w64 (x.2.1 - x.1)) - (1 : Int))
 bif decide ((2 : Int) = 0) then
  none
 else
 (zz5 N N (x.1, (0 : Int), w64 (x.2.1 - x.1), w64 (Int.tdiv y1 (2 : Int)), x.2.2.1, ())).bind fun o3 =>
 (zz4 N N (o3.1, o3.2.1, w64 (o3.2.2.1 - (1 : Int)), o3.2.2.2.1, ())).bind fun o7 =>
 some (o7.1, ())
def zp2 (N : Nat) : Con := { f := 89, din := zp0, outs := zpu, F := zvu N }
def zui (N : Nat) : Ctx := { E := EkheapSortOrdered_int N, H := HkheapSortOrdered_int, lp := [(0, { hd := zwj, outs := zvk, run := fun v => zz5 N N v }), (2, { hd := zwk, outs := zvl, run := fun v => zz4 N N v })], jn := [] }
def zp4 : Code := zzv (zzy Tryz.f89) 1
def zp5 : Code := zzv (zzy Tryz.f89) 0
theorem FkheapSortOrdered_int_eq (N : Nat) (x : (Int × (Int × ((List Int) × Unit)))) : evFn (zui N) Tryz.f89 zp0 zpu x = zvu N x := by kernel_rfl
theorem lkheapSortOrdered_int_0_eq (N n : Nat) (v : (Int × tyq5)) : zz5 N (n + 1) v = ev (zui N) zp5 (zzd zwj zvk (zz5 N n)) (zwj.mk' v) := by kernel_rfl
theorem lkheapSortOrdered_int_2_eq (N n : Nat) (v : tyq5) : zz4 N (n + 1) v = ev (zui N) zp4 (zzd zwk zvl (zz4 N n)) (zwk.mk' v) := by kernel_rfl
theorem zt8 (N : Nat) : CtxOk Tryz.prog (zui N) := ⟨⟨TE_ok, List.forall_mem_cons.2 ⟨(specksiftDownOrdered_int N), fun k hk => absurd hk List.not_mem_nil⟩⟩, mixed⟩
theorem lpkheapSortOrdered_int_0 (N : Nat) : zzl Tryz.prog { hd := zwj, outs := zvk, run := fun v => zz5 N N v } zp5 :=
 zzx (d := zwj) (os := zvk) (zt8 N) (zzz (ids := []) (by kernel_rfl) (trivial)) (zz5 N) (fun _ => rfl) (fun n v => lkheapSortOrdered_int_0_eq N n v) (fun _ => N)
theorem lpkheapSortOrdered_int_2 (N : Nat) : zzl Tryz.prog { hd := zwk, outs := zvl, run := fun v => zz4 N N v } zp4 :=
 zzx (d := zwk) (os := zvl) (zt8 N) (zzz (ids := []) (by kernel_rfl) (trivial)) (zz4 N) (fun _ => rfl) (fun n v => lkheapSortOrdered_int_2_eq N n v) (fun _ => N)
theorem speckheapSortOrdered_int (N : Nat) : Spec Tryz.prog (zp2 N) :=
 Spec.of_eq (zzu (zt8 N) (f := 89) (fn := Tryz.f89) (c := zzy Tryz.f89) (by kernel_rfl) (by kernel_rfl) (by kernel_rfl) (zzz (ids := [0, 2]) (by kernel_rfl) ⟨lp_of (lpkheapSortOrdered_int_0 N), ⟨lp_of (lpkheapSortOrdered_int_2 N), trivial⟩⟩) (by kernel_rfl)) (fun x r h => (FkheapSortOrdered_int_eq N x).trans h)
def dinknextPowerOfTwo : Desc := { n := 1, regs := [.one (.val (.int .i64))], bx := [], pins := [] }
def outknextPowerOfTwo : Outs := [(.ret, { n := 1, regs := [.one (.val (.int .u64))], bx := [], pins := [] })]
def HknextPowerOfTwo : Hints := []
def EknextPowerOfTwo (N : Nat) : Env := { te := TE, cs := [conmath_bits_Len N] }
def zwf (N : Nat) (x : (Int × Unit)) : Option (Int × Unit) :=
 (zvy N (IntKind.wrap .u64 (x.1), ())).bind fun r1 =>
 bif decide (0 ≤ r1.1) then
 let y2 := IntKind.wrap .u64 ((1 : Int) * 2 ^ min r1.1.toNat 64)
 some (y2, ())
 else none
def conknextPowerOfTwo (N : Nat) : Con := { f := 105, din := dinknextPowerOfTwo, outs := outknextPowerOfTwo, F := zwf N }
def XknextPowerOfTwo (N : Nat) : Ctx := { E := EknextPowerOfTwo N, H := HknextPowerOfTwo, lp := [], jn := [] }
theorem FknextPowerOfTwo_eq (N : Nat) (x : (Int × Unit)) : evFn (XknextPowerOfTwo N) Tryz.f105 dinknextPowerOfTwo outknextPowerOfTwo x = zwf N x := by kernel_rfl
theorem cxknextPowerOfTwo (N : Nat) : CtxOk Tryz.prog (XknextPowerOfTwo N) := ⟨⟨TE_ok, List.forall_mem_cons.2 ⟨(specmath_bits_Len N), fun k hk => absurd hk List.not_mem_nil⟩⟩, mixed⟩
theorem specknextPowerOfTwo (N : Nat) : Spec Tryz.prog (conknextPowerOfTwo N) :=
 Spec.of_eq (zzu (cxknextPowerOfTwo N) (f := 105) (fn := Tryz.f105) (c := zzy Tryz.f105) (by kernel_rfl) (by kernel_rfl) (by kernel_rfl) (zzz (ids := []) (by kernel_rfl) (trivial)) (by kernel_rfl)) (fun x r h => (FknextPowerOfTwo_eq N x).trans h)
def dinkxorshift_Next : Desc := { n := 1, regs := [.one (.lit (.ptr 0 0))], bx := [(0, .var [.val (.int .u64)])], pins := [] }
def outkxorshift_Next : Outs := [(.ret, { n := 1, regs := [.one (.val (.int .u64))], bx := [(0, .var [.val (.int .u64)])], pins := [.one (.lit (.ptr 0 0))] })]
def Hkxorshift_Next : Hints := []
def Ekxorshift_Next (_N : Nat) : Env := { te := TE, cs := [] }
def zp9 (N : Nat) (x : (Int × Unit)) : Option (Int × (Int × Unit)) :=
 bif decide (0 ≤ (13 : Int)) then
 let y1 := IntKind.wrap .u64 (x.1 * 2 ^ min (13 : Int).toNat 64)
 let y2 := IntKind.wrap .u64 (((zsp .u64 x.1 ^^^ zsp .u64 y1).toNat : Int))
 bif decide (0 ≤ (7 : Int)) then
 let y3 := Int.fdiv y2 (2 ^ min (7 : Int).toNat 64)
 let y4 := IntKind.wrap .u64 (((zsp .u64 y2 ^^^ zsp .u64 y3).toNat : Int))
 bif decide (0 ≤ (17 : Int)) then
 let y5 := IntKind.wrap .u64 (y4 * 2 ^ min (17 : Int).toNat 64)
 let y6 := IntKind.wrap .u64 (((zsp .u64 y4 ^^^ zsp .u64 y5).toNat : Int))
 some (y6, y6, ())
 else none
 else none
 else none
def conkxorshift_Next (N : Nat) : Con := { f := 106, din := dinkxorshift_Next, outs := outkxorshift_Next, F := zp9 N }
def Xkxorshift_Next (N : Nat) : Ctx := { E := Ekxorshift_Next N, H := Hkxorshift_Next, lp := [], jn := [] }
theorem Fkxorshift_Next_eq (N : Nat) (x : (Int × Unit)) : evFn (Xkxorshift_Next N) Tryz.f106 dinkxorshift_Next outkxorshift_Next x = zp9 N x := by kernel_rfl
theorem cxkxorshift_Next (N : Nat) : CtxOk Tryz.prog (Xkxorshift_Next N) := ⟨⟨TE_ok, fun k hk => absurd hk List.not_mem_nil⟩, mixed⟩
theorem speckxorshift_Next (N : Nat) : Spec Tryz.prog (conkxorshift_Next N) :=
 Spec.of_eq (zzu (cxkxorshift_Next N) (f := 106) (fn := Tryz.f106) (c := zzy Tryz.f106) (by kernel_rfl) (by kernel_rfl) (by kernel_rfl) (zzz (ids := []) (by kernel_rfl) (trivial)) (by kernel_rfl)) (fun x r h => (Fkxorshift_Next_eq N x).trans h)
def zsu : Desc := { n := 3, regs := [.one (.lit (.row 0)), .one (.val (.int .i64)), .one (.val (.int .i64))], bx := [(0, .row (.int .i64))], pins := [] }
def zsx : Outs := [(.ret, { n := 0, regs := [], bx := [(0, .row (.int .i64))], pins := [.one (.lit (.row 0))] })]
def HkbreakPatternsOrdered_int : Hints := [(7, [(0, { con := 1, sg := [(0, 1025728)] })])]
def EkbreakPatternsOrdered_int (N : Nat) : Env := { te := TE, cs := [conknextPowerOfTwo N, conkxorshift_Next N] }
def zy5 : Desc := { n := 65, regs := [.one (.lit (.row 0)), .one (.val (.int .i64)), u, u, u, u, .one (.val (.int .i64)), .one (.lit (.ptr 1025728 0)), .one (.val (.int .u64)), .one (.val (.int .i64))], bx := [(0, .row (.int .i64)), (1025728, .var [.val (.int .u64)])], pins := [.one (.lit (.row 0))] }
def zww : Outs := [(.exit 0, { n := 65, regs := [], bx := [(0, .row (.int .i64))], pins := [.one (.lit (.row 0))] })]
def jkbreakPatternsOrdered_int_10 : Outs := [(.normal, { n := 65, regs := [.one (.lit (.row 0)), .one (.val (.int .i64)), u, u, u, u, .one (.val (.int .i64)), .one (.lit (.ptr 1025728 0)), .one (.val (.int .u64)), .one (.val (.int .i64)), .one (.val (.int .i64))], bx := [(0, .row (.int .i64)), (1025728, .var [.val (.int .u64)])], pins := [.one (.lit (.row 0))] })]
def zzi (N : Nat) : Nat → (Int × (Int × (Int × (Int × ((List Int) × (Int × Unit)))))) → Option ((List Int) × Unit)
 | 0, _ => none
 | n + 1, v =>
  bif decide ((4 : Int) = 0) then
   none
  else
  let y6 := w64 ((w64 (Int.tdiv v.2.1 (4 : Int))) * (2 : Int))
  let y7 := decide (v.2.2.2.1 ≤ (w64 ((w64 (v.1 + y6)) + (1 : Int))))
  bif y7 then
   (zp9 N (v.2.2.2.2.2.1, ())).bind fun r8 =>
   let y9 := IntKind.wrap .u64 (v.2.2.1 - (1 : Int))
   let y10 := IntKind.wrap .u64 (((zsp .u64 r8.1 &&& zsp .u64 y9).toNat : Int))
   Option.bind (
    bif decide ((w64 (y10)) ≥ v.2.1) then
     some (v.1, v.2.1, v.2.2.1, v.2.2.2.1, w64 ((w64 (y10)) - v.2.1), v.2.2.2.2.1, r8.2.1, ())
    else
    some (v.1, v.2.1, v.2.2.1, v.2.2.2.1, w64 (y10), v.2.2.2.2.1, r8.2.1, ())) fun o11 =>
   bif decide (0 ≤ (w64 (o11.1 + o11.2.2.2.2.1))) then
   bif decide ((w64 (o11.1 + o11.2.2.2.2.1)).toNat < o11.2.2.2.2.2.1.length) then
   let y12 := o11.2.2.2.2.2.1.getD ((w64 (o11.1 + o11.2.2.2.2.1)).toNat) (0 : Int)
   bif decide (0 ≤ o11.2.2.2.1) then
   bif decide (o11.2.2.2.1.toNat < o11.2.2.2.2.2.1.length) then
   let y13 := o11.2.2.2.2.2.1.getD o11.2.2.2.1.toNat (0 : Int)
   bif decide (0 ≤ o11.2.2.2.1) then
   bif decide (o11.2.2.2.1.toNat < o11.2.2.2.2.2.1.length) then
   let y14 := o11.2.2.2.2.2.1.set o11.2.2.2.1.toNat y12
   bif decide (0 ≤ (w64 (o11.1 + o11.2.2.2.2.1))) then
   bif decide ((w64 (o11.1 + o11.2.2.2.2.1)).toNat < y14.length) then
   let y15 := y14.set ((w64 (o11.1 + o11.2.2.2.2.1)).toNat) y13
   zzi N n (o11.1, o11.2.1, o11.2.2.1, w64 (o11.2.2.2.1 + (1 : Int)), y15, o11.2.2.2.2.2.2.1, ())
   else none
   else none
   else none
   else none
   else none
   else none
   else none
   else none
  else
  some (v.2.2.2.2.1, ())
def zyl (N : Nat) (x : (Int × (Int × ((List Int) × Unit)))) : Option ((List Int) × Unit) :=
 let y1 := decide ((w64 (x.2.1 - x.1)) ≥ (8 : Int))
 bif y1 then
  let y2 := IntKind.wrap .u64 (w64 (x.2.1 - x.1))
  (zwf N (w64 (x.2.1 - x.1), ())).bind fun r3 =>
  bif decide ((4 : Int) = 0) then
   none
  else
  let y4 := w64 (Int.tdiv (w64 (x.2.1 - x.1)) (4 : Int))
  let y5 := w64 ((w64 (x.1 + (w64 (y4 * (2 : Int))))) - (1 : Int))
  (zzi N N (x.1, w64 (x.2.1 - x.1), r3.1, y5, x.2.2.1, y2, ())).bind fun o16 =>
  some (o16.1, ())
 else
 some (x.2.2.1, ())
def zss (N : Nat) : Con := { f := 90, din := zsu, outs := zsx, F := zyl N }
def zuq (N : Nat) : Ctx := { E := EkbreakPatternsOrdered_int N, H := HkbreakPatternsOrdered_int, lp := [(0, { hd := zy5, outs := zww, run := fun v => zzi N N v })], jn := [(10, jkbreakPatternsOrdered_int_10)] }
def zsq : Code := zzv (zzy Tryz.f90) 0
theorem FkbreakPatternsOrdered_int_eq (N : Nat) (x : (Int × (Int × ((List Int) × Unit)))) : evFn (zuq N) Tryz.f90 zsu zsx x = zyl N x := by kernel_rfl
theorem zoi (N n : Nat) (v : (Int × (Int × (Int × (Int × ((List Int) × (Int × Unit))))))) : zzi N (n + 1) v = ev (zuq N) zsq (zzd zy5 zww (zzi N n)) (zy5.mk' v) := by kernel_rfl
theorem zsc (N : Nat) : CtxOk Tryz.prog (zuq N) := ⟨⟨TE_ok, List.forall_mem_cons.2 ⟨(specknextPowerOfTwo N), List.forall_mem_cons.2 ⟨(speckxorshift_Next N), fun k hk => absurd hk List.not_mem_nil⟩⟩⟩, mixed⟩
theorem lpkbreakPatternsOrdered_int_0 (N : Nat) : zzl Tryz.prog { hd := zy5, outs := zww, run := fun v => zzi N N v } zsq :=
 zzx (d := zy5) (os := zww) (zsc N) (zzz (ids := []) (by kernel_rfl) (trivial)) (zzi N) (fun _ => rfl) (fun n v => zoi N n v) (fun _ => N)
theorem speckbreakPatternsOrdered_int (N : Nat) : Spec Tryz.prog (zss N) :=
 Spec.of_eq (zzu (zsc N) (f := 90) (fn := Tryz.f90) (c := zzy Tryz.f90) (by kernel_rfl) (by kernel_rfl) (by kernel_rfl) (zzz (ids := [0]) (by kernel_rfl) ⟨lp_of (lpkbreakPatternsOrdered_int_0 N), trivial⟩) (by kernel_rfl)) (fun x r h => (FkbreakPatternsOrdered_int_eq N x).trans h)
def dinkorder2Ordered_int : Desc := { n := 4, regs := [.one (.val (.sl (.int .i64))), .one (.val (.int .i64)), .one (.val (.int .i64)), .one (.lit (.ptr 192 0))], bx := [(192, .var [.val (.int .i64)])], pins := [] }
def outkorder2Ordered_int : Outs := [(.ret, { n := 2, regs := [.one (.val (.int .i64)), .one (.val (.int .i64))], bx := [(192, .var [.val (.int .i64)])], pins := [u, u, u, .one (.lit (.ptr 192 0))] })]
def Hkorder2Ordered_int : Hints := []
def Ekorder2Ordered_int (N : Nat) : Env := { te := TE, cs := [zwi N] }
def zx0 (N : Nat) (x : ((List Int) × (Int × (Int × (Int × Unit))))) : Option (Int × (Int × (Int × Unit))) :=
 bif decide (0 ≤ x.2.2.1) then
 bif decide (x.2.2.1.toNat < x.1.length) then
 bif decide (0 ≤ x.2.1) then
 bif decide (x.2.1.toNat < x.1.length) then
 (zz9 N (x.1.getD x.2.2.1.toNat (0 : Int), x.1.getD x.2.1.toNat (0 : Int), ())).bind fun r1 =>
 bif r1.1 then
  some (x.2.2.1, x.2.1, w64 (x.2.2.2.1 + (1 : Int)), ())
 else
 some (x.2.1, x.2.2.1, x.2.2.2.1, ())
 else none
 else none
 else none
 else none
def conkorder2Ordered_int (N : Nat) : Con := { f := 110, din := dinkorder2Ordered_int, outs := outkorder2Ordered_int, F := zx0 N }
def Xkorder2Ordered_int (N : Nat) : Ctx := { E := Ekorder2Ordered_int N, H := Hkorder2Ordered_int, lp := [], jn := [] }
theorem Fkorder2Ordered_int_eq (N : Nat) (x : ((List Int) × (Int × (Int × (Int × Unit))))) : evFn (Xkorder2Ordered_int N) Tryz.f110 dinkorder2Ordered_int outkorder2Ordered_int x = zx0 N x := by kernel_rfl
theorem cxkorder2Ordered_int (N : Nat) : CtxOk Tryz.prog (Xkorder2Ordered_int N) := ⟨⟨TE_ok, List.forall_mem_cons.2 ⟨(zwg N), fun k hk => absurd hk List.not_mem_nil⟩⟩, mixed⟩
theorem speckorder2Ordered_int (N : Nat) : Spec Tryz.prog (conkorder2Ordered_int N) :=
 Spec.of_eq (zzu (cxkorder2Ordered_int N) (f := 110) (fn := Tryz.f110) (c := zzy Tryz.f110) (by kernel_rfl) (by kernel_rfl) (by kernel_rfl) (zzz (ids := []) (by kernel_rfl) (trivial)) (by kernel_rfl)) (fun x r h => (Fkorder2Ordered_int_eq N x).trans h)
def dinkmedianOrdered_int : Desc := { n := 5, regs := [.one (.val (.sl (.int .i64))), .one (.val (.int .i64)), .one (.val (.int .i64)), .one (.val (.int .i64)), .one (.lit (.ptr 256 0))], bx := [(256, .var [.val (.int .i64)])], pins := [] }
def outkmedianOrdered_int : Outs := [(.ret, { n := 1, regs := [.one (.val (.int .i64))], bx := [(256, .var [.val (.int .i64)])], pins := [u, u, u, u, .one (.lit (.ptr 256 0))] })]
def HkmedianOrdered_int : Hints := [(1, [(4, { sg := [(192, 256)] })]),
 (2, [(4, { sg := [(192, 256)] })]),
 (3, [(4, { sg := [(192, 256)] })])]
def EkmedianOrdered_int (N : Nat) : Env := { te := TE, cs := [conkorder2Ordered_int N] }
def zwa (N : Nat) (x : ((List Int) × (Int × (Int × (Int × (Int × Unit)))))) : Option (Int × (Int × Unit)) :=
 (zx0 N (x.1, x.2.1, x.2.2.1, x.2.2.2.2.1, ())).bind fun r1 =>
 (zx0 N (x.1, r1.2.1, x.2.2.2.1, r1.2.2.1, ())).bind fun r2 =>
 (zx0 N (x.1, r1.1, r2.1, r2.2.2.1, ())).bind fun r3 =>
 some (r3.2.1, r3.2.2.1, ())
def zsa (N : Nat) : Con := { f := 108, din := dinkmedianOrdered_int, outs := outkmedianOrdered_int, F := zwa N }
def XkmedianOrdered_int (N : Nat) : Ctx := { E := EkmedianOrdered_int N, H := HkmedianOrdered_int, lp := [], jn := [] }
theorem FkmedianOrdered_int_eq (N : Nat) (x : ((List Int) × (Int × (Int × (Int × (Int × Unit)))))) : evFn (XkmedianOrdered_int N) Tryz.f108 dinkmedianOrdered_int outkmedianOrdered_int x = zwa N x := by kernel_rfl
theorem cxkmedianOrdered_int (N : Nat) : CtxOk Tryz.prog (XkmedianOrdered_int N) := ⟨⟨TE_ok, List.forall_mem_cons.2 ⟨(speckorder2Ordered_int N), fun k hk => absurd hk List.not_mem_nil⟩⟩, mixed⟩
theorem zos (N : Nat) : Spec Tryz.prog (zsa N) :=
 Spec.of_eq (zzu (cxkmedianOrdered_int N) (f := 108) (fn := Tryz.f108) (c := zzy Tryz.f108) (by kernel_rfl) (by kernel_rfl) (by kernel_rfl) (zzz (ids := []) (by kernel_rfl) (trivial)) (by kernel_rfl)) (fun x r h => (FkmedianOrdered_int_eq N x).trans h)
def ztf : Desc := { n := 3, regs := [.one (.val (.sl (.int .i64))), .one (.val (.int .i64)), .one (.lit (.ptr 128 0))], bx := [(128, .var [.val (.int .i64)])], pins := [] }
def zth : Outs := [(.ret, { n := 1, regs := [.one (.val (.int .i64))], bx := [(128, .var [.val (.int .i64)])], pins := [u, u, .one (.lit (.ptr 128 0))] })]
def HkmedianAdjacentOrdered_int : Hints := [(1, [(7, { sg := [(256, 128)] })])]
def EkmedianAdjacentOrdered_int (N : Nat) : Env := { te := TE, cs := [zsa N] }
def zys (N : Nat) (x : ((List Int) × (Int × (Int × Unit)))) : Option (Int × (Int × Unit)) :=
 (zwa N (x.1, w64 (x.2.1 - (1 : Int)), x.2.1, w64 (x.2.1 + (1 : Int)), x.2.2.1, ())).bind fun r1 =>
 some (r1.1, r1.2.1, ())
def zt0 (N : Nat) : Con := { f := 107, din := ztf, outs := zth, F := zys N }
def zs4 (N : Nat) : Ctx := { E := EkmedianAdjacentOrdered_int N, H := HkmedianAdjacentOrdered_int, lp := [], jn := [] }
theorem FkmedianAdjacentOrdered_int_eq (N : Nat) (x : ((List Int) × (Int × (Int × Unit)))) : evFn (zs4 N) Tryz.f107 ztf zth x = zys N x := by kernel_rfl
theorem cxkmedianAdjacentOrdered_int (N : Nat) : CtxOk Tryz.prog (zs4 N) := ⟨⟨TE_ok, List.forall_mem_cons.2 ⟨(zos N), fun k hk => absurd hk List.not_mem_nil⟩⟩, mixed⟩
theorem speckmedianAdjacentOrdered_int (N : Nat) : Spec Tryz.prog (zt0 N) :=
 Spec.of_eq (zzu (cxkmedianAdjacentOrdered_int N) (f := 107) (fn := Tryz.f107) (c := zzy Tryz.f107) (by kernel_rfl) (by kernel_rfl) (by kernel_rfl) (zzz (ids := []) (by kernel_rfl) (trivial)) (by kernel_rfl)) (fun x r h => (FkmedianAdjacentOrdered_int_eq N x).trans h)
end Go.Fl
end

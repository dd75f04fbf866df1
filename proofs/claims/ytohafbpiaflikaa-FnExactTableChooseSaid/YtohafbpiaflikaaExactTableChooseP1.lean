/- Proved: for every input the law FnExactTableChoose returns true and leaves its arguments as they were. Part 1: the functions that the law reaches, as plain functions, and plain laws about them; no conditions. -/
import Derived.Test.YtohafbpiaflikaaK3
import Derived.Test.YtohafbpiaflikaaProg
set_option linter.all false
-- FUNCS vszRegionS vtoRegion vtoRegionS vtoIntS sRegionBase sTableOk sl4Has sTableChoose iedge iRegionBase iRegion_ok iTableOk kIndex_Sint_int kContains_Sint_int cmp_isNaN_int cmp_Compare_int iTableChoose_1 kinsertionSortCmpFunc_int_iTableChoose_1 kswapRangeCmpFunc_int_iTableChoose_1 krotateCmpFunc_int_iTableChoose_1 ksymMergeCmpFunc_int_iTableChoose_1 kstableCmpFunc_int_iTableChoose_1 kSortStableFunc_Sint_int_iTableChoose_1 iTableChoose veqIntS veqRegion veqRegionS vmarkRegionS vmarkIntS vheldIntS vFnExactTableChoose
set_option maxRecDepth 100000
set_option linter.all false
namespace Go.Fl
open Go Go.Proofs
noncomputable def TE : List (Nat × Ty) := [(3, (.int .i64)),
  (4, .bool),
  (22, (.sl (.pair (.int .i64) (.pair (.int .i64) (.pair (.int .i64) (.pair (.int .i64) (.pair (.int .i64) .unit))))))),
  (23, (.sl (.int .i64))),
  (27, (.sl (.pair (.int .i64) (.pair (.int .i64) (.pair (.int .i64) (.pair (.int .i64) (.pair (.int .i64) .unit))))))),
  (66, (.pair (.int .i64) (.pair (.int .i64) (.pair (.int .i64) (.pair (.int .i64) (.pair (.int .i64) .unit)))))),
  (70, (.pair (.int .i64) (.pair (.int .i64) (.pair (.int .i64) (.pair (.int .i64) (.pair (.int .i64) .unit)))))),
  (99, (.mp .bool)),
  (129, (.int .u64))]
theorem TE_ok : TyOk Try.prog TE := tysB_spec (by kernel_rfl)
theorem mixed : Try.prog.follows .mixedOrders = true := by kernel_rfl

/-! ### 14: laws.szRegionS -/

noncomputable def dinvszRegionS : Desc := { n := 2, regs := [.one (.val (.sl (.pair (.int .i64) (.pair (.int .i64) (.pair (.int .i64) (.pair (.int .i64) (.pair (.int .i64) .unit))))))), .one (.val (.int .i64))], bx := [], pins := [] }
noncomputable def outvszRegionS : Outs := [(.ret, { n := 1, regs := [.one (.val (.int .i64))], bx := [], pins := [] })]
noncomputable def HvszRegionS : Hints := []
noncomputable def EvszRegionS (_N : Nat) : Env := { te := TE, cs := [] }
noncomputable def FvszRegionS (N : Nat) (x : ((List (Int × (Int × (Int × (Int × (Int × Unit)))))) × (Int × Unit))) : Option (Int × Unit) :=
  let y1 := decide ((w64 (x.2.1 - (x.1.length : Int))) < (0 : Int))
  bif y1 then
   some ((-1 : Int), ())
  else
  some (w64 (x.2.1 - (x.1.length : Int)), ())
noncomputable def convszRegionS (N : Nat) : Con := { f := 14, din := dinvszRegionS, outs := outvszRegionS, F := FvszRegionS N }
noncomputable def XvszRegionS (N : Nat) : Ctx := { E := EvszRegionS N, H := HvszRegionS, lp := [], jn := [] }
theorem FvszRegionS_eq (N : Nat) (x : ((List (Int × (Int × (Int × (Int × (Int × Unit)))))) × (Int × Unit))) : evFn (XvszRegionS N) Try.f14 dinvszRegionS outvszRegionS x = FvszRegionS N x := by kernel_rfl
theorem cxvszRegionS (N : Nat) : CtxOk Try.prog (XvszRegionS N) := ⟨⟨TE_ok, fun k hk => absurd hk List.not_mem_nil⟩, mixed⟩
theorem specvszRegionS (N : Nat) : Spec Try.prog (convszRegionS N) :=
  Spec.of_eq (fn_spec (cxvszRegionS N) (f := 14) (fn := Try.f14) (c := codeOf Try.f14) (by kernel_rfl) (by kernel_rfl) (by kernel_rfl) (loops_at (ids := []) (by kernel_rfl) (trivial)) (by kernel_rfl)) (fun x r h => (FvszRegionS_eq N x).trans h)

/-! ### 56: laws.toRegion -/

noncomputable def dinvtoRegion : Desc := { n := 1, regs := [.one (.val (.pair (.int .i64) (.pair (.int .i64) (.pair (.int .i64) (.pair (.int .i64) (.pair (.int .i64) .unit))))))], bx := [], pins := [] }
noncomputable def outvtoRegion : Outs := [(.ret, { n := 1, regs := [.agg [.val (.int .i64), .val (.int .i64), .val (.int .i64), .val (.int .i64), .val (.int .i64)]], bx := [], pins := [] })]
noncomputable def HvtoRegion : Hints := [(0, [(0, { fz := true })])]
noncomputable def EvtoRegion (_N : Nat) : Env := { te := TE, cs := [] }
noncomputable def FvtoRegion (N : Nat) (x : ((Int × (Int × (Int × (Int × (Int × Unit))))) × Unit)) : Option (Int × (Int × (Int × (Int × (Int × Unit))))) :=
  some (x.1.1, x.1.2.1, x.1.2.2.1, x.1.2.2.2.1, x.1.2.2.2.2.1, ())
noncomputable def convtoRegion (N : Nat) : Con := { f := 56, din := dinvtoRegion, outs := outvtoRegion, F := FvtoRegion N }
noncomputable def XvtoRegion (N : Nat) : Ctx := { E := EvtoRegion N, H := HvtoRegion, lp := [], jn := [] }
theorem FvtoRegion_eq (N : Nat) (x : ((Int × (Int × (Int × (Int × (Int × Unit))))) × Unit)) : evFn (XvtoRegion N) Try.f56 dinvtoRegion outvtoRegion x = FvtoRegion N x := by kernel_rfl
theorem cxvtoRegion (N : Nat) : CtxOk Try.prog (XvtoRegion N) := ⟨⟨TE_ok, fun k hk => absurd hk List.not_mem_nil⟩, mixed⟩
theorem specvtoRegion (N : Nat) : Spec Try.prog (convtoRegion N) :=
  Spec.of_eq (fn_spec (cxvtoRegion N) (f := 56) (fn := Try.f56) (c := codeOf Try.f56) (by kernel_rfl) (by kernel_rfl) (by kernel_rfl) (loops_at (ids := []) (by kernel_rfl) (trivial)) (by kernel_rfl)) (fun x r h => (FvtoRegion_eq N x).trans h)

/-! ### 16: laws.toRegionS -/

noncomputable def dinvtoRegionS : Desc := { n := 1, regs := [.one (.val (.sl (.pair (.int .i64) (.pair (.int .i64) (.pair (.int .i64) (.pair (.int .i64) (.pair (.int .i64) .unit)))))))], bx := [], pins := [] }
noncomputable def outvtoRegionS : Outs := [(.ret, { n := 1, regs := [.one (.lit (.row 1012928))], bx := [(1012928, .row (.pair (.int .i64) (.pair (.int .i64) (.pair (.int .i64) (.pair (.int .i64) (.pair (.int .i64) .unit))))))], pins := [] })]
noncomputable def HvtoRegionS : Hints := []
noncomputable def EvtoRegionS (N : Nat) : Env := { te := TE, cs := [convtoRegion N] }
noncomputable def dvtoRegionS_0 : Desc := { n := 23, regs := [.one (.val (.sl (.pair (.int .i64) (.pair (.int .i64) (.pair (.int .i64) (.pair (.int .i64) (.pair (.int .i64) .unit))))))), u, u, .one (.lit (.row 1012928)), .one (.val (.int .i64))], bx := [(1012928, .row (.pair (.int .i64) (.pair (.int .i64) (.pair (.int .i64) (.pair (.int .i64) (.pair (.int .i64) .unit))))))], pins := [] }
noncomputable def ovtoRegionS_0 : Outs := [(.exit 0, { n := 23, regs := [u, u, u, .one (.lit (.row 1012928))], bx := [(1012928, .row (.pair (.int .i64) (.pair (.int .i64) (.pair (.int .i64) (.pair (.int .i64) (.pair (.int .i64) .unit))))))], pins := [] })]
noncomputable def lvtoRegionS_0 (N : Nat) : Nat → ((List (Int × (Int × (Int × (Int × (Int × Unit)))))) × (Int × ((List (Int × (Int × (Int × (Int × (Int × Unit)))))) × Unit))) → Option ((List (Int × (Int × (Int × (Int × (Int × Unit)))))) × Unit)
  | 0, _ => none
  | n + 1, v =>
    bif decide (v.2.1 < (v.1.length : Int)) then
     bif decide (0 ≤ v.2.1) then
     bif decide (v.2.1.toNat < v.1.length) then
     let y2 := v.1.getD v.2.1.toNat ((0 : Int), (0 : Int), (0 : Int), (0 : Int), (0 : Int), ())
     (FvtoRegion N (y2, ())).bind fun r3 =>
     bif decide (0 ≤ v.2.1) then
     bif decide (v.2.1.toNat < v.2.2.1.length) then
     let y4 := v.2.2.1.set v.2.1.toNat (r3.1, r3.2.1, r3.2.2.1, r3.2.2.2.1, r3.2.2.2.2.1, ())
     lvtoRegionS_0 N n (v.1, w64 (v.2.1 + (1 : Int)), y4, ())
     else none
     else none
     else none
     else none
    else
    some (v.2.2.1, ())
noncomputable def FvtoRegionS (N : Nat) (x : ((List (Int × (Int × (Int × (Int × (Int × Unit)))))) × Unit)) : Option ((List (Int × (Int × (Int × (Int × (Int × Unit)))))) × Unit) :=
  bif decide (0 ≤ (x.1.length : Int)) then
  bif decide ((x.1.length : Int).toNat ≤ lim) then
  let y1 := List.replicate (x.1.length : Int).toNat ((0 : Int), (0 : Int), (0 : Int), (0 : Int), (0 : Int), ())
  (lvtoRegionS_0 N N (x.1, (0 : Int), y1, ())).bind fun o5 =>
  some (o5.1, ())
  else none
  else none
noncomputable def convtoRegionS (N : Nat) : Con := { f := 16, din := dinvtoRegionS, outs := outvtoRegionS, F := FvtoRegionS N }
noncomputable def XvtoRegionS (N : Nat) : Ctx := { E := EvtoRegionS N, H := HvtoRegionS, lp := [(0, { hd := dvtoRegionS_0, outs := ovtoRegionS_0, run := fun v => lvtoRegionS_0 N N v })], jn := [] }
noncomputable def bvtoRegionS_0 : Code := loopBody (codeOf Try.f16) 0
theorem FvtoRegionS_eq (N : Nat) (x : ((List (Int × (Int × (Int × (Int × (Int × Unit)))))) × Unit)) : evFn (XvtoRegionS N) Try.f16 dinvtoRegionS outvtoRegionS x = FvtoRegionS N x := by kernel_rfl
theorem lvtoRegionS_0_eq (N n : Nat) (v : ((List (Int × (Int × (Int × (Int × (Int × Unit)))))) × (Int × ((List (Int × (Int × (Int × (Int × (Int × Unit)))))) × Unit)))) : lvtoRegionS_0 N (n + 1) v = ev (XvtoRegionS N) bvtoRegionS_0 (roundK dvtoRegionS_0 ovtoRegionS_0 (lvtoRegionS_0 N n)) (dvtoRegionS_0.mk' v) := by kernel_rfl
theorem cxvtoRegionS (N : Nat) : CtxOk Try.prog (XvtoRegionS N) := ⟨⟨TE_ok, List.forall_mem_cons.2 ⟨specvtoRegion N, fun k hk => absurd hk List.not_mem_nil⟩⟩, mixed⟩
theorem lpvtoRegionS_0 (N : Nat) : LoopOk Try.prog { hd := dvtoRegionS_0, outs := ovtoRegionS_0, run := fun v => lvtoRegionS_0 N N v } bvtoRegionS_0 :=
  loop_fuel (d := dvtoRegionS_0) (os := ovtoRegionS_0) (cxvtoRegionS N) (loops_at (ids := []) (by kernel_rfl) (trivial)) (lvtoRegionS_0 N) (fun _ => rfl) (fun n v => lvtoRegionS_0_eq N n v) (fun _ => N)
theorem specvtoRegionS (N : Nat) : Spec Try.prog (convtoRegionS N) :=
  Spec.of_eq (fn_spec (cxvtoRegionS N) (f := 16) (fn := Try.f16) (c := codeOf Try.f16) (by kernel_rfl) (by kernel_rfl) (by kernel_rfl) (loops_at (ids := [0]) (by kernel_rfl) ⟨lp_of (lpvtoRegionS_0 N), trivial⟩) (by kernel_rfl)) (fun x r h => (FvtoRegionS_eq N x).trans h)

/-! ### 17: laws.toIntS -/

noncomputable def dinvtoIntS : Desc := { n := 1, regs := [.one (.val (.sl (.int .i64)))], bx := [], pins := [] }
noncomputable def outvtoIntS : Outs := [(.ret, { n := 1, regs := [.one (.lit (.row 1012928))], bx := [(1012928, .row (.int .i64))], pins := [] })]
noncomputable def HvtoIntS : Hints := []
noncomputable def EvtoIntS (_N : Nat) : Env := { te := TE, cs := [] }
noncomputable def dvtoIntS_0 : Desc := { n := 22, regs := [.one (.val (.sl (.int .i64))), u, u, .one (.lit (.row 1012928)), .one (.val (.int .i64))], bx := [(1012928, .row (.int .i64))], pins := [] }
noncomputable def ovtoIntS_0 : Outs := [(.exit 0, { n := 22, regs := [u, u, u, .one (.lit (.row 1012928))], bx := [(1012928, .row (.int .i64))], pins := [] })]
noncomputable def lvtoIntS_0 (N : Nat) : Nat → ((List Int) × (Int × ((List Int) × Unit))) → Option ((List Int) × Unit)
  | 0, _ => none
  | n + 1, v =>
    bif decide (v.2.1 < (v.1.length : Int)) then
     bif decide (0 ≤ v.2.1) then
     bif decide (v.2.1.toNat < v.1.length) then
     bif decide (0 ≤ v.2.1) then
     bif decide (v.2.1.toNat < v.2.2.1.length) then
     let y2 := v.2.2.1.set v.2.1.toNat (v.1.getD v.2.1.toNat (0 : Int))
     lvtoIntS_0 N n (v.1, w64 (v.2.1 + (1 : Int)), y2, ())
     else none
     else none
     else none
     else none
    else
    some (v.2.2.1, ())
noncomputable def FvtoIntS (N : Nat) (x : ((List Int) × Unit)) : Option ((List Int) × Unit) :=
  bif decide (0 ≤ (x.1.length : Int)) then
  bif decide ((x.1.length : Int).toNat ≤ lim) then
  let y1 := List.replicate (x.1.length : Int).toNat (0 : Int)
  (lvtoIntS_0 N N (x.1, (0 : Int), y1, ())).bind fun o3 =>
  some (o3.1, ())
  else none
  else none
noncomputable def convtoIntS (N : Nat) : Con := { f := 17, din := dinvtoIntS, outs := outvtoIntS, F := FvtoIntS N }
noncomputable def XvtoIntS (N : Nat) : Ctx := { E := EvtoIntS N, H := HvtoIntS, lp := [(0, { hd := dvtoIntS_0, outs := ovtoIntS_0, run := fun v => lvtoIntS_0 N N v })], jn := [] }
noncomputable def bvtoIntS_0 : Code := loopBody (codeOf Try.f17) 0
theorem FvtoIntS_eq (N : Nat) (x : ((List Int) × Unit)) : evFn (XvtoIntS N) Try.f17 dinvtoIntS outvtoIntS x = FvtoIntS N x := by kernel_rfl
theorem lvtoIntS_0_eq (N n : Nat) (v : ((List Int) × (Int × ((List Int) × Unit)))) : lvtoIntS_0 N (n + 1) v = ev (XvtoIntS N) bvtoIntS_0 (roundK dvtoIntS_0 ovtoIntS_0 (lvtoIntS_0 N n)) (dvtoIntS_0.mk' v) := by kernel_rfl
theorem cxvtoIntS (N : Nat) : CtxOk Try.prog (XvtoIntS N) := ⟨⟨TE_ok, fun k hk => absurd hk List.not_mem_nil⟩, mixed⟩
theorem lpvtoIntS_0 (N : Nat) : LoopOk Try.prog { hd := dvtoIntS_0, outs := ovtoIntS_0, run := fun v => lvtoIntS_0 N N v } bvtoIntS_0 :=
  loop_fuel (d := dvtoIntS_0) (os := ovtoIntS_0) (cxvtoIntS N) (loops_at (ids := []) (by kernel_rfl) (trivial)) (lvtoIntS_0 N) (fun _ => rfl) (fun n v => lvtoIntS_0_eq N n v) (fun _ => N)
theorem specvtoIntS (N : Nat) : Spec Try.prog (convtoIntS N) :=
  Spec.of_eq (fn_spec (cxvtoIntS N) (f := 17) (fn := Try.f17) (c := codeOf Try.f17) (by kernel_rfl) (by kernel_rfl) (by kernel_rfl) (loops_at (ids := [0]) (by kernel_rfl) ⟨lp_of (lpvtoIntS_0 N), trivial⟩) (by kernel_rfl)) (fun x r h => (FvtoIntS_eq N x).trans h)

/-! ### 54: spec.RegionBase -/

noncomputable def dinsRegionBase : Desc := { n := 1, regs := [.one (.val (.int .i64))], bx := [], pins := [] }
noncomputable def outsRegionBase : Outs := [(.ret, { n := 1, regs := [.one (.val (.int .i64))], bx := [], pins := [] })]
noncomputable def HsRegionBase : Hints := []
noncomputable def EsRegionBase (_N : Nat) : Env := { te := TE, cs := [] }
noncomputable def FsRegionBase (N : Nat) (x : (Int × Unit)) : Option (Int × Unit) :=
  bif decide (x.1 < (0 : Int)) then
   some ((0 : Int), ())
  else
  bif decide (x.1 ≥ (12 : Int)) then
   some ((0 : Int), ())
  else
  some (w64 (x.1 * (16 : Int)), ())
noncomputable def consRegionBase (N : Nat) : Con := { f := 54, din := dinsRegionBase, outs := outsRegionBase, F := FsRegionBase N }
noncomputable def XsRegionBase (N : Nat) : Ctx := { E := EsRegionBase N, H := HsRegionBase, lp := [], jn := [] }
theorem FsRegionBase_eq (N : Nat) (x : (Int × Unit)) : evFn (XsRegionBase N) Try.f54 dinsRegionBase outsRegionBase x = FsRegionBase N x := by kernel_rfl
theorem cxsRegionBase (N : Nat) : CtxOk Try.prog (XsRegionBase N) := ⟨⟨TE_ok, fun k hk => absurd hk List.not_mem_nil⟩, mixed⟩
theorem specsRegionBase (N : Nat) : Spec Try.prog (consRegionBase N) :=
  Spec.of_eq (fn_spec (cxsRegionBase N) (f := 54) (fn := Try.f54) (c := codeOf Try.f54) (by kernel_rfl) (by kernel_rfl) (by kernel_rfl) (loops_at (ids := []) (by kernel_rfl) (trivial)) (by kernel_rfl)) (fun x r h => (FsRegionBase_eq N x).trans h)

/-! ### 53: spec.TableOk -/

noncomputable def dinsTableOk : Desc := { n := 1, regs := [.one (.val (.sl (.pair (.int .i64) (.pair (.int .i64) (.pair (.int .i64) (.pair (.int .i64) (.pair (.int .i64) .unit)))))))], bx := [], pins := [] }
noncomputable def outsTableOk : Outs := [(.ret, { n := 1, regs := [.one (.val .bool)], bx := [], pins := [] })]
noncomputable def HsTableOk : Hints := []
noncomputable def EsTableOk (N : Nat) : Env := { te := TE, cs := [consRegionBase N] }
noncomputable def dsTableOk_2 : Desc := { n := 126, regs := [.one (.val (.sl (.pair (.int .i64) (.pair (.int .i64) (.pair (.int .i64) (.pair (.int .i64) (.pair (.int .i64) .unit))))))), u, u, .one (.val (.int .i64)), .one (.lit (.ptr 1077056 0)), u, .one (.val (.int .i64))], bx := [(1077056, .var [.val (.int .i64), .val (.int .i64), .val (.int .i64), .val (.int .i64), .val (.int .i64)])], pins := [] }
noncomputable def osTableOk_2 : Outs := [(.exit 2, { n := 126, regs := [.one (.val (.sl (.pair (.int .i64) (.pair (.int .i64) (.pair (.int .i64) (.pair (.int .i64) (.pair (.int .i64) .unit))))))), u, u, .one (.val (.int .i64))], bx := [], pins := [] }), (.ret, { n := 126, regs := [u, u, .one (.val .bool)], bx := [], pins := [] })]
noncomputable def dsTableOk_0 : Desc := { n := 126, regs := [.one (.val (.sl (.pair (.int .i64) (.pair (.int .i64) (.pair (.int .i64) (.pair (.int .i64) (.pair (.int .i64) .unit))))))), u, u, .one (.val (.int .i64))], bx := [], pins := [] }
noncomputable def osTableOk_0 : Outs := [(.exit 0, { n := 126, regs := [], bx := [], pins := [] }), (.ret, { n := 126, regs := [u, u, .one (.val .bool)], bx := [], pins := [] })]
noncomputable def jsTableOk_3 : Outs := [(.normal, { n := 126, regs := [.one (.val (.sl (.pair (.int .i64) (.pair (.int .i64) (.pair (.int .i64) (.pair (.int .i64) (.pair (.int .i64) .unit)))))))], bx := [], pins := [] }), (.ret, { n := 126, regs := [u, u, .one (.val .bool)], bx := [], pins := [] })]
noncomputable def jsTableOk_10 : Outs := [(.normal, { n := 126, regs := [.one (.val (.sl (.pair (.int .i64) (.pair (.int .i64) (.pair (.int .i64) (.pair (.int .i64) (.pair (.int .i64) .unit))))))), u, u, .one (.val (.int .i64)), .one (.lit (.ptr 1077056 0)), .one (.val (.int .i64))], bx := [(1077056, .var [.val (.int .i64), .val (.int .i64), .val (.int .i64), .val (.int .i64), .val (.int .i64)])], pins := [] }), (.ret, { n := 126, regs := [u, u, .one (.val .bool)], bx := [], pins := [] })]
noncomputable def jsTableOk_12 : Outs := [(.normal, { n := 126, regs := [.one (.val (.sl (.pair (.int .i64) (.pair (.int .i64) (.pair (.int .i64) (.pair (.int .i64) (.pair (.int .i64) .unit))))))), u, u, .one (.val (.int .i64)), .one (.lit (.ptr 1077056 0))], bx := [(1077056, .var [.val (.int .i64), .val (.int .i64), .val (.int .i64), .val (.int .i64), .val (.int .i64)])], pins := [] }), (.ret, { n := 126, regs := [u, u, .one (.val .bool)], bx := [], pins := [] })]
noncomputable def jsTableOk_14 : Outs := [(.normal, { n := 126, regs := [.one (.val (.sl (.pair (.int .i64) (.pair (.int .i64) (.pair (.int .i64) (.pair (.int .i64) (.pair (.int .i64) .unit))))))), u, u, .one (.val (.int .i64)), .one (.lit (.ptr 1077056 0))], bx := [(1077056, .var [.val (.int .i64), .val (.int .i64), .val (.int .i64), .val (.int .i64), .val (.int .i64)])], pins := [] }), (.ret, { n := 126, regs := [u, u, .one (.val .bool)], bx := [], pins := [] })]
noncomputable def lsTableOk_2 (N : Nat) : Nat → ((List (Int × (Int × (Int × (Int × (Int × Unit)))))) × (Int × (Int × (Int × (Int × (Int × (Int × (Int × Unit)))))))) → Option (((List (Int × (Int × (Int × (Int × (Int × Unit)))))) × (Int × Unit)) ⊕ (Bool × Unit))
  | 0, _ => none
  | n + 1, v =>
    bif decide (v.2.2.1 < v.2.1) then
     bif decide (v.2.2.2.2.1 ≥ (0 : Int)) then
      bif decide (0 ≤ v.2.2.1) then
      bif decide (v.2.2.1.toNat < v.1.length) then
      let y18 := v.1.getD v.2.2.1.toNat ((0 : Int), (0 : Int), (0 : Int), (0 : Int), (0 : Int), ())
      bif y18.2.1 == v.2.2.2.2.1 then
       some (.inr ((false, ())))
      else
      lsTableOk_2 N n (v.1, v.2.1, w64 (v.2.2.1 + (1 : Int)), v.2.2.2.1, v.2.2.2.2.1, v.2.2.2.2.2.1, v.2.2.2.2.2.2.1, v.2.2.2.2.2.2.2.1, ())
      else none
      else none
     else
     lsTableOk_2 N n (v.1, v.2.1, w64 (v.2.2.1 + (1 : Int)), v.2.2.2.1, v.2.2.2.2.1, v.2.2.2.2.2.1, v.2.2.2.2.2.2.1, v.2.2.2.2.2.2.2.1, ())
    else
    some (.inl (v.1, v.2.1, ()))
noncomputable def lsTableOk_0 (N : Nat) : Nat → ((List (Int × (Int × (Int × (Int × (Int × Unit)))))) × (Int × Unit)) → Option (Unit ⊕ (Bool × Unit))
  | 0, _ => none
  | n + 1, v =>
    bif decide (v.2.1 < (v.1.length : Int)) then
     bif decide (0 ≤ v.2.1) then
     bif decide (v.2.1.toNat < v.1.length) then
     let y7 := v.1.getD v.2.1.toNat ((0 : Int), (0 : Int), (0 : Int), (0 : Int), (0 : Int), ())
     (FsRegionBase N (v.2.1, ())).bind fun r8 =>
     Option.bind (
      bif decide (y7.1 < (1 : Int)) then
       some (.inr ((false, ())))
      else
      bif decide (y7.1 > (4 : Int)) then
       some (.inr ((false, ())))
      else
      bif decide (y7.2.2.1 < r8.1) then
       some (.inr ((false, ())))
      else
      let y9 := decide (y7.2.2.1 > (w64 (r8.1 + (16 : Int))))
      bif y9 then
       some (.inr ((false, ())))
      else
      bif decide (y7.2.2.2.1 < r8.1) then
       some (.inr ((false, ())))
      else
      bif decide (y7.2.2.2.1 > y7.2.2.1) then
       some (.inr ((false, ())))
      else
      bif decide (y7.2.2.2.2.1 < (0 : Int)) then
       some (.inr ((false, ())))
      else
      let y10 := decide (y7.2.2.2.2.1 > (w64 (y7.2.2.1 - r8.1)))
      bif y10 then
       some (.inr ((false, ())))
      else
      some (.inl (v.1, v.2.1, r8.1, y7.1, y7.2.1, y7.2.2.1, y7.2.2.2.1, y7.2.2.2.2.1, ()))) fun o11 =>
     Sum.elim (fun o12 =>
      Option.bind (
       bif o12.2.2.2.1 == (1 : Int) then
        bif o12.2.2.2.2.2.1 != o12.2.2.1 then
         some (.inr ((false, ())))
        else
        some (.inl (o12.1, o12.2.1, o12.2.2.2.1, o12.2.2.2.2.1, o12.2.2.2.2.2.1, o12.2.2.2.2.2.2.1, o12.2.2.2.2.2.2.2.1, ()))
       else
       some (.inl (o12.1, o12.2.1, o12.2.2.2.1, o12.2.2.2.2.1, o12.2.2.2.2.2.1, o12.2.2.2.2.2.2.1, o12.2.2.2.2.2.2.2.1, ()))) fun o13 =>
      Sum.elim (fun o14 =>
       Option.bind (
        let y15 := !((o14.2.2.1 == (2 : Int)) == (decide (o14.2.2.2.1 ≥ (0 : Int))))
        bif y15 then
         some (.inr ((false, ())))
        else
        bif decide (o14.2.2.2.1 < (-1 : Int)) then
         some (.inr ((false, ())))
        else
        bif decide (o14.2.2.2.1 > (3 : Int)) then
         some (.inr ((false, ())))
        else
        some (.inl (o14.1, o14.2.1, o14.2.2.1, o14.2.2.2.1, o14.2.2.2.2.1, o14.2.2.2.2.2.1, o14.2.2.2.2.2.2.1, ()))) fun o16 =>
       Sum.elim (fun o17 =>
        (lsTableOk_2 N N (o17.1, o17.2.1, (1 : Int), o17.2.2.1, o17.2.2.2.1, o17.2.2.2.2.1, o17.2.2.2.2.2.1, o17.2.2.2.2.2.2.1, ())).bind fun o19 =>
        Sum.elim (fun o20 =>
         lsTableOk_0 N n (o20.1, w64 (o20.2.1 + (1 : Int)), ())) (fun o21 =>
         some (.inr ((o21.1, ())))) o19) (fun o22 =>
        some (.inr ((o22.1, ())))) o16) (fun o23 =>
       some (.inr ((o23.1, ())))) o13) (fun o24 =>
      some (.inr ((o24.1, ())))) o11
     else none
     else none
    else
    some (.inl ())
noncomputable def FsTableOk (N : Nat) (x : ((List (Int × (Int × (Int × (Int × (Int × Unit)))))) × Unit)) : Option (Bool × Unit) :=
  Option.bind (
   let y1 := decide ((x.1.length : Int) < (2 : Int))
   bif y1 then
    some (.inr ((false, ())))
   else
   let y2 := decide ((x.1.length : Int) > (12 : Int))
   bif y2 then
    some (.inr ((false, ())))
   else
   bif decide (0 ≤ (0 : Int)) then
   bif decide ((0 : Int).toNat < x.1.length) then
   let y3 := x.1.getD ((0 : Int).toNat) ((0 : Int), (0 : Int), (0 : Int), (0 : Int), (0 : Int), ())
   let y4 := !((y3.1 == (0 : Int)) && ((y3.2.1 == (-1 : Int)) && ((y3.2.2.1 == (0 : Int)) && ((y3.2.2.2.1 == (0 : Int)) && ((y3.2.2.2.2.1 == (0 : Int)) && (true))))))
   bif y4 then
    some (.inr ((false, ())))
   else
   some (.inl (x.1, ()))
   else none
   else none) fun o5 =>
  Sum.elim (fun o6 =>
   (lsTableOk_0 N N (o6.1, (1 : Int), ())).bind fun o25 =>
   Sum.elim (fun o26 =>
    some (true, ())) (fun o27 =>
    some (o27.1, ())) o25) (fun o28 =>
   some (o28.1, ())) o5
noncomputable def consTableOk (N : Nat) : Con := { f := 53, din := dinsTableOk, outs := outsTableOk, F := FsTableOk N }
noncomputable def XsTableOk (N : Nat) : Ctx := { E := EsTableOk N, H := HsTableOk, lp := [(2, { hd := dsTableOk_2, outs := osTableOk_2, run := fun v => lsTableOk_2 N N v }), (0, { hd := dsTableOk_0, outs := osTableOk_0, run := fun v => lsTableOk_0 N N v })], jn := [(3, jsTableOk_3), (10, jsTableOk_10), (12, jsTableOk_12), (14, jsTableOk_14)] }
noncomputable def bsTableOk_0 : Code := loopBody (codeOf Try.f53) 0
noncomputable def bsTableOk_2 : Code := loopBody bsTableOk_0 0
theorem FsTableOk_eq (N : Nat) (x : ((List (Int × (Int × (Int × (Int × (Int × Unit)))))) × Unit)) : evFn (XsTableOk N) Try.f53 dinsTableOk outsTableOk x = FsTableOk N x := by kernel_rfl
theorem lsTableOk_2_eq (N n : Nat) (v : ((List (Int × (Int × (Int × (Int × (Int × Unit)))))) × (Int × (Int × (Int × (Int × (Int × (Int × (Int × Unit))))))))) : lsTableOk_2 N (n + 1) v = ev (XsTableOk N) bsTableOk_2 (roundK dsTableOk_2 osTableOk_2 (lsTableOk_2 N n)) (dsTableOk_2.mk' v) := by kernel_rfl
theorem lsTableOk_0_eq (N n : Nat) (v : ((List (Int × (Int × (Int × (Int × (Int × Unit)))))) × (Int × Unit))) : lsTableOk_0 N (n + 1) v = ev (XsTableOk N) bsTableOk_0 (roundK dsTableOk_0 osTableOk_0 (lsTableOk_0 N n)) (dsTableOk_0.mk' v) := by kernel_rfl
theorem cxsTableOk (N : Nat) : CtxOk Try.prog (XsTableOk N) := ⟨⟨TE_ok, List.forall_mem_cons.2 ⟨specsRegionBase N, fun k hk => absurd hk List.not_mem_nil⟩⟩, mixed⟩
theorem lpsTableOk_2 (N : Nat) : LoopOk Try.prog { hd := dsTableOk_2, outs := osTableOk_2, run := fun v => lsTableOk_2 N N v } bsTableOk_2 :=
  loop_fuel (d := dsTableOk_2) (os := osTableOk_2) (cxsTableOk N) (loops_at (ids := []) (by kernel_rfl) (trivial)) (lsTableOk_2 N) (fun _ => rfl) (fun n v => lsTableOk_2_eq N n v) (fun _ => N)
theorem lpsTableOk_0 (N : Nat) : LoopOk Try.prog { hd := dsTableOk_0, outs := osTableOk_0, run := fun v => lsTableOk_0 N N v } bsTableOk_0 :=
  loop_fuel (d := dsTableOk_0) (os := osTableOk_0) (cxsTableOk N) (loops_at (ids := [2]) (by kernel_rfl) ⟨lp_of (lpsTableOk_2 N), trivial⟩) (lsTableOk_0 N) (fun _ => rfl) (fun n v => lsTableOk_0_eq N n v) (fun _ => N)
theorem specsTableOk (N : Nat) : Spec Try.prog (consTableOk N) :=
  Spec.of_eq (fn_spec (cxsTableOk N) (f := 53) (fn := Try.f53) (c := codeOf Try.f53) (by kernel_rfl) (by kernel_rfl) (by kernel_rfl) (loops_at (ids := [0]) (by kernel_rfl) ⟨lp_of (lpsTableOk_0 N), trivial⟩) (by kernel_rfl)) (fun x r h => (FsTableOk_eq N x).trans h)

/-! ### 55: spec.l4Has -/

noncomputable def dinsl4Has : Desc := { n := 2, regs := [.one (.val (.sl (.int .i64))), .one (.val (.int .i64))], bx := [], pins := [] }
noncomputable def outsl4Has : Outs := [(.ret, { n := 1, regs := [.one (.val .bool)], bx := [], pins := [] })]
noncomputable def Hsl4Has : Hints := []
noncomputable def Esl4Has (_N : Nat) : Env := { te := TE, cs := [] }
noncomputable def dsl4Has_0 : Desc := { n := 18, regs := [.one (.val (.sl (.int .i64))), .one (.val (.int .i64)), u, u, u, .one (.val (.int .i64))], bx := [], pins := [] }
noncomputable def osl4Has_0 : Outs := [(.exit 0, { n := 18, regs := [], bx := [], pins := [] }), (.ret, { n := 18, regs := [u, u, u, u, .one (.val .bool)], bx := [], pins := [] })]
noncomputable def lsl4Has_0 (N : Nat) : Nat → ((List Int) × (Int × (Int × Unit))) → Option (Unit ⊕ (Bool × Unit))
  | 0, _ => none
  | n + 1, v =>
    let y1 := decide (v.2.2.1 < (v.1.length : Int))
    bif y1 then
     bif decide (0 ≤ v.2.2.1) then
     bif decide (v.2.2.1.toNat < v.1.length) then
     let y2 := (v.1.getD v.2.2.1.toNat (0 : Int)) == v.2.1
     bif y2 then
      some (.inr ((true, ())))
     else
     lsl4Has_0 N n (v.1, v.2.1, w64 (v.2.2.1 + (1 : Int)), ())
     else none
     else none
    else
    some (.inl ())
noncomputable def Fsl4Has (N : Nat) (x : ((List Int) × (Int × Unit))) : Option (Bool × Unit) :=
  (lsl4Has_0 N N (x.1, x.2.1, (0 : Int), ())).bind fun o3 =>
  Sum.elim (fun o4 =>
   some (false, ())) (fun o5 =>
   some (o5.1, ())) o3
noncomputable def consl4Has (N : Nat) : Con := { f := 55, din := dinsl4Has, outs := outsl4Has, F := Fsl4Has N }
noncomputable def Xsl4Has (N : Nat) : Ctx := { E := Esl4Has N, H := Hsl4Has, lp := [(0, { hd := dsl4Has_0, outs := osl4Has_0, run := fun v => lsl4Has_0 N N v })], jn := [] }
noncomputable def bsl4Has_0 : Code := loopBody (codeOf Try.f55) 0
theorem Fsl4Has_eq (N : Nat) (x : ((List Int) × (Int × Unit))) : evFn (Xsl4Has N) Try.f55 dinsl4Has outsl4Has x = Fsl4Has N x := by kernel_rfl
theorem lsl4Has_0_eq (N n : Nat) (v : ((List Int) × (Int × (Int × Unit)))) : lsl4Has_0 N (n + 1) v = ev (Xsl4Has N) bsl4Has_0 (roundK dsl4Has_0 osl4Has_0 (lsl4Has_0 N n)) (dsl4Has_0.mk' v) := by kernel_rfl
theorem cxsl4Has (N : Nat) : CtxOk Try.prog (Xsl4Has N) := ⟨⟨TE_ok, fun k hk => absurd hk List.not_mem_nil⟩, mixed⟩
theorem lpsl4Has_0 (N : Nat) : LoopOk Try.prog { hd := dsl4Has_0, outs := osl4Has_0, run := fun v => lsl4Has_0 N N v } bsl4Has_0 :=
  loop_fuel (d := dsl4Has_0) (os := osl4Has_0) (cxsl4Has N) (loops_at (ids := []) (by kernel_rfl) (trivial)) (lsl4Has_0 N) (fun _ => rfl) (fun n v => lsl4Has_0_eq N n v) (fun _ => N)
theorem specsl4Has (N : Nat) : Spec Try.prog (consl4Has N) :=
  Spec.of_eq (fn_spec (cxsl4Has N) (f := 55) (fn := Try.f55) (c := codeOf Try.f55) (by kernel_rfl) (by kernel_rfl) (by kernel_rfl) (loops_at (ids := [0]) (by kernel_rfl) ⟨lp_of (lpsl4Has_0 N), trivial⟩) (by kernel_rfl)) (fun x r h => (Fsl4Has_eq N x).trans h)

/-! ### 15: spec.TableChoose -/

noncomputable def dinsTableChoose : Desc := { n := 3, regs := [.one (.val (.sl (.pair (.int .i64) (.pair (.int .i64) (.pair (.int .i64) (.pair (.int .i64) (.pair (.int .i64) .unit))))))), .one (.val (.int .i64)), .one (.val (.sl (.int .i64)))], bx := [], pins := [] }
noncomputable def outsTableChoose : Outs := [(.ret, { n := 2, regs := [.one (.lit (.row 1025600)), .one (.lit (.row 1025664))], bx := [(1025600, .row (.int .i64)), (1025664, .row (.int .i64))], pins := [] })]
noncomputable def HsTableChoose : Hints := [(2, [(0, { nl := [(0, (.int .i64))] }), (1, { nl := [(0, (.int .i64))] })]),
  (3, [(0, { nl := [(0, (.int .i64))] })]),
  (4, [(0, { nl := [(0, (.int .i64))] })]),
  (13, [(22, { con := 1 }), (29, { con := 2 })])]
noncomputable def EsTableChoose (N : Nat) : Env := { te := TE, cs := [consTableOk N, consRegionBase N, consl4Has N] }
noncomputable def dsTableChoose_2 : Desc := { n := 81, regs := [.one (.val (.sl (.pair (.int .i64) (.pair (.int .i64) (.pair (.int .i64) (.pair (.int .i64) (.pair (.int .i64) .unit))))))), u, .one (.val (.sl (.int .i64))), u, u, u, u, u, .one (.lit (.row 1038400)), .one (.lit (.row 1051200)), .one (.val (.int .i64)), .one (.val (.int .i64)), .one (.val (.int .i64))], bx := [(1038400, .row (.int .i64)), (1051200, .row (.int .i64))], pins := [] }
noncomputable def osTableChoose_2 : Outs := [(.exit 2, { n := 81, regs := [.one (.val (.sl (.pair (.int .i64) (.pair (.int .i64) (.pair (.int .i64) (.pair (.int .i64) (.pair (.int .i64) .unit))))))), u, .one (.val (.sl (.int .i64))), u, u, u, u, u, .one (.lit (.row 1038400)), .one (.lit (.row 1051200)), .one (.val (.int .i64)), .one (.val (.int .i64))], bx := [(1038400, .row (.int .i64)), (1051200, .row (.int .i64))], pins := [] })]
noncomputable def dsTableChoose_0 : Desc := { n := 81, regs := [.one (.val (.sl (.pair (.int .i64) (.pair (.int .i64) (.pair (.int .i64) (.pair (.int .i64) (.pair (.int .i64) .unit))))))), u, .one (.val (.sl (.int .i64))), u, u, u, u, u, .one (.lit (.row 1038400)), .one (.lit (.row 1051200)), .one (.val (.int .i64)), .one (.val (.int .i64))], bx := [(1038400, .row (.int .i64)), (1051200, .row (.int .i64))], pins := [] }
noncomputable def osTableChoose_0 : Outs := [(.exit 0, { n := 81, regs := [u, u, u, u, u, u, u, u, .one (.lit (.row 1038400)), .one (.lit (.row 1051200))], bx := [(1038400, .row (.int .i64)), (1051200, .row (.int .i64))], pins := [] })]
noncomputable def jsTableChoose_14 : Outs := [(.exit 3, { n := 81, regs := [.one (.val (.sl (.pair (.int .i64) (.pair (.int .i64) (.pair (.int .i64) (.pair (.int .i64) (.pair (.int .i64) .unit))))))), u, .one (.val (.sl (.int .i64))), u, u, u, u, u, .one (.lit (.row 1038400)), .one (.lit (.row 1051200)), .one (.val (.int .i64)), .one (.val (.int .i64)), .one (.val (.int .i64))], bx := [(1038400, .row (.int .i64)), (1051200, .row (.int .i64))], pins := [] }), (.normal, { n := 81, regs := [.one (.val (.sl (.pair (.int .i64) (.pair (.int .i64) (.pair (.int .i64) (.pair (.int .i64) (.pair (.int .i64) .unit))))))), u, .one (.val (.sl (.int .i64))), u, u, u, u, u, .one (.lit (.row 1038400)), .one (.lit (.row 1051200)), .one (.val (.int .i64)), .one (.val (.int .i64)), .one (.val (.int .i64))], bx := [(1038400, .row (.int .i64)), (1051200, .row (.int .i64))], pins := [] })]
noncomputable def lsTableChoose_2 (N : Nat) : Nat → ((List (Int × (Int × (Int × (Int × (Int × Unit)))))) × ((List Int) × (Int × (Int × (Int × ((List Int) × ((List Int) × Unit))))))) → Option ((List (Int × (Int × (Int × (Int × (Int × Unit)))))) × ((List Int) × (Int × (Int × ((List Int) × ((List Int) × Unit))))))
  | 0, _ => none
  | n + 1, v =>
    let y2 := decide (v.2.2.2.2.1 < (v.1.length : Int))
    bif y2 then
     bif decide (0 ≤ v.2.2.2.2.1) then
     bif decide (v.2.2.2.2.1.toNat < v.1.length) then
     let y3 := v.1.getD v.2.2.2.2.1.toNat ((0 : Int), (0 : Int), (0 : Int), (0 : Int), (0 : Int), ())
     Option.bind (
      bif y3.1 != (3 : Int) then
       some (.inl (v.1, v.2.1, v.2.2.1, v.2.2.2.1, v.2.2.2.2.1, v.2.2.2.2.2.1, v.2.2.2.2.2.2.1, ()))
      else
      bif y3.2.2.1 != y3.2.2.2.1 then
       some (.inl (v.1, v.2.1, v.2.2.1, v.2.2.2.1, v.2.2.2.2.1, v.2.2.2.2.2.1, v.2.2.2.2.2.2.1, ()))
      else
      bif y3.2.2.2.2.1 != v.2.2.2.1 then
       some (.inl (v.1, v.2.1, v.2.2.1, v.2.2.2.1, v.2.2.2.2.1, v.2.2.2.2.2.1, v.2.2.2.2.2.2.1, ()))
      else
      (FsRegionBase N (v.2.2.2.2.1, ())).bind fun r4 =>
      let y5 := decide (y3.2.2.2.2.1 ≥ (w64 (y3.2.2.1 - r4.1)))
      bif y5 then
       some (.inl (v.1, v.2.1, v.2.2.1, v.2.2.2.1, v.2.2.2.2.1, v.2.2.2.2.2.1, v.2.2.2.2.2.2.1, ()))
      else
      (Fsl4Has N (v.2.1, v.2.2.2.2.1, ())).bind fun r6 =>
      bif r6.1 then
       some (.inl (v.1, v.2.1, v.2.2.1, v.2.2.2.1, v.2.2.2.2.1, v.2.2.2.2.2.1, v.2.2.2.2.2.2.1, ()))
      else
      some (.inr ((v.1, v.2.1, v.2.2.1, v.2.2.2.1, v.2.2.2.2.1, v.2.2.2.2.2.1, v.2.2.2.2.2.2.1, ())))) fun o7 =>
     Sum.elim (fun o8 =>
      lsTableChoose_2 N n (o8.1, o8.2.1, o8.2.2.1, o8.2.2.2.1, w64 (o8.2.2.2.2.1 + (1 : Int)), o8.2.2.2.2.2.1, o8.2.2.2.2.2.2.1, ())) (fun o9 =>
      bif o9.2.2.2.1 == (0 : Int) then
       bif decide (o9.2.2.2.2.2.2.1.length + [o9.2.2.2.2.1].length ≤ lim) then
       lsTableChoose_2 N n (o9.1, o9.2.1, o9.2.2.1, o9.2.2.2.1, w64 (o9.2.2.2.2.1 + (1 : Int)), o9.2.2.2.2.2.1, o9.2.2.2.2.2.2.1 ++ [o9.2.2.2.2.1], ())
       else none
      else
      bif decide (o9.2.2.2.1 ≤ o9.2.2.1) then
       bif decide (o9.2.2.2.2.2.1.length + [o9.2.2.2.2.1].length ≤ lim) then
       lsTableChoose_2 N n (o9.1, o9.2.1, w64 (o9.2.2.1 - o9.2.2.2.1), o9.2.2.2.1, w64 (o9.2.2.2.2.1 + (1 : Int)), o9.2.2.2.2.2.1 ++ [o9.2.2.2.2.1], o9.2.2.2.2.2.2.1, ())
       else none
      else
      lsTableChoose_2 N n (o9.1, o9.2.1, o9.2.2.1, o9.2.2.2.1, w64 (o9.2.2.2.2.1 + (1 : Int)), o9.2.2.2.2.2.1, o9.2.2.2.2.2.2.1, ())) o7
     else none
     else none
    else
    some (v.1, v.2.1, v.2.2.1, v.2.2.2.1, v.2.2.2.2.2.1, v.2.2.2.2.2.2.1, ())
noncomputable def lsTableChoose_0 (N : Nat) : Nat → ((List (Int × (Int × (Int × (Int × (Int × Unit)))))) × ((List Int) × (Int × (Int × ((List Int) × ((List Int) × Unit)))))) → Option ((List Int) × ((List Int) × Unit))
  | 0, _ => none
  | n + 1, v =>
    bif decide (v.2.2.2.1 ≤ (16 : Int)) then
     (lsTableChoose_2 N N (v.1, v.2.1, v.2.2.1, v.2.2.2.1, (1 : Int), v.2.2.2.2.1, v.2.2.2.2.2.1, ())).bind fun o10 =>
     lsTableChoose_0 N n (o10.1, o10.2.1, o10.2.2.1, w64 (o10.2.2.2.1 + (1 : Int)), o10.2.2.2.2.1, o10.2.2.2.2.2.1, ())
    else
    some (v.2.2.2.2.1, v.2.2.2.2.2.1, ())
noncomputable def FsTableChoose (N : Nat) (x : ((List (Int × (Int × (Int × (Int × (Int × Unit)))))) × (Int × ((List Int) × Unit)))) : Option ((List Int) × ((List Int) × Unit)) :=
  (FsTableOk N (x.1, ())).bind fun r1 =>
  bif !r1.1 then
   some (([] : (List Int)), ([] : (List Int)), ())
  else
  (lsTableChoose_0 N N (x.1, x.2.2.1, x.2.1, (0 : Int), ([] : (List Int)), ([] : (List Int)), ())).bind fun o11 =>
  some (o11.1, o11.2.1, ())
noncomputable def consTableChoose (N : Nat) : Con := { f := 15, din := dinsTableChoose, outs := outsTableChoose, F := FsTableChoose N }
noncomputable def XsTableChoose (N : Nat) : Ctx := { E := EsTableChoose N, H := HsTableChoose, lp := [(2, { hd := dsTableChoose_2, outs := osTableChoose_2, run := fun v => lsTableChoose_2 N N v }), (0, { hd := dsTableChoose_0, outs := osTableChoose_0, run := fun v => lsTableChoose_0 N N v })], jn := [(14, jsTableChoose_14)] }
noncomputable def bsTableChoose_0 : Code := loopBody (codeOf Try.f15) 0
noncomputable def bsTableChoose_2 : Code := loopBody bsTableChoose_0 0
theorem FsTableChoose_eq (N : Nat) (x : ((List (Int × (Int × (Int × (Int × (Int × Unit)))))) × (Int × ((List Int) × Unit)))) : evFn (XsTableChoose N) Try.f15 dinsTableChoose outsTableChoose x = FsTableChoose N x := by kernel_rfl
theorem lsTableChoose_2_eq (N n : Nat) (v : ((List (Int × (Int × (Int × (Int × (Int × Unit)))))) × ((List Int) × (Int × (Int × (Int × ((List Int) × ((List Int) × Unit)))))))) : lsTableChoose_2 N (n + 1) v = ev (XsTableChoose N) bsTableChoose_2 (roundK dsTableChoose_2 osTableChoose_2 (lsTableChoose_2 N n)) (dsTableChoose_2.mk' v) := by kernel_rfl
theorem lsTableChoose_0_eq (N n : Nat) (v : ((List (Int × (Int × (Int × (Int × (Int × Unit)))))) × ((List Int) × (Int × (Int × ((List Int) × ((List Int) × Unit))))))) : lsTableChoose_0 N (n + 1) v = ev (XsTableChoose N) bsTableChoose_0 (roundK dsTableChoose_0 osTableChoose_0 (lsTableChoose_0 N n)) (dsTableChoose_0.mk' v) := by kernel_rfl
theorem cxsTableChoose (N : Nat) : CtxOk Try.prog (XsTableChoose N) := ⟨⟨TE_ok, List.forall_mem_cons.2 ⟨specsTableOk N, List.forall_mem_cons.2 ⟨specsRegionBase N, List.forall_mem_cons.2 ⟨specsl4Has N, fun k hk => absurd hk List.not_mem_nil⟩⟩⟩⟩, mixed⟩
theorem lpsTableChoose_2 (N : Nat) : LoopOk Try.prog { hd := dsTableChoose_2, outs := osTableChoose_2, run := fun v => lsTableChoose_2 N N v } bsTableChoose_2 :=
  loop_fuel (d := dsTableChoose_2) (os := osTableChoose_2) (cxsTableChoose N) (loops_at (ids := []) (by kernel_rfl) (trivial)) (lsTableChoose_2 N) (fun _ => rfl) (fun n v => lsTableChoose_2_eq N n v) (fun _ => N)
theorem lpsTableChoose_0 (N : Nat) : LoopOk Try.prog { hd := dsTableChoose_0, outs := osTableChoose_0, run := fun v => lsTableChoose_0 N N v } bsTableChoose_0 :=
  loop_fuel (d := dsTableChoose_0) (os := osTableChoose_0) (cxsTableChoose N) (loops_at (ids := [2]) (by kernel_rfl) ⟨lp_of (lpsTableChoose_2 N), trivial⟩) (lsTableChoose_0 N) (fun _ => rfl) (fun n v => lsTableChoose_0_eq N n v) (fun _ => N)
theorem specsTableChoose (N : Nat) : Spec Try.prog (consTableChoose N) :=
  Spec.of_eq (fn_spec (cxsTableChoose N) (f := 15) (fn := Try.f15) (c := codeOf Try.f15) (by kernel_rfl) (by kernel_rfl) (by kernel_rfl) (loops_at (ids := [0]) (by kernel_rfl) ⟨lp_of (lpsTableChoose_0 N), trivial⟩) (by kernel_rfl)) (fun x r h => (FsTableChoose_eq N x).trans h)

/-! ### 99: impl.edge -/

noncomputable def diniedge : Desc := { n := 0, regs := [], bx := [], pins := [] }
noncomputable def outiedge : Outs := [(.ret, { n := 1, regs := [.agg [.val (.int .i64), .val (.int .i64), .val (.int .i64), .val (.int .i64), .val (.int .i64)]], bx := [], pins := [] })]
noncomputable def Hiedge : Hints := []
noncomputable def Eiedge (_N : Nat) : Env := { te := TE, cs := [] }
noncomputable def Fiedge (N : Nat) (x : Unit) : Option (Int × (Int × (Int × (Int × (Int × Unit))))) :=
  some ((0 : Int), (-1 : Int), (0 : Int), (0 : Int), (0 : Int), ())
noncomputable def coniedge (N : Nat) : Con := { f := 99, din := diniedge, outs := outiedge, F := Fiedge N }
noncomputable def Xiedge (N : Nat) : Ctx := { E := Eiedge N, H := Hiedge, lp := [], jn := [] }
theorem Fiedge_eq (N : Nat) (x : Unit) : evFn (Xiedge N) Try.f99 diniedge outiedge x = Fiedge N x := by kernel_rfl
theorem cxiedge (N : Nat) : CtxOk Try.prog (Xiedge N) := ⟨⟨TE_ok, fun k hk => absurd hk List.not_mem_nil⟩, mixed⟩
theorem speciedge (N : Nat) : Spec Try.prog (coniedge N) :=
  Spec.of_eq (fn_spec (cxiedge N) (f := 99) (fn := Try.f99) (c := codeOf Try.f99) (by kernel_rfl) (by kernel_rfl) (by kernel_rfl) (loops_at (ids := []) (by kernel_rfl) (trivial)) (by kernel_rfl)) (fun x r h => (Fiedge_eq N x).trans h)

/-! ### 58: impl.RegionBase -/

noncomputable def diniRegionBase : Desc := { n := 1, regs := [.one (.val (.int .i64))], bx := [], pins := [] }
noncomputable def outiRegionBase : Outs := [(.ret, { n := 1, regs := [.one (.val (.int .i64))], bx := [], pins := [] })]
noncomputable def HiRegionBase : Hints := []
noncomputable def EiRegionBase (_N : Nat) : Env := { te := TE, cs := [] }
noncomputable def FiRegionBase (N : Nat) (x : (Int × Unit)) : Option (Int × Unit) :=
  bif decide (x.1 < (0 : Int)) then
   some ((0 : Int), ())
  else
  bif decide (x.1 ≥ (12 : Int)) then
   some ((0 : Int), ())
  else
  some (w64 (x.1 * (16 : Int)), ())
noncomputable def coniRegionBase (N : Nat) : Con := { f := 58, din := diniRegionBase, outs := outiRegionBase, F := FiRegionBase N }
noncomputable def XiRegionBase (N : Nat) : Ctx := { E := EiRegionBase N, H := HiRegionBase, lp := [], jn := [] }
theorem FiRegionBase_eq (N : Nat) (x : (Int × Unit)) : evFn (XiRegionBase N) Try.f58 diniRegionBase outiRegionBase x = FiRegionBase N x := by kernel_rfl
theorem cxiRegionBase (N : Nat) : CtxOk Try.prog (XiRegionBase N) := ⟨⟨TE_ok, fun k hk => absurd hk List.not_mem_nil⟩, mixed⟩
theorem speciRegionBase (N : Nat) : Spec Try.prog (coniRegionBase N) :=
  Spec.of_eq (fn_spec (cxiRegionBase N) (f := 58) (fn := Try.f58) (c := codeOf Try.f58) (by kernel_rfl) (by kernel_rfl) (by kernel_rfl) (loops_at (ids := []) (by kernel_rfl) (trivial)) (by kernel_rfl)) (fun x r h => (FiRegionBase_eq N x).trans h)

/-! ### 100: impl.Region).ok -/

noncomputable def diniRegion_ok : Desc := { n := 2, regs := [.one (.val (.pair (.int .i64) (.pair (.int .i64) (.pair (.int .i64) (.pair (.int .i64) (.pair (.int .i64) .unit)))))), .one (.val (.int .i64))], bx := [], pins := [] }
noncomputable def outiRegion_ok : Outs := [(.ret, { n := 1, regs := [.one (.val .bool)], bx := [], pins := [] })]
noncomputable def HiRegion_ok : Hints := [(0, [(0, { fz := true })])]
noncomputable def EiRegion_ok (N : Nat) : Env := { te := TE, cs := [coniRegionBase N] }
noncomputable def jiRegion_ok_4 : Outs := [(.normal, { n := 79, regs := [u, u, .one (.fpt (.pair (.int .i64) (.pair (.int .i64) (.pair (.int .i64) (.pair (.int .i64) (.pair (.int .i64) .unit)))))), u, u, .one (.val (.int .i64))], bx := [], pins := [] }), (.ret, { n := 79, regs := [u, u, u, u, .one (.val .bool)], bx := [], pins := [] })]
noncomputable def jiRegion_ok_6 : Outs := [(.normal, { n := 79, regs := [u, u, .one (.fpt (.pair (.int .i64) (.pair (.int .i64) (.pair (.int .i64) (.pair (.int .i64) (.pair (.int .i64) .unit))))))], bx := [], pins := [] }), (.ret, { n := 79, regs := [u, u, u, u, .one (.val .bool)], bx := [], pins := [] })]
noncomputable def FiRegion_ok (N : Nat) (x : ((Int × (Int × (Int × (Int × (Int × Unit))))) × (Int × Unit))) : Option (Bool × Unit) :=
  (FiRegionBase N (x.2.1, ())).bind fun r1 =>
  Option.bind (
   bif decide (x.1.1 < (1 : Int)) then
    some (.inr ((false, ())))
   else
   bif decide (x.1.1 > (4 : Int)) then
    some (.inr ((false, ())))
   else
   bif decide (x.1.2.2.1 < r1.1) then
    some (.inr ((false, ())))
   else
   let y2 := decide (x.1.2.2.1 > (w64 (r1.1 + (16 : Int))))
   bif y2 then
    some (.inr ((false, ())))
   else
   bif decide (x.1.2.2.2.1 < r1.1) then
    some (.inr ((false, ())))
   else
   bif decide (x.1.2.2.2.1 > x.1.2.2.1) then
    some (.inr ((false, ())))
   else
   bif decide (x.1.2.2.2.2.1 < (0 : Int)) then
    some (.inr ((false, ())))
   else
   let y3 := decide (x.1.2.2.2.2.1 > (w64 (x.1.2.2.1 - r1.1)))
   bif y3 then
    some (.inr ((false, ())))
   else
   some (.inl (x.1, r1.1, ()))) fun o4 =>
  Sum.elim (fun o5 =>
   Option.bind (
    bif o5.1.1 == (1 : Int) then
     bif o5.1.2.2.1 != o5.2.1 then
      some (.inr ((false, ())))
     else
     some (.inl (o5.1, ()))
    else
    some (.inl (o5.1, ()))) fun o6 =>
   Sum.elim (fun o7 =>
    bif o7.1.1 == (2 : Int) then
     bif decide (o7.1.2.1 ≥ (0 : Int)) then
      some (decide (o7.1.2.1 ≤ (3 : Int)), ())
     else
     some (false, ())
    else
    some (o7.1.2.1 == (-1 : Int), ())) (fun o8 =>
    some (o8.1, ())) o6) (fun o9 =>
   some (o9.1, ())) o4
noncomputable def coniRegion_ok (N : Nat) : Con := { f := 100, din := diniRegion_ok, outs := outiRegion_ok, F := FiRegion_ok N }
noncomputable def XiRegion_ok (N : Nat) : Ctx := { E := EiRegion_ok N, H := HiRegion_ok, lp := [], jn := [(4, jiRegion_ok_4), (6, jiRegion_ok_6)] }
theorem FiRegion_ok_eq (N : Nat) (x : ((Int × (Int × (Int × (Int × (Int × Unit))))) × (Int × Unit))) : evFn (XiRegion_ok N) Try.f100 diniRegion_ok outiRegion_ok x = FiRegion_ok N x := by kernel_rfl
theorem cxiRegion_ok (N : Nat) : CtxOk Try.prog (XiRegion_ok N) := ⟨⟨TE_ok, List.forall_mem_cons.2 ⟨speciRegionBase N, fun k hk => absurd hk List.not_mem_nil⟩⟩, mixed⟩
theorem speciRegion_ok (N : Nat) : Spec Try.prog (coniRegion_ok N) :=
  Spec.of_eq (fn_spec (cxiRegion_ok N) (f := 100) (fn := Try.f100) (c := codeOf Try.f100) (by kernel_rfl) (by kernel_rfl) (by kernel_rfl) (loops_at (ids := []) (by kernel_rfl) (trivial)) (by kernel_rfl)) (fun x r h => (FiRegion_ok_eq N x).trans h)

/-! ### 57: impl.TableOk -/

noncomputable def diniTableOk : Desc := { n := 1, regs := [.one (.val (.sl (.pair (.int .i64) (.pair (.int .i64) (.pair (.int .i64) (.pair (.int .i64) (.pair (.int .i64) .unit)))))))], bx := [], pins := [] }
noncomputable def outiTableOk : Outs := [(.ret, { n := 1, regs := [.one (.val .bool)], bx := [], pins := [] })]
noncomputable def HiTableOk : Hints := [(8, [(2, { con := 1 })])]
noncomputable def EiTableOk (N : Nat) : Env := { te := TE, cs := [coniedge N, coniRegion_ok N] }
noncomputable def diTableOk_0 : Desc := { n := 50, regs := [u, u, u, .one (.lit (.mrow 1038400)), u, u, u, u, u, u, u, u, u, u, u, u, u, u, u, u, u, u, .one (.val (.sl (.pair (.int .i64) (.pair (.int .i64) (.pair (.int .i64) (.pair (.int .i64) (.pair (.int .i64) .unit))))))), .one (.val (.int .i64)), .one (.val (.int .i64))], bx := [(1038400, .mp .bool)], pins := [] }
noncomputable def oiTableOk_0 : Outs := [(.exit 0, { n := 50, regs := [], bx := [], pins := [] }), (.ret, { n := 50, regs := [u, u, .one (.val .bool)], bx := [], pins := [] })]
noncomputable def jiTableOk_3 : Outs := [(.normal, { n := 50, regs := [.one (.val (.sl (.pair (.int .i64) (.pair (.int .i64) (.pair (.int .i64) (.pair (.int .i64) (.pair (.int .i64) .unit)))))))], bx := [], pins := [] }), (.ret, { n := 50, regs := [u, u, .one (.val .bool)], bx := [], pins := [] })]
noncomputable def liTableOk_0 (N : Nat) : Nat → ((List (Int × (Int × (Int × (Int × (Int × Unit)))))) × (Int × (Int × ((List (Int × Bool)) × Unit)))) → Option (Unit ⊕ (Bool × Unit))
  | 0, _ => none
  | n + 1, v =>
    bif decide (v.2.2.1 < v.2.1) then
     bif decide (0 ≤ v.2.2.1) then
     bif decide (v.2.2.1.toNat < v.1.length) then
     let y8 := v.1.getD v.2.2.1.toNat ((0 : Int), (0 : Int), (0 : Int), (0 : Int), (0 : Int), ())
     bif v.2.2.1 == (0 : Int) then
      liTableOk_0 N n (v.1, v.2.1, w64 (v.2.2.1 + (1 : Int)), v.2.2.2.1, ())
     else
     (FiRegion_ok N ((y8.1, y8.2.1, y8.2.2.1, y8.2.2.2.1, y8.2.2.2.2.1, ()), v.2.2.1, ())).bind fun r9 =>
     bif !r9.1 then
      some (.inr ((false, ())))
     else
     bif decide (y8.2.1 ≥ (0 : Int)) then
      bif (mget v.2.2.2.1 y8.2.1).getD false then
       some (.inr ((false, ())))
      else
      liTableOk_0 N n (v.1, v.2.1, w64 (v.2.2.1 + (1 : Int)), mset v.2.2.2.1 y8.2.1 true, ())
     else
     liTableOk_0 N n (v.1, v.2.1, w64 (v.2.2.1 + (1 : Int)), mset v.2.2.2.1 y8.2.1 true, ())
     else none
     else none
    else
    some (.inl ())
noncomputable def FiTableOk (N : Nat) (x : ((List (Int × (Int × (Int × (Int × (Int × Unit)))))) × Unit)) : Option (Bool × Unit) :=
  Option.bind (
   let y1 := decide ((x.1.length : Int) < (2 : Int))
   bif y1 then
    some (.inr ((false, ())))
   else
   let y2 := decide ((x.1.length : Int) > (12 : Int))
   bif y2 then
    some (.inr ((false, ())))
   else
   bif decide (0 ≤ (0 : Int)) then
   bif decide ((0 : Int).toNat < x.1.length) then
   let y3 := x.1.getD ((0 : Int).toNat) ((0 : Int), (0 : Int), (0 : Int), (0 : Int), (0 : Int), ())
   (Fiedge N ()).bind fun r4 =>
   let y5 := !((y3.1 == r4.1) && ((y3.2.1 == r4.2.1) && ((y3.2.2.1 == r4.2.2.1) && ((y3.2.2.2.1 == r4.2.2.2.1) && ((y3.2.2.2.2.1 == r4.2.2.2.2.1) && (true))))))
   bif y5 then
    some (.inr ((false, ())))
   else
   some (.inl (x.1, ()))
   else none
   else none) fun o6 =>
  Sum.elim (fun o7 =>
   (liTableOk_0 N N (o7.1, (o7.1.length : Int), (0 : Int), ([] : (List (Int × Bool))), ())).bind fun o10 =>
   Sum.elim (fun o11 =>
    some (true, ())) (fun o12 =>
    some (o12.1, ())) o10) (fun o13 =>
   some (o13.1, ())) o6
noncomputable def coniTableOk (N : Nat) : Con := { f := 57, din := diniTableOk, outs := outiTableOk, F := FiTableOk N }
noncomputable def XiTableOk (N : Nat) : Ctx := { E := EiTableOk N, H := HiTableOk, lp := [(0, { hd := diTableOk_0, outs := oiTableOk_0, run := fun v => liTableOk_0 N N v })], jn := [(3, jiTableOk_3)] }
noncomputable def biTableOk_0 : Code := loopBody (codeOf Try.f57) 0
theorem FiTableOk_eq (N : Nat) (x : ((List (Int × (Int × (Int × (Int × (Int × Unit)))))) × Unit)) : evFn (XiTableOk N) Try.f57 diniTableOk outiTableOk x = FiTableOk N x := by kernel_rfl
theorem liTableOk_0_eq (N n : Nat) (v : ((List (Int × (Int × (Int × (Int × (Int × Unit)))))) × (Int × (Int × ((List (Int × Bool)) × Unit))))) : liTableOk_0 N (n + 1) v = ev (XiTableOk N) biTableOk_0 (roundK diTableOk_0 oiTableOk_0 (liTableOk_0 N n)) (diTableOk_0.mk' v) := by kernel_rfl
theorem cxiTableOk (N : Nat) : CtxOk Try.prog (XiTableOk N) := ⟨⟨TE_ok, List.forall_mem_cons.2 ⟨speciedge N, List.forall_mem_cons.2 ⟨speciRegion_ok N, fun k hk => absurd hk List.not_mem_nil⟩⟩⟩, mixed⟩
theorem lpiTableOk_0 (N : Nat) : LoopOk Try.prog { hd := diTableOk_0, outs := oiTableOk_0, run := fun v => liTableOk_0 N N v } biTableOk_0 :=
  loop_fuel (d := diTableOk_0) (os := oiTableOk_0) (cxiTableOk N) (loops_at (ids := []) (by kernel_rfl) (trivial)) (liTableOk_0 N) (fun _ => rfl) (fun n v => liTableOk_0_eq N n v) (fun _ => N)
theorem speciTableOk (N : Nat) : Spec Try.prog (coniTableOk N) :=
  Spec.of_eq (fn_spec (cxiTableOk N) (f := 57) (fn := Try.f57) (c := codeOf Try.f57) (by kernel_rfl) (by kernel_rfl) (by kernel_rfl) (loops_at (ids := [0]) (by kernel_rfl) ⟨lp_of (lpiTableOk_0 N), trivial⟩) (by kernel_rfl)) (fun x r h => (FiTableOk_eq N x).trans h)

/-! ### 101: slices.Index[[]int,int] -/

noncomputable def dinkIndex_Sint_int : Desc := { n := 2, regs := [.one (.val (.sl (.int .i64))), .one (.val (.int .i64))], bx := [], pins := [] }
noncomputable def outkIndex_Sint_int : Outs := [(.ret, { n := 1, regs := [.one (.val (.int .i64))], bx := [], pins := [] })]
noncomputable def HkIndex_Sint_int : Hints := []
noncomputable def EkIndex_Sint_int (_N : Nat) : Env := { te := TE, cs := [] }
noncomputable def dkIndex_Sint_int_0 : Desc := { n := 19, regs := [.one (.val (.sl (.int .i64))), .one (.val (.int .i64)), u, u, u, u, u, .one (.val (.int .i64)), .one (.val (.int .i64))], bx := [], pins := [] }
noncomputable def okIndex_Sint_int_0 : Outs := [(.exit 0, { n := 19, regs := [], bx := [], pins := [] }), (.ret, { n := 19, regs := [u, u, u, u, .one (.val (.int .i64))], bx := [], pins := [] })]
noncomputable def lkIndex_Sint_int_0 (N : Nat) : Nat → ((List Int) × (Int × (Int × (Int × Unit)))) → Option (Unit ⊕ (Int × Unit))
  | 0, _ => none
  | n + 1, v =>
    bif decide (v.2.2.2.1 < v.2.2.1) then
     bif decide (0 ≤ v.2.2.2.1) then
     bif decide (v.2.2.2.1.toNat < v.1.length) then
     let y1 := v.2.1 == (v.1.getD v.2.2.2.1.toNat (0 : Int))
     bif y1 then
      some (.inr ((v.2.2.2.1, ())))
     else
     lkIndex_Sint_int_0 N n (v.1, v.2.1, v.2.2.1, w64 (v.2.2.2.1 + (1 : Int)), ())
     else none
     else none
    else
    some (.inl ())
noncomputable def FkIndex_Sint_int (N : Nat) (x : ((List Int) × (Int × Unit))) : Option (Int × Unit) :=
  (lkIndex_Sint_int_0 N N (x.1, x.2.1, (x.1.length : Int), (0 : Int), ())).bind fun o2 =>
  Sum.elim (fun o3 =>
   some ((-1 : Int), ())) (fun o4 =>
   some (o4.1, ())) o2
noncomputable def conkIndex_Sint_int (N : Nat) : Con := { f := 101, din := dinkIndex_Sint_int, outs := outkIndex_Sint_int, F := FkIndex_Sint_int N }
noncomputable def XkIndex_Sint_int (N : Nat) : Ctx := { E := EkIndex_Sint_int N, H := HkIndex_Sint_int, lp := [(0, { hd := dkIndex_Sint_int_0, outs := okIndex_Sint_int_0, run := fun v => lkIndex_Sint_int_0 N N v })], jn := [] }
noncomputable def bkIndex_Sint_int_0 : Code := loopBody (codeOf Try.f101) 0
theorem FkIndex_Sint_int_eq (N : Nat) (x : ((List Int) × (Int × Unit))) : evFn (XkIndex_Sint_int N) Try.f101 dinkIndex_Sint_int outkIndex_Sint_int x = FkIndex_Sint_int N x := by kernel_rfl
theorem lkIndex_Sint_int_0_eq (N n : Nat) (v : ((List Int) × (Int × (Int × (Int × Unit))))) : lkIndex_Sint_int_0 N (n + 1) v = ev (XkIndex_Sint_int N) bkIndex_Sint_int_0 (roundK dkIndex_Sint_int_0 okIndex_Sint_int_0 (lkIndex_Sint_int_0 N n)) (dkIndex_Sint_int_0.mk' v) := by kernel_rfl
theorem cxkIndex_Sint_int (N : Nat) : CtxOk Try.prog (XkIndex_Sint_int N) := ⟨⟨TE_ok, fun k hk => absurd hk List.not_mem_nil⟩, mixed⟩
theorem lpkIndex_Sint_int_0 (N : Nat) : LoopOk Try.prog { hd := dkIndex_Sint_int_0, outs := okIndex_Sint_int_0, run := fun v => lkIndex_Sint_int_0 N N v } bkIndex_Sint_int_0 :=
  loop_fuel (d := dkIndex_Sint_int_0) (os := okIndex_Sint_int_0) (cxkIndex_Sint_int N) (loops_at (ids := []) (by kernel_rfl) (trivial)) (lkIndex_Sint_int_0 N) (fun _ => rfl) (fun n v => lkIndex_Sint_int_0_eq N n v) (fun _ => N)
theorem speckIndex_Sint_int (N : Nat) : Spec Try.prog (conkIndex_Sint_int N) :=
  Spec.of_eq (fn_spec (cxkIndex_Sint_int N) (f := 101) (fn := Try.f101) (c := codeOf Try.f101) (by kernel_rfl) (by kernel_rfl) (by kernel_rfl) (loops_at (ids := [0]) (by kernel_rfl) ⟨lp_of (lpkIndex_Sint_int_0 N), trivial⟩) (by kernel_rfl)) (fun x r h => (FkIndex_Sint_int_eq N x).trans h)

/-! ### 59: slices.Contains[[]int,int] -/

noncomputable def dinkContains_Sint_int : Desc := { n := 2, regs := [.one (.val (.sl (.int .i64))), .one (.val (.int .i64))], bx := [], pins := [] }
noncomputable def outkContains_Sint_int : Outs := [(.ret, { n := 1, regs := [.one (.val .bool)], bx := [], pins := [] })]
noncomputable def HkContains_Sint_int : Hints := []
noncomputable def EkContains_Sint_int (N : Nat) : Env := { te := TE, cs := [conkIndex_Sint_int N] }
noncomputable def FkContains_Sint_int (N : Nat) (x : ((List Int) × (Int × Unit))) : Option (Bool × Unit) :=
  (FkIndex_Sint_int N (x.1, x.2.1, ())).bind fun r1 =>
  some (decide (r1.1 ≥ (0 : Int)), ())
noncomputable def conkContains_Sint_int (N : Nat) : Con := { f := 59, din := dinkContains_Sint_int, outs := outkContains_Sint_int, F := FkContains_Sint_int N }
noncomputable def XkContains_Sint_int (N : Nat) : Ctx := { E := EkContains_Sint_int N, H := HkContains_Sint_int, lp := [], jn := [] }
theorem FkContains_Sint_int_eq (N : Nat) (x : ((List Int) × (Int × Unit))) : evFn (XkContains_Sint_int N) Try.f59 dinkContains_Sint_int outkContains_Sint_int x = FkContains_Sint_int N x := by kernel_rfl
theorem cxkContains_Sint_int (N : Nat) : CtxOk Try.prog (XkContains_Sint_int N) := ⟨⟨TE_ok, List.forall_mem_cons.2 ⟨speckIndex_Sint_int N, fun k hk => absurd hk List.not_mem_nil⟩⟩, mixed⟩
theorem speckContains_Sint_int (N : Nat) : Spec Try.prog (conkContains_Sint_int N) :=
  Spec.of_eq (fn_spec (cxkContains_Sint_int N) (f := 59) (fn := Try.f59) (c := codeOf Try.f59) (by kernel_rfl) (by kernel_rfl) (by kernel_rfl) (loops_at (ids := []) (by kernel_rfl) (trivial)) (by kernel_rfl)) (fun x r h => (FkContains_Sint_int_eq N x).trans h)

/-! ### 103: cmp.isNaN[int] -/

noncomputable def dincmp_isNaN_int : Desc := { n := 1, regs := [.one (.val (.int .i64))], bx := [], pins := [] }
noncomputable def outcmp_isNaN_int : Outs := [(.ret, { n := 1, regs := [.one (.val .bool)], bx := [], pins := [] })]
noncomputable def Hcmp_isNaN_int : Hints := []
noncomputable def Ecmp_isNaN_int (_N : Nat) : Env := { te := TE, cs := [] }
noncomputable def Fcmp_isNaN_int (N : Nat) (x : (Int × Unit)) : Option (Bool × Unit) :=
  some (x.1 != x.1, ())
noncomputable def concmp_isNaN_int (N : Nat) : Con := { f := 103, din := dincmp_isNaN_int, outs := outcmp_isNaN_int, F := Fcmp_isNaN_int N }
noncomputable def Xcmp_isNaN_int (N : Nat) : Ctx := { E := Ecmp_isNaN_int N, H := Hcmp_isNaN_int, lp := [], jn := [] }
theorem Fcmp_isNaN_int_eq (N : Nat) (x : (Int × Unit)) : evFn (Xcmp_isNaN_int N) Try.f103 dincmp_isNaN_int outcmp_isNaN_int x = Fcmp_isNaN_int N x := by kernel_rfl
theorem cxcmp_isNaN_int (N : Nat) : CtxOk Try.prog (Xcmp_isNaN_int N) := ⟨⟨TE_ok, fun k hk => absurd hk List.not_mem_nil⟩, mixed⟩
theorem speccmp_isNaN_int (N : Nat) : Spec Try.prog (concmp_isNaN_int N) :=
  Spec.of_eq (fn_spec (cxcmp_isNaN_int N) (f := 103) (fn := Try.f103) (c := codeOf Try.f103) (by kernel_rfl) (by kernel_rfl) (by kernel_rfl) (loops_at (ids := []) (by kernel_rfl) (trivial)) (by kernel_rfl)) (fun x r h => (Fcmp_isNaN_int_eq N x).trans h)

/-! ### 62: cmp.Compare[int] -/

noncomputable def dincmp_Compare_int : Desc := { n := 2, regs := [.one (.val (.int .i64)), .one (.val (.int .i64))], bx := [], pins := [] }
noncomputable def outcmp_Compare_int : Outs := [(.ret, { n := 1, regs := [.one (.val (.int .i64))], bx := [], pins := [] })]
noncomputable def Hcmp_Compare_int : Hints := []
noncomputable def Ecmp_Compare_int (N : Nat) : Env := { te := TE, cs := [concmp_isNaN_int N] }
noncomputable def Fcmp_Compare_int (N : Nat) (x : (Int × (Int × Unit))) : Option (Int × Unit) :=
  (Fcmp_isNaN_int N (x.1, ())).bind fun r1 =>
  (Fcmp_isNaN_int N (x.2.1, ())).bind fun r2 =>
  bif r1.1 then
   bif r2.1 then
    some ((0 : Int), ())
   else
   some ((-1 : Int), ())
  else
  bif r2.1 then
   some ((1 : Int), ())
  else
  bif decide (x.1 < x.2.1) then
   some ((-1 : Int), ())
  else
  bif decide (x.1 > x.2.1) then
   some ((1 : Int), ())
  else
  some ((0 : Int), ())
noncomputable def concmp_Compare_int (N : Nat) : Con := { f := 62, din := dincmp_Compare_int, outs := outcmp_Compare_int, F := Fcmp_Compare_int N }
noncomputable def Xcmp_Compare_int (N : Nat) : Ctx := { E := Ecmp_Compare_int N, H := Hcmp_Compare_int, lp := [], jn := [] }
theorem Fcmp_Compare_int_eq (N : Nat) (x : (Int × (Int × Unit))) : evFn (Xcmp_Compare_int N) Try.f62 dincmp_Compare_int outcmp_Compare_int x = Fcmp_Compare_int N x := by kernel_rfl
theorem cxcmp_Compare_int (N : Nat) : CtxOk Try.prog (Xcmp_Compare_int N) := ⟨⟨TE_ok, List.forall_mem_cons.2 ⟨speccmp_isNaN_int N, fun k hk => absurd hk List.not_mem_nil⟩⟩, mixed⟩
theorem speccmp_Compare_int (N : Nat) : Spec Try.prog (concmp_Compare_int N) :=
  Spec.of_eq (fn_spec (cxcmp_Compare_int N) (f := 62) (fn := Try.f62) (c := codeOf Try.f62) (by kernel_rfl) (by kernel_rfl) (by kernel_rfl) (loops_at (ids := []) (by kernel_rfl) (trivial)) (by kernel_rfl)) (fun x r h => (Fcmp_Compare_int_eq N x).trans h)

/-! ### 61: impl.TableChoose$1 -/

noncomputable def diniTableChoose_1 : Desc := { n := 3, regs := [.one (.val (.int .i64)), .one (.val (.int .i64)), .one (.fpt (.sl (.pair (.int .i64) (.pair (.int .i64) (.pair (.int .i64) (.pair (.int .i64) (.pair (.int .i64) .unit)))))))], bx := [], pins := [] }
noncomputable def outiTableChoose_1 : Outs := [(.ret, { n := 1, regs := [.one (.val (.int .i64))], bx := [], pins := [] })]
noncomputable def HiTableChoose_1 : Hints := []
noncomputable def EiTableChoose_1 (N : Nat) : Env := { te := TE, cs := [concmp_Compare_int N] }
noncomputable def FiTableChoose_1 (N : Nat) (x : (Int × (Int × ((List (Int × (Int × (Int × (Int × (Int × Unit)))))) × Unit)))) : Option (Int × Unit) :=
  bif decide (0 ≤ x.1) then
  bif decide (x.1.toNat < x.2.2.1.length) then
  let y1 := x.2.2.1.getD x.1.toNat ((0 : Int), (0 : Int), (0 : Int), (0 : Int), (0 : Int), ())
  bif decide (0 ≤ x.2.1) then
  bif decide (x.2.1.toNat < x.2.2.1.length) then
  let y2 := x.2.2.1.getD x.2.1.toNat ((0 : Int), (0 : Int), (0 : Int), (0 : Int), (0 : Int), ())
  (Fcmp_Compare_int N (y1.2.2.2.2.1, y2.2.2.2.2.1, ())).bind fun r3 =>
  some (r3.1, ())
  else none
  else none
  else none
  else none
noncomputable def coniTableChoose_1 (N : Nat) : Con := { f := 61, din := diniTableChoose_1, outs := outiTableChoose_1, F := FiTableChoose_1 N }
noncomputable def XiTableChoose_1 (N : Nat) : Ctx := { E := EiTableChoose_1 N, H := HiTableChoose_1, lp := [], jn := [] }
theorem FiTableChoose_1_eq (N : Nat) (x : (Int × (Int × ((List (Int × (Int × (Int × (Int × (Int × Unit)))))) × Unit)))) : evFn (XiTableChoose_1 N) Try.f61 diniTableChoose_1 outiTableChoose_1 x = FiTableChoose_1 N x := by kernel_rfl
theorem cxiTableChoose_1 (N : Nat) : CtxOk Try.prog (XiTableChoose_1 N) := ⟨⟨TE_ok, List.forall_mem_cons.2 ⟨speccmp_Compare_int N, fun k hk => absurd hk List.not_mem_nil⟩⟩, mixed⟩
theorem speciTableChoose_1 (N : Nat) : Spec Try.prog (coniTableChoose_1 N) :=
  Spec.of_eq (fn_spec (cxiTableChoose_1 N) (f := 61) (fn := Try.f61) (c := codeOf Try.f61) (by kernel_rfl) (by kernel_rfl) (by kernel_rfl) (loops_at (ids := []) (by kernel_rfl) (trivial)) (by kernel_rfl)) (fun x r h => (FiTableChoose_1_eq N x).trans h)

/-! ### 123: slices.insertionSortCmpFunc[int] -/

noncomputable def dinkinsertionSortCmpFunc_int_iTableChoose_1 : Desc := { n := 4, regs := [.one (.lit (.row 0)), .one (.val (.int .i64)), .one (.val (.int .i64)), .one (.clo 61 [.inr (.sl (.pair (.int .i64) (.pair (.int .i64) (.pair (.int .i64) (.pair (.int .i64) (.pair (.int .i64) .unit))))))])], bx := [(0, .row (.int .i64))], pins := [] }
noncomputable def outkinsertionSortCmpFunc_int_iTableChoose_1 : Outs := [(.ret, { n := 0, regs := [], bx := [(0, .row (.int .i64))], pins := [.one (.lit (.row 0))] })]
noncomputable def HkinsertionSortCmpFunc_int_iTableChoose_1 : Hints := []
noncomputable def EkinsertionSortCmpFunc_int_iTableChoose_1 (N : Nat) : Env := { te := TE, cs := [coniTableChoose_1 N] }
noncomputable def dkinsertionSortCmpFunc_int_iTableChoose_1_2 : Desc := { n := 53, regs := [.one (.lit (.row 0)), .one (.val (.int .i64)), .one (.val (.int .i64)), .one (.clo 61 [.inr (.sl (.pair (.int .i64) (.pair (.int .i64) (.pair (.int .i64) (.pair (.int .i64) (.pair (.int .i64) .unit))))))]), u, u, u, u, .one (.val (.int .i64)), .one (.val (.int .i64))], bx := [(0, .row (.int .i64))], pins := [.one (.lit (.row 0))] }
noncomputable def okinsertionSortCmpFunc_int_iTableChoose_1_2 : Outs := [(.exit 2, { n := 53, regs := [.one (.lit (.row 0)), .one (.val (.int .i64)), .one (.val (.int .i64)), .one (.clo 61 [.inr (.sl (.pair (.int .i64) (.pair (.int .i64) (.pair (.int .i64) (.pair (.int .i64) (.pair (.int .i64) .unit))))))]), u, u, u, u, .one (.val (.int .i64))], bx := [(0, .row (.int .i64))], pins := [.one (.lit (.row 0))] })]
noncomputable def dkinsertionSortCmpFunc_int_iTableChoose_1_0 : Desc := { n := 53, regs := [.one (.lit (.row 0)), .one (.val (.int .i64)), .one (.val (.int .i64)), .one (.clo 61 [.inr (.sl (.pair (.int .i64) (.pair (.int .i64) (.pair (.int .i64) (.pair (.int .i64) (.pair (.int .i64) .unit))))))]), u, u, u, u, .one (.val (.int .i64))], bx := [(0, .row (.int .i64))], pins := [.one (.lit (.row 0))] }
noncomputable def okinsertionSortCmpFunc_int_iTableChoose_1_0 : Outs := [(.exit 0, { n := 53, regs := [], bx := [(0, .row (.int .i64))], pins := [.one (.lit (.row 0))] })]
noncomputable def jkinsertionSortCmpFunc_int_iTableChoose_1_6 : Outs := [(.exit 2, { n := 53, regs := [.one (.lit (.row 0)), .one (.val (.int .i64)), .one (.val (.int .i64)), .one (.clo 61 [.inr (.sl (.pair (.int .i64) (.pair (.int .i64) (.pair (.int .i64) (.pair (.int .i64) (.pair (.int .i64) .unit))))))]), u, u, u, u, .one (.val (.int .i64))], bx := [(0, .row (.int .i64))], pins := [.one (.lit (.row 0))] }), (.normal, { n := 53, regs := [.one (.lit (.row 0)), .one (.val (.int .i64)), .one (.val (.int .i64)), .one (.clo 61 [.inr (.sl (.pair (.int .i64) (.pair (.int .i64) (.pair (.int .i64) (.pair (.int .i64) (.pair (.int .i64) .unit))))))]), u, u, u, u, .one (.val (.int .i64)), .one (.val (.int .i64))], bx := [(0, .row (.int .i64))], pins := [.one (.lit (.row 0))] })]
noncomputable def lkinsertionSortCmpFunc_int_iTableChoose_1_2 (N : Nat) : Nat → (Int × (Int × ((List (Int × (Int × (Int × (Int × (Int × Unit)))))) × (Int × (Int × ((List Int) × Unit)))))) → Option (Int × (Int × ((List (Int × (Int × (Int × (Int × (Int × Unit)))))) × (Int × ((List Int) × Unit)))))
  | 0, _ => none
  | n + 1, v =>
    Option.bind (
     bif decide (v.2.2.2.2.1 > v.1) then
      bif decide (0 ≤ v.2.2.2.2.1) then
      bif decide (v.2.2.2.2.1.toNat < v.2.2.2.2.2.1.length) then
      let y1 := v.2.2.2.2.2.1.getD v.2.2.2.2.1.toNat (0 : Int)
      bif decide (0 ≤ (w64 (v.2.2.2.2.1 - (1 : Int)))) then
      bif decide ((w64 (v.2.2.2.2.1 - (1 : Int))).toNat < v.2.2.2.2.2.1.length) then
      let y2 := (w64 (v.2.2.2.2.1 - (1 : Int))).toNat
      (FiTableChoose_1 N (y1, v.2.2.2.2.2.1.getD y2 (0 : Int), v.2.2.1, ())).bind fun r3 =>
      bif decide (r3.1 < (0 : Int)) then
       some (.inr ((v.1, v.2.1, v.2.2.1, v.2.2.2.1, v.2.2.2.2.1, v.2.2.2.2.2.1, ())))
      else
      some (.inl (v.1, v.2.1, v.2.2.1, v.2.2.2.1, v.2.2.2.2.2.1, ()))
      else none
      else none
      else none
      else none
     else
     some (.inl (v.1, v.2.1, v.2.2.1, v.2.2.2.1, v.2.2.2.2.2.1, ()))) fun o4 =>
    Sum.elim (fun o5 =>
     some (o5.1, o5.2.1, o5.2.2.1, o5.2.2.2.1, o5.2.2.2.2.1, ())) (fun o6 =>
     bif decide (0 ≤ (w64 (o6.2.2.2.2.1 - (1 : Int)))) then
     bif decide ((w64 (o6.2.2.2.2.1 - (1 : Int))).toNat < o6.2.2.2.2.2.1.length) then
     let y7 := (w64 (o6.2.2.2.2.1 - (1 : Int))).toNat
     bif decide (0 ≤ o6.2.2.2.2.1) then
     bif decide (o6.2.2.2.2.1.toNat < o6.2.2.2.2.2.1.length) then
     let y8 := o6.2.2.2.2.2.1.getD o6.2.2.2.2.1.toNat (0 : Int)
     bif decide (0 ≤ o6.2.2.2.2.1) then
     bif decide (o6.2.2.2.2.1.toNat < o6.2.2.2.2.2.1.length) then
     let y9 := o6.2.2.2.2.2.1.set o6.2.2.2.2.1.toNat (o6.2.2.2.2.2.1.getD y7 (0 : Int))
     bif decide (0 ≤ (w64 (o6.2.2.2.2.1 - (1 : Int)))) then
     bif decide ((w64 (o6.2.2.2.2.1 - (1 : Int))).toNat < y9.length) then
     let y10 := (w64 (o6.2.2.2.2.1 - (1 : Int))).toNat
     lkinsertionSortCmpFunc_int_iTableChoose_1_2 N n (o6.1, o6.2.1, o6.2.2.1, o6.2.2.2.1, w64 (o6.2.2.2.2.1 - (1 : Int)), y9.set y10 y8, ())
     else none
     else none
     else none
     else none
     else none
     else none
     else none
     else none) o4
noncomputable def lkinsertionSortCmpFunc_int_iTableChoose_1_0 (N : Nat) : Nat → (Int × (Int × ((List (Int × (Int × (Int × (Int × (Int × Unit)))))) × (Int × ((List Int) × Unit))))) → Option ((List Int) × Unit)
  | 0, _ => none
  | n + 1, v =>
    bif decide (v.2.2.2.1 < v.2.1) then
     (lkinsertionSortCmpFunc_int_iTableChoose_1_2 N N (v.1, v.2.1, v.2.2.1, v.2.2.2.1, v.2.2.2.1, v.2.2.2.2.1, ())).bind fun o11 =>
     lkinsertionSortCmpFunc_int_iTableChoose_1_0 N n (o11.1, o11.2.1, o11.2.2.1, w64 (o11.2.2.2.1 + (1 : Int)), o11.2.2.2.2.1, ())
    else
    some (v.2.2.2.2.1, ())
noncomputable def FkinsertionSortCmpFunc_int_iTableChoose_1 (N : Nat) (x : (Int × (Int × ((List (Int × (Int × (Int × (Int × (Int × Unit)))))) × ((List Int) × Unit))))) : Option ((List Int) × Unit) :=
  (lkinsertionSortCmpFunc_int_iTableChoose_1_0 N N (x.1, x.2.1, x.2.2.1, w64 (x.1 + (1 : Int)), x.2.2.2.1, ())).bind fun o12 =>
  some (o12.1, ())
noncomputable def conkinsertionSortCmpFunc_int_iTableChoose_1 (N : Nat) : Con := { f := 123, din := dinkinsertionSortCmpFunc_int_iTableChoose_1, outs := outkinsertionSortCmpFunc_int_iTableChoose_1, F := FkinsertionSortCmpFunc_int_iTableChoose_1 N }
noncomputable def XkinsertionSortCmpFunc_int_iTableChoose_1 (N : Nat) : Ctx := { E := EkinsertionSortCmpFunc_int_iTableChoose_1 N, H := HkinsertionSortCmpFunc_int_iTableChoose_1, lp := [(2, { hd := dkinsertionSortCmpFunc_int_iTableChoose_1_2, outs := okinsertionSortCmpFunc_int_iTableChoose_1_2, run := fun v => lkinsertionSortCmpFunc_int_iTableChoose_1_2 N N v }), (0, { hd := dkinsertionSortCmpFunc_int_iTableChoose_1_0, outs := okinsertionSortCmpFunc_int_iTableChoose_1_0, run := fun v => lkinsertionSortCmpFunc_int_iTableChoose_1_0 N N v })], jn := [(6, jkinsertionSortCmpFunc_int_iTableChoose_1_6)] }
noncomputable def bkinsertionSortCmpFunc_int_iTableChoose_1_0 : Code := loopBody (codeOf Try.f123) 0
noncomputable def bkinsertionSortCmpFunc_int_iTableChoose_1_2 : Code := loopBody bkinsertionSortCmpFunc_int_iTableChoose_1_0 0
theorem FkinsertionSortCmpFunc_int_iTableChoose_1_eq (N : Nat) (x : (Int × (Int × ((List (Int × (Int × (Int × (Int × (Int × Unit)))))) × ((List Int) × Unit))))) : evFn (XkinsertionSortCmpFunc_int_iTableChoose_1 N) Try.f123 dinkinsertionSortCmpFunc_int_iTableChoose_1 outkinsertionSortCmpFunc_int_iTableChoose_1 x = FkinsertionSortCmpFunc_int_iTableChoose_1 N x := by kernel_rfl
theorem lkinsertionSortCmpFunc_int_iTableChoose_1_2_eq (N n : Nat) (v : (Int × (Int × ((List (Int × (Int × (Int × (Int × (Int × Unit)))))) × (Int × (Int × ((List Int) × Unit))))))) : lkinsertionSortCmpFunc_int_iTableChoose_1_2 N (n + 1) v = ev (XkinsertionSortCmpFunc_int_iTableChoose_1 N) bkinsertionSortCmpFunc_int_iTableChoose_1_2 (roundK dkinsertionSortCmpFunc_int_iTableChoose_1_2 okinsertionSortCmpFunc_int_iTableChoose_1_2 (lkinsertionSortCmpFunc_int_iTableChoose_1_2 N n)) (dkinsertionSortCmpFunc_int_iTableChoose_1_2.mk' v) := by kernel_rfl
theorem lkinsertionSortCmpFunc_int_iTableChoose_1_0_eq (N n : Nat) (v : (Int × (Int × ((List (Int × (Int × (Int × (Int × (Int × Unit)))))) × (Int × ((List Int) × Unit)))))) : lkinsertionSortCmpFunc_int_iTableChoose_1_0 N (n + 1) v = ev (XkinsertionSortCmpFunc_int_iTableChoose_1 N) bkinsertionSortCmpFunc_int_iTableChoose_1_0 (roundK dkinsertionSortCmpFunc_int_iTableChoose_1_0 okinsertionSortCmpFunc_int_iTableChoose_1_0 (lkinsertionSortCmpFunc_int_iTableChoose_1_0 N n)) (dkinsertionSortCmpFunc_int_iTableChoose_1_0.mk' v) := by kernel_rfl
theorem cxkinsertionSortCmpFunc_int_iTableChoose_1 (N : Nat) : CtxOk Try.prog (XkinsertionSortCmpFunc_int_iTableChoose_1 N) := ⟨⟨TE_ok, List.forall_mem_cons.2 ⟨speciTableChoose_1 N, fun k hk => absurd hk List.not_mem_nil⟩⟩, mixed⟩
theorem lpkinsertionSortCmpFunc_int_iTableChoose_1_2 (N : Nat) : LoopOk Try.prog { hd := dkinsertionSortCmpFunc_int_iTableChoose_1_2, outs := okinsertionSortCmpFunc_int_iTableChoose_1_2, run := fun v => lkinsertionSortCmpFunc_int_iTableChoose_1_2 N N v } bkinsertionSortCmpFunc_int_iTableChoose_1_2 :=
  loop_fuel (d := dkinsertionSortCmpFunc_int_iTableChoose_1_2) (os := okinsertionSortCmpFunc_int_iTableChoose_1_2) (cxkinsertionSortCmpFunc_int_iTableChoose_1 N) (loops_at (ids := []) (by kernel_rfl) (trivial)) (lkinsertionSortCmpFunc_int_iTableChoose_1_2 N) (fun _ => rfl) (fun n v => lkinsertionSortCmpFunc_int_iTableChoose_1_2_eq N n v) (fun _ => N)
theorem lpkinsertionSortCmpFunc_int_iTableChoose_1_0 (N : Nat) : LoopOk Try.prog { hd := dkinsertionSortCmpFunc_int_iTableChoose_1_0, outs := okinsertionSortCmpFunc_int_iTableChoose_1_0, run := fun v => lkinsertionSortCmpFunc_int_iTableChoose_1_0 N N v } bkinsertionSortCmpFunc_int_iTableChoose_1_0 :=
  loop_fuel (d := dkinsertionSortCmpFunc_int_iTableChoose_1_0) (os := okinsertionSortCmpFunc_int_iTableChoose_1_0) (cxkinsertionSortCmpFunc_int_iTableChoose_1 N) (loops_at (ids := [2]) (by kernel_rfl) ⟨lp_of (lpkinsertionSortCmpFunc_int_iTableChoose_1_2 N), trivial⟩) (lkinsertionSortCmpFunc_int_iTableChoose_1_0 N) (fun _ => rfl) (fun n v => lkinsertionSortCmpFunc_int_iTableChoose_1_0_eq N n v) (fun _ => N)
theorem speckinsertionSortCmpFunc_int_iTableChoose_1 (N : Nat) : Spec Try.prog (conkinsertionSortCmpFunc_int_iTableChoose_1 N) :=
  Spec.of_eq (fn_spec (cxkinsertionSortCmpFunc_int_iTableChoose_1 N) (f := 123) (fn := Try.f123) (c := codeOf Try.f123) (by kernel_rfl) (by kernel_rfl) (by kernel_rfl) (loops_at (ids := [0]) (by kernel_rfl) ⟨lp_of (lpkinsertionSortCmpFunc_int_iTableChoose_1_0 N), trivial⟩) (by kernel_rfl)) (fun x r h => (FkinsertionSortCmpFunc_int_iTableChoose_1_eq N x).trans h)

/-! ### 144: slices.swapRangeCmpFunc[int] -/

noncomputable def dinkswapRangeCmpFunc_int_iTableChoose_1 : Desc := { n := 5, regs := [.one (.lit (.row 0)), .one (.val (.int .i64)), .one (.val (.int .i64)), .one (.val (.int .i64)), .one (.clo 61 [.inr (.sl (.pair (.int .i64) (.pair (.int .i64) (.pair (.int .i64) (.pair (.int .i64) (.pair (.int .i64) .unit))))))])], bx := [(0, .row (.int .i64))], pins := [] }
noncomputable def outkswapRangeCmpFunc_int_iTableChoose_1 : Outs := [(.ret, { n := 0, regs := [], bx := [(0, .row (.int .i64))], pins := [.one (.lit (.row 0))] })]
noncomputable def HkswapRangeCmpFunc_int_iTableChoose_1 : Hints := []
noncomputable def EkswapRangeCmpFunc_int_iTableChoose_1 (_N : Nat) : Env := { te := TE, cs := [] }
noncomputable def dkswapRangeCmpFunc_int_iTableChoose_1_0 : Desc := { n := 38, regs := [.one (.lit (.row 0)), .one (.val (.int .i64)), .one (.val (.int .i64)), .one (.val (.int .i64)), u, u, u, u, u, u, .one (.val (.int .i64))], bx := [(0, .row (.int .i64))], pins := [.one (.lit (.row 0))] }
noncomputable def okswapRangeCmpFunc_int_iTableChoose_1_0 : Outs := [(.exit 0, { n := 38, regs := [], bx := [(0, .row (.int .i64))], pins := [.one (.lit (.row 0))] })]
noncomputable def lkswapRangeCmpFunc_int_iTableChoose_1_0 (N : Nat) : Nat → (Int × (Int × (Int × (Int × ((List Int) × Unit))))) → Option ((List Int) × Unit)
  | 0, _ => none
  | n + 1, v =>
    bif decide (v.2.2.2.1 < v.2.2.1) then
     bif decide (0 ≤ (w64 (v.2.1 + v.2.2.2.1))) then
     bif decide ((w64 (v.2.1 + v.2.2.2.1)).toNat < v.2.2.2.2.1.length) then
     let y1 := v.2.2.2.2.1.getD ((w64 (v.2.1 + v.2.2.2.1)).toNat) (0 : Int)
     bif decide (0 ≤ (w64 (v.1 + v.2.2.2.1))) then
     bif decide ((w64 (v.1 + v.2.2.2.1)).toNat < v.2.2.2.2.1.length) then
     let y2 := v.2.2.2.2.1.getD ((w64 (v.1 + v.2.2.2.1)).toNat) (0 : Int)
     bif decide (0 ≤ (w64 (v.1 + v.2.2.2.1))) then
     bif decide ((w64 (v.1 + v.2.2.2.1)).toNat < v.2.2.2.2.1.length) then
     let y3 := v.2.2.2.2.1.set ((w64 (v.1 + v.2.2.2.1)).toNat) y1
     bif decide (0 ≤ (w64 (v.2.1 + v.2.2.2.1))) then
     bif decide ((w64 (v.2.1 + v.2.2.2.1)).toNat < y3.length) then
     let y4 := y3.set ((w64 (v.2.1 + v.2.2.2.1)).toNat) y2
     lkswapRangeCmpFunc_int_iTableChoose_1_0 N n (v.1, v.2.1, v.2.2.1, w64 (v.2.2.2.1 + (1 : Int)), y4, ())
     else none
     else none
     else none
     else none
     else none
     else none
     else none
     else none
    else
    some (v.2.2.2.2.1, ())
noncomputable def FkswapRangeCmpFunc_int_iTableChoose_1 (N : Nat) (x : (Int × (Int × (Int × ((List (Int × (Int × (Int × (Int × (Int × Unit)))))) × ((List Int) × Unit)))))) : Option ((List Int) × Unit) :=
  (lkswapRangeCmpFunc_int_iTableChoose_1_0 N N (x.1, x.2.1, x.2.2.1, (0 : Int), x.2.2.2.2.1, ())).bind fun o5 =>
  some (o5.1, ())
noncomputable def conkswapRangeCmpFunc_int_iTableChoose_1 (N : Nat) : Con := { f := 144, din := dinkswapRangeCmpFunc_int_iTableChoose_1, outs := outkswapRangeCmpFunc_int_iTableChoose_1, F := FkswapRangeCmpFunc_int_iTableChoose_1 N }
noncomputable def XkswapRangeCmpFunc_int_iTableChoose_1 (N : Nat) : Ctx := { E := EkswapRangeCmpFunc_int_iTableChoose_1 N, H := HkswapRangeCmpFunc_int_iTableChoose_1, lp := [(0, { hd := dkswapRangeCmpFunc_int_iTableChoose_1_0, outs := okswapRangeCmpFunc_int_iTableChoose_1_0, run := fun v => lkswapRangeCmpFunc_int_iTableChoose_1_0 N N v })], jn := [] }
noncomputable def bkswapRangeCmpFunc_int_iTableChoose_1_0 : Code := loopBody (codeOf Try.f144) 0
theorem FkswapRangeCmpFunc_int_iTableChoose_1_eq (N : Nat) (x : (Int × (Int × (Int × ((List (Int × (Int × (Int × (Int × (Int × Unit)))))) × ((List Int) × Unit)))))) : evFn (XkswapRangeCmpFunc_int_iTableChoose_1 N) Try.f144 dinkswapRangeCmpFunc_int_iTableChoose_1 outkswapRangeCmpFunc_int_iTableChoose_1 x = FkswapRangeCmpFunc_int_iTableChoose_1 N x := by kernel_rfl
theorem lkswapRangeCmpFunc_int_iTableChoose_1_0_eq (N n : Nat) (v : (Int × (Int × (Int × (Int × ((List Int) × Unit)))))) : lkswapRangeCmpFunc_int_iTableChoose_1_0 N (n + 1) v = ev (XkswapRangeCmpFunc_int_iTableChoose_1 N) bkswapRangeCmpFunc_int_iTableChoose_1_0 (roundK dkswapRangeCmpFunc_int_iTableChoose_1_0 okswapRangeCmpFunc_int_iTableChoose_1_0 (lkswapRangeCmpFunc_int_iTableChoose_1_0 N n)) (dkswapRangeCmpFunc_int_iTableChoose_1_0.mk' v) := by kernel_rfl
theorem cxkswapRangeCmpFunc_int_iTableChoose_1 (N : Nat) : CtxOk Try.prog (XkswapRangeCmpFunc_int_iTableChoose_1 N) := ⟨⟨TE_ok, fun k hk => absurd hk List.not_mem_nil⟩, mixed⟩
theorem lpkswapRangeCmpFunc_int_iTableChoose_1_0 (N : Nat) : LoopOk Try.prog { hd := dkswapRangeCmpFunc_int_iTableChoose_1_0, outs := okswapRangeCmpFunc_int_iTableChoose_1_0, run := fun v => lkswapRangeCmpFunc_int_iTableChoose_1_0 N N v } bkswapRangeCmpFunc_int_iTableChoose_1_0 :=
  loop_fuel (d := dkswapRangeCmpFunc_int_iTableChoose_1_0) (os := okswapRangeCmpFunc_int_iTableChoose_1_0) (cxkswapRangeCmpFunc_int_iTableChoose_1 N) (loops_at (ids := []) (by kernel_rfl) (trivial)) (lkswapRangeCmpFunc_int_iTableChoose_1_0 N) (fun _ => rfl) (fun n v => lkswapRangeCmpFunc_int_iTableChoose_1_0_eq N n v) (fun _ => N)
theorem speckswapRangeCmpFunc_int_iTableChoose_1 (N : Nat) : Spec Try.prog (conkswapRangeCmpFunc_int_iTableChoose_1 N) :=
  Spec.of_eq (fn_spec (cxkswapRangeCmpFunc_int_iTableChoose_1 N) (f := 144) (fn := Try.f144) (c := codeOf Try.f144) (by kernel_rfl) (by kernel_rfl) (by kernel_rfl) (loops_at (ids := [0]) (by kernel_rfl) ⟨lp_of (lpkswapRangeCmpFunc_int_iTableChoose_1_0 N), trivial⟩) (by kernel_rfl)) (fun x r h => (FkswapRangeCmpFunc_int_iTableChoose_1_eq N x).trans h)

/-! ### 131: slices.rotateCmpFunc[int] -/

noncomputable def dinkrotateCmpFunc_int_iTableChoose_1 : Desc := { n := 5, regs := [.one (.lit (.row 0)), .one (.val (.int .i64)), .one (.val (.int .i64)), .one (.val (.int .i64)), .one (.clo 61 [.inr (.sl (.pair (.int .i64) (.pair (.int .i64) (.pair (.int .i64) (.pair (.int .i64) (.pair (.int .i64) .unit))))))])], bx := [(0, .row (.int .i64))], pins := [] }
noncomputable def outkrotateCmpFunc_int_iTableChoose_1 : Outs := [(.ret, { n := 0, regs := [], bx := [(0, .row (.int .i64))], pins := [.one (.lit (.row 0))] })]
noncomputable def HkrotateCmpFunc_int_iTableChoose_1 : Hints := []
noncomputable def EkrotateCmpFunc_int_iTableChoose_1 (N : Nat) : Env := { te := TE, cs := [conkswapRangeCmpFunc_int_iTableChoose_1 N] }
noncomputable def dkrotateCmpFunc_int_iTableChoose_1_0 : Desc := { n := 58, regs := [.one (.lit (.row 0)), u, .one (.val (.int .i64)), u, .one (.clo 61 [.inr (.sl (.pair (.int .i64) (.pair (.int .i64) (.pair (.int .i64) (.pair (.int .i64) (.pair (.int .i64) .unit))))))]), u, u, u, u, u, .one (.val (.int .i64)), .one (.val (.int .i64))], bx := [(0, .row (.int .i64))], pins := [.one (.lit (.row 0))] }
noncomputable def okrotateCmpFunc_int_iTableChoose_1_0 : Outs := [(.exit 0, { n := 58, regs := [.one (.lit (.row 0)), u, .one (.val (.int .i64)), u, .one (.clo 61 [.inr (.sl (.pair (.int .i64) (.pair (.int .i64) (.pair (.int .i64) (.pair (.int .i64) (.pair (.int .i64) .unit))))))]), u, u, u, u, u, .one (.val (.int .i64))], bx := [(0, .row (.int .i64))], pins := [.one (.lit (.row 0))] })]
noncomputable def lkrotateCmpFunc_int_iTableChoose_1_0 (N : Nat) : Nat → (Int × ((List (Int × (Int × (Int × (Int × (Int × Unit)))))) × (Int × (Int × ((List Int) × Unit))))) → Option (Int × ((List (Int × (Int × (Int × (Int × (Int × Unit)))))) × (Int × ((List Int) × Unit))))
  | 0, _ => none
  | n + 1, v =>
    bif v.2.2.1 != v.2.2.2.1 then
     bif decide (v.2.2.1 > v.2.2.2.1) then
      (FkswapRangeCmpFunc_int_iTableChoose_1 N (w64 (v.1 - v.2.2.1), v.1, v.2.2.2.1, v.2.1, v.2.2.2.2.1, ())).bind fun r1 =>
      lkrotateCmpFunc_int_iTableChoose_1_0 N n (v.1, v.2.1, w64 (v.2.2.1 - v.2.2.2.1), v.2.2.2.1, r1.1, ())
     else
     let y2 := w64 ((w64 (v.1 + v.2.2.2.1)) - v.2.2.1)
     (FkswapRangeCmpFunc_int_iTableChoose_1 N (w64 (v.1 - v.2.2.1), y2, v.2.2.1, v.2.1, v.2.2.2.2.1, ())).bind fun r3 =>
     lkrotateCmpFunc_int_iTableChoose_1_0 N n (v.1, v.2.1, v.2.2.1, w64 (v.2.2.2.1 - v.2.2.1), r3.1, ())
    else
    some (v.1, v.2.1, v.2.2.1, v.2.2.2.2.1, ())
noncomputable def FkrotateCmpFunc_int_iTableChoose_1 (N : Nat) (x : (Int × (Int × (Int × ((List (Int × (Int × (Int × (Int × (Int × Unit)))))) × ((List Int) × Unit)))))) : Option ((List Int) × Unit) :=
  (lkrotateCmpFunc_int_iTableChoose_1_0 N N (x.2.1, x.2.2.2.1, w64 (x.2.1 - x.1), w64 (x.2.2.1 - x.2.1), x.2.2.2.2.1, ())).bind fun o4 =>
  (FkswapRangeCmpFunc_int_iTableChoose_1 N (w64 (o4.1 - o4.2.2.1), o4.1, o4.2.2.1, o4.2.1, o4.2.2.2.1, ())).bind fun r5 =>
  some (r5.1, ())
noncomputable def conkrotateCmpFunc_int_iTableChoose_1 (N : Nat) : Con := { f := 131, din := dinkrotateCmpFunc_int_iTableChoose_1, outs := outkrotateCmpFunc_int_iTableChoose_1, F := FkrotateCmpFunc_int_iTableChoose_1 N }
noncomputable def XkrotateCmpFunc_int_iTableChoose_1 (N : Nat) : Ctx := { E := EkrotateCmpFunc_int_iTableChoose_1 N, H := HkrotateCmpFunc_int_iTableChoose_1, lp := [(0, { hd := dkrotateCmpFunc_int_iTableChoose_1_0, outs := okrotateCmpFunc_int_iTableChoose_1_0, run := fun v => lkrotateCmpFunc_int_iTableChoose_1_0 N N v })], jn := [] }
noncomputable def bkrotateCmpFunc_int_iTableChoose_1_0 : Code := loopBody (codeOf Try.f131) 0
theorem FkrotateCmpFunc_int_iTableChoose_1_eq (N : Nat) (x : (Int × (Int × (Int × ((List (Int × (Int × (Int × (Int × (Int × Unit)))))) × ((List Int) × Unit)))))) : evFn (XkrotateCmpFunc_int_iTableChoose_1 N) Try.f131 dinkrotateCmpFunc_int_iTableChoose_1 outkrotateCmpFunc_int_iTableChoose_1 x = FkrotateCmpFunc_int_iTableChoose_1 N x := by kernel_rfl
theorem lkrotateCmpFunc_int_iTableChoose_1_0_eq (N n : Nat) (v : (Int × ((List (Int × (Int × (Int × (Int × (Int × Unit)))))) × (Int × (Int × ((List Int) × Unit)))))) : lkrotateCmpFunc_int_iTableChoose_1_0 N (n + 1) v = ev (XkrotateCmpFunc_int_iTableChoose_1 N) bkrotateCmpFunc_int_iTableChoose_1_0 (roundK dkrotateCmpFunc_int_iTableChoose_1_0 okrotateCmpFunc_int_iTableChoose_1_0 (lkrotateCmpFunc_int_iTableChoose_1_0 N n)) (dkrotateCmpFunc_int_iTableChoose_1_0.mk' v) := by kernel_rfl
theorem cxkrotateCmpFunc_int_iTableChoose_1 (N : Nat) : CtxOk Try.prog (XkrotateCmpFunc_int_iTableChoose_1 N) := ⟨⟨TE_ok, List.forall_mem_cons.2 ⟨speckswapRangeCmpFunc_int_iTableChoose_1 N, fun k hk => absurd hk List.not_mem_nil⟩⟩, mixed⟩
theorem lpkrotateCmpFunc_int_iTableChoose_1_0 (N : Nat) : LoopOk Try.prog { hd := dkrotateCmpFunc_int_iTableChoose_1_0, outs := okrotateCmpFunc_int_iTableChoose_1_0, run := fun v => lkrotateCmpFunc_int_iTableChoose_1_0 N N v } bkrotateCmpFunc_int_iTableChoose_1_0 :=
  loop_fuel (d := dkrotateCmpFunc_int_iTableChoose_1_0) (os := okrotateCmpFunc_int_iTableChoose_1_0) (cxkrotateCmpFunc_int_iTableChoose_1 N) (loops_at (ids := []) (by kernel_rfl) (trivial)) (lkrotateCmpFunc_int_iTableChoose_1_0 N) (fun _ => rfl) (fun n v => lkrotateCmpFunc_int_iTableChoose_1_0_eq N n v) (fun _ => N)
theorem speckrotateCmpFunc_int_iTableChoose_1 (N : Nat) : Spec Try.prog (conkrotateCmpFunc_int_iTableChoose_1 N) :=
  Spec.of_eq (fn_spec (cxkrotateCmpFunc_int_iTableChoose_1 N) (f := 131) (fn := Try.f131) (c := codeOf Try.f131) (by kernel_rfl) (by kernel_rfl) (by kernel_rfl) (loops_at (ids := [0]) (by kernel_rfl) ⟨lp_of (lpkrotateCmpFunc_int_iTableChoose_1_0 N), trivial⟩) (by kernel_rfl)) (fun x r h => (FkrotateCmpFunc_int_iTableChoose_1_eq N x).trans h)

/-! ### 124: slices.symMergeCmpFunc[int] -/

noncomputable def dinksymMergeCmpFunc_int_iTableChoose_1 : Desc := { n := 5, regs := [.one (.lit (.row 0)), .one (.val (.int .i64)), .one (.val (.int .i64)), .one (.val (.int .i64)), .one (.clo 61 [.inr (.sl (.pair (.int .i64) (.pair (.int .i64) (.pair (.int .i64) (.pair (.int .i64) (.pair (.int .i64) .unit))))))])], bx := [(0, .row (.int .i64))], pins := [] }
noncomputable def outksymMergeCmpFunc_int_iTableChoose_1 : Outs := [(.ret, { n := 0, regs := [], bx := [(0, .row (.int .i64))], pins := [.one (.lit (.row 0))] })]
noncomputable def HksymMergeCmpFunc_int_iTableChoose_1 : Hints := [(40, [(5, { con := 1 })]),
  (42, [(5, { con := 999 })]),
  (44, [(5, { con := 999 })])]
noncomputable def EksymMergeCmpFunc_int_iTableChoose_1 (N : Nat) : Env := { te := TE, cs := [coniTableChoose_1 N, conkrotateCmpFunc_int_iTableChoose_1 N] }
noncomputable def dksymMergeCmpFunc_int_iTableChoose_1_0 : Desc := { n := 220, regs := [.one (.lit (.row 0)), .one (.val (.int .i64)), u, u, .one (.clo 61 [.inr (.sl (.pair (.int .i64) (.pair (.int .i64) (.pair (.int .i64) (.pair (.int .i64) (.pair (.int .i64) .unit))))))]), u, u, u, u, u, .one (.val (.int .i64)), .one (.val (.int .i64))], bx := [(0, .row (.int .i64))], pins := [.one (.lit (.row 0))] }
noncomputable def oksymMergeCmpFunc_int_iTableChoose_1_0 : Outs := [(.exit 0, { n := 220, regs := [.one (.lit (.row 0)), .one (.val (.int .i64)), u, u, u, u, u, u, u, u, .one (.val (.int .i64))], bx := [(0, .row (.int .i64))], pins := [.one (.lit (.row 0))] })]
noncomputable def dksymMergeCmpFunc_int_iTableChoose_1_2 : Desc := { n := 220, regs := [.one (.lit (.row 0)), u, u, u, u, u, u, u, u, u, .one (.val (.int .i64)), u, u, .one (.val (.int .i64))], bx := [(0, .row (.int .i64))], pins := [.one (.lit (.row 0))] }
noncomputable def oksymMergeCmpFunc_int_iTableChoose_1_2 : Outs := [(.exit 2, { n := 220, regs := [], bx := [(0, .row (.int .i64))], pins := [.one (.lit (.row 0))] })]
noncomputable def dksymMergeCmpFunc_int_iTableChoose_1_4 : Desc := { n := 220, regs := [.one (.lit (.row 0)), u, .one (.val (.int .i64)), u, .one (.clo 61 [.inr (.sl (.pair (.int .i64) (.pair (.int .i64) (.pair (.int .i64) (.pair (.int .i64) (.pair (.int .i64) .unit))))))]), u, u, u, u, u, u, u, u, u, .one (.val (.int .i64)), .one (.val (.int .i64))], bx := [(0, .row (.int .i64))], pins := [.one (.lit (.row 0))] }
noncomputable def oksymMergeCmpFunc_int_iTableChoose_1_4 : Outs := [(.exit 4, { n := 220, regs := [.one (.lit (.row 0)), u, .one (.val (.int .i64)), u, u, u, u, u, u, u, u, u, u, u, .one (.val (.int .i64))], bx := [(0, .row (.int .i64))], pins := [.one (.lit (.row 0))] })]
noncomputable def dksymMergeCmpFunc_int_iTableChoose_1_6 : Desc := { n := 220, regs := [.one (.lit (.row 0)), u, u, u, u, u, u, u, u, u, u, u, u, u, .one (.val (.int .i64)), u, u, .one (.val (.int .i64))], bx := [(0, .row (.int .i64))], pins := [.one (.lit (.row 0))] }
noncomputable def oksymMergeCmpFunc_int_iTableChoose_1_6 : Outs := [(.exit 6, { n := 220, regs := [], bx := [(0, .row (.int .i64))], pins := [.one (.lit (.row 0))] })]
noncomputable def dksymMergeCmpFunc_int_iTableChoose_1_8 : Desc := { n := 220, regs := [.one (.lit (.row 0)), .one (.val (.int .i64)), .one (.val (.int .i64)), .one (.val (.int .i64)), .one (.clo 61 [.inr (.sl (.pair (.int .i64) (.pair (.int .i64) (.pair (.int .i64) (.pair (.int .i64) (.pair (.int .i64) .unit))))))]), u, u, u, u, u, u, u, u, u, u, u, u, u, .one (.val (.int .i64)), .one (.val (.int .i64)), .one (.val (.int .i64)), .one (.val (.int .i64)), .one (.val (.int .i64))], bx := [(0, .row (.int .i64))], pins := [.one (.lit (.row 0))] }
noncomputable def oksymMergeCmpFunc_int_iTableChoose_1_8 : Outs := [(.exit 8, { n := 220, regs := [.one (.lit (.row 0)), .one (.val (.int .i64)), .one (.val (.int .i64)), .one (.val (.int .i64)), .one (.clo 61 [.inr (.sl (.pair (.int .i64) (.pair (.int .i64) (.pair (.int .i64) (.pair (.int .i64) (.pair (.int .i64) .unit))))))]), u, u, u, u, u, u, u, u, u, u, u, u, u, .one (.val (.int .i64)), .one (.val (.int .i64)), .one (.val (.int .i64))], bx := [(0, .row (.int .i64))], pins := [.one (.lit (.row 0))] })]
noncomputable def jksymMergeCmpFunc_int_iTableChoose_1_32 : Outs := [(.normal, { n := 220, regs := [.one (.lit (.row 0)), .one (.val (.int .i64)), .one (.val (.int .i64)), .one (.val (.int .i64)), .one (.clo 61 [.inr (.sl (.pair (.int .i64) (.pair (.int .i64) (.pair (.int .i64) (.pair (.int .i64) (.pair (.int .i64) .unit))))))]), u, u, u, u, u, u, u, u, u, u, u, u, u, .one (.val (.int .i64)), .one (.val (.int .i64)), .one (.val (.int .i64)), .one (.val (.int .i64))], bx := [(0, .row (.int .i64))], pins := [.one (.lit (.row 0))] })]
noncomputable def jksymMergeCmpFunc_int_iTableChoose_1_41 : Outs := [(.normal, { n := 220, regs := [.one (.lit (.row 0)), .one (.val (.int .i64)), u, .one (.val (.int .i64)), .one (.clo 61 [.inr (.sl (.pair (.int .i64) (.pair (.int .i64) (.pair (.int .i64) (.pair (.int .i64) (.pair (.int .i64) .unit))))))]), u, u, u, u, u, u, u, u, u, u, u, u, u, .one (.val (.int .i64)), u, .one (.val (.int .i64)), u, u, u, .one (.val (.int .i64))], bx := [(0, .row (.int .i64))], pins := [.one (.lit (.row 0))] })]
noncomputable def jksymMergeCmpFunc_int_iTableChoose_1_43 : Outs := [(.normal, { n := 220, regs := [.one (.lit (.row 0)), u, u, .one (.val (.int .i64)), .one (.clo 61 [.inr (.sl (.pair (.int .i64) (.pair (.int .i64) (.pair (.int .i64) (.pair (.int .i64) (.pair (.int .i64) .unit))))))]), u, u, u, u, u, u, u, u, u, u, u, u, u, .one (.val (.int .i64)), u, u, u, u, u, .one (.val (.int .i64))], bx := [(0, .row (.int .i64))], pins := [.one (.lit (.row 0))] })]
noncomputable def lksymMergeCmpFunc_int_iTableChoose_1_0 (N : Nat) : Nat → (Int × ((List (Int × (Int × (Int × (Int × (Int × Unit)))))) × (Int × (Int × ((List Int) × Unit))))) → Option (Int × (Int × ((List Int) × Unit)))
  | 0, _ => none
  | n + 1, v =>
    bif decide (v.2.2.1 < v.2.2.2.1) then
     let y1 := IntKind.wrap .u64 (w64 (v.2.2.1 + v.2.2.2.1))
     bif decide (0 ≤ (1 : Int)) then
     let y2 := Int.fdiv y1 (2 ^ min (1 : Int).toNat 64)
     bif decide (0 ≤ (w64 (y2))) then
     bif decide ((w64 (y2)).toNat < v.2.2.2.2.1.length) then
     let y3 := v.2.2.2.2.1.getD ((w64 (y2)).toNat) (0 : Int)
     bif decide (0 ≤ v.1) then
     bif decide (v.1.toNat < v.2.2.2.2.1.length) then
     (FiTableChoose_1 N (y3, v.2.2.2.2.1.getD v.1.toNat (0 : Int), v.2.1, ())).bind fun r4 =>
     bif decide (r4.1 < (0 : Int)) then
      lksymMergeCmpFunc_int_iTableChoose_1_0 N n (v.1, v.2.1, w64 ((w64 (y2)) + (1 : Int)), v.2.2.2.1, v.2.2.2.2.1, ())
     else
     lksymMergeCmpFunc_int_iTableChoose_1_0 N n (v.1, v.2.1, v.2.2.1, w64 (y2), v.2.2.2.2.1, ())
     else none
     else none
     else none
     else none
     else none
    else
    some (v.1, v.2.2.1, v.2.2.2.2.1, ())
noncomputable def lksymMergeCmpFunc_int_iTableChoose_1_2 (N : Nat) : Nat → (Int × (Int × ((List Int) × Unit))) → Option ((List Int) × Unit)
  | 0, _ => none
  | n + 1, v =>
    let y6 := decide (v.2.1 < (w64 (v.1 - (1 : Int))))
    bif y6 then
     bif decide (0 ≤ (w64 (v.2.1 + (1 : Int)))) then
     bif decide ((w64 (v.2.1 + (1 : Int))).toNat < v.2.2.1.length) then
     let y7 := v.2.2.1.getD ((w64 (v.2.1 + (1 : Int))).toNat) (0 : Int)
     bif decide (0 ≤ v.2.1) then
     bif decide (v.2.1.toNat < v.2.2.1.length) then
     bif decide (0 ≤ v.2.1) then
     bif decide (v.2.1.toNat < v.2.2.1.length) then
     bif decide (0 ≤ (w64 (v.2.1 + (1 : Int)))) then
     bif decide ((w64 (v.2.1 + (1 : Int))).toNat < (v.2.2.1.set v.2.1.toNat y7).length) then
     let y8 := (v.2.2.1.set v.2.1.toNat y7).set ((w64 (v.2.1 + (1 : Int))).toNat) (v.2.2.1.getD v.2.1.toNat (0 : Int))
     lksymMergeCmpFunc_int_iTableChoose_1_2 N n (v.1, w64 (v.2.1 + (1 : Int)), y8, ())
     else none
     else none
     else none
     else none
     else none
     else none
     else none
     else none
    else
    some (v.2.2.1, ())
noncomputable def lksymMergeCmpFunc_int_iTableChoose_1_4 (N : Nat) : Nat → (Int × ((List (Int × (Int × (Int × (Int × (Int × Unit)))))) × (Int × (Int × ((List Int) × Unit))))) → Option (Int × (Int × ((List Int) × Unit)))
  | 0, _ => none
  | n + 1, v =>
    bif decide (v.2.2.1 < v.2.2.2.1) then
     let y10 := IntKind.wrap .u64 (w64 (v.2.2.1 + v.2.2.2.1))
     bif decide (0 ≤ (1 : Int)) then
     let y11 := Int.fdiv y10 (2 ^ min (1 : Int).toNat 64)
     bif decide (0 ≤ v.1) then
     bif decide (v.1.toNat < v.2.2.2.2.1.length) then
     bif decide (0 ≤ (w64 (y11))) then
     bif decide ((w64 (y11)).toNat < v.2.2.2.2.1.length) then
     let y12 := v.2.2.2.2.1.getD ((w64 (y11)).toNat) (0 : Int)
     (FiTableChoose_1 N (v.2.2.2.2.1.getD v.1.toNat (0 : Int), y12, v.2.1, ())).bind fun r13 =>
     bif !(decide (r13.1 < (0 : Int))) then
      lksymMergeCmpFunc_int_iTableChoose_1_4 N n (v.1, v.2.1, w64 ((w64 (y11)) + (1 : Int)), v.2.2.2.1, v.2.2.2.2.1, ())
     else
     lksymMergeCmpFunc_int_iTableChoose_1_4 N n (v.1, v.2.1, v.2.2.1, w64 (y11), v.2.2.2.2.1, ())
     else none
     else none
     else none
     else none
     else none
    else
    some (v.1, v.2.2.1, v.2.2.2.2.1, ())
noncomputable def lksymMergeCmpFunc_int_iTableChoose_1_6 (N : Nat) : Nat → (Int × (Int × ((List Int) × Unit))) → Option ((List Int) × Unit)
  | 0, _ => none
  | n + 1, v =>
    bif decide (v.2.1 > v.1) then
     bif decide (0 ≤ (w64 (v.2.1 - (1 : Int)))) then
     bif decide ((w64 (v.2.1 - (1 : Int))).toNat < v.2.2.1.length) then
     let y15 := v.2.2.1.getD ((w64 (v.2.1 - (1 : Int))).toNat) (0 : Int)
     bif decide (0 ≤ v.2.1) then
     bif decide (v.2.1.toNat < v.2.2.1.length) then
     bif decide (0 ≤ v.2.1) then
     bif decide (v.2.1.toNat < v.2.2.1.length) then
     bif decide (0 ≤ (w64 (v.2.1 - (1 : Int)))) then
     bif decide ((w64 (v.2.1 - (1 : Int))).toNat < (v.2.2.1.set v.2.1.toNat y15).length) then
     let y16 := (v.2.2.1.set v.2.1.toNat y15).set ((w64 (v.2.1 - (1 : Int))).toNat) (v.2.2.1.getD v.2.1.toNat (0 : Int))
     lksymMergeCmpFunc_int_iTableChoose_1_6 N n (v.1, w64 (v.2.1 - (1 : Int)), y16, ())
     else none
     else none
     else none
     else none
     else none
     else none
     else none
     else none
    else
    some (v.2.2.1, ())
noncomputable def lksymMergeCmpFunc_int_iTableChoose_1_8 (N : Nat) : Nat → (Int × (Int × (Int × ((List (Int × (Int × (Int × (Int × (Int × Unit)))))) × (Int × (Int × (Int × (Int × (Int × ((List Int) × Unit)))))))))) → Option (Int × (Int × (Int × ((List (Int × (Int × (Int × (Int × (Int × Unit)))))) × (Int × (Int × (Int × ((List Int) × Unit))))))))
  | 0, _ => none
  | n + 1, v =>
    let y22 := decide (v.2.2.2.2.2.2.1 < v.2.2.2.2.2.2.2.1)
    bif y22 then
     let y23 := w64 (v.2.2.2.2.2.2.1 + v.2.2.2.2.2.2.2.1)
     bif decide (0 ≤ (1 : Int)) then
     let y24 := Int.fdiv (IntKind.wrap .u64 (y23)) (2 ^ min (1 : Int).toNat 64)
     let y25 := w64 (v.2.2.2.2.2.2.2.2.1 - (w64 (y24)))
     bif decide (0 ≤ y25) then
     bif decide (y25.toNat < v.2.2.2.2.2.2.2.2.2.1.length) then
     let y26 := v.2.2.2.2.2.2.2.2.2.1.getD y25.toNat (0 : Int)
     bif decide (0 ≤ (w64 (y24))) then
     bif decide ((w64 (y24)).toNat < v.2.2.2.2.2.2.2.2.2.1.length) then
     let y27 := v.2.2.2.2.2.2.2.2.2.1.getD ((w64 (y24)).toNat) (0 : Int)
     (FiTableChoose_1 N (y26, y27, v.2.2.2.1, ())).bind fun r28 =>
     bif !(decide (r28.1 < (0 : Int))) then
      lksymMergeCmpFunc_int_iTableChoose_1_8 N n (v.1, v.2.1, v.2.2.1, v.2.2.2.1, v.2.2.2.2.1, v.2.2.2.2.2.1, w64 ((w64 (y24)) + (1 : Int)), v.2.2.2.2.2.2.2.1, v.2.2.2.2.2.2.2.2.1, v.2.2.2.2.2.2.2.2.2.1, ())
     else
     lksymMergeCmpFunc_int_iTableChoose_1_8 N n (v.1, v.2.1, v.2.2.1, v.2.2.2.1, v.2.2.2.2.1, v.2.2.2.2.2.1, v.2.2.2.2.2.2.1, w64 (y24), v.2.2.2.2.2.2.2.2.1, v.2.2.2.2.2.2.2.2.2.1, ())
     else none
     else none
     else none
     else none
     else none
    else
    some (v.1, v.2.1, v.2.2.1, v.2.2.2.1, v.2.2.2.2.1, v.2.2.2.2.2.1, v.2.2.2.2.2.2.1, v.2.2.2.2.2.2.2.2.2.1, ())
noncomputable def FksymMergeCmpFunc_int_iTableChoose_1 (N : Nat) (x : (Int × (Int × (Int × ((List (Int × (Int × (Int × (Int × (Int × Unit)))))) × ((List Int) × Unit)))))) : Option ((List Int) × Unit) :=
  bif (w64 (x.2.1 - x.1)) == (1 : Int) then
   (lksymMergeCmpFunc_int_iTableChoose_1_0 N N (x.1, x.2.2.2.1, x.2.1, x.2.2.1, x.2.2.2.2.1, ())).bind fun o5 =>
   (lksymMergeCmpFunc_int_iTableChoose_1_2 N N (o5.2.1, o5.1, o5.2.2.1, ())).bind fun o9 =>
   some (o9.1, ())
  else
  bif (w64 (x.2.2.1 - x.2.1)) == (1 : Int) then
   (lksymMergeCmpFunc_int_iTableChoose_1_4 N N (x.2.1, x.2.2.2.1, x.1, x.2.1, x.2.2.2.2.1, ())).bind fun o14 =>
   (lksymMergeCmpFunc_int_iTableChoose_1_6 N N (o14.2.1, o14.1, o14.2.2.1, ())).bind fun o17 =>
   some (o17.1, ())
  else
  let y18 := IntKind.wrap .u64 (w64 (x.1 + x.2.2.1))
  bif decide (0 ≤ (1 : Int)) then
  let y19 := Int.fdiv y18 (2 ^ min (1 : Int).toNat 64)
  Option.bind (
   bif decide (x.2.1 > (w64 (y19))) then
    let y20 := w64 ((w64 ((w64 (y19)) + x.2.1)) - x.2.2.1)
    some (x.1, x.2.1, x.2.2.1, x.2.2.2.1, w64 (y19), w64 ((w64 (y19)) + x.2.1), y20, w64 (y19), x.2.2.2.2.1, ())
   else
   some (x.1, x.2.1, x.2.2.1, x.2.2.2.1, w64 (y19), w64 ((w64 (y19)) + x.2.1), x.1, x.2.1, x.2.2.2.2.1, ())) fun o21 =>
  (lksymMergeCmpFunc_int_iTableChoose_1_8 N N (o21.1, o21.2.1, o21.2.2.1, o21.2.2.2.1, o21.2.2.2.2.1, o21.2.2.2.2.2.1, o21.2.2.2.2.2.2.1, o21.2.2.2.2.2.2.2.1, w64 (o21.2.2.2.2.2.1 - (1 : Int)), o21.2.2.2.2.2.2.2.2.1, ())).bind fun o29 =>
  let y30 := w64 (o29.2.2.2.2.2.1 - o29.2.2.2.2.2.2.1)
  Option.bind (
   bif decide (o29.2.2.2.2.2.2.1 < o29.2.1) then
    bif decide (o29.2.1 < y30) then
     (FkrotateCmpFunc_int_iTableChoose_1 N (o29.2.2.2.2.2.2.1, o29.2.1, y30, o29.2.2.2.1, o29.2.2.2.2.2.2.2.1, ())).bind fun r31 =>
     some (o29.1, o29.2.2.1, o29.2.2.2.1, o29.2.2.2.2.1, o29.2.2.2.2.2.2.1, y30, r31.1, ())
    else
    some (o29.1, o29.2.2.1, o29.2.2.2.1, o29.2.2.2.2.1, o29.2.2.2.2.2.2.1, y30, o29.2.2.2.2.2.2.2.1, ())
   else
   some (o29.1, o29.2.2.1, o29.2.2.2.1, o29.2.2.2.2.1, o29.2.2.2.2.2.2.1, y30, o29.2.2.2.2.2.2.2.1, ())) fun o32 =>
  Option.bind (
   bif decide (o32.1 < o32.2.2.2.2.1) then
    bif decide (o32.2.2.2.2.1 < o32.2.2.2.1) then
     none
    else
    some (o32.2.1, o32.2.2.1, o32.2.2.2.1, o32.2.2.2.2.2.1, o32.2.2.2.2.2.2.1, ())
   else
   some (o32.2.1, o32.2.2.1, o32.2.2.2.1, o32.2.2.2.2.2.1, o32.2.2.2.2.2.2.1, ())) fun o33 =>
  bif decide (o33.2.2.1 < o33.2.2.2.1) then
   bif decide (o33.2.2.2.1 < o33.1) then
    none
   else
   some (o33.2.2.2.2.1, ())
  else
  some (o33.2.2.2.2.1, ())
  else none
noncomputable def conksymMergeCmpFunc_int_iTableChoose_1 (N : Nat) : Con := { f := 124, din := dinksymMergeCmpFunc_int_iTableChoose_1, outs := outksymMergeCmpFunc_int_iTableChoose_1, F := FksymMergeCmpFunc_int_iTableChoose_1 N }
noncomputable def XksymMergeCmpFunc_int_iTableChoose_1 (N : Nat) : Ctx := { E := EksymMergeCmpFunc_int_iTableChoose_1 N, H := HksymMergeCmpFunc_int_iTableChoose_1, lp := [(0, { hd := dksymMergeCmpFunc_int_iTableChoose_1_0, outs := oksymMergeCmpFunc_int_iTableChoose_1_0, run := fun v => lksymMergeCmpFunc_int_iTableChoose_1_0 N N v }), (2, { hd := dksymMergeCmpFunc_int_iTableChoose_1_2, outs := oksymMergeCmpFunc_int_iTableChoose_1_2, run := fun v => lksymMergeCmpFunc_int_iTableChoose_1_2 N N v }), (4, { hd := dksymMergeCmpFunc_int_iTableChoose_1_4, outs := oksymMergeCmpFunc_int_iTableChoose_1_4, run := fun v => lksymMergeCmpFunc_int_iTableChoose_1_4 N N v }), (6, { hd := dksymMergeCmpFunc_int_iTableChoose_1_6, outs := oksymMergeCmpFunc_int_iTableChoose_1_6, run := fun v => lksymMergeCmpFunc_int_iTableChoose_1_6 N N v }), (8, { hd := dksymMergeCmpFunc_int_iTableChoose_1_8, outs := oksymMergeCmpFunc_int_iTableChoose_1_8, run := fun v => lksymMergeCmpFunc_int_iTableChoose_1_8 N N v })], jn := [(32, jksymMergeCmpFunc_int_iTableChoose_1_32), (41, jksymMergeCmpFunc_int_iTableChoose_1_41), (43, jksymMergeCmpFunc_int_iTableChoose_1_43)] }
noncomputable def bksymMergeCmpFunc_int_iTableChoose_1_8 : Code := loopBody (codeOf Try.f124) 4
noncomputable def bksymMergeCmpFunc_int_iTableChoose_1_6 : Code := loopBody (codeOf Try.f124) 3
noncomputable def bksymMergeCmpFunc_int_iTableChoose_1_4 : Code := loopBody (codeOf Try.f124) 2
noncomputable def bksymMergeCmpFunc_int_iTableChoose_1_2 : Code := loopBody (codeOf Try.f124) 1
noncomputable def bksymMergeCmpFunc_int_iTableChoose_1_0 : Code := loopBody (codeOf Try.f124) 0
theorem FksymMergeCmpFunc_int_iTableChoose_1_eq (N : Nat) (x : (Int × (Int × (Int × ((List (Int × (Int × (Int × (Int × (Int × Unit)))))) × ((List Int) × Unit)))))) : evFn (XksymMergeCmpFunc_int_iTableChoose_1 N) Try.f124 dinksymMergeCmpFunc_int_iTableChoose_1 outksymMergeCmpFunc_int_iTableChoose_1 x = FksymMergeCmpFunc_int_iTableChoose_1 N x := by kernel_rfl
theorem lksymMergeCmpFunc_int_iTableChoose_1_0_eq (N n : Nat) (v : (Int × ((List (Int × (Int × (Int × (Int × (Int × Unit)))))) × (Int × (Int × ((List Int) × Unit)))))) : lksymMergeCmpFunc_int_iTableChoose_1_0 N (n + 1) v = ev (XksymMergeCmpFunc_int_iTableChoose_1 N) bksymMergeCmpFunc_int_iTableChoose_1_0 (roundK dksymMergeCmpFunc_int_iTableChoose_1_0 oksymMergeCmpFunc_int_iTableChoose_1_0 (lksymMergeCmpFunc_int_iTableChoose_1_0 N n)) (dksymMergeCmpFunc_int_iTableChoose_1_0.mk' v) := by kernel_rfl
theorem lksymMergeCmpFunc_int_iTableChoose_1_2_eq (N n : Nat) (v : (Int × (Int × ((List Int) × Unit)))) : lksymMergeCmpFunc_int_iTableChoose_1_2 N (n + 1) v = ev (XksymMergeCmpFunc_int_iTableChoose_1 N) bksymMergeCmpFunc_int_iTableChoose_1_2 (roundK dksymMergeCmpFunc_int_iTableChoose_1_2 oksymMergeCmpFunc_int_iTableChoose_1_2 (lksymMergeCmpFunc_int_iTableChoose_1_2 N n)) (dksymMergeCmpFunc_int_iTableChoose_1_2.mk' v) := by kernel_rfl
theorem lksymMergeCmpFunc_int_iTableChoose_1_4_eq (N n : Nat) (v : (Int × ((List (Int × (Int × (Int × (Int × (Int × Unit)))))) × (Int × (Int × ((List Int) × Unit)))))) : lksymMergeCmpFunc_int_iTableChoose_1_4 N (n + 1) v = ev (XksymMergeCmpFunc_int_iTableChoose_1 N) bksymMergeCmpFunc_int_iTableChoose_1_4 (roundK dksymMergeCmpFunc_int_iTableChoose_1_4 oksymMergeCmpFunc_int_iTableChoose_1_4 (lksymMergeCmpFunc_int_iTableChoose_1_4 N n)) (dksymMergeCmpFunc_int_iTableChoose_1_4.mk' v) := by kernel_rfl
theorem lksymMergeCmpFunc_int_iTableChoose_1_6_eq (N n : Nat) (v : (Int × (Int × ((List Int) × Unit)))) : lksymMergeCmpFunc_int_iTableChoose_1_6 N (n + 1) v = ev (XksymMergeCmpFunc_int_iTableChoose_1 N) bksymMergeCmpFunc_int_iTableChoose_1_6 (roundK dksymMergeCmpFunc_int_iTableChoose_1_6 oksymMergeCmpFunc_int_iTableChoose_1_6 (lksymMergeCmpFunc_int_iTableChoose_1_6 N n)) (dksymMergeCmpFunc_int_iTableChoose_1_6.mk' v) := by kernel_rfl
theorem lksymMergeCmpFunc_int_iTableChoose_1_8_eq (N n : Nat) (v : (Int × (Int × (Int × ((List (Int × (Int × (Int × (Int × (Int × Unit)))))) × (Int × (Int × (Int × (Int × (Int × ((List Int) × Unit))))))))))) : lksymMergeCmpFunc_int_iTableChoose_1_8 N (n + 1) v = ev (XksymMergeCmpFunc_int_iTableChoose_1 N) bksymMergeCmpFunc_int_iTableChoose_1_8 (roundK dksymMergeCmpFunc_int_iTableChoose_1_8 oksymMergeCmpFunc_int_iTableChoose_1_8 (lksymMergeCmpFunc_int_iTableChoose_1_8 N n)) (dksymMergeCmpFunc_int_iTableChoose_1_8.mk' v) := by kernel_rfl
theorem cxksymMergeCmpFunc_int_iTableChoose_1 (N : Nat) : CtxOk Try.prog (XksymMergeCmpFunc_int_iTableChoose_1 N) := ⟨⟨TE_ok, List.forall_mem_cons.2 ⟨speciTableChoose_1 N, List.forall_mem_cons.2 ⟨speckrotateCmpFunc_int_iTableChoose_1 N, fun k hk => absurd hk List.not_mem_nil⟩⟩⟩, mixed⟩
theorem lpksymMergeCmpFunc_int_iTableChoose_1_0 (N : Nat) : LoopOk Try.prog { hd := dksymMergeCmpFunc_int_iTableChoose_1_0, outs := oksymMergeCmpFunc_int_iTableChoose_1_0, run := fun v => lksymMergeCmpFunc_int_iTableChoose_1_0 N N v } bksymMergeCmpFunc_int_iTableChoose_1_0 :=
  loop_fuel (d := dksymMergeCmpFunc_int_iTableChoose_1_0) (os := oksymMergeCmpFunc_int_iTableChoose_1_0) (cxksymMergeCmpFunc_int_iTableChoose_1 N) (loops_at (ids := []) (by kernel_rfl) (trivial)) (lksymMergeCmpFunc_int_iTableChoose_1_0 N) (fun _ => rfl) (fun n v => lksymMergeCmpFunc_int_iTableChoose_1_0_eq N n v) (fun _ => N)
theorem lpksymMergeCmpFunc_int_iTableChoose_1_2 (N : Nat) : LoopOk Try.prog { hd := dksymMergeCmpFunc_int_iTableChoose_1_2, outs := oksymMergeCmpFunc_int_iTableChoose_1_2, run := fun v => lksymMergeCmpFunc_int_iTableChoose_1_2 N N v } bksymMergeCmpFunc_int_iTableChoose_1_2 :=
  loop_fuel (d := dksymMergeCmpFunc_int_iTableChoose_1_2) (os := oksymMergeCmpFunc_int_iTableChoose_1_2) (cxksymMergeCmpFunc_int_iTableChoose_1 N) (loops_at (ids := []) (by kernel_rfl) (trivial)) (lksymMergeCmpFunc_int_iTableChoose_1_2 N) (fun _ => rfl) (fun n v => lksymMergeCmpFunc_int_iTableChoose_1_2_eq N n v) (fun _ => N)
theorem lpksymMergeCmpFunc_int_iTableChoose_1_4 (N : Nat) : LoopOk Try.prog { hd := dksymMergeCmpFunc_int_iTableChoose_1_4, outs := oksymMergeCmpFunc_int_iTableChoose_1_4, run := fun v => lksymMergeCmpFunc_int_iTableChoose_1_4 N N v } bksymMergeCmpFunc_int_iTableChoose_1_4 :=
  loop_fuel (d := dksymMergeCmpFunc_int_iTableChoose_1_4) (os := oksymMergeCmpFunc_int_iTableChoose_1_4) (cxksymMergeCmpFunc_int_iTableChoose_1 N) (loops_at (ids := []) (by kernel_rfl) (trivial)) (lksymMergeCmpFunc_int_iTableChoose_1_4 N) (fun _ => rfl) (fun n v => lksymMergeCmpFunc_int_iTableChoose_1_4_eq N n v) (fun _ => N)
theorem lpksymMergeCmpFunc_int_iTableChoose_1_6 (N : Nat) : LoopOk Try.prog { hd := dksymMergeCmpFunc_int_iTableChoose_1_6, outs := oksymMergeCmpFunc_int_iTableChoose_1_6, run := fun v => lksymMergeCmpFunc_int_iTableChoose_1_6 N N v } bksymMergeCmpFunc_int_iTableChoose_1_6 :=
  loop_fuel (d := dksymMergeCmpFunc_int_iTableChoose_1_6) (os := oksymMergeCmpFunc_int_iTableChoose_1_6) (cxksymMergeCmpFunc_int_iTableChoose_1 N) (loops_at (ids := []) (by kernel_rfl) (trivial)) (lksymMergeCmpFunc_int_iTableChoose_1_6 N) (fun _ => rfl) (fun n v => lksymMergeCmpFunc_int_iTableChoose_1_6_eq N n v) (fun _ => N)
theorem lpksymMergeCmpFunc_int_iTableChoose_1_8 (N : Nat) : LoopOk Try.prog { hd := dksymMergeCmpFunc_int_iTableChoose_1_8, outs := oksymMergeCmpFunc_int_iTableChoose_1_8, run := fun v => lksymMergeCmpFunc_int_iTableChoose_1_8 N N v } bksymMergeCmpFunc_int_iTableChoose_1_8 :=
  loop_fuel (d := dksymMergeCmpFunc_int_iTableChoose_1_8) (os := oksymMergeCmpFunc_int_iTableChoose_1_8) (cxksymMergeCmpFunc_int_iTableChoose_1 N) (loops_at (ids := []) (by kernel_rfl) (trivial)) (lksymMergeCmpFunc_int_iTableChoose_1_8 N) (fun _ => rfl) (fun n v => lksymMergeCmpFunc_int_iTableChoose_1_8_eq N n v) (fun _ => N)
theorem specksymMergeCmpFunc_int_iTableChoose_1 (N : Nat) : Spec Try.prog (conksymMergeCmpFunc_int_iTableChoose_1 N) :=
  Spec.of_eq (fn_spec (cxksymMergeCmpFunc_int_iTableChoose_1 N) (f := 124) (fn := Try.f124) (c := codeOf Try.f124) (by kernel_rfl) (by kernel_rfl) (by kernel_rfl) (loops_at (ids := [0, 2, 4, 6, 8]) (by kernel_rfl) ⟨lp_of (lpksymMergeCmpFunc_int_iTableChoose_1_0 N), ⟨lp_of (lpksymMergeCmpFunc_int_iTableChoose_1_2 N), ⟨lp_of (lpksymMergeCmpFunc_int_iTableChoose_1_4 N), ⟨lp_of (lpksymMergeCmpFunc_int_iTableChoose_1_6 N), ⟨lp_of (lpksymMergeCmpFunc_int_iTableChoose_1_8 N), trivial⟩⟩⟩⟩⟩) (by kernel_rfl)) (fun x r h => (FksymMergeCmpFunc_int_iTableChoose_1_eq N x).trans h)

/-! ### 102: slices.stableCmpFunc[int] -/

noncomputable def dinkstableCmpFunc_int_iTableChoose_1 : Desc := { n := 3, regs := [.one (.lit (.row 0)), .one (.val (.int .i64)), .one (.clo 61 [.inr (.sl (.pair (.int .i64) (.pair (.int .i64) (.pair (.int .i64) (.pair (.int .i64) (.pair (.int .i64) .unit))))))])], bx := [(0, .row (.int .i64))], pins := [] }
noncomputable def outkstableCmpFunc_int_iTableChoose_1 : Outs := [(.ret, { n := 0, regs := [], bx := [(0, .row (.int .i64))], pins := [.one (.lit (.row 0))] })]
noncomputable def HkstableCmpFunc_int_iTableChoose_1 : Hints := [(10, [(7, { con := 1 })]),
  (15, [(5, { con := 1 })])]
noncomputable def EkstableCmpFunc_int_iTableChoose_1 (N : Nat) : Env := { te := TE, cs := [conkinsertionSortCmpFunc_int_iTableChoose_1 N, conksymMergeCmpFunc_int_iTableChoose_1 N] }
noncomputable def dkstableCmpFunc_int_iTableChoose_1_0 : Desc := { n := 63, regs := [.one (.lit (.row 0)), .one (.val (.int .i64)), .one (.clo 61 [.inr (.sl (.pair (.int .i64) (.pair (.int .i64) (.pair (.int .i64) (.pair (.int .i64) (.pair (.int .i64) .unit))))))]), u, u, u, .one (.val (.int .i64)), .one (.val (.int .i64)), .one (.val (.int .i64))], bx := [(0, .row (.int .i64))], pins := [.one (.lit (.row 0))] }
noncomputable def okstableCmpFunc_int_iTableChoose_1_0 : Outs := [(.exit 0, { n := 63, regs := [.one (.lit (.row 0)), .one (.val (.int .i64)), .one (.clo 61 [.inr (.sl (.pair (.int .i64) (.pair (.int .i64) (.pair (.int .i64) (.pair (.int .i64) (.pair (.int .i64) .unit))))))]), u, u, u, .one (.val (.int .i64)), .one (.val (.int .i64))], bx := [(0, .row (.int .i64))], pins := [.one (.lit (.row 0))] })]
noncomputable def dkstableCmpFunc_int_iTableChoose_1_4 : Desc := { n := 63, regs := [.one (.lit (.row 0)), .one (.val (.int .i64)), .one (.clo 61 [.inr (.sl (.pair (.int .i64) (.pair (.int .i64) (.pair (.int .i64) (.pair (.int .i64) (.pair (.int .i64) .unit))))))]), u, u, u, .one (.val (.int .i64)), .one (.val (.int .i64)), .one (.val (.int .i64))], bx := [(0, .row (.int .i64))], pins := [.one (.lit (.row 0))] }
noncomputable def okstableCmpFunc_int_iTableChoose_1_4 : Outs := [(.exit 4, { n := 63, regs := [.one (.lit (.row 0)), .one (.val (.int .i64)), .one (.clo 61 [.inr (.sl (.pair (.int .i64) (.pair (.int .i64) (.pair (.int .i64) (.pair (.int .i64) (.pair (.int .i64) .unit))))))]), u, u, u, .one (.val (.int .i64)), .one (.val (.int .i64))], bx := [(0, .row (.int .i64))], pins := [.one (.lit (.row 0))] })]
noncomputable def dkstableCmpFunc_int_iTableChoose_1_2 : Desc := { n := 63, regs := [.one (.lit (.row 0)), .one (.val (.int .i64)), .one (.clo 61 [.inr (.sl (.pair (.int .i64) (.pair (.int .i64) (.pair (.int .i64) (.pair (.int .i64) (.pair (.int .i64) .unit))))))]), u, u, u, .one (.val (.int .i64))], bx := [(0, .row (.int .i64))], pins := [.one (.lit (.row 0))] }
noncomputable def okstableCmpFunc_int_iTableChoose_1_2 : Outs := [(.exit 2, { n := 63, regs := [], bx := [(0, .row (.int .i64))], pins := [.one (.lit (.row 0))] })]
noncomputable def lkstableCmpFunc_int_iTableChoose_1_0 (N : Nat) : Nat → (Int × ((List (Int × (Int × (Int × (Int × (Int × Unit)))))) × (Int × (Int × (Int × ((List Int) × Unit)))))) → Option (Int × ((List (Int × (Int × (Int × (Int × (Int × Unit)))))) × (Int × (Int × ((List Int) × Unit)))))
  | 0, _ => none
  | n + 1, v =>
    bif decide (v.2.2.2.2.1 ≤ v.1) then
     (FkinsertionSortCmpFunc_int_iTableChoose_1 N (v.2.2.2.1, v.2.2.2.2.1, v.2.1, v.2.2.2.2.2.1, ())).bind fun r1 =>
     lkstableCmpFunc_int_iTableChoose_1_0 N n (v.1, v.2.1, v.2.2.1, v.2.2.2.2.1, w64 (v.2.2.2.2.1 + v.2.2.1), r1.1, ())
    else
    some (v.1, v.2.1, v.2.2.1, v.2.2.2.1, v.2.2.2.2.2.1, ())
noncomputable def lkstableCmpFunc_int_iTableChoose_1_4 (N : Nat) : Nat → (Int × ((List (Int × (Int × (Int × (Int × (Int × Unit)))))) × (Int × (Int × (Int × ((List Int) × Unit)))))) → Option (Int × ((List (Int × (Int × (Int × (Int × (Int × Unit)))))) × (Int × (Int × ((List Int) × Unit)))))
  | 0, _ => none
  | n + 1, v =>
    bif decide (v.2.2.2.2.1 ≤ v.1) then
     (FksymMergeCmpFunc_int_iTableChoose_1 N (v.2.2.2.1, w64 (v.2.2.2.1 + v.2.2.1), v.2.2.2.2.1, v.2.1, v.2.2.2.2.2.1, ())).bind fun r4 =>
     let y5 := w64 (v.2.2.2.2.1 + (w64 ((2 : Int) * v.2.2.1)))
     lkstableCmpFunc_int_iTableChoose_1_4 N n (v.1, v.2.1, v.2.2.1, v.2.2.2.2.1, y5, r4.1, ())
    else
    some (v.1, v.2.1, v.2.2.1, v.2.2.2.1, v.2.2.2.2.2.1, ())
noncomputable def lkstableCmpFunc_int_iTableChoose_1_2 (N : Nat) : Nat → (Int × ((List (Int × (Int × (Int × (Int × (Int × Unit)))))) × (Int × ((List Int) × Unit)))) → Option ((List Int) × Unit)
  | 0, _ => none
  | n + 1, v =>
    bif decide (v.2.2.1 < v.1) then
     (lkstableCmpFunc_int_iTableChoose_1_4 N N (v.1, v.2.1, v.2.2.1, (0 : Int), w64 ((2 : Int) * v.2.2.1), v.2.2.2.1, ())).bind fun o6 =>
     let y7 := decide ((w64 (o6.2.2.2.1 + o6.2.2.1)) < o6.1)
     bif y7 then
      (FksymMergeCmpFunc_int_iTableChoose_1 N (o6.2.2.2.1, w64 (o6.2.2.2.1 + o6.2.2.1), o6.1, o6.2.1, o6.2.2.2.2.1, ())).bind fun r8 =>
      lkstableCmpFunc_int_iTableChoose_1_2 N n (o6.1, o6.2.1, w64 (o6.2.2.1 * (2 : Int)), r8.1, ())
     else
     lkstableCmpFunc_int_iTableChoose_1_2 N n (o6.1, o6.2.1, w64 (o6.2.2.1 * (2 : Int)), o6.2.2.2.2.1, ())
    else
    some (v.2.2.2.1, ())
noncomputable def FkstableCmpFunc_int_iTableChoose_1 (N : Nat) (x : (Int × ((List (Int × (Int × (Int × (Int × (Int × Unit)))))) × ((List Int) × Unit)))) : Option ((List Int) × Unit) :=
  (lkstableCmpFunc_int_iTableChoose_1_0 N N (x.1, x.2.1, (20 : Int), (0 : Int), (20 : Int), x.2.2.1, ())).bind fun o2 =>
  (FkinsertionSortCmpFunc_int_iTableChoose_1 N (o2.2.2.2.1, o2.1, o2.2.1, o2.2.2.2.2.1, ())).bind fun r3 =>
  (lkstableCmpFunc_int_iTableChoose_1_2 N N (o2.1, o2.2.1, o2.2.2.1, r3.1, ())).bind fun o9 =>
  some (o9.1, ())
noncomputable def conkstableCmpFunc_int_iTableChoose_1 (N : Nat) : Con := { f := 102, din := dinkstableCmpFunc_int_iTableChoose_1, outs := outkstableCmpFunc_int_iTableChoose_1, F := FkstableCmpFunc_int_iTableChoose_1 N }
noncomputable def XkstableCmpFunc_int_iTableChoose_1 (N : Nat) : Ctx := { E := EkstableCmpFunc_int_iTableChoose_1 N, H := HkstableCmpFunc_int_iTableChoose_1, lp := [(0, { hd := dkstableCmpFunc_int_iTableChoose_1_0, outs := okstableCmpFunc_int_iTableChoose_1_0, run := fun v => lkstableCmpFunc_int_iTableChoose_1_0 N N v }), (4, { hd := dkstableCmpFunc_int_iTableChoose_1_4, outs := okstableCmpFunc_int_iTableChoose_1_4, run := fun v => lkstableCmpFunc_int_iTableChoose_1_4 N N v }), (2, { hd := dkstableCmpFunc_int_iTableChoose_1_2, outs := okstableCmpFunc_int_iTableChoose_1_2, run := fun v => lkstableCmpFunc_int_iTableChoose_1_2 N N v })], jn := [] }
noncomputable def bkstableCmpFunc_int_iTableChoose_1_2 : Code := loopBody (codeOf Try.f102) 1
noncomputable def bkstableCmpFunc_int_iTableChoose_1_4 : Code := loopBody bkstableCmpFunc_int_iTableChoose_1_2 0
noncomputable def bkstableCmpFunc_int_iTableChoose_1_0 : Code := loopBody (codeOf Try.f102) 0
theorem FkstableCmpFunc_int_iTableChoose_1_eq (N : Nat) (x : (Int × ((List (Int × (Int × (Int × (Int × (Int × Unit)))))) × ((List Int) × Unit)))) : evFn (XkstableCmpFunc_int_iTableChoose_1 N) Try.f102 dinkstableCmpFunc_int_iTableChoose_1 outkstableCmpFunc_int_iTableChoose_1 x = FkstableCmpFunc_int_iTableChoose_1 N x := by kernel_rfl
theorem lkstableCmpFunc_int_iTableChoose_1_0_eq (N n : Nat) (v : (Int × ((List (Int × (Int × (Int × (Int × (Int × Unit)))))) × (Int × (Int × (Int × ((List Int) × Unit))))))) : lkstableCmpFunc_int_iTableChoose_1_0 N (n + 1) v = ev (XkstableCmpFunc_int_iTableChoose_1 N) bkstableCmpFunc_int_iTableChoose_1_0 (roundK dkstableCmpFunc_int_iTableChoose_1_0 okstableCmpFunc_int_iTableChoose_1_0 (lkstableCmpFunc_int_iTableChoose_1_0 N n)) (dkstableCmpFunc_int_iTableChoose_1_0.mk' v) := by kernel_rfl
theorem lkstableCmpFunc_int_iTableChoose_1_4_eq (N n : Nat) (v : (Int × ((List (Int × (Int × (Int × (Int × (Int × Unit)))))) × (Int × (Int × (Int × ((List Int) × Unit))))))) : lkstableCmpFunc_int_iTableChoose_1_4 N (n + 1) v = ev (XkstableCmpFunc_int_iTableChoose_1 N) bkstableCmpFunc_int_iTableChoose_1_4 (roundK dkstableCmpFunc_int_iTableChoose_1_4 okstableCmpFunc_int_iTableChoose_1_4 (lkstableCmpFunc_int_iTableChoose_1_4 N n)) (dkstableCmpFunc_int_iTableChoose_1_4.mk' v) := by kernel_rfl
theorem lkstableCmpFunc_int_iTableChoose_1_2_eq (N n : Nat) (v : (Int × ((List (Int × (Int × (Int × (Int × (Int × Unit)))))) × (Int × ((List Int) × Unit))))) : lkstableCmpFunc_int_iTableChoose_1_2 N (n + 1) v = ev (XkstableCmpFunc_int_iTableChoose_1 N) bkstableCmpFunc_int_iTableChoose_1_2 (roundK dkstableCmpFunc_int_iTableChoose_1_2 okstableCmpFunc_int_iTableChoose_1_2 (lkstableCmpFunc_int_iTableChoose_1_2 N n)) (dkstableCmpFunc_int_iTableChoose_1_2.mk' v) := by kernel_rfl
theorem cxkstableCmpFunc_int_iTableChoose_1 (N : Nat) : CtxOk Try.prog (XkstableCmpFunc_int_iTableChoose_1 N) := ⟨⟨TE_ok, List.forall_mem_cons.2 ⟨speckinsertionSortCmpFunc_int_iTableChoose_1 N, List.forall_mem_cons.2 ⟨specksymMergeCmpFunc_int_iTableChoose_1 N, fun k hk => absurd hk List.not_mem_nil⟩⟩⟩, mixed⟩
theorem lpkstableCmpFunc_int_iTableChoose_1_0 (N : Nat) : LoopOk Try.prog { hd := dkstableCmpFunc_int_iTableChoose_1_0, outs := okstableCmpFunc_int_iTableChoose_1_0, run := fun v => lkstableCmpFunc_int_iTableChoose_1_0 N N v } bkstableCmpFunc_int_iTableChoose_1_0 :=
  loop_fuel (d := dkstableCmpFunc_int_iTableChoose_1_0) (os := okstableCmpFunc_int_iTableChoose_1_0) (cxkstableCmpFunc_int_iTableChoose_1 N) (loops_at (ids := []) (by kernel_rfl) (trivial)) (lkstableCmpFunc_int_iTableChoose_1_0 N) (fun _ => rfl) (fun n v => lkstableCmpFunc_int_iTableChoose_1_0_eq N n v) (fun _ => N)
theorem lpkstableCmpFunc_int_iTableChoose_1_4 (N : Nat) : LoopOk Try.prog { hd := dkstableCmpFunc_int_iTableChoose_1_4, outs := okstableCmpFunc_int_iTableChoose_1_4, run := fun v => lkstableCmpFunc_int_iTableChoose_1_4 N N v } bkstableCmpFunc_int_iTableChoose_1_4 :=
  loop_fuel (d := dkstableCmpFunc_int_iTableChoose_1_4) (os := okstableCmpFunc_int_iTableChoose_1_4) (cxkstableCmpFunc_int_iTableChoose_1 N) (loops_at (ids := []) (by kernel_rfl) (trivial)) (lkstableCmpFunc_int_iTableChoose_1_4 N) (fun _ => rfl) (fun n v => lkstableCmpFunc_int_iTableChoose_1_4_eq N n v) (fun _ => N)
theorem lpkstableCmpFunc_int_iTableChoose_1_2 (N : Nat) : LoopOk Try.prog { hd := dkstableCmpFunc_int_iTableChoose_1_2, outs := okstableCmpFunc_int_iTableChoose_1_2, run := fun v => lkstableCmpFunc_int_iTableChoose_1_2 N N v } bkstableCmpFunc_int_iTableChoose_1_2 :=
  loop_fuel (d := dkstableCmpFunc_int_iTableChoose_1_2) (os := okstableCmpFunc_int_iTableChoose_1_2) (cxkstableCmpFunc_int_iTableChoose_1 N) (loops_at (ids := [4]) (by kernel_rfl) ⟨lp_of (lpkstableCmpFunc_int_iTableChoose_1_4 N), trivial⟩) (lkstableCmpFunc_int_iTableChoose_1_2 N) (fun _ => rfl) (fun n v => lkstableCmpFunc_int_iTableChoose_1_2_eq N n v) (fun _ => N)
theorem speckstableCmpFunc_int_iTableChoose_1 (N : Nat) : Spec Try.prog (conkstableCmpFunc_int_iTableChoose_1 N) :=
  Spec.of_eq (fn_spec (cxkstableCmpFunc_int_iTableChoose_1 N) (f := 102) (fn := Try.f102) (c := codeOf Try.f102) (by kernel_rfl) (by kernel_rfl) (by kernel_rfl) (loops_at (ids := [0, 2]) (by kernel_rfl) ⟨lp_of (lpkstableCmpFunc_int_iTableChoose_1_0 N), ⟨lp_of (lpkstableCmpFunc_int_iTableChoose_1_2 N), trivial⟩⟩) (by kernel_rfl)) (fun x r h => (FkstableCmpFunc_int_iTableChoose_1_eq N x).trans h)

/-! ### 60: slices.SortStableFunc[[]int,int] -/

noncomputable def dinkSortStableFunc_Sint_int_iTableChoose_1 : Desc := { n := 2, regs := [.one (.lit (.row 0)), .one (.clo 61 [.inr (.sl (.pair (.int .i64) (.pair (.int .i64) (.pair (.int .i64) (.pair (.int .i64) (.pair (.int .i64) .unit))))))])], bx := [(0, .row (.int .i64))], pins := [] }
noncomputable def outkSortStableFunc_Sint_int_iTableChoose_1 : Outs := [(.ret, { n := 0, regs := [], bx := [(0, .row (.int .i64))], pins := [.one (.lit (.row 0))] })]
noncomputable def HkSortStableFunc_Sint_int_iTableChoose_1 : Hints := []
noncomputable def EkSortStableFunc_Sint_int_iTableChoose_1 (N : Nat) : Env := { te := TE, cs := [conkstableCmpFunc_int_iTableChoose_1 N] }
noncomputable def FkSortStableFunc_Sint_int_iTableChoose_1 (N : Nat) (x : ((List (Int × (Int × (Int × (Int × (Int × Unit)))))) × ((List Int) × Unit))) : Option ((List Int) × Unit) :=
  (FkstableCmpFunc_int_iTableChoose_1 N ((x.2.1.length : Int), x.1, x.2.1, ())).bind fun r1 =>
  some (r1.1, ())
noncomputable def conkSortStableFunc_Sint_int_iTableChoose_1 (N : Nat) : Con := { f := 60, din := dinkSortStableFunc_Sint_int_iTableChoose_1, outs := outkSortStableFunc_Sint_int_iTableChoose_1, F := FkSortStableFunc_Sint_int_iTableChoose_1 N }
noncomputable def XkSortStableFunc_Sint_int_iTableChoose_1 (N : Nat) : Ctx := { E := EkSortStableFunc_Sint_int_iTableChoose_1 N, H := HkSortStableFunc_Sint_int_iTableChoose_1, lp := [], jn := [] }
theorem FkSortStableFunc_Sint_int_iTableChoose_1_eq (N : Nat) (x : ((List (Int × (Int × (Int × (Int × (Int × Unit)))))) × ((List Int) × Unit))) : evFn (XkSortStableFunc_Sint_int_iTableChoose_1 N) Try.f60 dinkSortStableFunc_Sint_int_iTableChoose_1 outkSortStableFunc_Sint_int_iTableChoose_1 x = FkSortStableFunc_Sint_int_iTableChoose_1 N x := by kernel_rfl
theorem cxkSortStableFunc_Sint_int_iTableChoose_1 (N : Nat) : CtxOk Try.prog (XkSortStableFunc_Sint_int_iTableChoose_1 N) := ⟨⟨TE_ok, List.forall_mem_cons.2 ⟨speckstableCmpFunc_int_iTableChoose_1 N, fun k hk => absurd hk List.not_mem_nil⟩⟩, mixed⟩
theorem speckSortStableFunc_Sint_int_iTableChoose_1 (N : Nat) : Spec Try.prog (conkSortStableFunc_Sint_int_iTableChoose_1 N) :=
  Spec.of_eq (fn_spec (cxkSortStableFunc_Sint_int_iTableChoose_1 N) (f := 60) (fn := Try.f60) (c := codeOf Try.f60) (by kernel_rfl) (by kernel_rfl) (by kernel_rfl) (loops_at (ids := []) (by kernel_rfl) (trivial)) (by kernel_rfl)) (fun x r h => (FkSortStableFunc_Sint_int_iTableChoose_1_eq N x).trans h)

/-! ### 18: impl.TableChoose -/

noncomputable def diniTableChoose : Desc := { n := 3, regs := [.one (.val (.sl (.pair (.int .i64) (.pair (.int .i64) (.pair (.int .i64) (.pair (.int .i64) (.pair (.int .i64) .unit))))))), .one (.val (.int .i64)), .one (.val (.sl (.int .i64)))], bx := [], pins := [] }
noncomputable def outiTableChoose : Outs := [(.ret, { n := 2, regs := [.one (.lit (.row 1025600)), .one (.lit (.row 1025664))], bx := [(1025600, .row (.int .i64)), (1025664, .row (.int .i64))], pins := [] })]
noncomputable def HiTableChoose : Hints := [(0, [(0, { fz := true })]),
  (2, [(0, { nl := [(0, (.int .i64))] }), (1, { nl := [(0, (.int .i64))] })]),
  (3, [(0, { nl := [(0, (.int .i64))] })]),
  (7, [(16, { con := 1 }), (23, { con := 2 })]),
  (10, [(2, { con := 3, sg := [(0, 1038400)] })]),
  (11, [(0, { nl := [(0, (.int .i64))] }), (1, { nl := [(0, (.int .i64))] })])]
noncomputable def EiTableChoose (N : Nat) : Env := { te := TE, cs := [coniTableOk N, coniRegionBase N, conkContains_Sint_int N, conkSortStableFunc_Sint_int_iTableChoose_1 N] }
noncomputable def diTableChoose_0 : Desc := { n := 98, regs := [u, .one (.val (.int .i64)), .one (.val (.sl (.int .i64))), .one (.fpt (.sl (.pair (.int .i64) (.pair (.int .i64) (.pair (.int .i64) (.pair (.int .i64) (.pair (.int .i64) .unit))))))), u, u, u, u, .one (.lit (.row 1038400)), u, u, u, u, u, u, u, u, u, .one (.val (.sl (.pair (.int .i64) (.pair (.int .i64) (.pair (.int .i64) (.pair (.int .i64) (.pair (.int .i64) .unit))))))), .one (.val (.int .i64)), .one (.val (.int .i64))], bx := [(1038400, .row (.int .i64))], pins := [] }
noncomputable def oiTableChoose_0 : Outs := [(.exit 0, { n := 98, regs := [u, .one (.val (.int .i64)), u, .one (.fpt (.sl (.pair (.int .i64) (.pair (.int .i64) (.pair (.int .i64) (.pair (.int .i64) (.pair (.int .i64) .unit))))))), u, u, u, u, .one (.lit (.row 1038400))], bx := [(1038400, .row (.int .i64))], pins := [] })]
noncomputable def diTableChoose_2 : Desc := { n := 98, regs := [u, .one (.val (.int .i64)), u, .one (.fpt (.sl (.pair (.int .i64) (.pair (.int .i64) (.pair (.int .i64) (.pair (.int .i64) (.pair (.int .i64) .unit))))))), u, u, u, u, u, u, u, .one (.lit (.row 1140800)), .one (.lit (.row 1140864)), u, u, u, u, u, u, u, u, u, u, u, u, u, u, u, u, u, u, u, u, u, u, u, u, u, u, u, u, u, u, u, u, u, u, u, u, u, u, u, u, u, u, u, u, u, u, .one (.lit (.row 1038400)), .one (.val (.int .i64)), .one (.val (.int .i64))], bx := [(1140800, .row (.int .i64)), (1140864, .row (.int .i64)), (1038400, .row (.int .i64))], pins := [] }
noncomputable def oiTableChoose_2 : Outs := [(.exit 2, { n := 98, regs := [u, u, u, u, u, u, u, u, u, u, u, .one (.lit (.row 1140800)), .one (.lit (.row 1140864))], bx := [(1140800, .row (.int .i64)), (1140864, .row (.int .i64))], pins := [] })]
noncomputable def liTableChoose_0 (N : Nat) : Nat → (Int × ((List Int) × ((List (Int × (Int × (Int × (Int × (Int × Unit)))))) × ((List (Int × (Int × (Int × (Int × (Int × Unit)))))) × (Int × (Int × ((List Int) × Unit))))))) → Option (Int × ((List (Int × (Int × (Int × (Int × (Int × Unit)))))) × ((List Int) × Unit)))
  | 0, _ => none
  | n + 1, v =>
    bif decide (v.2.2.2.2.2.1 < v.2.2.2.2.1) then
     bif decide (0 ≤ v.2.2.2.2.2.1) then
     bif decide (v.2.2.2.2.2.1.toNat < v.2.2.2.1.length) then
     let y2 := v.2.2.2.1.getD v.2.2.2.2.2.1.toNat ((0 : Int), (0 : Int), (0 : Int), (0 : Int), (0 : Int), ())
     bif y2.1 == (3 : Int) then
      bif y2.2.2.1 == y2.2.2.2.1 then
       (FiRegionBase N (v.2.2.2.2.2.1, ())).bind fun r3 =>
       let y4 := decide (y2.2.2.2.2.1 < (w64 (y2.2.2.1 - r3.1)))
       bif y4 then
        (FkContains_Sint_int N (v.2.1, v.2.2.2.2.2.1, ())).bind fun r5 =>
        bif !r5.1 then
         bif decide (v.2.2.2.2.2.2.1.length + [v.2.2.2.2.2.1].length ≤ lim) then
         liTableChoose_0 N n (v.1, v.2.1, v.2.2.1, v.2.2.2.1, v.2.2.2.2.1, w64 (v.2.2.2.2.2.1 + (1 : Int)), v.2.2.2.2.2.2.1 ++ [v.2.2.2.2.2.1], ())
         else none
        else
        liTableChoose_0 N n (v.1, v.2.1, v.2.2.1, v.2.2.2.1, v.2.2.2.2.1, w64 (v.2.2.2.2.2.1 + (1 : Int)), v.2.2.2.2.2.2.1, ())
       else
       liTableChoose_0 N n (v.1, v.2.1, v.2.2.1, v.2.2.2.1, v.2.2.2.2.1, w64 (v.2.2.2.2.2.1 + (1 : Int)), v.2.2.2.2.2.2.1, ())
      else
      liTableChoose_0 N n (v.1, v.2.1, v.2.2.1, v.2.2.2.1, v.2.2.2.2.1, w64 (v.2.2.2.2.2.1 + (1 : Int)), v.2.2.2.2.2.2.1, ())
     else
     liTableChoose_0 N n (v.1, v.2.1, v.2.2.1, v.2.2.2.1, v.2.2.2.2.1, w64 (v.2.2.2.2.2.1 + (1 : Int)), v.2.2.2.2.2.2.1, ())
     else none
     else none
    else
    some (v.1, v.2.2.1, v.2.2.2.2.2.2.1, ())
noncomputable def liTableChoose_2 (N : Nat) : Nat → (Int × ((List (Int × (Int × (Int × (Int × (Int × Unit)))))) × (Int × (Int × ((List Int) × ((List Int) × ((List Int) × Unit))))))) → Option ((List Int) × ((List Int) × Unit))
  | 0, _ => none
  | n + 1, v =>
    bif decide (v.2.2.2.1 < v.2.2.1) then
     bif decide (0 ≤ v.2.2.2.1) then
     bif decide (v.2.2.2.1.toNat < v.2.2.2.2.2.2.1.length) then
     let y8 := v.2.2.2.2.2.2.1.getD v.2.2.2.1.toNat (0 : Int)
     bif decide (0 ≤ y8) then
     bif decide (y8.toNat < v.2.1.length) then
     let y9 := v.2.1.getD y8.toNat ((0 : Int), (0 : Int), (0 : Int), (0 : Int), (0 : Int), ())
     bif y9.2.2.2.2.1 == (0 : Int) then
      bif decide (v.2.2.2.2.2.1.length + [y8].length ≤ lim) then
      liTableChoose_2 N n (v.1, v.2.1, v.2.2.1, w64 (v.2.2.2.1 + (1 : Int)), v.2.2.2.2.1, v.2.2.2.2.2.1 ++ [y8], v.2.2.2.2.2.2.1, ())
      else none
     else
     bif decide (0 ≤ y8) then
     bif decide (y8.toNat < v.2.1.length) then
     let y10 := v.2.1.getD y8.toNat ((0 : Int), (0 : Int), (0 : Int), (0 : Int), (0 : Int), ())
     bif decide (y10.2.2.2.2.1 ≤ v.1) then
      bif decide (v.2.2.2.2.1.length + [y8].length ≤ lim) then
      bif decide (0 ≤ y8) then
      bif decide (y8.toNat < v.2.1.length) then
      let y11 := v.2.1.getD y8.toNat ((0 : Int), (0 : Int), (0 : Int), (0 : Int), (0 : Int), ())
      liTableChoose_2 N n (w64 (v.1 - y11.2.2.2.2.1), v.2.1, v.2.2.1, w64 (v.2.2.2.1 + (1 : Int)), v.2.2.2.2.1 ++ [y8], v.2.2.2.2.2.1, v.2.2.2.2.2.2.1, ())
      else none
      else none
      else none
     else
     liTableChoose_2 N n (v.1, v.2.1, v.2.2.1, w64 (v.2.2.2.1 + (1 : Int)), v.2.2.2.2.1, v.2.2.2.2.2.1, v.2.2.2.2.2.2.1, ())
     else none
     else none
     else none
     else none
     else none
     else none
    else
    some (v.2.2.2.2.1, v.2.2.2.2.2.1, ())
noncomputable def FiTableChoose (N : Nat) (x : ((List (Int × (Int × (Int × (Int × (Int × Unit)))))) × (Int × ((List Int) × Unit)))) : Option ((List Int) × ((List Int) × Unit)) :=
  (FiTableOk N (x.1, ())).bind fun r1 =>
  bif !r1.1 then
   some (([] : (List Int)), ([] : (List Int)), ())
  else
  (liTableChoose_0 N N (x.2.1, x.2.2.1, x.1, x.1, (x.1.length : Int), (0 : Int), ([] : (List Int)), ())).bind fun o6 =>
  (FkSortStableFunc_Sint_int_iTableChoose_1 N (o6.2.1, o6.2.2.1, ())).bind fun r7 =>
  (liTableChoose_2 N N (o6.1, o6.2.1, (r7.1.length : Int), (0 : Int), ([] : (List Int)), ([] : (List Int)), r7.1, ())).bind fun o12 =>
  some (o12.1, o12.2.1, ())
noncomputable def coniTableChoose (N : Nat) : Con := { f := 18, din := diniTableChoose, outs := outiTableChoose, F := FiTableChoose N }
noncomputable def XiTableChoose (N : Nat) : Ctx := { E := EiTableChoose N, H := HiTableChoose, lp := [(0, { hd := diTableChoose_0, outs := oiTableChoose_0, run := fun v => liTableChoose_0 N N v }), (2, { hd := diTableChoose_2, outs := oiTableChoose_2, run := fun v => liTableChoose_2 N N v })], jn := [] }
noncomputable def biTableChoose_2 : Code := loopBody (codeOf Try.f18) 1
noncomputable def biTableChoose_0 : Code := loopBody (codeOf Try.f18) 0
theorem FiTableChoose_eq (N : Nat) (x : ((List (Int × (Int × (Int × (Int × (Int × Unit)))))) × (Int × ((List Int) × Unit)))) : evFn (XiTableChoose N) Try.f18 diniTableChoose outiTableChoose x = FiTableChoose N x := by kernel_rfl
theorem liTableChoose_0_eq (N n : Nat) (v : (Int × ((List Int) × ((List (Int × (Int × (Int × (Int × (Int × Unit)))))) × ((List (Int × (Int × (Int × (Int × (Int × Unit)))))) × (Int × (Int × ((List Int) × Unit)))))))) : liTableChoose_0 N (n + 1) v = ev (XiTableChoose N) biTableChoose_0 (roundK diTableChoose_0 oiTableChoose_0 (liTableChoose_0 N n)) (diTableChoose_0.mk' v) := by kernel_rfl
theorem liTableChoose_2_eq (N n : Nat) (v : (Int × ((List (Int × (Int × (Int × (Int × (Int × Unit)))))) × (Int × (Int × ((List Int) × ((List Int) × ((List Int) × Unit)))))))) : liTableChoose_2 N (n + 1) v = ev (XiTableChoose N) biTableChoose_2 (roundK diTableChoose_2 oiTableChoose_2 (liTableChoose_2 N n)) (diTableChoose_2.mk' v) := by kernel_rfl
theorem cxiTableChoose (N : Nat) : CtxOk Try.prog (XiTableChoose N) := ⟨⟨TE_ok, List.forall_mem_cons.2 ⟨speciTableOk N, List.forall_mem_cons.2 ⟨speciRegionBase N, List.forall_mem_cons.2 ⟨speckContains_Sint_int N, List.forall_mem_cons.2 ⟨speckSortStableFunc_Sint_int_iTableChoose_1 N, fun k hk => absurd hk List.not_mem_nil⟩⟩⟩⟩⟩, mixed⟩
theorem lpiTableChoose_0 (N : Nat) : LoopOk Try.prog { hd := diTableChoose_0, outs := oiTableChoose_0, run := fun v => liTableChoose_0 N N v } biTableChoose_0 :=
  loop_fuel (d := diTableChoose_0) (os := oiTableChoose_0) (cxiTableChoose N) (loops_at (ids := []) (by kernel_rfl) (trivial)) (liTableChoose_0 N) (fun _ => rfl) (fun n v => liTableChoose_0_eq N n v) (fun _ => N)
theorem lpiTableChoose_2 (N : Nat) : LoopOk Try.prog { hd := diTableChoose_2, outs := oiTableChoose_2, run := fun v => liTableChoose_2 N N v } biTableChoose_2 :=
  loop_fuel (d := diTableChoose_2) (os := oiTableChoose_2) (cxiTableChoose N) (loops_at (ids := []) (by kernel_rfl) (trivial)) (liTableChoose_2 N) (fun _ => rfl) (fun n v => liTableChoose_2_eq N n v) (fun _ => N)
theorem speciTableChoose (N : Nat) : Spec Try.prog (coniTableChoose N) :=
  Spec.of_eq (fn_spec (cxiTableChoose N) (f := 18) (fn := Try.f18) (c := codeOf Try.f18) (by kernel_rfl) (by kernel_rfl) (by kernel_rfl) (loops_at (ids := [0, 2]) (by kernel_rfl) ⟨lp_of (lpiTableChoose_0 N), ⟨lp_of (lpiTableChoose_2 N), trivial⟩⟩) (by kernel_rfl)) (fun x r h => (FiTableChoose_eq N x).trans h)

/-! ### 19: laws.eqIntS -/

noncomputable def dinveqIntS : Desc := { n := 2, regs := [.one (.val (.sl (.int .i64))), .one (.val (.sl (.int .i64)))], bx := [], pins := [] }
noncomputable def outveqIntS : Outs := [(.ret, { n := 1, regs := [.one (.val .bool)], bx := [], pins := [] })]
noncomputable def HveqIntS : Hints := []
noncomputable def EveqIntS (_N : Nat) : Env := { te := TE, cs := [] }
noncomputable def dveqIntS_0 : Desc := { n := 26, regs := [.one (.val (.sl (.int .i64))), .one (.val (.sl (.int .i64))), u, u, u, .one (.val (.int .i64))], bx := [], pins := [] }
noncomputable def oveqIntS_0 : Outs := [(.exit 0, { n := 26, regs := [], bx := [], pins := [] }), (.ret, { n := 26, regs := [u, u, u, u, .one (.val .bool)], bx := [], pins := [] })]
noncomputable def lveqIntS_0 (N : Nat) : Nat → ((List Int) × ((List Int) × (Int × Unit))) → Option (Unit ⊕ (Bool × Unit))
  | 0, _ => none
  | n + 1, v =>
    let y2 := decide (v.2.2.1 < (v.1.length : Int))
    bif y2 then
     bif decide (0 ≤ v.2.2.1) then
     bif decide (v.2.2.1.toNat < v.1.length) then
     bif decide (0 ≤ v.2.2.1) then
     bif decide (v.2.2.1.toNat < v.2.1.length) then
     let y3 := (v.1.getD v.2.2.1.toNat (0 : Int)) != (v.2.1.getD v.2.2.1.toNat (0 : Int))
     bif y3 then
      some (.inr ((false, ())))
     else
     lveqIntS_0 N n (v.1, v.2.1, w64 (v.2.2.1 + (1 : Int)), ())
     else none
     else none
     else none
     else none
    else
    some (.inl ())
noncomputable def FveqIntS (N : Nat) (x : ((List Int) × ((List Int) × Unit))) : Option (Bool × Unit) :=
  let y1 := (x.1.length : Int) != (x.2.1.length : Int)
  bif y1 then
   some (false, ())
  else
  (lveqIntS_0 N N (x.1, x.2.1, (0 : Int), ())).bind fun o4 =>
  Sum.elim (fun o5 =>
   some (true, ())) (fun o6 =>
   some (o6.1, ())) o4
noncomputable def conveqIntS (N : Nat) : Con := { f := 19, din := dinveqIntS, outs := outveqIntS, F := FveqIntS N }
noncomputable def XveqIntS (N : Nat) : Ctx := { E := EveqIntS N, H := HveqIntS, lp := [(0, { hd := dveqIntS_0, outs := oveqIntS_0, run := fun v => lveqIntS_0 N N v })], jn := [] }
noncomputable def bveqIntS_0 : Code := loopBody (codeOf Try.f19) 0
theorem FveqIntS_eq (N : Nat) (x : ((List Int) × ((List Int) × Unit))) : evFn (XveqIntS N) Try.f19 dinveqIntS outveqIntS x = FveqIntS N x := by kernel_rfl
theorem lveqIntS_0_eq (N n : Nat) (v : ((List Int) × ((List Int) × (Int × Unit)))) : lveqIntS_0 N (n + 1) v = ev (XveqIntS N) bveqIntS_0 (roundK dveqIntS_0 oveqIntS_0 (lveqIntS_0 N n)) (dveqIntS_0.mk' v) := by kernel_rfl
theorem cxveqIntS (N : Nat) : CtxOk Try.prog (XveqIntS N) := ⟨⟨TE_ok, fun k hk => absurd hk List.not_mem_nil⟩, mixed⟩
theorem lpveqIntS_0 (N : Nat) : LoopOk Try.prog { hd := dveqIntS_0, outs := oveqIntS_0, run := fun v => lveqIntS_0 N N v } bveqIntS_0 :=
  loop_fuel (d := dveqIntS_0) (os := oveqIntS_0) (cxveqIntS N) (loops_at (ids := []) (by kernel_rfl) (trivial)) (lveqIntS_0 N) (fun _ => rfl) (fun n v => lveqIntS_0_eq N n v) (fun _ => N)
theorem specveqIntS (N : Nat) : Spec Try.prog (conveqIntS N) :=
  Spec.of_eq (fn_spec (cxveqIntS N) (f := 19) (fn := Try.f19) (c := codeOf Try.f19) (by kernel_rfl) (by kernel_rfl) (by kernel_rfl) (loops_at (ids := [0]) (by kernel_rfl) ⟨lp_of (lpveqIntS_0 N), trivial⟩) (by kernel_rfl)) (fun x r h => (FveqIntS_eq N x).trans h)

/-! ### 63: laws.eqRegion -/

noncomputable def dinveqRegion : Desc := { n := 2, regs := [.one (.val (.pair (.int .i64) (.pair (.int .i64) (.pair (.int .i64) (.pair (.int .i64) (.pair (.int .i64) .unit)))))), .one (.val (.pair (.int .i64) (.pair (.int .i64) (.pair (.int .i64) (.pair (.int .i64) (.pair (.int .i64) .unit))))))], bx := [], pins := [] }
noncomputable def outveqRegion : Outs := [(.ret, { n := 1, regs := [.one (.val .bool)], bx := [], pins := [] })]
noncomputable def HveqRegion : Hints := [(0, [(0, { fz := true }), (1, { fz := true })])]
noncomputable def EveqRegion (_N : Nat) : Env := { te := TE, cs := [] }
noncomputable def FveqRegion (N : Nat) (x : ((Int × (Int × (Int × (Int × (Int × Unit))))) × ((Int × (Int × (Int × (Int × (Int × Unit))))) × Unit))) : Option (Bool × Unit) :=
  bif x.1.1 != x.2.1.1 then
   some (false, ())
  else
  bif x.1.2.1 != x.2.1.2.1 then
   some (false, ())
  else
  bif x.1.2.2.1 != x.2.1.2.2.1 then
   some (false, ())
  else
  bif x.1.2.2.2.1 != x.2.1.2.2.2.1 then
   some (false, ())
  else
  bif x.1.2.2.2.2.1 != x.2.1.2.2.2.2.1 then
   some (false, ())
  else
  some (true, ())
noncomputable def conveqRegion (N : Nat) : Con := { f := 63, din := dinveqRegion, outs := outveqRegion, F := FveqRegion N }
noncomputable def XveqRegion (N : Nat) : Ctx := { E := EveqRegion N, H := HveqRegion, lp := [], jn := [] }
theorem FveqRegion_eq (N : Nat) (x : ((Int × (Int × (Int × (Int × (Int × Unit))))) × ((Int × (Int × (Int × (Int × (Int × Unit))))) × Unit))) : evFn (XveqRegion N) Try.f63 dinveqRegion outveqRegion x = FveqRegion N x := by kernel_rfl
theorem cxveqRegion (N : Nat) : CtxOk Try.prog (XveqRegion N) := ⟨⟨TE_ok, fun k hk => absurd hk List.not_mem_nil⟩, mixed⟩
theorem specveqRegion (N : Nat) : Spec Try.prog (conveqRegion N) :=
  Spec.of_eq (fn_spec (cxveqRegion N) (f := 63) (fn := Try.f63) (c := codeOf Try.f63) (by kernel_rfl) (by kernel_rfl) (by kernel_rfl) (loops_at (ids := []) (by kernel_rfl) (trivial)) (by kernel_rfl)) (fun x r h => (FveqRegion_eq N x).trans h)

/-! ### 20: laws.eqRegionS -/

noncomputable def dinveqRegionS : Desc := { n := 2, regs := [.one (.val (.sl (.pair (.int .i64) (.pair (.int .i64) (.pair (.int .i64) (.pair (.int .i64) (.pair (.int .i64) .unit))))))), .one (.val (.sl (.pair (.int .i64) (.pair (.int .i64) (.pair (.int .i64) (.pair (.int .i64) (.pair (.int .i64) .unit)))))))], bx := [], pins := [] }
noncomputable def outveqRegionS : Outs := [(.ret, { n := 1, regs := [.one (.val .bool)], bx := [], pins := [] })]
noncomputable def HveqRegionS : Hints := []
noncomputable def EveqRegionS (N : Nat) : Env := { te := TE, cs := [conveqRegion N] }
noncomputable def dveqRegionS_0 : Desc := { n := 27, regs := [.one (.val (.sl (.pair (.int .i64) (.pair (.int .i64) (.pair (.int .i64) (.pair (.int .i64) (.pair (.int .i64) .unit))))))), .one (.val (.sl (.pair (.int .i64) (.pair (.int .i64) (.pair (.int .i64) (.pair (.int .i64) (.pair (.int .i64) .unit))))))), u, u, u, .one (.val (.int .i64))], bx := [], pins := [] }
noncomputable def oveqRegionS_0 : Outs := [(.exit 0, { n := 27, regs := [], bx := [], pins := [] }), (.ret, { n := 27, regs := [u, u, u, u, .one (.val .bool)], bx := [], pins := [] })]
noncomputable def lveqRegionS_0 (N : Nat) : Nat → ((List (Int × (Int × (Int × (Int × (Int × Unit)))))) × ((List (Int × (Int × (Int × (Int × (Int × Unit)))))) × (Int × Unit))) → Option (Unit ⊕ (Bool × Unit))
  | 0, _ => none
  | n + 1, v =>
    let y2 := decide (v.2.2.1 < (v.1.length : Int))
    bif y2 then
     bif decide (0 ≤ v.2.2.1) then
     bif decide (v.2.2.1.toNat < v.1.length) then
     let y3 := v.1.getD v.2.2.1.toNat ((0 : Int), (0 : Int), (0 : Int), (0 : Int), (0 : Int), ())
     bif decide (0 ≤ v.2.2.1) then
     bif decide (v.2.2.1.toNat < v.2.1.length) then
     let y4 := v.2.1.getD v.2.2.1.toNat ((0 : Int), (0 : Int), (0 : Int), (0 : Int), (0 : Int), ())
     (FveqRegion N (y3, y4, ())).bind fun r5 =>
     bif !r5.1 then
      some (.inr ((false, ())))
     else
     lveqRegionS_0 N n (v.1, v.2.1, w64 (v.2.2.1 + (1 : Int)), ())
     else none
     else none
     else none
     else none
    else
    some (.inl ())
noncomputable def FveqRegionS (N : Nat) (x : ((List (Int × (Int × (Int × (Int × (Int × Unit)))))) × ((List (Int × (Int × (Int × (Int × (Int × Unit)))))) × Unit))) : Option (Bool × Unit) :=
  let y1 := (x.1.length : Int) != (x.2.1.length : Int)
  bif y1 then
   some (false, ())
  else
  (lveqRegionS_0 N N (x.1, x.2.1, (0 : Int), ())).bind fun o6 =>
  Sum.elim (fun o7 =>
   some (true, ())) (fun o8 =>
   some (o8.1, ())) o6
noncomputable def conveqRegionS (N : Nat) : Con := { f := 20, din := dinveqRegionS, outs := outveqRegionS, F := FveqRegionS N }
noncomputable def XveqRegionS (N : Nat) : Ctx := { E := EveqRegionS N, H := HveqRegionS, lp := [(0, { hd := dveqRegionS_0, outs := oveqRegionS_0, run := fun v => lveqRegionS_0 N N v })], jn := [] }
noncomputable def bveqRegionS_0 : Code := loopBody (codeOf Try.f20) 0
theorem FveqRegionS_eq (N : Nat) (x : ((List (Int × (Int × (Int × (Int × (Int × Unit)))))) × ((List (Int × (Int × (Int × (Int × (Int × Unit)))))) × Unit))) : evFn (XveqRegionS N) Try.f20 dinveqRegionS outveqRegionS x = FveqRegionS N x := by kernel_rfl
theorem lveqRegionS_0_eq (N n : Nat) (v : ((List (Int × (Int × (Int × (Int × (Int × Unit)))))) × ((List (Int × (Int × (Int × (Int × (Int × Unit)))))) × (Int × Unit)))) : lveqRegionS_0 N (n + 1) v = ev (XveqRegionS N) bveqRegionS_0 (roundK dveqRegionS_0 oveqRegionS_0 (lveqRegionS_0 N n)) (dveqRegionS_0.mk' v) := by kernel_rfl
theorem cxveqRegionS (N : Nat) : CtxOk Try.prog (XveqRegionS N) := ⟨⟨TE_ok, List.forall_mem_cons.2 ⟨specveqRegion N, fun k hk => absurd hk List.not_mem_nil⟩⟩, mixed⟩
theorem lpveqRegionS_0 (N : Nat) : LoopOk Try.prog { hd := dveqRegionS_0, outs := oveqRegionS_0, run := fun v => lveqRegionS_0 N N v } bveqRegionS_0 :=
  loop_fuel (d := dveqRegionS_0) (os := oveqRegionS_0) (cxveqRegionS N) (loops_at (ids := []) (by kernel_rfl) (trivial)) (lveqRegionS_0 N) (fun _ => rfl) (fun n v => lveqRegionS_0_eq N n v) (fun _ => N)
theorem specveqRegionS (N : Nat) : Spec Try.prog (conveqRegionS N) :=
  Spec.of_eq (fn_spec (cxveqRegionS N) (f := 20) (fn := Try.f20) (c := codeOf Try.f20) (by kernel_rfl) (by kernel_rfl) (by kernel_rfl) (loops_at (ids := [0]) (by kernel_rfl) ⟨lp_of (lpveqRegionS_0 N), trivial⟩) (by kernel_rfl)) (fun x r h => (FveqRegionS_eq N x).trans h)

/-! ### 21: laws.markRegionS -/

noncomputable def dinvmarkRegionS : Desc := { n := 2, regs := [.one (.lit (.row 0)), .one (.val (.int .i64))], bx := [(0, .row (.pair (.int .i64) (.pair (.int .i64) (.pair (.int .i64) (.pair (.int .i64) (.pair (.int .i64) .unit))))))], pins := [] }
noncomputable def outvmarkRegionS : Outs := [(.ret, { n := 1, regs := [.one (.val (.int .i64))], bx := [(0, .row (.pair (.int .i64) (.pair (.int .i64) (.pair (.int .i64) (.pair (.int .i64) (.pair (.int .i64) .unit))))))], pins := [.one (.lit (.row 0))] })]
noncomputable def HvmarkRegionS : Hints := []
noncomputable def EvmarkRegionS (_N : Nat) : Env := { te := TE, cs := [] }
noncomputable def dvmarkRegionS_0 : Desc := { n := 48, regs := [.one (.lit (.row 0)), .one (.val (.int .i64)), u, u, u, .one (.val (.int .i64))], bx := [(0, .row (.pair (.int .i64) (.pair (.int .i64) (.pair (.int .i64) (.pair (.int .i64) (.pair (.int .i64) .unit))))))], pins := [.one (.lit (.row 0))] }
noncomputable def ovmarkRegionS_0 : Outs := [(.exit 0, { n := 48, regs := [u, .one (.val (.int .i64))], bx := [(0, .row (.pair (.int .i64) (.pair (.int .i64) (.pair (.int .i64) (.pair (.int .i64) (.pair (.int .i64) .unit))))))], pins := [.one (.lit (.row 0))] })]
noncomputable def lvmarkRegionS_0 (N : Nat) : Nat → (Int × (Int × ((List (Int × (Int × (Int × (Int × (Int × Unit)))))) × Unit))) → Option (Int × ((List (Int × (Int × (Int × (Int × (Int × Unit)))))) × Unit))
  | 0, _ => none
  | n + 1, v =>
    let y1 := decide (v.2.1 < (v.2.2.1.length : Int))
    bif y1 then
     bif decide (0 ≤ v.2.1) then
     bif decide (v.2.1.toNat < v.2.2.1.length) then
     let y2 := v.2.2.1.set v.2.1.toNat (v.1, (v.2.2.1.getD v.2.1.toNat ((0 : Int), (0 : Int), (0 : Int), (0 : Int), (0 : Int), ())).2)
     bif decide (0 ≤ v.2.1) then
     bif decide (v.2.1.toNat < y2.length) then
     let y3 := y2.set v.2.1.toNat ((y2.getD v.2.1.toNat ((0 : Int), (0 : Int), (0 : Int), (0 : Int), (0 : Int), ())).1, w64 (v.1 + (1 : Int)), ((y2.getD v.2.1.toNat ((0 : Int), (0 : Int), (0 : Int), (0 : Int), (0 : Int), ())).2).2)
     let y4 := w64 ((w64 (v.1 + (1 : Int))) + (1 : Int))
     bif decide (0 ≤ v.2.1) then
     bif decide (v.2.1.toNat < y3.length) then
     let y5 := y3.set v.2.1.toNat ((y3.getD v.2.1.toNat ((0 : Int), (0 : Int), (0 : Int), (0 : Int), (0 : Int), ())).1, ((y3.getD v.2.1.toNat ((0 : Int), (0 : Int), (0 : Int), (0 : Int), (0 : Int), ())).2).1, y4, (((y3.getD v.2.1.toNat ((0 : Int), (0 : Int), (0 : Int), (0 : Int), (0 : Int), ())).2).2).2)
     bif decide (0 ≤ v.2.1) then
     bif decide (v.2.1.toNat < y5.length) then
     let y6 := y5.set v.2.1.toNat ((y5.getD v.2.1.toNat ((0 : Int), (0 : Int), (0 : Int), (0 : Int), (0 : Int), ())).1, ((y5.getD v.2.1.toNat ((0 : Int), (0 : Int), (0 : Int), (0 : Int), (0 : Int), ())).2).1, (((y5.getD v.2.1.toNat ((0 : Int), (0 : Int), (0 : Int), (0 : Int), (0 : Int), ())).2).2).1, w64 (y4 + (1 : Int)), ((((y5.getD v.2.1.toNat ((0 : Int), (0 : Int), (0 : Int), (0 : Int), (0 : Int), ())).2).2).2).2)
     let y7 := w64 ((w64 (y4 + (1 : Int))) + (1 : Int))
     bif decide (0 ≤ v.2.1) then
     bif decide (v.2.1.toNat < y6.length) then
     let y8 := y6.set v.2.1.toNat ((y6.getD v.2.1.toNat ((0 : Int), (0 : Int), (0 : Int), (0 : Int), (0 : Int), ())).1, ((y6.getD v.2.1.toNat ((0 : Int), (0 : Int), (0 : Int), (0 : Int), (0 : Int), ())).2).1, (((y6.getD v.2.1.toNat ((0 : Int), (0 : Int), (0 : Int), (0 : Int), (0 : Int), ())).2).2).1, ((((y6.getD v.2.1.toNat ((0 : Int), (0 : Int), (0 : Int), (0 : Int), (0 : Int), ())).2).2).2).1, y7, (((((y6.getD v.2.1.toNat ((0 : Int), (0 : Int), (0 : Int), (0 : Int), (0 : Int), ())).2).2).2).2).2)
     lvmarkRegionS_0 N n (w64 (y7 + (1 : Int)), w64 (v.2.1 + (1 : Int)), y8, ())
     else none
     else none
     else none
     else none
     else none
     else none
     else none
     else none
     else none
     else none
    else
    some (v.1, v.2.2.1, ())
noncomputable def FvmarkRegionS (N : Nat) (x : (Int × ((List (Int × (Int × (Int × (Int × (Int × Unit)))))) × Unit))) : Option (Int × ((List (Int × (Int × (Int × (Int × (Int × Unit)))))) × Unit)) :=
  (lvmarkRegionS_0 N N (x.1, (0 : Int), x.2.1, ())).bind fun o9 =>
  some (o9.1, o9.2.1, ())
noncomputable def convmarkRegionS (N : Nat) : Con := { f := 21, din := dinvmarkRegionS, outs := outvmarkRegionS, F := FvmarkRegionS N }
noncomputable def XvmarkRegionS (N : Nat) : Ctx := { E := EvmarkRegionS N, H := HvmarkRegionS, lp := [(0, { hd := dvmarkRegionS_0, outs := ovmarkRegionS_0, run := fun v => lvmarkRegionS_0 N N v })], jn := [] }
noncomputable def bvmarkRegionS_0 : Code := loopBody (codeOf Try.f21) 0
theorem FvmarkRegionS_eq (N : Nat) (x : (Int × ((List (Int × (Int × (Int × (Int × (Int × Unit)))))) × Unit))) : evFn (XvmarkRegionS N) Try.f21 dinvmarkRegionS outvmarkRegionS x = FvmarkRegionS N x := by kernel_rfl
theorem lvmarkRegionS_0_eq (N n : Nat) (v : (Int × (Int × ((List (Int × (Int × (Int × (Int × (Int × Unit)))))) × Unit)))) : lvmarkRegionS_0 N (n + 1) v = ev (XvmarkRegionS N) bvmarkRegionS_0 (roundK dvmarkRegionS_0 ovmarkRegionS_0 (lvmarkRegionS_0 N n)) (dvmarkRegionS_0.mk' v) := by kernel_rfl
theorem cxvmarkRegionS (N : Nat) : CtxOk Try.prog (XvmarkRegionS N) := ⟨⟨TE_ok, fun k hk => absurd hk List.not_mem_nil⟩, mixed⟩
theorem lpvmarkRegionS_0 (N : Nat) : LoopOk Try.prog { hd := dvmarkRegionS_0, outs := ovmarkRegionS_0, run := fun v => lvmarkRegionS_0 N N v } bvmarkRegionS_0 :=
  loop_fuel (d := dvmarkRegionS_0) (os := ovmarkRegionS_0) (cxvmarkRegionS N) (loops_at (ids := []) (by kernel_rfl) (trivial)) (lvmarkRegionS_0 N) (fun _ => rfl) (fun n v => lvmarkRegionS_0_eq N n v) (fun _ => N)
theorem specvmarkRegionS (N : Nat) : Spec Try.prog (convmarkRegionS N) :=
  Spec.of_eq (fn_spec (cxvmarkRegionS N) (f := 21) (fn := Try.f21) (c := codeOf Try.f21) (by kernel_rfl) (by kernel_rfl) (by kernel_rfl) (loops_at (ids := [0]) (by kernel_rfl) ⟨lp_of (lpvmarkRegionS_0 N), trivial⟩) (by kernel_rfl)) (fun x r h => (FvmarkRegionS_eq N x).trans h)

/-! ### 22: laws.markIntS -/

noncomputable def dinvmarkIntS : Desc := { n := 2, regs := [.one (.lit (.row 0)), .one (.val (.int .i64))], bx := [(0, .row (.int .i64))], pins := [] }
noncomputable def outvmarkIntS : Outs := [(.ret, { n := 1, regs := [.one (.val (.int .i64))], bx := [(0, .row (.int .i64))], pins := [.one (.lit (.row 0))] })]
noncomputable def HvmarkIntS : Hints := []
noncomputable def EvmarkIntS (_N : Nat) : Env := { te := TE, cs := [] }
noncomputable def dvmarkIntS_0 : Desc := { n := 19, regs := [.one (.lit (.row 0)), .one (.val (.int .i64)), u, u, u, .one (.val (.int .i64))], bx := [(0, .row (.int .i64))], pins := [.one (.lit (.row 0))] }
noncomputable def ovmarkIntS_0 : Outs := [(.exit 0, { n := 19, regs := [u, .one (.val (.int .i64))], bx := [(0, .row (.int .i64))], pins := [.one (.lit (.row 0))] })]
noncomputable def lvmarkIntS_0 (N : Nat) : Nat → (Int × (Int × ((List Int) × Unit))) → Option (Int × ((List Int) × Unit))
  | 0, _ => none
  | n + 1, v =>
    let y1 := decide (v.2.1 < (v.2.2.1.length : Int))
    bif y1 then
     bif decide (0 ≤ v.2.1) then
     bif decide (v.2.1.toNat < v.2.2.1.length) then
     lvmarkIntS_0 N n (w64 (v.1 + (1 : Int)), w64 (v.2.1 + (1 : Int)), v.2.2.1.set v.2.1.toNat v.1, ())
     else none
     else none
    else
    some (v.1, v.2.2.1, ())
noncomputable def FvmarkIntS (N : Nat) (x : (Int × ((List Int) × Unit))) : Option (Int × ((List Int) × Unit)) :=
  (lvmarkIntS_0 N N (x.1, (0 : Int), x.2.1, ())).bind fun o2 =>
  some (o2.1, o2.2.1, ())
noncomputable def convmarkIntS (N : Nat) : Con := { f := 22, din := dinvmarkIntS, outs := outvmarkIntS, F := FvmarkIntS N }
noncomputable def XvmarkIntS (N : Nat) : Ctx := { E := EvmarkIntS N, H := HvmarkIntS, lp := [(0, { hd := dvmarkIntS_0, outs := ovmarkIntS_0, run := fun v => lvmarkIntS_0 N N v })], jn := [] }
noncomputable def bvmarkIntS_0 : Code := loopBody (codeOf Try.f22) 0
theorem FvmarkIntS_eq (N : Nat) (x : (Int × ((List Int) × Unit))) : evFn (XvmarkIntS N) Try.f22 dinvmarkIntS outvmarkIntS x = FvmarkIntS N x := by kernel_rfl
theorem lvmarkIntS_0_eq (N n : Nat) (v : (Int × (Int × ((List Int) × Unit)))) : lvmarkIntS_0 N (n + 1) v = ev (XvmarkIntS N) bvmarkIntS_0 (roundK dvmarkIntS_0 ovmarkIntS_0 (lvmarkIntS_0 N n)) (dvmarkIntS_0.mk' v) := by kernel_rfl
theorem cxvmarkIntS (N : Nat) : CtxOk Try.prog (XvmarkIntS N) := ⟨⟨TE_ok, fun k hk => absurd hk List.not_mem_nil⟩, mixed⟩
theorem lpvmarkIntS_0 (N : Nat) : LoopOk Try.prog { hd := dvmarkIntS_0, outs := ovmarkIntS_0, run := fun v => lvmarkIntS_0 N N v } bvmarkIntS_0 :=
  loop_fuel (d := dvmarkIntS_0) (os := ovmarkIntS_0) (cxvmarkIntS N) (loops_at (ids := []) (by kernel_rfl) (trivial)) (lvmarkIntS_0 N) (fun _ => rfl) (fun n v => lvmarkIntS_0_eq N n v) (fun _ => N)
theorem specvmarkIntS (N : Nat) : Spec Try.prog (convmarkIntS N) :=
  Spec.of_eq (fn_spec (cxvmarkIntS N) (f := 22) (fn := Try.f22) (c := codeOf Try.f22) (by kernel_rfl) (by kernel_rfl) (by kernel_rfl) (loops_at (ids := [0]) (by kernel_rfl) ⟨lp_of (lpvmarkIntS_0 N), trivial⟩) (by kernel_rfl)) (fun x r h => (FvmarkIntS_eq N x).trans h)

/-! ### 23: laws.heldIntS -/

noncomputable def dinvheldIntS : Desc := { n := 2, regs := [.one (.val (.sl (.int .i64))), .one (.val (.int .i64))], bx := [], pins := [] }
noncomputable def outvheldIntS : Outs := [(.ret, { n := 1, regs := [.one (.val (.int .i64))], bx := [], pins := [] })]
noncomputable def HvheldIntS : Hints := []
noncomputable def EvheldIntS (_N : Nat) : Env := { te := TE, cs := [] }
noncomputable def dvheldIntS_0 : Desc := { n := 21, regs := [.one (.val (.sl (.int .i64))), .one (.val (.int .i64)), u, u, u, .one (.val (.int .i64))], bx := [], pins := [] }
noncomputable def ovheldIntS_0 : Outs := [(.exit 0, { n := 21, regs := [u, .one (.val (.int .i64))], bx := [], pins := [] }), (.ret, { n := 21, regs := [u, u, u, u, .one (.val (.int .i64))], bx := [], pins := [] })]
noncomputable def lvheldIntS_0 (N : Nat) : Nat → ((List Int) × (Int × (Int × Unit))) → Option ((Int × Unit) ⊕ (Int × Unit))
  | 0, _ => none
  | n + 1, v =>
    let y1 := decide (v.2.2.1 < (v.1.length : Int))
    bif y1 then
     bif decide (0 ≤ v.2.2.1) then
     bif decide (v.2.2.1.toNat < v.1.length) then
     let y2 := (v.1.getD v.2.2.1.toNat (0 : Int)) != v.2.1
     bif y2 then
      some (.inr (((-1 : Int), ())))
     else
     lvheldIntS_0 N n (v.1, w64 (v.2.1 + (1 : Int)), w64 (v.2.2.1 + (1 : Int)), ())
     else none
     else none
    else
    some (.inl (v.2.1, ()))
noncomputable def FvheldIntS (N : Nat) (x : ((List Int) × (Int × Unit))) : Option (Int × Unit) :=
  (lvheldIntS_0 N N (x.1, x.2.1, (0 : Int), ())).bind fun o3 =>
  Sum.elim (fun o4 =>
   some (o4.1, ())) (fun o5 =>
   some (o5.1, ())) o3
noncomputable def convheldIntS (N : Nat) : Con := { f := 23, din := dinvheldIntS, outs := outvheldIntS, F := FvheldIntS N }
noncomputable def XvheldIntS (N : Nat) : Ctx := { E := EvheldIntS N, H := HvheldIntS, lp := [(0, { hd := dvheldIntS_0, outs := ovheldIntS_0, run := fun v => lvheldIntS_0 N N v })], jn := [] }
noncomputable def bvheldIntS_0 : Code := loopBody (codeOf Try.f23) 0
theorem FvheldIntS_eq (N : Nat) (x : ((List Int) × (Int × Unit))) : evFn (XvheldIntS N) Try.f23 dinvheldIntS outvheldIntS x = FvheldIntS N x := by kernel_rfl
theorem lvheldIntS_0_eq (N n : Nat) (v : ((List Int) × (Int × (Int × Unit)))) : lvheldIntS_0 N (n + 1) v = ev (XvheldIntS N) bvheldIntS_0 (roundK dvheldIntS_0 ovheldIntS_0 (lvheldIntS_0 N n)) (dvheldIntS_0.mk' v) := by kernel_rfl
theorem cxvheldIntS (N : Nat) : CtxOk Try.prog (XvheldIntS N) := ⟨⟨TE_ok, fun k hk => absurd hk List.not_mem_nil⟩, mixed⟩
theorem lpvheldIntS_0 (N : Nat) : LoopOk Try.prog { hd := dvheldIntS_0, outs := ovheldIntS_0, run := fun v => lvheldIntS_0 N N v } bvheldIntS_0 :=
  loop_fuel (d := dvheldIntS_0) (os := ovheldIntS_0) (cxvheldIntS N) (loops_at (ids := []) (by kernel_rfl) (trivial)) (lvheldIntS_0 N) (fun _ => rfl) (fun n v => lvheldIntS_0_eq N n v) (fun _ => N)
theorem specvheldIntS (N : Nat) : Spec Try.prog (convheldIntS N) :=
  Spec.of_eq (fn_spec (cxvheldIntS N) (f := 23) (fn := Try.f23) (c := codeOf Try.f23) (by kernel_rfl) (by kernel_rfl) (by kernel_rfl) (loops_at (ids := [0]) (by kernel_rfl) ⟨lp_of (lpvheldIntS_0 N), trivial⟩) (by kernel_rfl)) (fun x r h => (FvheldIntS_eq N x).trans h)

/-! ### 3: laws.FnExactTableChoose -/

noncomputable def dinvFnExactTableChoose : Desc := { n := 3, regs := [.one (.val (.sl (.pair (.int .i64) (.pair (.int .i64) (.pair (.int .i64) (.pair (.int .i64) (.pair (.int .i64) .unit))))))), .one (.val (.int .i64)), .one (.val (.sl (.int .i64)))], bx := [], pins := [] }
noncomputable def outvFnExactTableChoose : Outs := [(.ret, { n := 1, regs := [.one (.val .bool)], bx := [], pins := [] })]
noncomputable def HvFnExactTableChoose : Hints := [(7, [(1, { con := 1 }), (4, { con := 2 }), (5, { con := 3 })]),
  (8, [(1, { con := 1 })]),
  (9, [(1, { con := 2 })]),
  (10, [(3, { con := 4 })]),
  (11, [(2, { con := 5 }), (7, { con := 5 })]),
  (13, [(2, { con := 1 }), (3, { con := 6 })]),
  (15, [(2, { con := 2 }), (3, { con := 5 })]),
  (18, [(2, { con := 7, sg := [(0, 1102465)] })]),
  (19, [(2, { con := 8, sg := [(0, 1115265)] })]),
  (20, [(5, { con := 5 }), (11, { con := 5 })]),
  (23, [(2, { con := 8, sg := [(0, 1128193)] })]),
  (24, [(2, { con := 8, sg := [(0, 1128194)] })]),
  (26, [(2, { con := 9 })]),
  (29, [(2, { con := 9 })]),
  (34, [(1, { con := 1 }), (4, { con := 2 }), (5, { con := 4 })]),
  (35, [(2, { con := 5 }), (7, { con := 5 })]),
  (38, [(2, { con := 9 })]),
  (41, [(2, { con := 9 })])]
noncomputable def EvFnExactTableChoose (N : Nat) : Env := { te := TE, cs := [convszRegionS N, convtoRegionS N, convtoIntS N, consTableChoose N, coniTableChoose N, conveqIntS N, conveqRegionS N, convmarkRegionS N, convmarkIntS N, convheldIntS N] }
noncomputable def jvFnExactTableChoose_13 : Outs := [(.normal, { n := 138, regs := [.one (.val (.sl (.pair (.int .i64) (.pair (.int .i64) (.pair (.int .i64) (.pair (.int .i64) (.pair (.int .i64) .unit))))))), .one (.val (.int .i64)), .one (.val (.sl (.int .i64))), u, u, u, u, u, .one (.lit (.row 1089921)), .one (.lit (.row 1089922)), .one (.lit (.row 1102465)), .one (.lit (.row 1115265)), .one (.lit (.row 1128193)), .one (.lit (.row 1128194))], bx := [(1089921, .row (.int .i64)), (1089922, .row (.int .i64)), (1102465, .row (.pair (.int .i64) (.pair (.int .i64) (.pair (.int .i64) (.pair (.int .i64) (.pair (.int .i64) .unit)))))), (1115265, .row (.int .i64)), (1128193, .row (.int .i64)), (1128194, .row (.int .i64))], pins := [] }), (.ret, { n := 138, regs := [u, u, u, u, u, u, .one (.val .bool)], bx := [], pins := [] })]
noncomputable def jvFnExactTableChoose_22 : Outs := [(.normal, { n := 138, regs := [.one (.val (.sl (.pair (.int .i64) (.pair (.int .i64) (.pair (.int .i64) (.pair (.int .i64) (.pair (.int .i64) .unit))))))), .one (.val (.int .i64)), .one (.val (.sl (.int .i64))), u, u, u, u, u, .one (.lit (.row 1089921)), .one (.lit (.row 1089922)), u, u, .one (.lit (.row 1128193)), .one (.lit (.row 1128194))], bx := [(1089921, .row (.int .i64)), (1089922, .row (.int .i64)), (1128193, .row (.int .i64)), (1128194, .row (.int .i64))], pins := [] }), (.ret, { n := 138, regs := [u, u, u, u, u, u, .one (.val .bool)], bx := [], pins := [] })]
noncomputable def jvFnExactTableChoose_37 : Outs := [(.normal, { n := 138, regs := [u, u, u, u, u, u, u, u, u, u, u, u, .one (.lit (.row 1128193)), .one (.lit (.row 1128194)), u, .one (.val (.int .i64))], bx := [(1128193, .row (.int .i64)), (1128194, .row (.int .i64))], pins := [] }), (.ret, { n := 138, regs := [u, u, u, u, u, u, .one (.val .bool)], bx := [], pins := [] })]
noncomputable def FvFnExactTableChoose (N : Nat) (x : ((List (Int × (Int × (Int × (Int × (Int × Unit)))))) × (Int × ((List Int) × Unit)))) : Option (Bool × Unit) :=
  let y1 := decide ((x.2.2.1.length : Int) > (1048576 : Int))
  bif y1 then
   some (true, ())
  else
  (FvszRegionS N (x.1, (1048576 : Int), ())).bind fun r2 =>
  bif decide (r2.1 < (0 : Int)) then
   some (true, ())
  else
  (FvtoRegionS N (x.1, ())).bind fun r3 =>
  (FvtoIntS N (x.2.2.1, ())).bind fun r4 =>
  (FsTableChoose N (r3.1, x.2.1, r4.1, ())).bind fun r5 =>
  (FvtoRegionS N (x.1, ())).bind fun r6 =>
  (FvtoIntS N (x.2.2.1, ())).bind fun r7 =>
  (FiTableChoose N (r6.1, x.2.1, r7.1, ())).bind fun r8 =>
  Option.bind (
   (FveqIntS N (r8.1, r5.1, ())).bind fun r9 =>
   bif !r9.1 then
    some (.inr ((false, ())))
   else
   (FveqIntS N (r8.2.1, r5.2.1, ())).bind fun r10 =>
   bif !r10.1 then
    some (.inr ((false, ())))
   else
   some (.inl (x.1, x.2.1, x.2.2.1, r5.1, r5.2.1, r6.1, r7.1, r8.1, r8.2.1, ()))) fun o11 =>
  Sum.elim (fun o12 =>
   (FvtoRegionS N (o12.1, ())).bind fun r13 =>
   (FveqRegionS N (o12.2.2.2.2.2.1, r13.1, ())).bind fun r14 =>
   bif !r14.1 then
    some (false, ())
   else
   (FvtoIntS N (o12.2.2.1, ())).bind fun r15 =>
   (FveqIntS N (o12.2.2.2.2.2.2.1, r15.1, ())).bind fun r16 =>
   bif !r16.1 then
    some (false, ())
   else
   (FvmarkRegionS N ((1 : Int), o12.2.2.2.2.2.1, ())).bind fun r17 =>
   (FvmarkIntS N (r17.1, o12.2.2.2.2.2.2.1, ())).bind fun r18 =>
   Option.bind (
    bif decide (r18.1 < (0 : Int)) then
     some (.inr ((false, ())))
    else
    (FveqIntS N (o12.2.2.2.2.2.2.2.1, o12.2.2.2.1, ())).bind fun r19 =>
    bif !r19.1 then
     some (.inr ((false, ())))
    else
    (FveqIntS N (o12.2.2.2.2.2.2.2.2.1, o12.2.2.2.2.1, ())).bind fun r20 =>
    bif !r20.1 then
     some (.inr ((false, ())))
    else
    some (.inl (o12.1, o12.2.1, o12.2.2.1, o12.2.2.2.1, o12.2.2.2.2.1, o12.2.2.2.2.2.2.2.1, o12.2.2.2.2.2.2.2.2.1, ()))) fun o21 =>
   Sum.elim (fun o22 =>
    (FvmarkIntS N ((1 : Int), o22.2.2.2.2.2.1, ())).bind fun r23 =>
    (FvmarkIntS N (r23.1, o22.2.2.2.2.2.2.1, ())).bind fun r24 =>
    (FvheldIntS N (r23.2.1, (1 : Int), ())).bind fun r25 =>
    bif decide (r25.1 < (0 : Int)) then
     some (false, ())
    else
    (FvheldIntS N (r24.2.1, r25.1, ())).bind fun r26 =>
    bif decide (r26.1 < (0 : Int)) then
     some (false, ())
    else
    bif r26.1 != r24.1 then
     some (false, ())
    else
    (FvtoRegionS N (o22.1, ())).bind fun r27 =>
    (FvtoIntS N (o22.2.2.1, ())).bind fun r28 =>
    (FiTableChoose N (r27.1, o22.2.1, r28.1, ())).bind fun r29 =>
    Option.bind (
     (FveqIntS N (r29.1, o22.2.2.2.1, ())).bind fun r30 =>
     bif !r30.1 then
      some (.inr ((false, ())))
     else
     (FveqIntS N (r29.2.1, o22.2.2.2.2.1, ())).bind fun r31 =>
     bif !r31.1 then
      some (.inr ((false, ())))
     else
     some (.inl (r24.1, r23.2.1, r24.2.1, ()))) fun o32 =>
    Sum.elim (fun o33 =>
     (FvheldIntS N (o33.2.1, (1 : Int), ())).bind fun r34 =>
     bif decide (r34.1 < (0 : Int)) then
      some (false, ())
     else
     (FvheldIntS N (o33.2.2.1, r34.1, ())).bind fun r35 =>
     bif decide (r35.1 < (0 : Int)) then
      some (false, ())
     else
     bif r35.1 != o33.1 then
      some (false, ())
     else
     some (true, ())) (fun o36 =>
     some (o36.1, ())) o32) (fun o37 =>
    some (o37.1, ())) o21) (fun o38 =>
   some (o38.1, ())) o11
noncomputable def convFnExactTableChoose (N : Nat) : Con := { f := 3, din := dinvFnExactTableChoose, outs := outvFnExactTableChoose, F := FvFnExactTableChoose N }
noncomputable def XvFnExactTableChoose (N : Nat) : Ctx := { E := EvFnExactTableChoose N, H := HvFnExactTableChoose, lp := [], jn := [(13, jvFnExactTableChoose_13), (22, jvFnExactTableChoose_22), (37, jvFnExactTableChoose_37)] }
theorem FvFnExactTableChoose_eq (N : Nat) (x : ((List (Int × (Int × (Int × (Int × (Int × Unit)))))) × (Int × ((List Int) × Unit)))) : evFn (XvFnExactTableChoose N) Try.f3 dinvFnExactTableChoose outvFnExactTableChoose x = FvFnExactTableChoose N x := by kernel_rfl
theorem cxvFnExactTableChoose (N : Nat) : CtxOk Try.prog (XvFnExactTableChoose N) := ⟨⟨TE_ok, List.forall_mem_cons.2 ⟨specvszRegionS N, List.forall_mem_cons.2 ⟨specvtoRegionS N, List.forall_mem_cons.2 ⟨specvtoIntS N, List.forall_mem_cons.2 ⟨specsTableChoose N, List.forall_mem_cons.2 ⟨speciTableChoose N, List.forall_mem_cons.2 ⟨specveqIntS N, List.forall_mem_cons.2 ⟨specveqRegionS N, List.forall_mem_cons.2 ⟨specvmarkRegionS N, List.forall_mem_cons.2 ⟨specvmarkIntS N, List.forall_mem_cons.2 ⟨specvheldIntS N, fun k hk => absurd hk List.not_mem_nil⟩⟩⟩⟩⟩⟩⟩⟩⟩⟩⟩, mixed⟩
theorem specvFnExactTableChoose (N : Nat) : Spec Try.prog (convFnExactTableChoose N) :=
  Spec.of_eq (fn_spec (cxvFnExactTableChoose N) (f := 3) (fn := Try.f3) (c := codeOf Try.f3) (by kernel_rfl) (by kernel_rfl) (by kernel_rfl) (loops_at (ids := []) (by kernel_rfl) (trivial)) (by kernel_rfl)) (fun x r h => (FvFnExactTableChoose_eq N x).trans h)

end Go.Fl

/- Proved: for every input the law FnExactStateGraph returns true and leaves its arguments as they were. Part 2: the functions that the law reaches, as plain functions, and plain laws about them; no conditions. -/
import Derived.Test.YtohafbpiaflikaaGreatExactStateGraphP1
set_option linter.all false
noncomputable section
set_option maxRecDepth 100000
set_option linter.all false
namespace Go.Fl
open Go Go.Proofs
def zrq : Desc := { n := 3, regs := [.one (.val (.sl (.int .i64))), .one (.val (.int .i64)), .one (.val (.int .i64))], bx := [], pins := [] }
def zrr : Outs := [(.ret, { n := 2, regs := [.one (.val (.int .i64)), .one (.val (.int .i64))], bx := [], pins := [] })]
def HkchoosePivotOrdered_int : Hints := [(8, [(2, { sg := [(128, 1025600)] })]),
 (9, [(2, { sg := [(128, 1025600)] })]),
 (10, [(2, { sg := [(128, 1025600)] })]),
 (11, [(4, { con := 1, sg := [(256, 1025600)] })])]
def EkchoosePivotOrdered_int (N : Nat) : Env := { te := TE, cs := [zt0 N, zsa N] }
def jkchoosePivotOrdered_int_11 : Outs := [(.normal, { n := 57, regs := [.one (.val (.sl (.int .i64))), u, u, u, u, u, u, u, u, .one (.lit (.ptr 1025600 0)), .one (.val (.int .i64)), .one (.val (.int .i64)), .one (.val (.int .i64))], bx := [(1025600, .var [.val (.int .i64)])], pins := [] })]
def jkchoosePivotOrdered_int_12 : Outs := [(.normal, { n := 57, regs := [u, u, u, u, u, u, u, u, u, .one (.lit (.ptr 1025600 0)), u, .one (.val (.int .i64))], bx := [(1025600, .var [.val (.int .i64)])], pins := [] })]
def zwz (N : Nat) (x : ((List Int) × (Int × (Int × Unit)))) : Option (Int × (Int × Unit)) :=
 bif decide ((4 : Int) = 0) then
  none
 else
 let y1 := w64 (Int.tdiv (w64 (x.2.2.1 - x.2.1)) (4 : Int))
 bif decide ((4 : Int) = 0) then
  none
 else
 let y2 := w64 (Int.tdiv (w64 (x.2.2.1 - x.2.1)) (4 : Int))
 bif decide ((4 : Int) = 0) then
  none
 else
 let y3 := w64 (Int.tdiv (w64 (x.2.2.1 - x.2.1)) (4 : Int))
 Option.bind (
  let y4 := decide ((w64 (x.2.2.1 - x.2.1)) ≥ (8 : Int))
  bif y4 then
   Option.bind (
    let y5 := decide ((w64 (x.2.2.1 - x.2.1)) ≥ (50 : Int))
    bif y5 then
     (zys N (x.1, w64 (x.2.1 + (w64 (y1 * (1 : Int)))), (0 : Int), ())).bind fun r6 =>
     (zys N (x.1, w64 (x.2.1 + (w64 (y2 * (2 : Int)))), r6.2.1, ())).bind fun r7 =>
     (zys N (x.1, w64 (x.2.1 + (w64 (y3 * (3 : Int)))), r7.2.1, ())).bind fun r8 =>
     some (x.1, r6.1, r7.1, r8.1, r8.2.1, ())
    else
    some (x.1, w64 (x.2.1 + (w64 (y1 * (1 : Int)))), w64 (x.2.1 + (w64 (y2 * (2 : Int)))), w64 (x.2.1 + (w64 (y3 * (3 : Int)))), (0 : Int), ())) fun o9 =>
   (zwa N (o9.1, o9.2.1, o9.2.2.1, o9.2.2.2.1, o9.2.2.2.2.1, ())).bind fun r10 =>
   some (r10.1, r10.2.1, ())
  else
  some (w64 (x.2.1 + (w64 (y2 * (2 : Int)))), (0 : Int), ())) fun o11 =>
 bif o11.2.1 == (0 : Int) then
  some (o11.1, (1 : Int), ())
 else
 bif o11.2.1 == (12 : Int) then
  some (o11.1, (2 : Int), ())
 else
 some (o11.1, (0 : Int), ())
def zro (N : Nat) : Con := { f := 91, din := zrq, outs := zrr, F := zwz N }
def zq5 (N : Nat) : Ctx := { E := EkchoosePivotOrdered_int N, H := HkchoosePivotOrdered_int, lp := [], jn := [(11, jkchoosePivotOrdered_int_11), (12, jkchoosePivotOrdered_int_12)] }
theorem FkchoosePivotOrdered_int_eq (N : Nat) (x : ((List Int) × (Int × (Int × Unit)))) : evFn (zq5 N) Tryz.f91 zrq zrr x = zwz N x := by kernel_rfl
theorem cxkchoosePivotOrdered_int (N : Nat) : CtxOk Tryz.prog (zq5 N) := ⟨⟨TE_ok, List.forall_mem_cons.2 ⟨(speckmedianAdjacentOrdered_int N), List.forall_mem_cons.2 ⟨(zos N), fun k hk => absurd hk List.not_mem_nil⟩⟩⟩, mixed⟩
theorem speckchoosePivotOrdered_int (N : Nat) : Spec Tryz.prog (zro N) :=
 Spec.of_eq (zzu (cxkchoosePivotOrdered_int N) (f := 91) (fn := Tryz.f91) (c := zzy Tryz.f91) (by kernel_rfl) (by kernel_rfl) (by kernel_rfl) (zzz (ids := []) (by kernel_rfl) (trivial)) (by kernel_rfl)) (fun x r h => (FkchoosePivotOrdered_int_eq N x).trans h)
def zse : Desc := { n := 3, regs := [.one (.lit (.row 0)), .one (.val (.int .i64)), .one (.val (.int .i64))], bx := [(0, .row (.int .i64))], pins := [] }
def zsk : Outs := [(.ret, { n := 0, regs := [], bx := [(0, .row (.int .i64))], pins := [.one (.lit (.row 0))] })]
def HkreverseRangeOrdered_int : Hints := []
def EkreverseRangeOrdered_int (_N : Nat) : Env := { te := TE, cs := [] }
def zy7 : Desc := { n := 32, regs := [.one (.lit (.row 0)), u, u, u, u, u, .one (.val (.int .i64)), .one (.val (.int .i64))], bx := [(0, .row (.int .i64))], pins := [.one (.lit (.row 0))] }
def zwr : Outs := [(.exit 0, { n := 32, regs := [], bx := [(0, .row (.int .i64))], pins := [.one (.lit (.row 0))] })]
def zzg (N : Nat) : Nat → (Int × (Int × ((List Int) × Unit))) → Option ((List Int) × Unit)
 | 0, _ => none
 | n + 1, v =>
  bif decide (v.1 < v.2.1) then
   bif decide (0 ≤ v.2.1) then
   bif decide (v.2.1.toNat < v.2.2.1.length) then
   bif decide (0 ≤ v.1) then
   bif decide (v.1.toNat < v.2.2.1.length) then
   bif decide (0 ≤ v.1) then
   bif decide (v.1.toNat < v.2.2.1.length) then
   let y1 := v.2.2.1.set v.1.toNat (v.2.2.1.getD v.2.1.toNat (0 : Int))
   bif decide (0 ≤ v.2.1) then
   bif decide (v.2.1.toNat < y1.length) then
   let y2 := y1.set v.2.1.toNat (v.2.2.1.getD v.1.toNat (0 : Int))
   zzg N n (w64 (v.1 + (1 : Int)), w64 (v.2.1 - (1 : Int)), y2, ())
   else none
   else none
   else none
   else none
   else none
   else none
   else none
   else none
  else
  some (v.2.2.1, ())
def zy0 (N : Nat) (x : (Int × (Int × ((List Int) × Unit)))) : Option ((List Int) × Unit) :=
 (zzg N N (x.1, w64 (x.2.1 - (1 : Int)), x.2.2.1, ())).bind fun o3 =>
 some (o3.1, ())
def zsb (N : Nat) : Con := { f := 92, din := zse, outs := zsk, F := zy0 N }
def zu1 (N : Nat) : Ctx := { E := EkreverseRangeOrdered_int N, H := HkreverseRangeOrdered_int, lp := [(0, { hd := zy7, outs := zwr, run := fun v => zzg N N v })], jn := [] }
def zs0 : Code := zzv (zzy Tryz.f92) 0
theorem FkreverseRangeOrdered_int_eq (N : Nat) (x : (Int × (Int × ((List Int) × Unit)))) : evFn (zu1 N) Tryz.f92 zse zsk x = zy0 N x := by kernel_rfl
theorem lkreverseRangeOrdered_int_0_eq (N n : Nat) (v : (Int × (Int × ((List Int) × Unit)))) : zzg N (n + 1) v = ev (zu1 N) zs0 (zzd zy7 zwr (zzg N n)) (zy7.mk' v) := by kernel_rfl
theorem zrp (N : Nat) : CtxOk Tryz.prog (zu1 N) := ⟨⟨TE_ok, fun k hk => absurd hk List.not_mem_nil⟩, mixed⟩
theorem lpkreverseRangeOrdered_int_0 (N : Nat) : zzl Tryz.prog { hd := zy7, outs := zwr, run := fun v => zzg N N v } zs0 :=
 zzx (d := zy7) (os := zwr) (zrp N) (zzz (ids := []) (by kernel_rfl) (trivial)) (zzg N) (fun _ => rfl) (fun n v => lkreverseRangeOrdered_int_0_eq N n v) (fun _ => N)
theorem speckreverseRangeOrdered_int (N : Nat) : Spec Tryz.prog (zsb N) :=
 Spec.of_eq (zzu (zrp N) (f := 92) (fn := Tryz.f92) (c := zzy Tryz.f92) (by kernel_rfl) (by kernel_rfl) (by kernel_rfl) (zzz (ids := [0]) (by kernel_rfl) ⟨lp_of (lpkreverseRangeOrdered_int_0 N), trivial⟩) (by kernel_rfl)) (fun x r h => (FkreverseRangeOrdered_int_eq N x).trans h)
def zuy : Desc := { n := 3, regs := [.one (.lit (.row 0)), .one (.val (.int .i64)), .one (.val (.int .i64))], bx := [(0, .row (.int .i64))], pins := [] }
def zv2 : Outs := [(.ret, { n := 1, regs := [.one (.val .bool)], bx := [(0, .row (.int .i64))], pins := [.one (.lit (.row 0))] })]
def zp6 : Hints := []
def zow (N : Nat) : Env := { te := TE, cs := [zwi N] }
def zyv : Desc := { n := 133, regs := [.one (.lit (.row 0)), .one (.val (.int .i64)), .one (.val (.int .i64)), u, u, u, u, .one (.val (.int .i64)), .one (.val (.int .i64))], bx := [(0, .row (.int .i64))], pins := [.one (.lit (.row 0))] }
def zyi : Outs := [(.exit 2, { n := 133, regs := [.one (.lit (.row 0)), .one (.val (.int .i64)), .one (.val (.int .i64)), u, u, u, u, .one (.val (.int .i64)), .one (.val (.int .i64))], bx := [(0, .row (.int .i64))], pins := [.one (.lit (.row 0))] })]
def zyw : Desc := { n := 133, regs := [.one (.lit (.row 0)), .one (.val (.int .i64)), .one (.val (.int .i64)), u, u, u, u, .one (.val (.int .i64)), .one (.val (.int .i64)), .one (.val (.int .i64))], bx := [(0, .row (.int .i64))], pins := [.one (.lit (.row 0))] }
def zyj : Outs := [(.exit 4, { n := 133, regs := [.one (.lit (.row 0)), .one (.val (.int .i64)), .one (.val (.int .i64)), u, u, u, u, .one (.val (.int .i64)), .one (.val (.int .i64))], bx := [(0, .row (.int .i64))], pins := [.one (.lit (.row 0))] })]
def zyx : Desc := { n := 133, regs := [.one (.lit (.row 0)), .one (.val (.int .i64)), .one (.val (.int .i64)), u, u, u, u, .one (.val (.int .i64)), .one (.val (.int .i64)), u, .one (.val (.int .i64))], bx := [(0, .row (.int .i64))], pins := [.one (.lit (.row 0))] }
def zyk : Outs := [(.exit 6, { n := 133, regs := [.one (.lit (.row 0)), .one (.val (.int .i64)), .one (.val (.int .i64)), u, u, u, u, .one (.val (.int .i64)), .one (.val (.int .i64))], bx := [(0, .row (.int .i64))], pins := [.one (.lit (.row 0))] })]
def zyu : Desc := { n := 133, regs := [.one (.lit (.row 0)), .one (.val (.int .i64)), .one (.val (.int .i64)), u, u, u, u, .one (.val (.int .i64)), .one (.val (.int .i64))], bx := [(0, .row (.int .i64))], pins := [.one (.lit (.row 0))] }
def zyh : Outs := [(.exit 0, { n := 133, regs := [], bx := [(0, .row (.int .i64))], pins := [.one (.lit (.row 0))] }), (.ret, { n := 133, regs := [u, u, u, u, u, u, .one (.val .bool)], bx := [(0, .row (.int .i64))], pins := [.one (.lit (.row 0))] })]
def zre : Outs := [(.normal, { n := 133, regs := [.one (.lit (.row 0)), .one (.val (.int .i64)), .one (.val (.int .i64)), u, u, u, u, .one (.val (.int .i64)), .one (.val (.int .i64))], bx := [(0, .row (.int .i64))], pins := [.one (.lit (.row 0))] })]
def zzr (N : Nat) : Nat → (Int × tyq5) → Option (Int × tyq5)
 | 0, _ => none
 | n + 1, v =>
  bif decide (v.2.2.1 < v.2.1) then
   bif decide (0 ≤ v.2.2.1) then
   bif decide (v.2.2.1.toNat < v.2.2.2.2.1.length) then
   let y1 := v.2.2.2.2.1.getD v.2.2.1.toNat (0 : Int)
   bif decide (0 ≤ (w64 (v.2.2.1 - (1 : Int)))) then
   bif decide ((w64 (v.2.2.1 - (1 : Int))).toNat < v.2.2.2.2.1.length) then
   let y2 := v.2.2.2.2.1.getD ((w64 (v.2.2.1 - (1 : Int))).toNat) (0 : Int)
   (zz9 N (y1, y2, ())).bind fun r3 =>
   bif !r3.1 then
    zzr N n (v.1, v.2.1, w64 (v.2.2.1 + (1 : Int)), v.2.2.2.1, v.2.2.2.2.1, ())
   else
   some (v.1, v.2.1, v.2.2.1, v.2.2.2.1, v.2.2.2.2.1, ())
   else none
   else none
   else none
   else none
  else
  some (v.1, v.2.1, v.2.2.1, v.2.2.2.1, v.2.2.2.2.1, ())
def zzs (N : Nat) : Nat → (Int × (Int × tyq5)) → Option (Int × tyq5)
 | 0, _ => none
 | n + 1, v =>
  bif decide (v.2.2.2.2.1 ≥ (1 : Int)) then
   bif decide (0 ≤ v.2.2.2.2.1) then
   bif decide (v.2.2.2.2.1.toNat < v.2.2.2.2.2.1.length) then
   let y10 := v.2.2.2.2.2.1.getD v.2.2.2.2.1.toNat (0 : Int)
   bif decide (0 ≤ (w64 (v.2.2.2.2.1 - (1 : Int)))) then
   bif decide ((w64 (v.2.2.2.2.1 - (1 : Int))).toNat < v.2.2.2.2.2.1.length) then
   let y11 := (w64 (v.2.2.2.2.1 - (1 : Int))).toNat
   (zz9 N (y10, v.2.2.2.2.2.1.getD y11 (0 : Int), ())).bind fun r12 =>
   bif !r12.1 then
    some (v.1, v.2.1, v.2.2.1, v.2.2.2.1, v.2.2.2.2.2.1, ())
   else
   bif decide (0 ≤ (w64 (v.2.2.2.2.1 - (1 : Int)))) then
   bif decide ((w64 (v.2.2.2.2.1 - (1 : Int))).toNat < v.2.2.2.2.2.1.length) then
   let y13 := (w64 (v.2.2.2.2.1 - (1 : Int))).toNat
   bif decide (0 ≤ v.2.2.2.2.1) then
   bif decide (v.2.2.2.2.1.toNat < v.2.2.2.2.2.1.length) then
   let y14 := v.2.2.2.2.2.1.getD v.2.2.2.2.1.toNat (0 : Int)
   bif decide (0 ≤ v.2.2.2.2.1) then
   bif decide (v.2.2.2.2.1.toNat < v.2.2.2.2.2.1.length) then
   let y15 := v.2.2.2.2.2.1.set v.2.2.2.2.1.toNat (v.2.2.2.2.2.1.getD y13 (0 : Int))
   bif decide (0 ≤ (w64 (v.2.2.2.2.1 - (1 : Int)))) then
   bif decide ((w64 (v.2.2.2.2.1 - (1 : Int))).toNat < y15.length) then
   let y16 := (w64 (v.2.2.2.2.1 - (1 : Int))).toNat
   zzs N n (v.1, v.2.1, v.2.2.1, v.2.2.2.1, w64 (v.2.2.2.2.1 - (1 : Int)), y15.set y16 y14, ())
   else none
   else none
   else none
   else none
   else none
   else none
   else none
   else none
   else none
   else none
   else none
   else none
  else
  some (v.1, v.2.1, v.2.2.1, v.2.2.2.1, v.2.2.2.2.2.1, ())
def zzt (N : Nat) : Nat → (Int × (Int × tyq5)) → Option (Int × tyq5)
 | 0, _ => none
 | n + 1, v =>
  bif decide (v.2.2.2.2.1 < v.2.1) then
   bif decide (0 ≤ v.2.2.2.2.1) then
   bif decide (v.2.2.2.2.1.toNat < v.2.2.2.2.2.1.length) then
   let y20 := v.2.2.2.2.2.1.getD v.2.2.2.2.1.toNat (0 : Int)
   bif decide (0 ≤ (w64 (v.2.2.2.2.1 - (1 : Int)))) then
   bif decide ((w64 (v.2.2.2.2.1 - (1 : Int))).toNat < v.2.2.2.2.2.1.length) then
   let y21 := (w64 (v.2.2.2.2.1 - (1 : Int))).toNat
   (zz9 N (y20, v.2.2.2.2.2.1.getD y21 (0 : Int), ())).bind fun r22 =>
   bif !r22.1 then
    some (v.1, v.2.1, v.2.2.1, v.2.2.2.1, v.2.2.2.2.2.1, ())
   else
   bif decide (0 ≤ (w64 (v.2.2.2.2.1 - (1 : Int)))) then
   bif decide ((w64 (v.2.2.2.2.1 - (1 : Int))).toNat < v.2.2.2.2.2.1.length) then
   let y23 := (w64 (v.2.2.2.2.1 - (1 : Int))).toNat
   bif decide (0 ≤ v.2.2.2.2.1) then
   bif decide (v.2.2.2.2.1.toNat < v.2.2.2.2.2.1.length) then
   let y24 := v.2.2.2.2.2.1.getD v.2.2.2.2.1.toNat (0 : Int)
   bif decide (0 ≤ v.2.2.2.2.1) then
   bif decide (v.2.2.2.2.1.toNat < v.2.2.2.2.2.1.length) then
   let y25 := v.2.2.2.2.2.1.set v.2.2.2.2.1.toNat (v.2.2.2.2.2.1.getD y23 (0 : Int))
   bif decide (0 ≤ (w64 (v.2.2.2.2.1 - (1 : Int)))) then
   bif decide ((w64 (v.2.2.2.2.1 - (1 : Int))).toNat < y25.length) then
   let y26 := (w64 (v.2.2.2.2.1 - (1 : Int))).toNat
   zzt N n (v.1, v.2.1, v.2.2.1, v.2.2.2.1, w64 (v.2.2.2.2.1 + (1 : Int)), y25.set y26 y24, ())
   else none
   else none
   else none
   else none
   else none
   else none
   else none
   else none
   else none
   else none
   else none
   else none
  else
  some (v.1, v.2.1, v.2.2.1, v.2.2.2.1, v.2.2.2.2.2.1, ())
def zzw (N : Nat) : Nat → (Int × tyq5) → Option (((List Int) × Unit) ⊕ (Bool × ((List Int) × Unit)))
 | 0, _ => none
 | n + 1, v =>
  bif decide (v.2.2.2.1 < (5 : Int)) then
   (zzr N N (v.1, v.2.1, v.2.2.1, v.2.2.2.1, v.2.2.2.2.1, ())).bind fun o4 =>
   bif o4.2.2.1 == o4.2.1 then
    some (.inr ((true, o4.2.2.2.2.1, ())))
   else
   let y5 := decide ((w64 (o4.2.1 - o4.1)) < (50 : Int))
   bif y5 then
    some (.inr ((false, o4.2.2.2.2.1, ())))
   else
   bif decide (0 ≤ (w64 (o4.2.2.1 - (1 : Int)))) then
   bif decide ((w64 (o4.2.2.1 - (1 : Int))).toNat < o4.2.2.2.2.1.length) then
   let y6 := o4.2.2.2.2.1.getD ((w64 (o4.2.2.1 - (1 : Int))).toNat) (0 : Int)
   bif decide (0 ≤ o4.2.2.1) then
   bif decide (o4.2.2.1.toNat < o4.2.2.2.2.1.length) then
   let y7 := o4.2.2.2.2.1.getD o4.2.2.1.toNat (0 : Int)
   bif decide (0 ≤ o4.2.2.1) then
   bif decide (o4.2.2.1.toNat < o4.2.2.2.2.1.length) then
   bif decide (0 ≤ (w64 (o4.2.2.1 - (1 : Int)))) then
   bif decide ((w64 (o4.2.2.1 - (1 : Int))).toNat < (o4.2.2.2.2.1.set o4.2.2.1.toNat y6).length) then
   let y8 := (o4.2.2.2.2.1.set o4.2.2.1.toNat y6).set ((w64 (o4.2.2.1 - (1 : Int))).toNat) y7
   Option.bind (
    let y9 := decide ((w64 (o4.2.2.1 - o4.1)) ≥ (2 : Int))
    bif y9 then
     (zzs N N (o4.1, o4.2.1, o4.2.2.1, o4.2.2.2.1, w64 (o4.2.2.1 - (1 : Int)), y8, ())).bind fun o17 =>
     some (o17.1, o17.2.1, o17.2.2.1, o17.2.2.2.1, o17.2.2.2.2.1, ())
    else
    some (o4.1, o4.2.1, o4.2.2.1, o4.2.2.2.1, y8, ())) fun o18 =>
   let y19 := decide ((w64 (o18.2.1 - o18.2.2.1)) ≥ (2 : Int))
   bif y19 then
    (zzt N N (o18.1, o18.2.1, o18.2.2.1, o18.2.2.2.1, w64 (o18.2.2.1 + (1 : Int)), o18.2.2.2.2.1, ())).bind fun o27 =>
    zzw N n (o27.1, o27.2.1, o27.2.2.1, w64 (o27.2.2.2.1 + (1 : Int)), o27.2.2.2.2.1, ())
   else
   zzw N n (o18.1, o18.2.1, o18.2.2.1, w64 (o18.2.2.2.1 + (1 : Int)), o18.2.2.2.2.1, ())
   else none
   else none
   else none
   else none
   else none
   else none
   else none
   else none
  else
  some (.inl (v.2.2.2.2.1, ()))
def zz1 (N : Nat) (x : (Int × (Int × ((List Int) × Unit)))) : Option (Bool × ((List Int) × Unit)) :=
 (zzw N N (x.1, x.2.1, w64 (x.1 + (1 : Int)), (0 : Int), x.2.2.1, ())).bind fun o28 =>
 Sum.elim (fun o29 =>
  some (false, o29.1, ())) (fun o30 =>
  some (o30.1, o30.2.1, ())) o28
def zuw (N : Nat) : Con := { f := 93, din := zuy, outs := zv2, F := zz1 N }
def zz7 (N : Nat) : Ctx := { E := zow N, H := zp6, lp := [(2, { hd := zyv, outs := zyi, run := fun v => zzr N N v }), (4, { hd := zyw, outs := zyj, run := fun v => zzs N N v }), (6, { hd := zyx, outs := zyk, run := fun v => zzt N N v }), (0, { hd := zyu, outs := zyh, run := fun v => zzw N N v })], jn := [(18, zre)] }
def zyt : Code := zzv (zzy Tryz.f93) 0
def zuv : Code := zzv zyt 2
def zuu : Code := zzv zyt 1
def zut : Code := zzv zyt 0
theorem zr7 (N : Nat) (x : (Int × (Int × ((List Int) × Unit)))) : evFn (zz7 N) Tryz.f93 zuy zv2 x = zz1 N x := by kernel_rfl
theorem zrv (N n : Nat) (v : (Int × tyq5)) : zzr N (n + 1) v = ev (zz7 N) zut (zzd zyv zyi (zzr N n)) (zyv.mk' v) := by kernel_rfl
theorem zrw (N n : Nat) (v : (Int × (Int × tyq5))) : zzs N (n + 1) v = ev (zz7 N) zuu (zzd zyw zyj (zzs N n)) (zyw.mk' v) := by kernel_rfl
theorem zrx (N n : Nat) (v : (Int × (Int × tyq5))) : zzt N (n + 1) v = ev (zz7 N) zuv (zzd zyx zyk (zzt N n)) (zyx.mk' v) := by kernel_rfl
theorem zru (N n : Nat) (v : (Int × tyq5)) : zzw N (n + 1) v = ev (zz7 N) zyt (zzd zyu zyh (zzw N n)) (zyu.mk' v) := by kernel_rfl
theorem zyr (N : Nat) : CtxOk Tryz.prog (zz7 N) := ⟨⟨TE_ok, List.forall_mem_cons.2 ⟨(zwg N), fun k hk => absurd hk List.not_mem_nil⟩⟩, mixed⟩
theorem zrh (N : Nat) : zzl Tryz.prog { hd := zyv, outs := zyi, run := fun v => zzr N N v } zut :=
 zzx (d := zyv) (os := zyi) (zyr N) (zzz (ids := []) (by kernel_rfl) (trivial)) (zzr N) (fun _ => rfl) (fun n v => zrv N n v) (fun _ => N)
theorem zri (N : Nat) : zzl Tryz.prog { hd := zyw, outs := zyj, run := fun v => zzs N N v } zuu :=
 zzx (d := zyw) (os := zyj) (zyr N) (zzz (ids := []) (by kernel_rfl) (trivial)) (zzs N) (fun _ => rfl) (fun n v => zrw N n v) (fun _ => N)
theorem zrj (N : Nat) : zzl Tryz.prog { hd := zyx, outs := zyk, run := fun v => zzt N N v } zuv :=
 zzx (d := zyx) (os := zyk) (zyr N) (zzz (ids := []) (by kernel_rfl) (trivial)) (zzt N) (fun _ => rfl) (fun n v => zrx N n v) (fun _ => N)
theorem zrg (N : Nat) : zzl Tryz.prog { hd := zyu, outs := zyh, run := fun v => zzw N N v } zyt :=
 zzx (d := zyu) (os := zyh) (zyr N) (zzz (ids := [2, 4, 6]) (by kernel_rfl) ⟨lp_of (zrh N), ⟨lp_of (zri N), ⟨lp_of (zrj N), trivial⟩⟩⟩) (zzw N) (fun _ => rfl) (fun n v => zru N n v) (fun _ => N)
theorem zrl (N : Nat) : Spec Tryz.prog (zuw N) :=
 Spec.of_eq (zzu (zyr N) (f := 93) (fn := Tryz.f93) (c := zzy Tryz.f93) (by kernel_rfl) (by kernel_rfl) (by kernel_rfl) (zzz (ids := [0]) (by kernel_rfl) ⟨lp_of (zrg N), trivial⟩) (by kernel_rfl)) (fun x r h => (zr7 N x).trans h)
def ztg : Desc := { n := 4, regs := [.one (.lit (.row 0)), .one (.val (.int .i64)), .one (.val (.int .i64)), .one (.val (.int .i64))], bx := [(0, .row (.int .i64))], pins := [] }
def zti : Outs := [(.ret, { n := 1, regs := [.one (.val (.int .i64))], bx := [(0, .row (.int .i64))], pins := [.one (.lit (.row 0))] })]
def HkpartitionEqualOrdered_int : Hints := []
def EkpartitionEqualOrdered_int (N : Nat) : Env := { te := TE, cs := [zwi N] }
def zyc : Desc := { n := 84, regs := [.one (.lit (.row 0)), .one (.val (.int .i64)), u, u, u, u, u, u, u, .one (.val (.int .i64)), .one (.val (.int .i64))], bx := [(0, .row (.int .i64))], pins := [.one (.lit (.row 0))] }
def zxc : Outs := [(.exit 2, { n := 84, regs := [.one (.lit (.row 0)), .one (.val (.int .i64)), u, u, u, u, u, u, u, .one (.val (.int .i64)), .one (.val (.int .i64))], bx := [(0, .row (.int .i64))], pins := [.one (.lit (.row 0))] })]
def zyd : Desc := { n := 84, regs := [.one (.lit (.row 0)), .one (.val (.int .i64)), u, u, u, u, u, u, u, .one (.val (.int .i64)), .one (.val (.int .i64))], bx := [(0, .row (.int .i64))], pins := [.one (.lit (.row 0))] }
def zxd : Outs := [(.exit 4, { n := 84, regs := [.one (.lit (.row 0)), .one (.val (.int .i64)), u, u, u, u, u, u, u, .one (.val (.int .i64)), .one (.val (.int .i64))], bx := [(0, .row (.int .i64))], pins := [.one (.lit (.row 0))] })]
def zyb : Desc := { n := 84, regs := [.one (.lit (.row 0)), .one (.val (.int .i64)), u, u, u, u, u, u, u, .one (.val (.int .i64)), .one (.val (.int .i64))], bx := [(0, .row (.int .i64))], pins := [.one (.lit (.row 0))] }
def zxb : Outs := [(.exit 0, { n := 84, regs := [u, u, u, u, u, u, u, u, u, .one (.val (.int .i64))], bx := [(0, .row (.int .i64))], pins := [.one (.lit (.row 0))] })]
def zzm (N : Nat) : Nat → tyq5 → Option tyq5
 | 0, _ => none
 | n + 1, v =>
  bif decide (v.2.1 ≤ v.2.2.1) then
   bif decide (0 ≤ v.1) then
   bif decide (v.1.toNat < v.2.2.2.1.length) then
   bif decide (0 ≤ v.2.1) then
   bif decide (v.2.1.toNat < v.2.2.2.1.length) then
   (zz9 N (v.2.2.2.1.getD v.1.toNat (0 : Int), v.2.2.2.1.getD v.2.1.toNat (0 : Int), ())).bind fun r3 =>
   bif !r3.1 then
    zzm N n (v.1, w64 (v.2.1 + (1 : Int)), v.2.2.1, v.2.2.2.1, ())
   else
   some (v.1, v.2.1, v.2.2.1, v.2.2.2.1, ())
   else none
   else none
   else none
   else none
  else
  some (v.1, v.2.1, v.2.2.1, v.2.2.2.1, ())
def zzp (N : Nat) : Nat → tyq5 → Option tyq5
 | 0, _ => none
 | n + 1, v =>
  bif decide (v.2.1 ≤ v.2.2.1) then
   bif decide (0 ≤ v.1) then
   bif decide (v.1.toNat < v.2.2.2.1.length) then
   bif decide (0 ≤ v.2.2.1) then
   bif decide (v.2.2.1.toNat < v.2.2.2.1.length) then
   let y5 := v.2.2.2.1.getD v.2.2.1.toNat (0 : Int)
   (zz9 N (v.2.2.2.1.getD v.1.toNat (0 : Int), y5, ())).bind fun r6 =>
   bif r6.1 then
    zzp N n (v.1, v.2.1, w64 (v.2.2.1 - (1 : Int)), v.2.2.2.1, ())
   else
   some (v.1, v.2.1, v.2.2.1, v.2.2.2.1, ())
   else none
   else none
   else none
   else none
  else
  some (v.1, v.2.1, v.2.2.1, v.2.2.2.1, ())
def zze (N : Nat) : Nat → tyq5 → Option (Int × ((List Int) × Unit))
 | 0, _ => none
 | n + 1, v =>
  (zzm N N (v.1, v.2.1, v.2.2.1, v.2.2.2.1, ())).bind fun o4 =>
  (zzp N N (o4.1, o4.2.1, o4.2.2.1, o4.2.2.2.1, ())).bind fun o7 =>
  bif decide (o7.2.1 > o7.2.2.1) then
   some (o7.2.1, o7.2.2.2.1, ())
  else
  bif decide (0 ≤ o7.2.2.1) then
  bif decide (o7.2.2.1.toNat < o7.2.2.2.1.length) then
  let y8 := o7.2.2.2.1.getD o7.2.2.1.toNat (0 : Int)
  bif decide (0 ≤ o7.2.1) then
  bif decide (o7.2.1.toNat < o7.2.2.2.1.length) then
  let y9 := o7.2.2.2.1.getD o7.2.1.toNat (0 : Int)
  bif decide (0 ≤ o7.2.1) then
  bif decide (o7.2.1.toNat < o7.2.2.2.1.length) then
  bif decide (0 ≤ o7.2.2.1) then
  bif decide (o7.2.2.1.toNat < (o7.2.2.2.1.set o7.2.1.toNat y8).length) then
  let y10 := (o7.2.2.2.1.set o7.2.1.toNat y8).set o7.2.2.1.toNat y9
  zze N n (o7.1, w64 (o7.2.1 + (1 : Int)), w64 (o7.2.2.1 - (1 : Int)), y10, ())
  else none
  else none
  else none
  else none
  else none
  else none
  else none
  else none
def zy9 (N : Nat) (x : tyq5) : Option (Int × ((List Int) × Unit)) :=
 bif decide (0 ≤ x.2.2.1) then
 bif decide (x.2.2.1.toNat < x.2.2.2.1.length) then
 let y1 := x.2.2.2.1.getD x.2.2.1.toNat (0 : Int)
 bif decide (0 ≤ x.1) then
 bif decide (x.1.toNat < x.2.2.2.1.length) then
 bif decide (0 ≤ x.1) then
 bif decide (x.1.toNat < x.2.2.2.1.length) then
 bif decide (0 ≤ x.2.2.1) then
 bif decide (x.2.2.1.toNat < (x.2.2.2.1.set x.1.toNat y1).length) then
 let y2 := (x.2.2.2.1.set x.1.toNat y1).set x.2.2.1.toNat (x.2.2.2.1.getD x.1.toNat (0 : Int))
 (zze N N (x.1, w64 (x.1 + (1 : Int)), w64 (x.2.1 - (1 : Int)), y2, ())).bind fun o11 =>
 some (o11.1, o11.2.1, ())
 else none
 else none
 else none
 else none
 else none
 else none
 else none
 else none
def zta (N : Nat) : Con := { f := 94, din := ztg, outs := zti, F := zy9 N }
def zy8 (N : Nat) : Ctx := { E := EkpartitionEqualOrdered_int N, H := HkpartitionEqualOrdered_int, lp := [(2, { hd := zyc, outs := zxc, run := fun v => zzm N N v }), (4, { hd := zyd, outs := zxd, run := fun v => zzp N N v }), (0, { hd := zyb, outs := zxb, run := fun v => zze N N v })], jn := [] }
def zxa : Code := zzv (zzy Tryz.f94) 0
def zt1 : Code := zzv zxa 1
def zt2 : Code := zzv zxa 0
theorem FkpartitionEqualOrdered_int_eq (N : Nat) (x : tyq5) : evFn (zy8 N) Tryz.f94 ztg zti x = zy9 N x := by kernel_rfl
theorem zou (N n : Nat) (v : tyq5) : zzm N (n + 1) v = ev (zy8 N) zt2 (zzd zyc zxc (zzm N n)) (zyc.mk' v) := by kernel_rfl
theorem zov (N n : Nat) (v : tyq5) : zzp N (n + 1) v = ev (zy8 N) zt1 (zzd zyd zxd (zzp N n)) (zyd.mk' v) := by kernel_rfl
theorem zot (N n : Nat) (v : tyq5) : zze N (n + 1) v = ev (zy8 N) zxa (zzd zyb zxb (zze N n)) (zyb.mk' v) := by kernel_rfl
theorem zwv (N : Nat) : CtxOk Tryz.prog (zy8 N) := ⟨⟨TE_ok, List.forall_mem_cons.2 ⟨(zwg N), fun k hk => absurd hk List.not_mem_nil⟩⟩, mixed⟩
theorem lpkpartitionEqualOrdered_int_2 (N : Nat) : zzl Tryz.prog { hd := zyc, outs := zxc, run := fun v => zzm N N v } zt2 :=
 zzx (d := zyc) (os := zxc) (zwv N) (zzz (ids := []) (by kernel_rfl) (trivial)) (zzm N) (fun _ => rfl) (fun n v => zou N n v) (fun _ => N)
theorem lpkpartitionEqualOrdered_int_4 (N : Nat) : zzl Tryz.prog { hd := zyd, outs := zxd, run := fun v => zzp N N v } zt1 :=
 zzx (d := zyd) (os := zxd) (zwv N) (zzz (ids := []) (by kernel_rfl) (trivial)) (zzp N) (fun _ => rfl) (fun n v => zov N n v) (fun _ => N)
theorem lpkpartitionEqualOrdered_int_0 (N : Nat) : zzl Tryz.prog { hd := zyb, outs := zxb, run := fun v => zze N N v } zxa :=
 zzx (d := zyb) (os := zxb) (zwv N) (zzz (ids := [2, 4]) (by kernel_rfl) ⟨lp_of (lpkpartitionEqualOrdered_int_2 N), ⟨lp_of (lpkpartitionEqualOrdered_int_4 N), trivial⟩⟩) (zze N) (fun _ => rfl) (fun n v => zot N n v) (fun _ => N)
theorem speckpartitionEqualOrdered_int (N : Nat) : Spec Tryz.prog (zta N) :=
 Spec.of_eq (zzu (zwv N) (f := 94) (fn := Tryz.f94) (c := zzy Tryz.f94) (by kernel_rfl) (by kernel_rfl) (by kernel_rfl) (zzz (ids := [0]) (by kernel_rfl) ⟨lp_of (lpkpartitionEqualOrdered_int_0 N), trivial⟩) (by kernel_rfl)) (fun x r h => (FkpartitionEqualOrdered_int_eq N x).trans h)
def zqd : Desc := { n := 4, regs := [.one (.lit (.row 0)), .one (.val (.int .i64)), .one (.val (.int .i64)), .one (.val (.int .i64))], bx := [(0, .row (.int .i64))], pins := [] }
def zqh : Outs := [(.ret, { n := 2, regs := [.one (.val (.int .i64)), .one (.val .bool)], bx := [(0, .row (.int .i64))], pins := [.one (.lit (.row 0))] })]
def HkpartitionOrdered_int : Hints := []
def EkpartitionOrdered_int (N : Nat) : Env := { te := TE, cs := [zwi N] }
def zx7 : Desc := { n := 168, regs := [.one (.lit (.row 0)), .one (.val (.int .i64)), u, u, u, u, u, u, u, u, .one (.val (.int .i64)), .one (.val (.int .i64))], bx := [(0, .row (.int .i64))], pins := [.one (.lit (.row 0))] }
def zvp : Outs := [(.exit 0, { n := 168, regs := [.one (.lit (.row 0)), .one (.val (.int .i64)), u, u, u, u, u, u, u, u, .one (.val (.int .i64)), .one (.val (.int .i64))], bx := [(0, .row (.int .i64))], pins := [.one (.lit (.row 0))] })]
def zx6 : Desc := { n := 168, regs := [.one (.lit (.row 0)), .one (.val (.int .i64)), u, u, u, u, u, u, u, u, .one (.val (.int .i64)), .one (.val (.int .i64))], bx := [(0, .row (.int .i64))], pins := [.one (.lit (.row 0))] }
def zvq : Outs := [(.exit 2, { n := 168, regs := [.one (.lit (.row 0)), .one (.val (.int .i64)), u, u, u, u, u, u, u, u, .one (.val (.int .i64)), .one (.val (.int .i64))], bx := [(0, .row (.int .i64))], pins := [.one (.lit (.row 0))] })]
def zx4 : Desc := { n := 168, regs := [.one (.lit (.row 0)), .one (.val (.int .i64)), u, u, u, u, u, u, u, u, .one (.val (.int .i64)), .one (.val (.int .i64))], bx := [(0, .row (.int .i64))], pins := [.one (.lit (.row 0))] }
def zvs : Outs := [(.exit 6, { n := 168, regs := [.one (.lit (.row 0)), .one (.val (.int .i64)), u, u, u, u, u, u, u, u, .one (.val (.int .i64)), .one (.val (.int .i64))], bx := [(0, .row (.int .i64))], pins := [.one (.lit (.row 0))] })]
def zx3 : Desc := { n := 168, regs := [.one (.lit (.row 0)), .one (.val (.int .i64)), u, u, u, u, u, u, u, u, .one (.val (.int .i64)), .one (.val (.int .i64))], bx := [(0, .row (.int .i64))], pins := [.one (.lit (.row 0))] }
def zvt : Outs := [(.exit 8, { n := 168, regs := [.one (.lit (.row 0)), .one (.val (.int .i64)), u, u, u, u, u, u, u, u, .one (.val (.int .i64)), .one (.val (.int .i64))], bx := [(0, .row (.int .i64))], pins := [.one (.lit (.row 0))] })]
def zx5 : Desc := { n := 168, regs := [.one (.lit (.row 0)), .one (.val (.int .i64)), u, u, u, u, u, u, u, u, .one (.val (.int .i64)), .one (.val (.int .i64))], bx := [(0, .row (.int .i64))], pins := [.one (.lit (.row 0))] }
def zvr : Outs := [(.exit 4, { n := 168, regs := [.one (.lit (.row 0)), .one (.val (.int .i64)), u, u, u, u, u, u, u, u, u, .one (.val (.int .i64))], bx := [(0, .row (.int .i64))], pins := [.one (.lit (.row 0))] })]
def zz3 (N : Nat) : Nat → tyq5 → Option tyq5
 | 0, _ => none
 | n + 1, v =>
  bif decide (v.2.1 ≤ v.2.2.1) then
   bif decide (0 ≤ v.2.1) then
   bif decide (v.2.1.toNat < v.2.2.2.1.length) then
   bif decide (0 ≤ v.1) then
   bif decide (v.1.toNat < v.2.2.2.1.length) then
   (zz9 N (v.2.2.2.1.getD v.2.1.toNat (0 : Int), v.2.2.2.1.getD v.1.toNat (0 : Int), ())).bind fun r3 =>
   bif r3.1 then
    zz3 N n (v.1, w64 (v.2.1 + (1 : Int)), v.2.2.1, v.2.2.2.1, ())
   else
   some (v.1, v.2.1, v.2.2.1, v.2.2.2.1, ())
   else none
   else none
   else none
   else none
  else
  some (v.1, v.2.1, v.2.2.1, v.2.2.2.1, ())
def zza (N : Nat) : Nat → tyq5 → Option tyq5
 | 0, _ => none
 | n + 1, v =>
  bif decide (v.2.1 ≤ v.2.2.1) then
   bif decide (0 ≤ v.2.2.1) then
   bif decide (v.2.2.1.toNat < v.2.2.2.1.length) then
   let y5 := v.2.2.2.1.getD v.2.2.1.toNat (0 : Int)
   bif decide (0 ≤ v.1) then
   bif decide (v.1.toNat < v.2.2.2.1.length) then
   (zz9 N (y5, v.2.2.2.1.getD v.1.toNat (0 : Int), ())).bind fun r6 =>
   bif !r6.1 then
    zza N n (v.1, v.2.1, w64 (v.2.2.1 - (1 : Int)), v.2.2.2.1, ())
   else
   some (v.1, v.2.1, v.2.2.1, v.2.2.2.1, ())
   else none
   else none
   else none
   else none
  else
  some (v.1, v.2.1, v.2.2.1, v.2.2.2.1, ())
def zz2 (N : Nat) : Nat → tyq5 → Option tyq5
 | 0, _ => none
 | n + 1, v =>
  bif decide (v.2.1 ≤ v.2.2.1) then
   bif decide (0 ≤ v.2.1) then
   bif decide (v.2.1.toNat < v.2.2.2.1.length) then
   bif decide (0 ≤ v.1) then
   bif decide (v.1.toNat < v.2.2.2.1.length) then
   (zz9 N (v.2.2.2.1.getD v.2.1.toNat (0 : Int), v.2.2.2.1.getD v.1.toNat (0 : Int), ())).bind fun r13 =>
   bif r13.1 then
    zz2 N n (v.1, w64 (v.2.1 + (1 : Int)), v.2.2.1, v.2.2.2.1, ())
   else
   some (v.1, v.2.1, v.2.2.1, v.2.2.2.1, ())
   else none
   else none
   else none
   else none
  else
  some (v.1, v.2.1, v.2.2.1, v.2.2.2.1, ())
def zzb (N : Nat) : Nat → tyq5 → Option tyq5
 | 0, _ => none
 | n + 1, v =>
  bif decide (v.2.1 ≤ v.2.2.1) then
   bif decide (0 ≤ v.2.2.1) then
   bif decide (v.2.2.1.toNat < v.2.2.2.1.length) then
   let y15 := v.2.2.2.1.getD v.2.2.1.toNat (0 : Int)
   bif decide (0 ≤ v.1) then
   bif decide (v.1.toNat < v.2.2.2.1.length) then
   (zz9 N (y15, v.2.2.2.1.getD v.1.toNat (0 : Int), ())).bind fun r16 =>
   bif !r16.1 then
    zzb N n (v.1, v.2.1, w64 (v.2.2.1 - (1 : Int)), v.2.2.2.1, ())
   else
   some (v.1, v.2.1, v.2.2.1, v.2.2.2.1, ())
   else none
   else none
   else none
   else none
  else
  some (v.1, v.2.1, v.2.2.1, v.2.2.2.1, ())
def zz6 (N : Nat) : Nat → tyq5 → Option (Int × (Int × ((List Int) × Unit)))
 | 0, _ => none
 | n + 1, v =>
  (zz2 N N (v.1, v.2.1, v.2.2.1, v.2.2.2.1, ())).bind fun o14 =>
  (zzb N N (o14.1, o14.2.1, o14.2.2.1, o14.2.2.2.1, ())).bind fun o17 =>
  bif decide (o17.2.1 > o17.2.2.1) then
   some (o17.1, o17.2.2.1, o17.2.2.2.1, ())
  else
  bif decide (0 ≤ o17.2.2.1) then
  bif decide (o17.2.2.1.toNat < o17.2.2.2.1.length) then
  let y18 := o17.2.2.2.1.getD o17.2.2.1.toNat (0 : Int)
  bif decide (0 ≤ o17.2.1) then
  bif decide (o17.2.1.toNat < o17.2.2.2.1.length) then
  let y19 := o17.2.2.2.1.getD o17.2.1.toNat (0 : Int)
  bif decide (0 ≤ o17.2.1) then
  bif decide (o17.2.1.toNat < o17.2.2.2.1.length) then
  bif decide (0 ≤ o17.2.2.1) then
  bif decide (o17.2.2.1.toNat < (o17.2.2.2.1.set o17.2.1.toNat y18).length) then
  let y20 := (o17.2.2.2.1.set o17.2.1.toNat y18).set o17.2.2.1.toNat y19
  zz6 N n (o17.1, w64 (o17.2.1 + (1 : Int)), w64 (o17.2.2.1 - (1 : Int)), y20, ())
  else none
  else none
  else none
  else none
  else none
  else none
  else none
  else none
def zxp (N : Nat) (x : tyq5) : Option (Int × (Bool × ((List Int) × Unit))) :=
 bif decide (0 ≤ x.2.2.1) then
 bif decide (x.2.2.1.toNat < x.2.2.2.1.length) then
 let y1 := x.2.2.2.1.getD x.2.2.1.toNat (0 : Int)
 bif decide (0 ≤ x.1) then
 bif decide (x.1.toNat < x.2.2.2.1.length) then
 bif decide (0 ≤ x.1) then
 bif decide (x.1.toNat < x.2.2.2.1.length) then
 bif decide (0 ≤ x.2.2.1) then
 bif decide (x.2.2.1.toNat < (x.2.2.2.1.set x.1.toNat y1).length) then
 let y2 := (x.2.2.2.1.set x.1.toNat y1).set x.2.2.1.toNat (x.2.2.2.1.getD x.1.toNat (0 : Int))
 (zz3 N N (x.1, w64 (x.1 + (1 : Int)), w64 (x.2.1 - (1 : Int)), y2, ())).bind fun o4 =>
 (zza N N (o4.1, o4.2.1, o4.2.2.1, o4.2.2.2.1, ())).bind fun o7 =>
 bif decide (o7.2.1 > o7.2.2.1) then
  bif decide (0 ≤ o7.1) then
  bif decide (o7.1.toNat < o7.2.2.2.1.length) then
  bif decide (0 ≤ o7.2.2.1) then
  bif decide (o7.2.2.1.toNat < o7.2.2.2.1.length) then
  let y8 := o7.2.2.2.1.getD o7.2.2.1.toNat (0 : Int)
  bif decide (0 ≤ o7.2.2.1) then
  bif decide (o7.2.2.1.toNat < o7.2.2.2.1.length) then
  let y9 := o7.2.2.2.1.set o7.2.2.1.toNat (o7.2.2.2.1.getD o7.1.toNat (0 : Int))
  bif decide (0 ≤ o7.1) then
  bif decide (o7.1.toNat < y9.length) then
  some (o7.2.2.1, true, y9.set o7.1.toNat y8, ())
  else none
  else none
  else none
  else none
  else none
  else none
  else none
  else none
 else
 bif decide (0 ≤ o7.2.2.1) then
 bif decide (o7.2.2.1.toNat < o7.2.2.2.1.length) then
 let y10 := o7.2.2.2.1.getD o7.2.2.1.toNat (0 : Int)
 bif decide (0 ≤ o7.2.1) then
 bif decide (o7.2.1.toNat < o7.2.2.2.1.length) then
 let y11 := o7.2.2.2.1.getD o7.2.1.toNat (0 : Int)
 bif decide (0 ≤ o7.2.1) then
 bif decide (o7.2.1.toNat < o7.2.2.2.1.length) then
 bif decide (0 ≤ o7.2.2.1) then
 bif decide (o7.2.2.1.toNat < (o7.2.2.2.1.set o7.2.1.toNat y10).length) then
 let y12 := (o7.2.2.2.1.set o7.2.1.toNat y10).set o7.2.2.1.toNat y11
 (zz6 N N (o7.1, w64 (o7.2.1 + (1 : Int)), w64 (o7.2.2.1 - (1 : Int)), y12, ())).bind fun o21 =>
 bif decide (0 ≤ o21.1) then
 bif decide (o21.1.toNat < o21.2.2.1.length) then
 bif decide (0 ≤ o21.2.1) then
 bif decide (o21.2.1.toNat < o21.2.2.1.length) then
 let y22 := o21.2.2.1.getD o21.2.1.toNat (0 : Int)
 bif decide (0 ≤ o21.2.1) then
 bif decide (o21.2.1.toNat < o21.2.2.1.length) then
 let y23 := o21.2.2.1.set o21.2.1.toNat (o21.2.2.1.getD o21.1.toNat (0 : Int))
 bif decide (0 ≤ o21.1) then
 bif decide (o21.1.toNat < y23.length) then
 some (o21.2.1, false, y23.set o21.1.toNat y22, ())
 else none
 else none
 else none
 else none
 else none
 else none
 else none
 else none
 else none
 else none
 else none
 else none
 else none
 else none
 else none
 else none
 else none
 else none
 else none
 else none
 else none
 else none
 else none
 else none
def zq0 (N : Nat) : Con := { f := 95, din := zqd, outs := zqh, F := zxp N }
def zy2 (N : Nat) : Ctx := { E := EkpartitionOrdered_int N, H := HkpartitionOrdered_int, lp := [(0, { hd := zx7, outs := zvp, run := fun v => zz3 N N v }), (2, { hd := zx6, outs := zvq, run := fun v => zza N N v }), (6, { hd := zx4, outs := zvs, run := fun v => zz2 N N v }), (8, { hd := zx3, outs := zvt, run := fun v => zzb N N v }), (4, { hd := zx5, outs := zvr, run := fun v => zz6 N N v })], jn := [] }
def zvo : Code := zzv (zzy Tryz.f95) 2
def zq1 : Code := zzv zvo 1
def zq2 : Code := zzv zvo 0
def zq3 : Code := zzv (zzy Tryz.f95) 1
def zq4 : Code := zzv (zzy Tryz.f95) 0
theorem FkpartitionOrdered_int_eq (N : Nat) (x : tyq5) : evFn (zy2 N) Tryz.f95 zqd zqh x = zxp N x := by kernel_rfl
theorem lkpartitionOrdered_int_0_eq (N n : Nat) (v : tyq5) : zz3 N (n + 1) v = ev (zy2 N) zq4 (zzd zx7 zvp (zz3 N n)) (zx7.mk' v) := by kernel_rfl
theorem lkpartitionOrdered_int_2_eq (N n : Nat) (v : tyq5) : zza N (n + 1) v = ev (zy2 N) zq3 (zzd zx6 zvq (zza N n)) (zx6.mk' v) := by kernel_rfl
theorem lkpartitionOrdered_int_6_eq (N n : Nat) (v : tyq5) : zz2 N (n + 1) v = ev (zy2 N) zq2 (zzd zx4 zvs (zz2 N n)) (zx4.mk' v) := by kernel_rfl
theorem lkpartitionOrdered_int_8_eq (N n : Nat) (v : tyq5) : zzb N (n + 1) v = ev (zy2 N) zq1 (zzd zx3 zvt (zzb N n)) (zx3.mk' v) := by kernel_rfl
theorem lkpartitionOrdered_int_4_eq (N n : Nat) (v : tyq5) : zz6 N (n + 1) v = ev (zy2 N) zvo (zzd zx5 zvr (zz6 N n)) (zx5.mk' v) := by kernel_rfl
theorem zxw (N : Nat) : CtxOk Tryz.prog (zy2 N) := ⟨⟨TE_ok, List.forall_mem_cons.2 ⟨(zwg N), fun k hk => absurd hk List.not_mem_nil⟩⟩, mixed⟩
theorem lpkpartitionOrdered_int_0 (N : Nat) : zzl Tryz.prog { hd := zx7, outs := zvp, run := fun v => zz3 N N v } zq4 :=
 zzx (d := zx7) (os := zvp) (zxw N) (zzz (ids := []) (by kernel_rfl) (trivial)) (zz3 N) (fun _ => rfl) (fun n v => lkpartitionOrdered_int_0_eq N n v) (fun _ => N)
theorem lpkpartitionOrdered_int_2 (N : Nat) : zzl Tryz.prog { hd := zx6, outs := zvq, run := fun v => zza N N v } zq3 :=
 zzx (d := zx6) (os := zvq) (zxw N) (zzz (ids := []) (by kernel_rfl) (trivial)) (zza N) (fun _ => rfl) (fun n v => lkpartitionOrdered_int_2_eq N n v) (fun _ => N)
theorem lpkpartitionOrdered_int_6 (N : Nat) : zzl Tryz.prog { hd := zx4, outs := zvs, run := fun v => zz2 N N v } zq2 :=
 zzx (d := zx4) (os := zvs) (zxw N) (zzz (ids := []) (by kernel_rfl) (trivial)) (zz2 N) (fun _ => rfl) (fun n v => lkpartitionOrdered_int_6_eq N n v) (fun _ => N)
theorem lpkpartitionOrdered_int_8 (N : Nat) : zzl Tryz.prog { hd := zx3, outs := zvt, run := fun v => zzb N N v } zq1 :=
 zzx (d := zx3) (os := zvt) (zxw N) (zzz (ids := []) (by kernel_rfl) (trivial)) (zzb N) (fun _ => rfl) (fun n v => lkpartitionOrdered_int_8_eq N n v) (fun _ => N)
theorem lpkpartitionOrdered_int_4 (N : Nat) : zzl Tryz.prog { hd := zx5, outs := zvr, run := fun v => zz6 N N v } zvo :=
 zzx (d := zx5) (os := zvr) (zxw N) (zzz (ids := [6, 8]) (by kernel_rfl) ⟨lp_of (lpkpartitionOrdered_int_6 N), ⟨lp_of (lpkpartitionOrdered_int_8 N), trivial⟩⟩) (zz6 N) (fun _ => rfl) (fun n v => lkpartitionOrdered_int_4_eq N n v) (fun _ => N)
theorem speckpartitionOrdered_int (N : Nat) : Spec Tryz.prog (zq0 N) :=
 Spec.of_eq (zzu (zxw N) (f := 95) (fn := Tryz.f95) (c := zzy Tryz.f95) (by kernel_rfl) (by kernel_rfl) (by kernel_rfl) (zzz (ids := [0, 2, 4]) (by kernel_rfl) ⟨lp_of (lpkpartitionOrdered_int_0 N), ⟨lp_of (lpkpartitionOrdered_int_2 N), ⟨lp_of (lpkpartitionOrdered_int_4 N), trivial⟩⟩⟩) (by kernel_rfl)) (fun x r h => (FkpartitionOrdered_int_eq N x).trans h)
def zt7 : Desc := { n := 4, regs := [.one (.lit (.row 0)), .one (.val (.int .i64)), .one (.val (.int .i64)), .one (.val (.int .i64))], bx := [(0, .row (.int .i64))], pins := [] }
def zt5 : Outs := [(.ret, { n := 0, regs := [], bx := [(0, .row (.int .i64))], pins := [.one (.lit (.row 0))] })]
def HkpdqsortOrdered_int : Hints := [(6, [(3, { con := 1 })]),
 (8, [(3, { con := 2 })]),
 (10, [(3, { con := 3 })]),
 (12, [(3, { con := 4 })]),
 (16, [(3, { con := 5 })]),
 (17, [(12, { con := 6 })]),
 (18, [(4, { con := 7 })]),
 (20, [(4, { con := 8 })]),
 (26, [(4, { con := 9 })]),
 (29, [(5, { con := 9 })])]
def zwd : Desc := { n := 134, regs := [.one (.lit (.row 0)), .one (.val (.int .i64)), .one (.val (.int .i64)), .one (.val (.int .i64)), u, u, u, u, .one (.val .bool), .one (.val .bool)], bx := [(0, .row (.int .i64))], pins := [.one (.lit (.row 0))] }
def zus : Outs := [(.ret, { n := 134, regs := [], bx := [(0, .row (.int .i64))], pins := [.one (.lit (.row 0))] })]
def jkpdqsortOrdered_int_10 : Outs := [(.normal, { n := 134, regs := [.one (.lit (.row 0)), .one (.val (.int .i64)), .one (.val (.int .i64)), .one (.val (.int .i64)), u, u, u, u, .one (.val .bool), .one (.val .bool), .one (.val (.int .i64))], bx := [(0, .row (.int .i64))], pins := [.one (.lit (.row 0))] })]
def jkpdqsortOrdered_int_15 : Outs := [(.normal, { n := 134, regs := [.one (.lit (.row 0)), .one (.val (.int .i64)), .one (.val (.int .i64)), .one (.val (.int .i64)), u, u, u, u, .one (.val .bool), .one (.val .bool), .one (.val (.int .i64)), .one (.val (.int .i64)), .one (.val (.int .i64))], bx := [(0, .row (.int .i64))], pins := [.one (.lit (.row 0))] })]
def jkpdqsortOrdered_int_17 : Outs := [(.normal, { n := 134, regs := [.one (.lit (.row 0)), .one (.val (.int .i64)), .one (.val (.int .i64)), .one (.val (.int .i64)), u, u, u, u, .one (.val .bool), .one (.val .bool), .one (.val (.int .i64)), .one (.val (.int .i64))], bx := [(0, .row (.int .i64))], pins := [.one (.lit (.row 0))] }), (.ret, { n := 134, regs := [], bx := [(0, .row (.int .i64))], pins := [.one (.lit (.row 0))] })]
def jkpdqsortOrdered_int_20 : Outs := [(.exit 1, { n := 134, regs := [.one (.lit (.row 0)), .one (.val (.int .i64)), .one (.val (.int .i64)), .one (.val (.int .i64)), u, u, u, u, .one (.val .bool), .one (.val .bool)], bx := [(0, .row (.int .i64))], pins := [.one (.lit (.row 0))] }), (.normal, { n := 134, regs := [.one (.lit (.row 0)), .one (.val (.int .i64)), .one (.val (.int .i64)), .one (.val (.int .i64)), u, u, u, u, u, u, .one (.val (.int .i64)), .one (.val (.int .i64))], bx := [(0, .row (.int .i64))], pins := [.one (.lit (.row 0))] })]
def zzh (N : Nat) (f_ : tyq5 → Option ((List Int) × Unit)) : Nat → (Int × (Int × (Int × (Bool × (Bool × ((List Int) × Unit)))))) → Option ((List Int) × Unit)
 | 0, _ => none
 | n + 1, v =>
  let y1 := decide ((w64 (v.2.1 - v.1)) ≤ (12 : Int))
  bif y1 then
   (zxs N (v.1, v.2.1, v.2.2.2.2.2.1, ())).bind fun r2 =>
   some (r2.1, ())
  else
  bif v.2.2.1 == (0 : Int) then
   (zvu N (v.1, v.2.1, v.2.2.2.2.2.1, ())).bind fun r3 =>
   some (r3.1, ())
  else
  Option.bind (
   bif !v.2.2.2.1 then
    (zyl N (v.1, v.2.1, v.2.2.2.2.2.1, ())).bind fun r4 =>
    some (v.1, v.2.1, w64 (v.2.2.1 - (1 : Int)), v.2.2.2.1, v.2.2.2.2.1, w64 (v.2.1 - v.1), r4.1, ())
   else
   some (v.1, v.2.1, v.2.2.1, v.2.2.2.1, v.2.2.2.2.1, w64 (v.2.1 - v.1), v.2.2.2.2.2.1, ())) fun o5 =>
  (zwz N (o5.2.2.2.2.2.2.1, o5.1, o5.2.1, ())).bind fun r6 =>
  Option.bind (
   bif r6.2.1 == (2 : Int) then
    (zy0 N (o5.1, o5.2.1, o5.2.2.2.2.2.2.1, ())).bind fun r7 =>
    let y8 := w64 ((w64 (o5.2.1 - (1 : Int))) - (w64 (r6.1 - o5.1)))
    some (o5.1, o5.2.1, o5.2.2.1, o5.2.2.2.1, o5.2.2.2.2.1, o5.2.2.2.2.2.1, y8, (1 : Int), r7.1, ())
   else
   some (o5.1, o5.2.1, o5.2.2.1, o5.2.2.2.1, o5.2.2.2.2.1, o5.2.2.2.2.2.1, r6.1, r6.2.1, o5.2.2.2.2.2.2.1, ())) fun o9 =>
  Option.bind (
   bif o9.2.2.2.1 then
    bif o9.2.2.2.2.1 then
     bif o9.2.2.2.2.2.2.2.1 == (1 : Int) then
      (zz1 N (o9.1, o9.2.1, o9.2.2.2.2.2.2.2.2.1, ())).bind fun r10 =>
      bif r10.1 then
       some (.inr ((r10.2.1, ())))
      else
      some (.inl (o9.1, o9.2.1, o9.2.2.1, o9.2.2.2.1, o9.2.2.2.2.1, o9.2.2.2.2.2.1, o9.2.2.2.2.2.2.1, r10.2.1, ()))
     else
     some (.inl (o9.1, o9.2.1, o9.2.2.1, o9.2.2.2.1, o9.2.2.2.2.1, o9.2.2.2.2.2.1, o9.2.2.2.2.2.2.1, o9.2.2.2.2.2.2.2.2.1, ()))
    else
    some (.inl (o9.1, o9.2.1, o9.2.2.1, o9.2.2.2.1, o9.2.2.2.2.1, o9.2.2.2.2.2.1, o9.2.2.2.2.2.2.1, o9.2.2.2.2.2.2.2.2.1, ()))
   else
   some (.inl (o9.1, o9.2.1, o9.2.2.1, o9.2.2.2.1, o9.2.2.2.2.1, o9.2.2.2.2.2.1, o9.2.2.2.2.2.2.1, o9.2.2.2.2.2.2.2.2.1, ()))) fun o11 =>
  Sum.elim (fun o12 =>
   Option.bind (
    bif decide (o12.1 > (0 : Int)) then
     bif decide (0 ≤ (w64 (o12.1 - (1 : Int)))) then
     bif decide ((w64 (o12.1 - (1 : Int))).toNat < o12.2.2.2.2.2.2.2.1.length) then
     let y13 := o12.2.2.2.2.2.2.2.1.getD ((w64 (o12.1 - (1 : Int))).toNat) (0 : Int)
     bif decide (0 ≤ o12.2.2.2.2.2.2.1) then
     bif decide (o12.2.2.2.2.2.2.1.toNat < o12.2.2.2.2.2.2.2.1.length) then
     let y14 := o12.2.2.2.2.2.2.2.1.getD o12.2.2.2.2.2.2.1.toNat (0 : Int)
     (zz9 N (y13, y14, ())).bind fun r15 =>
     bif !r15.1 then
      (zy9 N (o12.1, o12.2.1, o12.2.2.2.2.2.2.1, o12.2.2.2.2.2.2.2.1, ())).bind fun r16 =>
      some (.inl (r16.1, o12.2.1, o12.2.2.1, o12.2.2.2.1, o12.2.2.2.2.1, r16.2.1, ()))
     else
     some (.inr ((o12.1, o12.2.1, o12.2.2.1, o12.2.2.2.2.2.1, o12.2.2.2.2.2.2.1, o12.2.2.2.2.2.2.2.1, ())))
     else none
     else none
     else none
     else none
    else
    some (.inr ((o12.1, o12.2.1, o12.2.2.1, o12.2.2.2.2.2.1, o12.2.2.2.2.2.2.1, o12.2.2.2.2.2.2.2.1, ())))) fun o17 =>
   Sum.elim (fun o18 =>
    zzh N f_ n (o18.1, o18.2.1, o18.2.2.1, o18.2.2.2.1, o18.2.2.2.2.1, o18.2.2.2.2.2.1, ())) (fun o19 =>
    (zxp N (o19.1, o19.2.1, o19.2.2.2.2.1, o19.2.2.2.2.2.1, ())).bind fun r20 =>
    bif decide ((8 : Int) = 0) then
     none
    else
    let y21 := decide ((w64 (r20.1 - o19.1)) < (w64 (o19.2.1 - r20.1)))
    bif y21 then
     let y22 := decide ((w64 (r20.1 - o19.1)) ≥ (w64 (Int.tdiv o19.2.2.2.1 (8 : Int))))
     (f_ (o19.1, r20.1, o19.2.2.1, r20.2.2.1, ())).bind fun r23 =>
     zzh N f_ n (w64 (r20.1 + (1 : Int)), o19.2.1, o19.2.2.1, y22, r20.2.1, r23.1, ())
    else
    let y24 := decide ((w64 (o19.2.1 - r20.1)) ≥ (w64 (Int.tdiv o19.2.2.2.1 (8 : Int))))
    (f_ (w64 (r20.1 + (1 : Int)), o19.2.1, o19.2.2.1, r20.2.2.1, ())).bind fun r25 =>
    zzh N f_ n (o19.1, r20.1, o19.2.2.1, y24, r20.2.1, r25.1, ())) o17) (fun o26 =>
   some (o26.1, ())) o11
def zzq (N : Nat) : Nat → tyq5 → Option ((List Int) × Unit)
 | 0, _ => none
 | m_ + 1, x =>
 (zzh N (fun x_ => zzq N m_ x_) N (x.1, x.2.1, x.2.2.1, true, true, x.2.2.2.1, ())).bind fun o27 =>
 some (o27.1, ())
def zwc (N : Nat) (m_ : Nat) : Con := { f := 77, din := zt7, outs := zt5, F := zzq N m_ }
def EkpdqsortOrdered_int (N : Nat) (m_ : Nat) : Env := { te := TE, cs := [zst N, zp2 N, zss N, zro N, zsb N, zuw N, zwi N, zta N, zq0 N, zwc N m_] }
def zrm (N : Nat) (m_ : Nat) : Ctx := { E := EkpdqsortOrdered_int N m_, H := HkpdqsortOrdered_int, lp := [(0, { hd := zwd, outs := zus, run := fun v => zzh N (fun x_ => zzq N m_ x_) N v })], jn := [(10, jkpdqsortOrdered_int_10), (15, jkpdqsortOrdered_int_15), (17, jkpdqsortOrdered_int_17), (20, jkpdqsortOrdered_int_20)] }
def zop : Code := zzv (zzy Tryz.f77) 0
theorem FkpdqsortOrdered_int_eq (N m_ : Nat) (x : tyq5) : evFn (zrm N m_) Tryz.f77 zt7 zt5 x = zzq N (m_ + 1) x := by kernel_rfl
theorem lkpdqsortOrdered_int_0_eq (N m_ n : Nat) (v : (Int × (Int × (Int × (Bool × (Bool × ((List Int) × Unit))))))) : zzh N (fun x_ => zzq N m_ x_) (n + 1) v = ev (zrm N m_) zop (zzd zwd zus (zzh N (fun x_ => zzq N m_ x_) n)) (zwd.mk' v) := by kernel_rfl
theorem cxkpdqsortOrdered_int (N : Nat) (m_ : Nat) (hs : Spec Tryz.prog (zwc N m_)) : CtxOk Tryz.prog (zrm N m_) := ⟨⟨TE_ok, List.forall_mem_cons.2 ⟨(speckinsertionSortOrdered_int N), List.forall_mem_cons.2 ⟨(speckheapSortOrdered_int N), List.forall_mem_cons.2 ⟨(speckbreakPatternsOrdered_int N), List.forall_mem_cons.2 ⟨(speckchoosePivotOrdered_int N), List.forall_mem_cons.2 ⟨(speckreverseRangeOrdered_int N), List.forall_mem_cons.2 ⟨(zrl N), List.forall_mem_cons.2 ⟨(zwg N), List.forall_mem_cons.2 ⟨(speckpartitionEqualOrdered_int N), List.forall_mem_cons.2 ⟨(speckpartitionOrdered_int N), List.forall_mem_cons.2 ⟨hs, fun k hk => absurd hk List.not_mem_nil⟩⟩⟩⟩⟩⟩⟩⟩⟩⟩⟩, mixed⟩
theorem lpkpdqsortOrdered_int_0 (N : Nat) (m_ : Nat) (hs : Spec Tryz.prog (zwc N m_)) : zzl Tryz.prog { hd := zwd, outs := zus, run := fun v => zzh N (fun x_ => zzq N m_ x_) N v } zop :=
 zzx (d := zwd) (os := zus) (cxkpdqsortOrdered_int N m_ hs) (zzz (ids := []) (by kernel_rfl) (trivial)) (zzh N (fun x_ => zzq N m_ x_)) (fun _ => rfl) (fun n v => lkpdqsortOrdered_int_0_eq N m_ n v) (fun _ => N)
theorem czkpdqsortOrdered_int : CtxOk Tryz.prog { E := { te := TE, cs := [] }, H := [], lp := [], jn := [] } := ⟨⟨TE_ok, fun k hk => absurd hk List.not_mem_nil⟩, mixed⟩
theorem ztr (N : Nat) : ∀ m_ : Nat, Spec Tryz.prog (zwc N m_)
 | 0 => Spec.of_eq (zzu (czkpdqsortOrdered_int) (f := 77) (fn := Tryz.f77) (din := zt7) (os := zt5) (c := zzy Tryz.f77) (by kernel_rfl) (by kernel_rfl) (by kernel_rfl) (zzz (ids := [0]) (by kernel_rfl) ⟨lp_none, trivial⟩) (by kernel_rfl)) (fun x r h => nomatch (show (none : Option _) = some r from h))
 | m_ + 1 => Spec.of_eq (zzu (cxkpdqsortOrdered_int N m_ (ztr N m_)) (f := 77) (fn := Tryz.f77) (c := zzy Tryz.f77) (by kernel_rfl) (by kernel_rfl) (by kernel_rfl) (zzz (ids := [0]) (by kernel_rfl) ⟨lp_of (lpkpdqsortOrdered_int_0 N m_ (ztr N m_)), trivial⟩) (by kernel_rfl)) (fun x r h => (FkpdqsortOrdered_int_eq N m_ x).trans h)
def dinkSort_Sint_int : Desc := { n := 1, regs := [.one (.lit (.row 0))], bx := [(0, .row (.int .i64))], pins := [] }
def outkSort_Sint_int : Outs := [(.ret, { n := 0, regs := [], bx := [(0, .row (.int .i64))], pins := [.one (.lit (.row 0))] })]
def HkSort_Sint_int : Hints := [(1, [(5, { con := 1 })])]
def EkSort_Sint_int (N : Nat) : Env := { te := TE, cs := [conmath_bits_Len N, zwc N N] }
def zs6 (N : Nat) (x : ((List Int) × Unit)) : Option ((List Int) × Unit) :=
 let y1 := IntKind.wrap .u64 ((x.1.length : Int))
 (zvy N (y1, ())).bind fun r2 =>
 (zzq N N ((0 : Int), (x.1.length : Int), r2.1, x.1, ())).bind fun r3 =>
 some (r3.1, ())
def conkSort_Sint_int (N : Nat) : Con := { f := 59, din := dinkSort_Sint_int, outs := outkSort_Sint_int, F := zs6 N }
def XkSort_Sint_int (N : Nat) : Ctx := { E := EkSort_Sint_int N, H := HkSort_Sint_int, lp := [], jn := [] }
theorem FkSort_Sint_int_eq (N : Nat) (x : ((List Int) × Unit)) : evFn (XkSort_Sint_int N) Tryz.f59 dinkSort_Sint_int outkSort_Sint_int x = zs6 N x := by kernel_rfl
theorem cxkSort_Sint_int (N : Nat) : CtxOk Tryz.prog (XkSort_Sint_int N) := ⟨⟨TE_ok, List.forall_mem_cons.2 ⟨(specmath_bits_Len N), List.forall_mem_cons.2 ⟨(ztr N N), fun k hk => absurd hk List.not_mem_nil⟩⟩⟩, mixed⟩
theorem speckSort_Sint_int (N : Nat) : Spec Tryz.prog (conkSort_Sint_int N) :=
 Spec.of_eq (zzu (cxkSort_Sint_int N) (f := 59) (fn := Tryz.f59) (c := zzy Tryz.f59) (by kernel_rfl) (by kernel_rfl) (by kernel_rfl) (zzz (ids := []) (by kernel_rfl) (trivial)) (by kernel_rfl)) (fun x r h => (FkSort_Sint_int_eq N x).trans h)
def diniheap_live : Desc := { n := 1, regs := [.one (.fpt (.pair tyq10 (.pair (.mp tyq11) (.pair (.sl (.int .i64)) .unit))))], bx := [], pins := [] }
def outiheap_live : Outs := [(.ret, { n := 1, regs := [.one (.lit (.row 1013057))], bx := [(1013057, .row (.int .i64))], pins := [] })]
def Hiheap_live : Hints := [(2, [(1, { con := 1, sg := [(0, 1013057)] })])]
def Eiheap_live (N : Nat) : Env := { te := TE, cs := [zuj N, conkSort_Sint_int N] }
def Fiheap_live (N : Nat) (x : ((tyq1 × ((List (Int × tyq2)) × ((List Int) × Unit))) × Unit)) : Option ((List Int) × Unit) :=
 (zxx N (x.1.2.2.1, ())).bind fun r1 =>
 (zs6 N (r1.1, ())).bind fun r2 =>
 some (r2.1, ())
def coniheap_live (N : Nat) : Con := { f := 28, din := diniheap_live, outs := outiheap_live, F := Fiheap_live N }
def Xiheap_live (N : Nat) : Ctx := { E := Eiheap_live N, H := Hiheap_live, lp := [], jn := [] }
theorem Fiheap_live_eq (N : Nat) (x : ((tyq1 × ((List (Int × tyq2)) × ((List Int) × Unit))) × Unit)) : evFn (Xiheap_live N) Tryz.f28 diniheap_live outiheap_live x = Fiheap_live N x := by kernel_rfl
theorem cxiheap_live (N : Nat) : CtxOk Tryz.prog (Xiheap_live N) := ⟨⟨TE_ok, List.forall_mem_cons.2 ⟨(ztq N), List.forall_mem_cons.2 ⟨(speckSort_Sint_int N), fun k hk => absurd hk List.not_mem_nil⟩⟩⟩, mixed⟩
theorem speciheap_live (N : Nat) : Spec Tryz.prog (coniheap_live N) :=
 Spec.of_eq (zzu (cxiheap_live N) (f := 28) (fn := Tryz.f28) (c := zzy Tryz.f28) (by kernel_rfl) (by kernel_rfl) (by kernel_rfl) (zzz (ids := []) (by kernel_rfl) (trivial)) (by kernel_rfl)) (fun x r h => (Fiheap_live_eq N x).trans h)
def dinkisNaN_int : Desc := { n := 1, regs := [.one (.val (.int .i64))], bx := [], pins := [] }
def outkisNaN_int : Outs := [(.ret, { n := 1, regs := [.one (.val .bool)], bx := [], pins := [] })]
def HkisNaN_int : Hints := []
def EkisNaN_int (_N : Nat) : Env := { te := TE, cs := [] }
def FkisNaN_int (N : Nat) (x : (Int × Unit)) : Option (Bool × Unit) :=
 some (x.1 != x.1, ())
def conkisNaN_int (N : Nat) : Con := { f := 61, din := dinkisNaN_int, outs := outkisNaN_int, F := FkisNaN_int N }
def XkisNaN_int (N : Nat) : Ctx := { E := EkisNaN_int N, H := HkisNaN_int, lp := [], jn := [] }
theorem FkisNaN_int_eq (N : Nat) (x : (Int × Unit)) : evFn (XkisNaN_int N) Tryz.f61 dinkisNaN_int outkisNaN_int x = FkisNaN_int N x := by kernel_rfl
theorem cxkisNaN_int (N : Nat) : CtxOk Tryz.prog (XkisNaN_int N) := ⟨⟨TE_ok, fun k hk => absurd hk List.not_mem_nil⟩, mixed⟩
theorem speckisNaN_int (N : Nat) : Spec Tryz.prog (conkisNaN_int N) :=
 Spec.of_eq (zzu (cxkisNaN_int N) (f := 61) (fn := Tryz.f61) (c := zzy Tryz.f61) (by kernel_rfl) (by kernel_rfl) (by kernel_rfl) (zzz (ids := []) (by kernel_rfl) (trivial)) (by kernel_rfl)) (fun x r h => (FkisNaN_int_eq N x).trans h)
def zr1 : Desc := { n := 2, regs := [.one (.val (.sl (.int .i64))), .one (.val (.int .i64))], bx := [], pins := [] }
def zrk : Outs := [(.ret, { n := 2, regs := [.one (.val (.int .i64)), .one (.val .bool)], bx := [], pins := [] })]
def HkBinarySearch_Sint_int : Hints := [(8, [(16, { con := 1 }), (19, { con := 1 })])]
def EkBinarySearch_Sint_int (N : Nat) : Env := { te := TE, cs := [zwi N, conkisNaN_int N] }
def zxf : Desc := { n := 54, regs := [.one (.val (.sl (.int .i64))), .one (.val (.int .i64)), u, u, u, u, .one (.val (.int .i64)), .one (.val (.int .i64)), .one (.val (.int .i64))], bx := [], pins := [] }
def zw0 : Outs := [(.exit 0, { n := 54, regs := [.one (.val (.sl (.int .i64))), .one (.val (.int .i64)), u, u, u, u, .one (.val (.int .i64)), .one (.val (.int .i64))], bx := [], pins := [] })]
def zzf (N : Nat) : Nat → ((List Int) × (Int × (Int × (Int × (Int × Unit))))) → Option ((List Int) × (Int × (Int × (Int × Unit))))
 | 0, _ => none
 | n + 1, v =>
  bif decide (v.2.2.2.1 < v.2.2.2.2.1) then
   let y1 := IntKind.wrap .u64 (w64 (v.2.2.2.1 + v.2.2.2.2.1))
   bif decide (0 ≤ (1 : Int)) then
   let y2 := Int.fdiv y1 (2 ^ min (1 : Int).toNat 64)
   bif decide (0 ≤ (w64 (y2))) then
   bif decide ((w64 (y2)).toNat < v.1.length) then
   let y3 := v.1.getD ((w64 (y2)).toNat) (0 : Int)
   (zz9 N (y3, v.2.1, ())).bind fun r4 =>
   bif r4.1 then
    zzf N n (v.1, v.2.1, v.2.2.1, w64 ((w64 (y2)) + (1 : Int)), v.2.2.2.2.1, ())
   else
   zzf N n (v.1, v.2.1, v.2.2.1, v.2.2.2.1, w64 (y2), ())
   else none
   else none
   else none
  else
  some (v.1, v.2.1, v.2.2.1, v.2.2.2.1, ())
def zxu (N : Nat) (x : ((List Int) × (Int × Unit))) : Option (Int × (Bool × Unit)) :=
 (zzf N N (x.1, x.2.1, (x.1.length : Int), (0 : Int), (x.1.length : Int), ())).bind fun o5 =>
 bif decide (o5.2.2.2.1 < o5.2.2.1) then
  bif decide (0 ≤ o5.2.2.2.1) then
  bif decide (o5.2.2.2.1.toNat < o5.1.length) then
  let y6 := (o5.1.getD o5.2.2.2.1.toNat (0 : Int)) == o5.2.1
  bif y6 then
   some (o5.2.2.2.1, true, ())
  else
  bif decide (0 ≤ o5.2.2.2.1) then
  bif decide (o5.2.2.2.1.toNat < o5.1.length) then
  (FkisNaN_int N (o5.1.getD o5.2.2.2.1.toNat (0 : Int), ())).bind fun r7 =>
  bif r7.1 then
   (FkisNaN_int N (o5.2.1, ())).bind fun r8 =>
   some (o5.2.2.2.1, r8.1, ())
  else
  some (o5.2.2.2.1, false, ())
  else none
  else none
  else none
  else none
 else
 some (o5.2.2.2.1, false, ())
def zr5 (N : Nat) : Con := { f := 31, din := zr1, outs := zrk, F := zxu N }
def ztl (N : Nat) : Ctx := { E := EkBinarySearch_Sint_int N, H := HkBinarySearch_Sint_int, lp := [(0, { hd := zxf, outs := zw0, run := fun v => zzf N N v })], jn := [] }
def zr6 : Code := zzv (zzy Tryz.f31) 0
theorem FkBinarySearch_Sint_int_eq (N : Nat) (x : ((List Int) × (Int × Unit))) : evFn (ztl N) Tryz.f31 zr1 zrk x = zxu N x := by kernel_rfl
theorem lkBinarySearch_Sint_int_0_eq (N n : Nat) (v : ((List Int) × (Int × (Int × (Int × (Int × Unit)))))) : zzf N (n + 1) v = ev (ztl N) zr6 (zzd zxf zw0 (zzf N n)) (zxf.mk' v) := by kernel_rfl
theorem zqb (N : Nat) : CtxOk Tryz.prog (ztl N) := ⟨⟨TE_ok, List.forall_mem_cons.2 ⟨(zwg N), List.forall_mem_cons.2 ⟨(speckisNaN_int N), fun k hk => absurd hk List.not_mem_nil⟩⟩⟩, mixed⟩
theorem lpkBinarySearch_Sint_int_0 (N : Nat) : zzl Tryz.prog { hd := zxf, outs := zw0, run := fun v => zzf N N v } zr6 :=
 zzx (d := zxf) (os := zw0) (zqb N) (zzz (ids := []) (by kernel_rfl) (trivial)) (zzf N) (fun _ => rfl) (fun n v => lkBinarySearch_Sint_int_0_eq N n v) (fun _ => N)
theorem speckBinarySearch_Sint_int (N : Nat) : Spec Tryz.prog (zr5 N) :=
 Spec.of_eq (zzu (zqb N) (f := 31) (fn := Tryz.f31) (c := zzy Tryz.f31) (by kernel_rfl) (by kernel_rfl) (by kernel_rfl) (zzz (ids := [0]) (by kernel_rfl) ⟨lp_of (lpkBinarySearch_Sint_int_0 N), trivial⟩) (by kernel_rfl)) (fun x r h => (FkBinarySearch_Sint_int_eq N x).trans h)
def diniStateGraph_1 : Desc := { n := 3, regs := [.one (.val (.sl (.int .i64))), .one (.fpt (.sl (.int .i64))), .one (.fpp (.pair tyq10 (.pair (.mp tyq11) (.pair (.sl (.int .i64)) .unit))))], bx := [], pins := [] }
def outiStateGraph_1 : Outs := [(.ret, { n := 1, regs := [.one (.lit (.row 1012865))], bx := [(1012865, .row (.int .i64))], pins := [] })]
def HiStateGraph_1 : Hints := [(5, [(5, { con := 1 }), (6, { con := 2 })])]
def EiStateGraph_1 (N : Nat) : Env := { te := TE, cs := [zuj N, coniheap_now N, zr5 N] }
def ztb : Desc := { n := 35, regs := [u, .one (.fpt (.sl (.int .i64))), .one (.fpp (.pair tyq10 (.pair (.mp tyq11) (.pair (.sl (.int .i64)) .unit)))), u, u, .one (.lit (.row 1012865)), u, u, u, u, .one (.lit (.row 1012865)), .one (.val (.int .i64)), .one (.val (.int .i64))], bx := [(1012865, .row (.int .i64))], pins := [] }
def zqu : Outs := [(.exit 0, { n := 35, regs := [u, u, u, u, u, .one (.lit (.row 1012865))], bx := [(1012865, .row (.int .i64))], pins := [] })]
def zye (N : Nat) : Nat → ((List Int) × ((tyq1 × ((List (Int × tyq2)) × ((List Int) × Unit))) × (Int × (Int × ((List Int) × Unit))))) → Option ((List Int) × Unit)
 | 0, _ => none
 | n + 1, v =>
  bif decide (v.2.2.2.1 < v.2.2.1) then
   bif decide (0 ≤ v.2.2.2.1) then
   bif decide (v.2.2.2.1.toNat < v.2.2.2.2.1.length) then
   let y2 := v.2.2.2.2.1.getD v.2.2.2.1.toNat (0 : Int)
   (Fiheap_now N (v.2.1, y2, ())).bind fun r3 =>
   (zxu N (v.1, r3.1, ())).bind fun r4 =>
   bif decide (0 ≤ v.2.2.2.1) then
   bif decide (v.2.2.2.1.toNat < v.2.2.2.2.1.length) then
   bif y2 == (0 : Int) then
    bif decide (0 ≤ v.2.2.2.1) then
    bif decide (v.2.2.2.1.toNat < (v.2.2.2.2.1.set v.2.2.2.1.toNat r4.1).length) then
    let y5 := (v.2.2.2.2.1.set v.2.2.2.1.toNat r4.1).set v.2.2.2.1.toNat (-1 : Int)
    zye N n (v.1, v.2.1, v.2.2.1, w64 (v.2.2.2.1 + (1 : Int)), y5, ())
    else none
    else none
   else
   zye N n (v.1, v.2.1, v.2.2.1, w64 (v.2.2.2.1 + (1 : Int)), v.2.2.2.2.1.set v.2.2.2.1.toNat r4.1, ())
   else none
   else none
   else none
   else none
  else
  some (v.2.2.2.2.1, ())
def zu2 (N : Nat) (x : ((List Int) × ((List Int) × ((tyq1 × ((List (Int × tyq2)) × ((List Int) × Unit))) × Unit)))) : Option ((List Int) × Unit) :=
 (zxx N (x.1, ())).bind fun r1 =>
 (zye N N (x.2.1, x.2.2.1, (r1.1.length : Int), (0 : Int), r1.1, ())).bind fun o6 =>
 some (o6.1, ())
def coniStateGraph_1 (N : Nat) : Con := { f := 29, din := diniStateGraph_1, outs := outiStateGraph_1, F := zu2 N }
def XiStateGraph_1 (N : Nat) : Ctx := { E := EiStateGraph_1 N, H := HiStateGraph_1, lp := [(0, { hd := ztb, outs := zqu, run := fun v => zye N N v })], jn := [] }
def biStateGraph_1_0 : Code := zzv (zzy Tryz.f29) 0
theorem FiStateGraph_1_eq (N : Nat) (x : ((List Int) × ((List Int) × ((tyq1 × ((List (Int × tyq2)) × ((List Int) × Unit))) × Unit)))) : evFn (XiStateGraph_1 N) Tryz.f29 diniStateGraph_1 outiStateGraph_1 x = zu2 N x := by kernel_rfl
theorem liStateGraph_1_0_eq (N n : Nat) (v : ((List Int) × ((tyq1 × ((List (Int × tyq2)) × ((List Int) × Unit))) × (Int × (Int × ((List Int) × Unit)))))) : zye N (n + 1) v = ev (XiStateGraph_1 N) biStateGraph_1_0 (zzd ztb zqu (zye N n)) (ztb.mk' v) := by kernel_rfl
theorem cxiStateGraph_1 (N : Nat) : CtxOk Tryz.prog (XiStateGraph_1 N) := ⟨⟨TE_ok, List.forall_mem_cons.2 ⟨(ztq N), List.forall_mem_cons.2 ⟨(speciheap_now N), List.forall_mem_cons.2 ⟨(speckBinarySearch_Sint_int N), fun k hk => absurd hk List.not_mem_nil⟩⟩⟩⟩, mixed⟩
theorem lpiStateGraph_1_0 (N : Nat) : zzl Tryz.prog { hd := ztb, outs := zqu, run := fun v => zye N N v } biStateGraph_1_0 :=
 zzx (d := ztb) (os := zqu) (cxiStateGraph_1 N) (zzz (ids := []) (by kernel_rfl) (trivial)) (zye N) (fun _ => rfl) (fun n v => liStateGraph_1_0_eq N n v) (fun _ => N)
theorem speciStateGraph_1 (N : Nat) : Spec Tryz.prog (coniStateGraph_1 N) :=
 Spec.of_eq (zzu (cxiStateGraph_1 N) (f := 29) (fn := Tryz.f29) (c := zzy Tryz.f29) (by kernel_rfl) (by kernel_rfl) (by kernel_rfl) (zzz (ids := [0]) (by kernel_rfl) ⟨lp_of (lpiStateGraph_1_0 N), trivial⟩) (by kernel_rfl)) (fun x r h => (FiStateGraph_1_eq N x).trans h)
def diniStateGraph : Desc := { n := 1, regs := [.one (.val tyq10)], bx := [], pins := [] }
def outiStateGraph : Outs := [(.ret, { n := 2, regs := [.agg [.lit (.row 1038401), .lit (.row 1038402), .lit (.row 1038403)], .one (.val .bool)], bx := [(1038401, .row tyq14), (1038402, .row (.sl (.int .i64))), (1038403, .row (.int .i64))], pins := [] })]
def HiStateGraph : Hints := [(0, [(0, { fz := true })]),
 (3, [(0, { nl := [(0, tyq14), (1, (.sl (.int .i64))), (2, (.int .i64))] })]),
 (4, [(1, { con := 1 })]),
 (6, [(0, { nl := [(0, tyq14), (1, (.sl (.int .i64)))] })]),
 (10, [(10, { con := 2 }), (18, { con := 3 }), (20, { dp := true }), (21, { dp := true })]),
 (15, [(5, { con := 2 }), (6, { dp := true }), (7, { dp := true })]),
 (17, [(3, { con := 2 })])]
def EiStateGraph (N : Nat) : Env := { te := TE, cs := [coniheapOf N, coniheap_live N, coniStateGraph_1 N, zuj N] }
def zr4 : Desc := { n := 73, regs := [u, .one (.fpt tyq10), .one (.lit (.ptr 1000064 0)), u, .one (.lit (.ptr 1012928 0)), u, .one (.clo 29 [.inl 1051328, .inl 1012928]), .one (.lit (.ptr 1076800 0)), u, u, u, u, u, u, u, u, u, u, u, u, .one (.lit (.row 1051265)), .one (.val (.int .i64)), .one (.val (.int .i64))], bx := [(1000064, .var [.lit .nil, .lit .nil, .lit .nil]), (1012928, .var [.lit (.ptr 1012865 0)]), (1012865, .var [.val (.sl (.int .i64)), .val (.sl tyq12), .val (.sl .bool), .val (.int .i64), .val .bool, .val .bool, .val .bool, .val (.int .i64), .val (.sl tyq13), .val (.sl (.int .i64)), .val (.sl (.int .i64)), .val (.int .i64), .val (.int .i64), .val (.mp tyq11), .lit (.row 1012866)]), (1012866, .row (.int .i64)), (1051328, .var [.lit (.row 1051265)]), (1051265, .row (.int .i64)), (1076800, .var [.lit (.row 1076801), .lit (.row 1076802), .lit .nil]), (1076801, .row tyq14), (1076802, .row (.sl (.int .i64)))], pins := [] }
def oiStateGraph_0 : Outs := [(.exit 0, { n := 73, regs := [u, .one (.fpt tyq10), .one (.lit (.ptr 1000064 0)), u, u, u, .one (.clo 29 [.inl 1051328, .inl 1012928]), .one (.lit (.ptr 1076800 0))], bx := [(1000064, .var [.lit .nil, .lit .nil, .lit .nil]), (1051328, .var [.lit (.row 1051265)]), (1051265, .row (.int .i64)), (1012928, .var [.lit (.ptr 1012865 0)]), (1012865, .var [.val (.sl (.int .i64)), .val (.sl tyq12), .val (.sl .bool), .val (.int .i64), .val .bool, .val .bool, .val .bool, .val (.int .i64), .val (.sl tyq13), .val (.sl (.int .i64)), .val (.sl (.int .i64)), .val (.int .i64), .val (.int .i64), .val (.mp tyq11), .lit (.row 1012866)]), (1012866, .row (.int .i64)), (1076800, .var [.lit (.row 1076801), .lit (.row 1076802), .lit .nil]), (1076801, .row tyq14), (1076802, .row (.sl (.int .i64)))], pins := [] })]
def zr3 : Desc := { n := 73, regs := [u, .one (.fpt tyq10), .one (.lit (.ptr 1000064 0)), u, u, u, .one (.clo 29 [.inl 1051328, .inl 1012928]), .one (.lit (.ptr 1076800 0)), u, u, u, u, u, u, u, u, u, u, u, u, u, u, u, u, u, u, u, u, u, u, u, u, u, u, u, u, u, u, u, u, u, u, u, u, u, u, u, u, u, u, u, .one (.val (.sl tyq13)), .one (.val (.int .i64)), .one (.val (.int .i64))], bx := [(1000064, .var [.lit .nil, .lit .nil, .lit .nil]), (1051328, .var [.lit (.row 1051265)]), (1051265, .row (.int .i64)), (1012928, .var [.lit (.ptr 1012865 0)]), (1012865, .var [.val (.sl (.int .i64)), .val (.sl tyq12), .val (.sl .bool), .val (.int .i64), .val .bool, .val .bool, .val .bool, .val (.int .i64), .val (.sl tyq13), .val (.sl (.int .i64)), .val (.sl (.int .i64)), .val (.int .i64), .val (.int .i64), .val (.mp tyq11), .lit (.row 1012866)]), (1012866, .row (.int .i64)), (1076800, .var [.lit (.row 1076801), .lit (.row 1076802), .lit .nil]), (1076801, .row tyq14), (1076802, .row (.sl (.int .i64)))], pins := [] }
def oiStateGraph_2 : Outs := [(.exit 2, { n := 73, regs := [u, .one (.fpt tyq10), .one (.lit (.ptr 1000064 0)), u, u, u, .one (.clo 29 [.inl 1051328, .inl 1012928]), .one (.lit (.ptr 1076800 0))], bx := [(1000064, .var [.lit .nil, .lit .nil, .lit .nil]), (1051328, .var [.lit (.row 1051265)]), (1051265, .row (.int .i64)), (1012928, .var [.lit (.ptr 1012865 0)]), (1012865, .var [.val (.sl (.int .i64)), .val (.sl tyq12), .val (.sl .bool), .val (.int .i64), .val .bool, .val .bool, .val .bool, .val (.int .i64), .val (.sl tyq13), .val (.sl (.int .i64)), .val (.sl (.int .i64)), .val (.int .i64), .val (.int .i64), .val (.mp tyq11), .lit (.row 1012866)]), (1012866, .row (.int .i64)), (1076800, .var [.lit (.row 1076801), .lit (.row 1076802), .lit .nil]), (1076801, .row tyq14), (1076802, .row (.sl (.int .i64)))], pins := [] })]
def zws (N : Nat) : Nat → (tyq1 × (Int × (Int × ((List Int) × ((List tyq3) × ((List Bool) × (Int × (Bool × (Bool × (Bool × (Int × ((List tyq4) × ((List Int) × ((List Int) × (Int × (Int × ((List (Int × tyq2)) × ((List Int) × ((List Int) × (tyq6 × ((List (List Int)) × Unit))))))))))))))))))))) → Option (tyq1 × ((List Int) × ((List Int) × ((List tyq3) × ((List Bool) × (Int × (Bool × (Bool × (Bool × (Int × ((List tyq4) × ((List Int) × ((List Int) × (Int × (Int × ((List (Int × tyq2)) × ((List Int) × (tyq6 × ((List (List Int)) × Unit)))))))))))))))))))
 | 0, _ => none
 | n + 1, v =>
  bif decide (v.2.2.1 < v.2.1) then
   bif decide (0 ≤ v.2.2.1) then
   bif decide (v.2.2.1.toNat < v.2.2.2.2.2.2.2.2.2.2.2.2.2.2.2.2.2.2.1.length) then
   let y7 := v.2.2.2.2.2.2.2.2.2.2.2.2.2.2.2.2.2.2.1.getD v.2.2.1.toNat (0 : Int)
   let y8 := (mget v.2.2.2.2.2.2.2.2.2.2.2.2.2.2.2.2.1 y7).getD ((0 : Int), (0 : Int), ((0 : Int), (0 : Int), ()), ([] : (List Int)), ([] : (List Int)), ())
   (zu2 N (y8.2.2.2.1, v.2.2.2.2.2.2.2.2.2.2.2.2.2.2.2.2.2.2.1, ((v.2.2.2.1, v.2.2.2.2.1, v.2.2.2.2.2.1, v.2.2.2.2.2.2.1, v.2.2.2.2.2.2.2.1, v.2.2.2.2.2.2.2.2.1, v.2.2.2.2.2.2.2.2.2.1, v.2.2.2.2.2.2.2.2.2.2.1, v.2.2.2.2.2.2.2.2.2.2.2.1, v.2.2.2.2.2.2.2.2.2.2.2.2.1, v.2.2.2.2.2.2.2.2.2.2.2.2.2.1, v.2.2.2.2.2.2.2.2.2.2.2.2.2.2.1, v.2.2.2.2.2.2.2.2.2.2.2.2.2.2.2.1, ()), v.2.2.2.2.2.2.2.2.2.2.2.2.2.2.2.2.1, v.2.2.2.2.2.2.2.2.2.2.2.2.2.2.2.2.2.1, ()), ())).bind fun r9 =>
   let y10 := (mget v.2.2.2.2.2.2.2.2.2.2.2.2.2.2.2.2.1 y7).getD ((0 : Int), (0 : Int), ((0 : Int), (0 : Int), ()), ([] : (List Int)), ([] : (List Int)), ())
   (zxx N (y10.2.2.2.2.1, ())).bind fun r11 =>
   bif decide (v.2.2.2.2.2.2.2.2.2.2.2.2.2.2.2.2.2.2.2.1.length + [(r9.1, r11.1, ())].length ≤ lim) then
   let y12 := v.2.2.2.2.2.2.2.2.2.2.2.2.2.2.2.2.2.2.2.1 ++ [(r9.1, r11.1, ())]
   zws N n (v.1, v.2.1, w64 (v.2.2.1 + (1 : Int)), v.2.2.2.1, v.2.2.2.2.1, v.2.2.2.2.2.1, v.2.2.2.2.2.2.1, v.2.2.2.2.2.2.2.1, v.2.2.2.2.2.2.2.2.1, v.2.2.2.2.2.2.2.2.2.1, v.2.2.2.2.2.2.2.2.2.2.1, v.2.2.2.2.2.2.2.2.2.2.2.1, v.2.2.2.2.2.2.2.2.2.2.2.2.1, v.2.2.2.2.2.2.2.2.2.2.2.2.2.1, v.2.2.2.2.2.2.2.2.2.2.2.2.2.2.1, v.2.2.2.2.2.2.2.2.2.2.2.2.2.2.2.1, v.2.2.2.2.2.2.2.2.2.2.2.2.2.2.2.2.1, v.2.2.2.2.2.2.2.2.2.2.2.2.2.2.2.2.2.1, v.2.2.2.2.2.2.2.2.2.2.2.2.2.2.2.2.2.2.1, y12, v.2.2.2.2.2.2.2.2.2.2.2.2.2.2.2.2.2.2.2.2.1, ())
   else none
   else none
   else none
  else
  some (v.1, v.2.2.2.2.2.2.2.2.2.2.2.2.2.2.2.2.2.2.1, v.2.2.2.1, v.2.2.2.2.1, v.2.2.2.2.2.1, v.2.2.2.2.2.2.1, v.2.2.2.2.2.2.2.1, v.2.2.2.2.2.2.2.2.1, v.2.2.2.2.2.2.2.2.2.1, v.2.2.2.2.2.2.2.2.2.2.1, v.2.2.2.2.2.2.2.2.2.2.2.1, v.2.2.2.2.2.2.2.2.2.2.2.2.1, v.2.2.2.2.2.2.2.2.2.2.2.2.2.1, v.2.2.2.2.2.2.2.2.2.2.2.2.2.2.1, v.2.2.2.2.2.2.2.2.2.2.2.2.2.2.2.1, v.2.2.2.2.2.2.2.2.2.2.2.2.2.2.2.2.1, v.2.2.2.2.2.2.2.2.2.2.2.2.2.2.2.2.2.1, v.2.2.2.2.2.2.2.2.2.2.2.2.2.2.2.2.2.2.2.1, v.2.2.2.2.2.2.2.2.2.2.2.2.2.2.2.2.2.2.2.2.1, ())
def zwt (N : Nat) : Nat → (tyq1 × ((List tyq4) × (Int × (Int × ((List Int) × ((List Int) × ((List tyq3) × ((List Bool) × (Int × (Bool × (Bool × (Bool × (Int × ((List tyq4) × ((List Int) × ((List Int) × (Int × (Int × ((List (Int × tyq2)) × ((List Int) × (tyq6 × ((List (List Int)) × Unit)))))))))))))))))))))) → Option (tyq1 × ((List Int) × ((List Int) × ((List tyq3) × ((List Bool) × (Int × (Bool × (Bool × (Bool × (Int × ((List tyq4) × ((List Int) × ((List Int) × (Int × (Int × ((List (Int × tyq2)) × ((List Int) × (tyq6 × ((List (List Int)) × Unit)))))))))))))))))))
 | 0, _ => none
 | n + 1, v =>
  bif decide (v.2.2.2.1 < v.2.2.1) then
   bif decide (0 ≤ v.2.2.2.1) then
   bif decide (v.2.2.2.1.toNat < v.2.1.length) then
   let y15 := v.2.1.getD v.2.2.2.1.toNat (([] : (List Int)), (0 : Int), false, (0 : Int), ())
   (zu2 N (y15.1, v.2.2.2.2.1, ((v.2.2.2.2.2.1, v.2.2.2.2.2.2.1, v.2.2.2.2.2.2.2.1, v.2.2.2.2.2.2.2.2.1, v.2.2.2.2.2.2.2.2.2.1, v.2.2.2.2.2.2.2.2.2.2.1, v.2.2.2.2.2.2.2.2.2.2.2.1, v.2.2.2.2.2.2.2.2.2.2.2.2.1, v.2.2.2.2.2.2.2.2.2.2.2.2.2.1, v.2.2.2.2.2.2.2.2.2.2.2.2.2.2.1, v.2.2.2.2.2.2.2.2.2.2.2.2.2.2.2.1, v.2.2.2.2.2.2.2.2.2.2.2.2.2.2.2.2.1, v.2.2.2.2.2.2.2.2.2.2.2.2.2.2.2.2.2.1, ()), v.2.2.2.2.2.2.2.2.2.2.2.2.2.2.2.2.2.2.1, v.2.2.2.2.2.2.2.2.2.2.2.2.2.2.2.2.2.2.2.1, ()), ())).bind fun r16 =>
   bif decide (v.2.2.2.2.2.2.2.2.2.2.2.2.2.2.2.2.2.2.2.2.2.1.length + [r16.1].length ≤ lim) then
   let y17 := v.2.2.2.2.2.2.2.2.2.2.2.2.2.2.2.2.2.2.2.2.2.1 ++ [r16.1]
   zwt N n (v.1, v.2.1, v.2.2.1, w64 (v.2.2.2.1 + (1 : Int)), v.2.2.2.2.1, v.2.2.2.2.2.1, v.2.2.2.2.2.2.1, v.2.2.2.2.2.2.2.1, v.2.2.2.2.2.2.2.2.1, v.2.2.2.2.2.2.2.2.2.1, v.2.2.2.2.2.2.2.2.2.2.1, v.2.2.2.2.2.2.2.2.2.2.2.1, v.2.2.2.2.2.2.2.2.2.2.2.2.1, v.2.2.2.2.2.2.2.2.2.2.2.2.2.1, v.2.2.2.2.2.2.2.2.2.2.2.2.2.2.1, v.2.2.2.2.2.2.2.2.2.2.2.2.2.2.2.1, v.2.2.2.2.2.2.2.2.2.2.2.2.2.2.2.2.1, v.2.2.2.2.2.2.2.2.2.2.2.2.2.2.2.2.2.1, v.2.2.2.2.2.2.2.2.2.2.2.2.2.2.2.2.2.2.1, v.2.2.2.2.2.2.2.2.2.2.2.2.2.2.2.2.2.2.2.1, v.2.2.2.2.2.2.2.2.2.2.2.2.2.2.2.2.2.2.2.2.1, y17, ())
   else none
   else none
   else none
  else
  some (v.1, v.2.2.2.2.1, v.2.2.2.2.2.1, v.2.2.2.2.2.2.1, v.2.2.2.2.2.2.2.1, v.2.2.2.2.2.2.2.2.1, v.2.2.2.2.2.2.2.2.2.1, v.2.2.2.2.2.2.2.2.2.2.1, v.2.2.2.2.2.2.2.2.2.2.2.1, v.2.2.2.2.2.2.2.2.2.2.2.2.1, v.2.2.2.2.2.2.2.2.2.2.2.2.2.1, v.2.2.2.2.2.2.2.2.2.2.2.2.2.2.1, v.2.2.2.2.2.2.2.2.2.2.2.2.2.2.2.1, v.2.2.2.2.2.2.2.2.2.2.2.2.2.2.2.2.1, v.2.2.2.2.2.2.2.2.2.2.2.2.2.2.2.2.2.1, v.2.2.2.2.2.2.2.2.2.2.2.2.2.2.2.2.2.2.1, v.2.2.2.2.2.2.2.2.2.2.2.2.2.2.2.2.2.2.2.1, v.2.2.2.2.2.2.2.2.2.2.2.2.2.2.2.2.2.2.2.2.1, v.2.2.2.2.2.2.2.2.2.2.2.2.2.2.2.2.2.2.2.2.2.1, ())
def zq8 (N : Nat) (x : (tyq1 × Unit)) : Option (Bool × (tyq6 × tyq7)) :=
 (FiheapOf N (x.1, ())).bind fun r1 =>
 Sum.elim (fun r2 =>
  let y3 := ([] : tyq6)
  some (false, y3, ([] : (List (List Int))), ([] : (List Int)), ())) (fun r4 =>
  (Fiheap_live N (((r4.1, r4.2.1, r4.2.2.1, r4.2.2.2.1, r4.2.2.2.2.1, r4.2.2.2.2.2.1, r4.2.2.2.2.2.2.1, r4.2.2.2.2.2.2.2.1, r4.2.2.2.2.2.2.2.2.1, r4.2.2.2.2.2.2.2.2.2.1, r4.2.2.2.2.2.2.2.2.2.2.1, r4.2.2.2.2.2.2.2.2.2.2.2.1, r4.2.2.2.2.2.2.2.2.2.2.2.2.1, ()), r4.2.2.2.2.2.2.2.2.2.2.2.2.2.1, r4.2.2.2.2.2.2.2.2.2.2.2.2.2.2.1, ()), ())).bind fun r5 =>
  let y6 := ([] : tyq6)
  (zws N N (x.1, (r5.1.length : Int), (0 : Int), r4.1, r4.2.1, r4.2.2.1, r4.2.2.2.1, r4.2.2.2.2.1, r4.2.2.2.2.2.1, r4.2.2.2.2.2.2.1, r4.2.2.2.2.2.2.2.1, r4.2.2.2.2.2.2.2.2.1, r4.2.2.2.2.2.2.2.2.2.1, r4.2.2.2.2.2.2.2.2.2.2.1, r4.2.2.2.2.2.2.2.2.2.2.2.1, r4.2.2.2.2.2.2.2.2.2.2.2.2.1, r4.2.2.2.2.2.2.2.2.2.2.2.2.2.1, r4.2.2.2.2.2.2.2.2.2.2.2.2.2.2.1, r5.1, y6, ([] : (List (List Int))), ())).bind fun o13 =>
  let y14 := (o13.1.2.2.2.2.2.2.2.2.1.length : Int)
  (zwt N N (o13.1, o13.1.2.2.2.2.2.2.2.2.1, y14, (0 : Int), o13.2.1, o13.2.2.1, o13.2.2.2.1, o13.2.2.2.2.1, o13.2.2.2.2.2.1, o13.2.2.2.2.2.2.1, o13.2.2.2.2.2.2.2.1, o13.2.2.2.2.2.2.2.2.1, o13.2.2.2.2.2.2.2.2.2.1, o13.2.2.2.2.2.2.2.2.2.2.1, o13.2.2.2.2.2.2.2.2.2.2.2.1, o13.2.2.2.2.2.2.2.2.2.2.2.2.1, o13.2.2.2.2.2.2.2.2.2.2.2.2.2.1, o13.2.2.2.2.2.2.2.2.2.2.2.2.2.2.1, o13.2.2.2.2.2.2.2.2.2.2.2.2.2.2.2.1, o13.2.2.2.2.2.2.2.2.2.2.2.2.2.2.2.2.1, o13.2.2.2.2.2.2.2.2.2.2.2.2.2.2.2.2.2.1, o13.2.2.2.2.2.2.2.2.2.2.2.2.2.2.2.2.2.2.1, ())).bind fun o18 =>
  (zu2 N (o18.1.2.2.2.2.2.2.2.2.2.2.1, o18.2.1, ((o18.2.2.1, o18.2.2.2.1, o18.2.2.2.2.1, o18.2.2.2.2.2.1, o18.2.2.2.2.2.2.1, o18.2.2.2.2.2.2.2.1, o18.2.2.2.2.2.2.2.2.1, o18.2.2.2.2.2.2.2.2.2.1, o18.2.2.2.2.2.2.2.2.2.2.1, o18.2.2.2.2.2.2.2.2.2.2.2.1, o18.2.2.2.2.2.2.2.2.2.2.2.2.1, o18.2.2.2.2.2.2.2.2.2.2.2.2.2.1, o18.2.2.2.2.2.2.2.2.2.2.2.2.2.2.1, ()), o18.2.2.2.2.2.2.2.2.2.2.2.2.2.2.2.1, o18.2.2.2.2.2.2.2.2.2.2.2.2.2.2.2.2.1, ()), ())).bind fun r19 =>
  some (true, o18.2.2.2.2.2.2.2.2.2.2.2.2.2.2.2.2.2.1, o18.2.2.2.2.2.2.2.2.2.2.2.2.2.2.2.2.2.2.1, r19.1, ())) r1
def coniStateGraph (N : Nat) : Con := { f := 7, din := diniStateGraph, outs := outiStateGraph, F := zq8 N }
def XiStateGraph (N : Nat) : Ctx := { E := EiStateGraph N, H := HiStateGraph, lp := [(0, { hd := zr4, outs := oiStateGraph_0, run := fun v => zws N N v }), (2, { hd := zr3, outs := oiStateGraph_2, run := fun v => zwt N N v })], jn := [] }
def biStateGraph_2 : Code := zzv (zzy Tryz.f7) 1
def biStateGraph_0 : Code := zzv (zzy Tryz.f7) 0
theorem FiStateGraph_eq (N : Nat) (x : (tyq1 × Unit)) : evFn (XiStateGraph N) Tryz.f7 diniStateGraph outiStateGraph x = zq8 N x := by kernel_rfl
theorem liStateGraph_0_eq (N n : Nat) (v : (tyq1 × (Int × (Int × ((List Int) × ((List tyq3) × ((List Bool) × (Int × (Bool × (Bool × (Bool × (Int × ((List tyq4) × ((List Int) × ((List Int) × (Int × (Int × ((List (Int × tyq2)) × ((List Int) × ((List Int) × (tyq6 × ((List (List Int)) × Unit)))))))))))))))))))))) : zws N (n + 1) v = ev (XiStateGraph N) biStateGraph_0 (zzd zr4 oiStateGraph_0 (zws N n)) (zr4.mk' v) := by kernel_rfl
theorem liStateGraph_2_eq (N n : Nat) (v : (tyq1 × ((List tyq4) × (Int × (Int × ((List Int) × ((List Int) × ((List tyq3) × ((List Bool) × (Int × (Bool × (Bool × (Bool × (Int × ((List tyq4) × ((List Int) × ((List Int) × (Int × (Int × ((List (Int × tyq2)) × ((List Int) × (tyq6 × ((List (List Int)) × Unit))))))))))))))))))))))) : zwt N (n + 1) v = ev (XiStateGraph N) biStateGraph_2 (zzd zr3 oiStateGraph_2 (zwt N n)) (zr3.mk' v) := by kernel_rfl
theorem cxiStateGraph (N : Nat) : CtxOk Tryz.prog (XiStateGraph N) := ⟨⟨TE_ok, List.forall_mem_cons.2 ⟨(speciheapOf N), List.forall_mem_cons.2 ⟨(speciheap_live N), List.forall_mem_cons.2 ⟨(speciStateGraph_1 N), List.forall_mem_cons.2 ⟨(ztq N), fun k hk => absurd hk List.not_mem_nil⟩⟩⟩⟩⟩, mixed⟩
theorem lpiStateGraph_0 (N : Nat) : zzl Tryz.prog { hd := zr4, outs := oiStateGraph_0, run := fun v => zws N N v } biStateGraph_0 :=
 zzx (d := zr4) (os := oiStateGraph_0) (cxiStateGraph N) (zzz (ids := []) (by kernel_rfl) (trivial)) (zws N) (fun _ => rfl) (fun n v => liStateGraph_0_eq N n v) (fun _ => N)
theorem lpiStateGraph_2 (N : Nat) : zzl Tryz.prog { hd := zr3, outs := oiStateGraph_2, run := fun v => zwt N N v } biStateGraph_2 :=
 zzx (d := zr3) (os := oiStateGraph_2) (cxiStateGraph N) (zzz (ids := []) (by kernel_rfl) (trivial)) (zwt N) (fun _ => rfl) (fun n v => liStateGraph_2_eq N n v) (fun _ => N)
theorem speciStateGraph (N : Nat) : Spec Tryz.prog (coniStateGraph N) :=
 Spec.of_eq (zzu (cxiStateGraph N) (f := 7) (fn := Tryz.f7) (c := zzy Tryz.f7) (by kernel_rfl) (by kernel_rfl) (by kernel_rfl) (zzz (ids := [0, 2]) (by kernel_rfl) ⟨lp_of (lpiStateGraph_0 N), ⟨lp_of (lpiStateGraph_2 N), trivial⟩⟩) (by kernel_rfl)) (fun x r h => (FiStateGraph_eq N x).trans h)
def dinveqIntS : Desc := { n := 2, regs := [.one (.val (.sl (.int .i64))), .one (.val (.sl (.int .i64)))], bx := [], pins := [] }
def outveqIntS : Outs := [(.ret, { n := 1, regs := [.one (.val .bool)], bx := [], pins := [] })]
def HveqIntS : Hints := []
def EveqIntS (_N : Nat) : Env := { te := TE, cs := [] }
def dveqIntS_0 : Desc := { n := 26, regs := [.one (.val (.sl (.int .i64))), .one (.val (.sl (.int .i64))), u, u, u, .one (.val (.int .i64))], bx := [], pins := [] }
def oveqIntS_0 : Outs := [(.exit 0, { n := 26, regs := [], bx := [], pins := [] }), (.ret, { n := 26, regs := [u, u, u, u, .one (.val .bool)], bx := [], pins := [] })]
def zu6 (N : Nat) : Nat → ((List Int) × ((List Int) × (Int × Unit))) → Option (Unit ⊕ (Bool × Unit))
 | 0, _ => none
 | n + 1, v =>
  let y2 := decide (v.2.2.1 < (v.1.length : Int))
  bif y2 then
   bif decide (0 ≤ v.2.2.1) then
   bif decide (v.2.2.1.toNat < v.1.length) then
   bif decide (0 ≤ v.2.2.1) then
   bif decide (v.2.2.1.toNat < v.2.1.length) then
   let y3 := (v.1.getD v.2.2.1.toNat (0 : Int)) != (v.2.1.getD v.2.2.1.toNat (0 : Int))
   bif y3 then
    some (.inr ((false, ())))
   else
   zu6 N n (v.1, v.2.1, w64 (v.2.2.1 + (1 : Int)), ())
   else none
   else none
   else none
   else none
  else
  some (.inl ())
def zso (N : Nat) (x : ((List Int) × ((List Int) × Unit))) : Option (Bool × Unit) :=
 let y1 := (x.1.length : Int) != (x.2.1.length : Int)
 bif y1 then
  some (false, ())
 else
 (zu6 N N (x.1, x.2.1, (0 : Int), ())).bind fun o4 =>
 Sum.elim (fun o5 =>
  some (true, ())) (fun o6 =>
  some (o6.1, ())) o4
def conveqIntS (N : Nat) : Con := { f := 35, din := dinveqIntS, outs := outveqIntS, F := zso N }
def XveqIntS (N : Nat) : Ctx := { E := EveqIntS N, H := HveqIntS, lp := [(0, { hd := dveqIntS_0, outs := oveqIntS_0, run := fun v => zu6 N N v })], jn := [] }
def bveqIntS_0 : Code := zzv (zzy Tryz.f35) 0
theorem FveqIntS_eq (N : Nat) (x : ((List Int) × ((List Int) × Unit))) : evFn (XveqIntS N) Tryz.f35 dinveqIntS outveqIntS x = zso N x := by kernel_rfl
theorem lveqIntS_0_eq (N n : Nat) (v : ((List Int) × ((List Int) × (Int × Unit)))) : zu6 N (n + 1) v = ev (XveqIntS N) bveqIntS_0 (zzd dveqIntS_0 oveqIntS_0 (zu6 N n)) (dveqIntS_0.mk' v) := by kernel_rfl
theorem cxveqIntS (N : Nat) : CtxOk Tryz.prog (XveqIntS N) := ⟨⟨TE_ok, fun k hk => absurd hk List.not_mem_nil⟩, mixed⟩
theorem lpveqIntS_0 (N : Nat) : zzl Tryz.prog { hd := dveqIntS_0, outs := oveqIntS_0, run := fun v => zu6 N N v } bveqIntS_0 :=
 zzx (d := dveqIntS_0) (os := oveqIntS_0) (cxveqIntS N) (zzz (ids := []) (by kernel_rfl) (trivial)) (zu6 N) (fun _ => rfl) (fun n v => lveqIntS_0_eq N n v) (fun _ => N)
theorem specveqIntS (N : Nat) : Spec Tryz.prog (conveqIntS N) :=
 Spec.of_eq (zzu (cxveqIntS N) (f := 35) (fn := Tryz.f35) (c := zzy Tryz.f35) (by kernel_rfl) (by kernel_rfl) (by kernel_rfl) (zzz (ids := [0]) (by kernel_rfl) ⟨lp_of (lpveqIntS_0 N), trivial⟩) (by kernel_rfl)) (fun x r h => (FveqIntS_eq N x).trans h)
def dinveqNode : Desc := { n := 2, regs := [.one (.val tyq14), .one (.val tyq14)], bx := [], pins := [] }
def outveqNode : Outs := [(.ret, { n := 1, regs := [.one (.val .bool)], bx := [], pins := [] })]
def HveqNode : Hints := [(0, [(0, { fz := true }), (1, { fz := true })])]
def EveqNode (N : Nat) : Env := { te := TE, cs := [conveqIntS N] }
def FveqNode (N : Nat) (x : (((List Int) × ((List Int) × Unit)) × (((List Int) × ((List Int) × Unit)) × Unit))) : Option (Bool × Unit) :=
 (zso N (x.1.1, x.2.1.1, ())).bind fun r1 =>
 bif !r1.1 then
  some (false, ())
 else
 (zso N (x.1.2.1, x.2.1.2.1, ())).bind fun r2 =>
 bif !r2.1 then
  some (false, ())
 else
 some (true, ())
def conveqNode (N : Nat) : Con := { f := 62, din := dinveqNode, outs := outveqNode, F := FveqNode N }
def XveqNode (N : Nat) : Ctx := { E := EveqNode N, H := HveqNode, lp := [], jn := [] }
theorem FveqNode_eq (N : Nat) (x : (((List Int) × ((List Int) × Unit)) × (((List Int) × ((List Int) × Unit)) × Unit))) : evFn (XveqNode N) Tryz.f62 dinveqNode outveqNode x = FveqNode N x := by kernel_rfl
theorem cxveqNode (N : Nat) : CtxOk Tryz.prog (XveqNode N) := ⟨⟨TE_ok, List.forall_mem_cons.2 ⟨(specveqIntS N), fun k hk => absurd hk List.not_mem_nil⟩⟩, mixed⟩
theorem specveqNode (N : Nat) : Spec Tryz.prog (conveqNode N) :=
 Spec.of_eq (zzu (cxveqNode N) (f := 62) (fn := Tryz.f62) (c := zzy Tryz.f62) (by kernel_rfl) (by kernel_rfl) (by kernel_rfl) (zzz (ids := []) (by kernel_rfl) (trivial)) (by kernel_rfl)) (fun x r h => (FveqNode_eq N x).trans h)
def dinveqNodeS : Desc := { n := 2, regs := [.one (.val (.sl tyq14)), .one (.val (.sl tyq14))], bx := [], pins := [] }
def outveqNodeS : Outs := [(.ret, { n := 1, regs := [.one (.val .bool)], bx := [], pins := [] })]
def HveqNodeS : Hints := []
def EveqNodeS (N : Nat) : Env := { te := TE, cs := [conveqNode N] }
def dveqNodeS_0 : Desc := { n := 27, regs := [.one (.val (.sl tyq14)), .one (.val (.sl tyq14)), u, u, u, .one (.val (.int .i64))], bx := [], pins := [] }
def oveqNodeS_0 : Outs := [(.exit 0, { n := 27, regs := [], bx := [], pins := [] }), (.ret, { n := 27, regs := [u, u, u, u, .one (.val .bool)], bx := [], pins := [] })]
def zv4 (N : Nat) : Nat → (tyq6 × (tyq6 × (Int × Unit))) → Option (Unit ⊕ (Bool × Unit))
 | 0, _ => none
 | n + 1, v =>
  let y2 := decide (v.2.2.1 < (v.1.length : Int))
  bif y2 then
   bif decide (0 ≤ v.2.2.1) then
   bif decide (v.2.2.1.toNat < v.1.length) then
   let y3 := v.1.getD v.2.2.1.toNat (([] : (List Int)), ([] : (List Int)), ())
   bif decide (0 ≤ v.2.2.1) then
   bif decide (v.2.2.1.toNat < v.2.1.length) then
   let y4 := v.2.1.getD v.2.2.1.toNat (([] : (List Int)), ([] : (List Int)), ())
   (FveqNode N (y3, y4, ())).bind fun r5 =>
   bif !r5.1 then
    some (.inr ((false, ())))
   else
   zv4 N n (v.1, v.2.1, w64 (v.2.2.1 + (1 : Int)), ())
   else none
   else none
   else none
   else none
  else
  some (.inl ())
def FveqNodeS (N : Nat) (x : (tyq6 × (tyq6 × Unit))) : Option (Bool × Unit) :=
 let y1 := (x.1.length : Int) != (x.2.1.length : Int)
 bif y1 then
  some (false, ())
 else
 (zv4 N N (x.1, x.2.1, (0 : Int), ())).bind fun o6 =>
 Sum.elim (fun o7 =>
  some (true, ())) (fun o8 =>
  some (o8.1, ())) o6
def conveqNodeS (N : Nat) : Con := { f := 33, din := dinveqNodeS, outs := outveqNodeS, F := FveqNodeS N }
def XveqNodeS (N : Nat) : Ctx := { E := EveqNodeS N, H := HveqNodeS, lp := [(0, { hd := dveqNodeS_0, outs := oveqNodeS_0, run := fun v => zv4 N N v })], jn := [] }
def bveqNodeS_0 : Code := zzv (zzy Tryz.f33) 0
theorem FveqNodeS_eq (N : Nat) (x : (tyq6 × (tyq6 × Unit))) : evFn (XveqNodeS N) Tryz.f33 dinveqNodeS outveqNodeS x = FveqNodeS N x := by kernel_rfl
theorem lveqNodeS_0_eq (N n : Nat) (v : (tyq6 × (tyq6 × (Int × Unit)))) : zv4 N (n + 1) v = ev (XveqNodeS N) bveqNodeS_0 (zzd dveqNodeS_0 oveqNodeS_0 (zv4 N n)) (dveqNodeS_0.mk' v) := by kernel_rfl
theorem cxveqNodeS (N : Nat) : CtxOk Tryz.prog (XveqNodeS N) := ⟨⟨TE_ok, List.forall_mem_cons.2 ⟨(specveqNode N), fun k hk => absurd hk List.not_mem_nil⟩⟩, mixed⟩
theorem lpveqNodeS_0 (N : Nat) : zzl Tryz.prog { hd := dveqNodeS_0, outs := oveqNodeS_0, run := fun v => zv4 N N v } bveqNodeS_0 :=
 zzx (d := dveqNodeS_0) (os := oveqNodeS_0) (cxveqNodeS N) (zzz (ids := []) (by kernel_rfl) (trivial)) (zv4 N) (fun _ => rfl) (fun n v => lveqNodeS_0_eq N n v) (fun _ => N)
theorem specveqNodeS (N : Nat) : Spec Tryz.prog (conveqNodeS N) :=
 Spec.of_eq (zzu (cxveqNodeS N) (f := 33) (fn := Tryz.f33) (c := zzy Tryz.f33) (by kernel_rfl) (by kernel_rfl) (by kernel_rfl) (zzz (ids := [0]) (by kernel_rfl) ⟨lp_of (lpveqNodeS_0 N), trivial⟩) (by kernel_rfl)) (fun x r h => (FveqNodeS_eq N x).trans h)
def dinveqIntSS : Desc := { n := 2, regs := [.one (.val (.sl (.sl (.int .i64)))), .one (.val (.sl (.sl (.int .i64))))], bx := [], pins := [] }
def outveqIntSS : Outs := [(.ret, { n := 1, regs := [.one (.val .bool)], bx := [], pins := [] })]
def HveqIntSS : Hints := []
def EveqIntSS (N : Nat) : Env := { te := TE, cs := [conveqIntS N] }
def dveqIntSS_0 : Desc := { n := 27, regs := [.one (.val (.sl (.sl (.int .i64)))), .one (.val (.sl (.sl (.int .i64)))), u, u, u, .one (.val (.int .i64))], bx := [], pins := [] }
def oveqIntSS_0 : Outs := [(.exit 0, { n := 27, regs := [], bx := [], pins := [] }), (.ret, { n := 27, regs := [u, u, u, u, .one (.val .bool)], bx := [], pins := [] })]
def zv5 (N : Nat) : Nat → ((List (List Int)) × ((List (List Int)) × (Int × Unit))) → Option (Unit ⊕ (Bool × Unit))
 | 0, _ => none
 | n + 1, v =>
  let y2 := decide (v.2.2.1 < (v.1.length : Int))
  bif y2 then
   bif decide (0 ≤ v.2.2.1) then
   bif decide (v.2.2.1.toNat < v.1.length) then
   let y3 := v.1.getD v.2.2.1.toNat ([] : (List Int))
   bif decide (0 ≤ v.2.2.1) then
   bif decide (v.2.2.1.toNat < v.2.1.length) then
   let y4 := v.2.1.getD v.2.2.1.toNat ([] : (List Int))
   (zso N (y3, y4, ())).bind fun r5 =>
   bif !r5.1 then
    some (.inr ((false, ())))
   else
   zv5 N n (v.1, v.2.1, w64 (v.2.2.1 + (1 : Int)), ())
   else none
   else none
   else none
   else none
  else
  some (.inl ())
def FveqIntSS (N : Nat) (x : ((List (List Int)) × ((List (List Int)) × Unit))) : Option (Bool × Unit) :=
 let y1 := (x.1.length : Int) != (x.2.1.length : Int)
 bif y1 then
  some (false, ())
 else
 (zv5 N N (x.1, x.2.1, (0 : Int), ())).bind fun o6 =>
 Sum.elim (fun o7 =>
  some (true, ())) (fun o8 =>
  some (o8.1, ())) o6
def conveqIntSS (N : Nat) : Con := { f := 34, din := dinveqIntSS, outs := outveqIntSS, F := FveqIntSS N }
def XveqIntSS (N : Nat) : Ctx := { E := EveqIntSS N, H := HveqIntSS, lp := [(0, { hd := dveqIntSS_0, outs := oveqIntSS_0, run := fun v => zv5 N N v })], jn := [] }
def bveqIntSS_0 : Code := zzv (zzy Tryz.f34) 0
theorem FveqIntSS_eq (N : Nat) (x : ((List (List Int)) × ((List (List Int)) × Unit))) : evFn (XveqIntSS N) Tryz.f34 dinveqIntSS outveqIntSS x = FveqIntSS N x := by kernel_rfl
theorem lveqIntSS_0_eq (N n : Nat) (v : ((List (List Int)) × ((List (List Int)) × (Int × Unit)))) : zv5 N (n + 1) v = ev (XveqIntSS N) bveqIntSS_0 (zzd dveqIntSS_0 oveqIntSS_0 (zv5 N n)) (dveqIntSS_0.mk' v) := by kernel_rfl
theorem cxveqIntSS (N : Nat) : CtxOk Tryz.prog (XveqIntSS N) := ⟨⟨TE_ok, List.forall_mem_cons.2 ⟨(specveqIntS N), fun k hk => absurd hk List.not_mem_nil⟩⟩, mixed⟩
theorem lpveqIntSS_0 (N : Nat) : zzl Tryz.prog { hd := dveqIntSS_0, outs := oveqIntSS_0, run := fun v => zv5 N N v } bveqIntSS_0 :=
 zzx (d := dveqIntSS_0) (os := oveqIntSS_0) (cxveqIntSS N) (zzz (ids := []) (by kernel_rfl) (trivial)) (zv5 N) (fun _ => rfl) (fun n v => lveqIntSS_0_eq N n v) (fun _ => N)
theorem specveqIntSS (N : Nat) : Spec Tryz.prog (conveqIntSS N) :=
 Spec.of_eq (zzu (cxveqIntSS N) (f := 34) (fn := Tryz.f34) (c := zzy Tryz.f34) (by kernel_rfl) (by kernel_rfl) (by kernel_rfl) (zzz (ids := [0]) (by kernel_rfl) ⟨lp_of (lpveqIntSS_0 N), trivial⟩) (by kernel_rfl)) (fun x r h => (FveqIntSS_eq N x).trans h)
def dinveqGraph : Desc := { n := 2, regs := [.one (.val (.pair (.sl tyq14) (.pair (.sl (.sl (.int .i64))) (.pair (.sl (.int .i64)) .unit)))), .one (.val (.pair (.sl tyq14) (.pair (.sl (.sl (.int .i64))) (.pair (.sl (.int .i64)) .unit))))], bx := [], pins := [] }
def outveqGraph : Outs := [(.ret, { n := 1, regs := [.one (.val .bool)], bx := [], pins := [] })]
def HveqGraph : Hints := [(0, [(0, { fz := true }), (1, { fz := true })]),
 (3, [(4, { con := 1 })]),
 (5, [(4, { con := 2 })])]
def EveqGraph (N : Nat) : Env := { te := TE, cs := [conveqNodeS N, conveqIntSS N, conveqIntS N] }
def FveqGraph (N : Nat) (x : ((tyq6 × tyq7) × ((tyq6 × tyq7) × Unit))) : Option (Bool × Unit) :=
 (FveqNodeS N (x.1.1, x.2.1.1, ())).bind fun r1 =>
 bif !r1.1 then
  some (false, ())
 else
 (FveqIntSS N (x.1.2.1, x.2.1.2.1, ())).bind fun r2 =>
 bif !r2.1 then
  some (false, ())
 else
 (zso N (x.1.2.2.1, x.2.1.2.2.1, ())).bind fun r3 =>
 bif !r3.1 then
  some (false, ())
 else
 some (true, ())
def conveqGraph (N : Nat) : Con := { f := 8, din := dinveqGraph, outs := outveqGraph, F := FveqGraph N }
def XveqGraph (N : Nat) : Ctx := { E := EveqGraph N, H := HveqGraph, lp := [], jn := [] }
theorem FveqGraph_eq (N : Nat) (x : ((tyq6 × tyq7) × ((tyq6 × tyq7) × Unit))) : evFn (XveqGraph N) Tryz.f8 dinveqGraph outveqGraph x = FveqGraph N x := by kernel_rfl
theorem cxveqGraph (N : Nat) : CtxOk Tryz.prog (XveqGraph N) := ⟨⟨TE_ok, List.forall_mem_cons.2 ⟨(specveqNodeS N), List.forall_mem_cons.2 ⟨(specveqIntSS N), List.forall_mem_cons.2 ⟨(specveqIntS N), fun k hk => absurd hk List.not_mem_nil⟩⟩⟩⟩, mixed⟩
theorem specveqGraph (N : Nat) : Spec Tryz.prog (conveqGraph N) :=
 Spec.of_eq (zzu (cxveqGraph N) (f := 8) (fn := Tryz.f8) (c := zzy Tryz.f8) (by kernel_rfl) (by kernel_rfl) (by kernel_rfl) (zzz (ids := []) (by kernel_rfl) (trivial)) (by kernel_rfl)) (fun x r h => (FveqGraph_eq N x).trans h)
def dinveqRegion : Desc := { n := 2, regs := [.one (.val tyq12), .one (.val tyq12)], bx := [], pins := [] }
def outveqRegion : Outs := [(.ret, { n := 1, regs := [.one (.val .bool)], bx := [], pins := [] })]
def HveqRegion : Hints := [(0, [(0, { fz := true }), (1, { fz := true })])]
def EveqRegion (_N : Nat) : Env := { te := TE, cs := [] }
def FveqRegion (N : Nat) (x : (tyq3 × (tyq3 × Unit))) : Option (Bool × Unit) :=
 bif x.1.1 != x.2.1.1 then
  some (false, ())
 else
 bif x.1.2.1 != x.2.1.2.1 then
  some (false, ())
 else
 bif x.1.2.2.1 != x.2.1.2.2.1 then
  some (false, ())
 else
 bif x.1.2.2.2.1 != x.2.1.2.2.2.1 then
  some (false, ())
 else
 bif x.1.2.2.2.2.1 != x.2.1.2.2.2.2.1 then
  some (false, ())
 else
 some (true, ())
def conveqRegion (N : Nat) : Con := { f := 63, din := dinveqRegion, outs := outveqRegion, F := FveqRegion N }
def XveqRegion (N : Nat) : Ctx := { E := EveqRegion N, H := HveqRegion, lp := [], jn := [] }
theorem FveqRegion_eq (N : Nat) (x : (tyq3 × (tyq3 × Unit))) : evFn (XveqRegion N) Tryz.f63 dinveqRegion outveqRegion x = FveqRegion N x := by kernel_rfl
theorem cxveqRegion (N : Nat) : CtxOk Tryz.prog (XveqRegion N) := ⟨⟨TE_ok, fun k hk => absurd hk List.not_mem_nil⟩, mixed⟩
theorem specveqRegion (N : Nat) : Spec Tryz.prog (conveqRegion N) :=
 Spec.of_eq (zzu (cxveqRegion N) (f := 63) (fn := Tryz.f63) (c := zzy Tryz.f63) (by kernel_rfl) (by kernel_rfl) (by kernel_rfl) (zzz (ids := []) (by kernel_rfl) (trivial)) (by kernel_rfl)) (fun x r h => (FveqRegion_eq N x).trans h)
def dinveqRegionS : Desc := { n := 2, regs := [.one (.val (.sl tyq12)), .one (.val (.sl tyq12))], bx := [], pins := [] }
def outveqRegionS : Outs := [(.ret, { n := 1, regs := [.one (.val .bool)], bx := [], pins := [] })]
def HveqRegionS : Hints := []
def EveqRegionS (N : Nat) : Env := { te := TE, cs := [conveqRegion N] }
def zpg : Desc := { n := 27, regs := [.one (.val (.sl tyq12)), .one (.val (.sl tyq12)), u, u, u, .one (.val (.int .i64))], bx := [], pins := [] }
def oveqRegionS_0 : Outs := [(.exit 0, { n := 27, regs := [], bx := [], pins := [] }), (.ret, { n := 27, regs := [u, u, u, u, .one (.val .bool)], bx := [], pins := [] })]
def zwo (N : Nat) : Nat → ((List tyq3) × ((List tyq3) × (Int × Unit))) → Option (Unit ⊕ (Bool × Unit))
 | 0, _ => none
 | n + 1, v =>
  let y2 := decide (v.2.2.1 < (v.1.length : Int))
  bif y2 then
   bif decide (0 ≤ v.2.2.1) then
   bif decide (v.2.2.1.toNat < v.1.length) then
   let y3 := v.1.getD v.2.2.1.toNat ((0 : Int), (0 : Int), (0 : Int), (0 : Int), (0 : Int), ())
   bif decide (0 ≤ v.2.2.1) then
   bif decide (v.2.2.1.toNat < v.2.1.length) then
   let y4 := v.2.1.getD v.2.2.1.toNat ((0 : Int), (0 : Int), (0 : Int), (0 : Int), (0 : Int), ())
   (FveqRegion N (y3, y4, ())).bind fun r5 =>
   bif !r5.1 then
    some (.inr ((false, ())))
   else
   zwo N n (v.1, v.2.1, w64 (v.2.2.1 + (1 : Int)), ())
   else none
   else none
   else none
   else none
  else
  some (.inl ())
def zqn (N : Nat) (x : ((List tyq3) × ((List tyq3) × Unit))) : Option (Bool × Unit) :=
 let y1 := (x.1.length : Int) != (x.2.1.length : Int)
 bif y1 then
  some (false, ())
 else
 (zwo N N (x.1, x.2.1, (0 : Int), ())).bind fun o6 =>
 Sum.elim (fun o7 =>
  some (true, ())) (fun o8 =>
  some (o8.1, ())) o6
def conveqRegionS (N : Nat) : Con := { f := 36, din := dinveqRegionS, outs := outveqRegionS, F := zqn N }
def XveqRegionS (N : Nat) : Ctx := { E := EveqRegionS N, H := HveqRegionS, lp := [(0, { hd := zpg, outs := oveqRegionS_0, run := fun v => zwo N N v })], jn := [] }
def bveqRegionS_0 : Code := zzv (zzy Tryz.f36) 0
theorem FveqRegionS_eq (N : Nat) (x : ((List tyq3) × ((List tyq3) × Unit))) : evFn (XveqRegionS N) Tryz.f36 dinveqRegionS outveqRegionS x = zqn N x := by kernel_rfl
theorem lveqRegionS_0_eq (N n : Nat) (v : ((List tyq3) × ((List tyq3) × (Int × Unit)))) : zwo N (n + 1) v = ev (XveqRegionS N) bveqRegionS_0 (zzd zpg oveqRegionS_0 (zwo N n)) (zpg.mk' v) := by kernel_rfl
theorem cxveqRegionS (N : Nat) : CtxOk Tryz.prog (XveqRegionS N) := ⟨⟨TE_ok, List.forall_mem_cons.2 ⟨(specveqRegion N), fun k hk => absurd hk List.not_mem_nil⟩⟩, mixed⟩
theorem lpveqRegionS_0 (N : Nat) : zzl Tryz.prog { hd := zpg, outs := oveqRegionS_0, run := fun v => zwo N N v } bveqRegionS_0 :=
 zzx (d := zpg) (os := oveqRegionS_0) (cxveqRegionS N) (zzz (ids := []) (by kernel_rfl) (trivial)) (zwo N) (fun _ => rfl) (fun n v => lveqRegionS_0_eq N n v) (fun _ => N)
theorem specveqRegionS (N : Nat) : Spec Tryz.prog (conveqRegionS N) :=
 Spec.of_eq (zzu (cxveqRegionS N) (f := 36) (fn := Tryz.f36) (c := zzy Tryz.f36) (by kernel_rfl) (by kernel_rfl) (by kernel_rfl) (zzz (ids := [0]) (by kernel_rfl) ⟨lp_of (lpveqRegionS_0 N), trivial⟩) (by kernel_rfl)) (fun x r h => (FveqRegionS_eq N x).trans h)
def dinveqBoolS : Desc := { n := 2, regs := [.one (.val (.sl .bool)), .one (.val (.sl .bool))], bx := [], pins := [] }
def outveqBoolS : Outs := [(.ret, { n := 1, regs := [.one (.val .bool)], bx := [], pins := [] })]
def HveqBoolS : Hints := []
def EveqBoolS (_N : Nat) : Env := { te := TE, cs := [] }
def dveqBoolS_0 : Desc := { n := 26, regs := [.one (.val (.sl .bool)), .one (.val (.sl .bool)), u, u, u, .one (.val (.int .i64))], bx := [], pins := [] }
def oveqBoolS_0 : Outs := [(.exit 0, { n := 26, regs := [], bx := [], pins := [] }), (.ret, { n := 26, regs := [u, u, u, u, .one (.val .bool)], bx := [], pins := [] })]
def zv6 (N : Nat) : Nat → ((List Bool) × ((List Bool) × (Int × Unit))) → Option (Unit ⊕ (Bool × Unit))
 | 0, _ => none
 | n + 1, v =>
  let y2 := decide (v.2.2.1 < (v.1.length : Int))
  bif y2 then
   bif decide (0 ≤ v.2.2.1) then
   bif decide (v.2.2.1.toNat < v.1.length) then
   bif decide (0 ≤ v.2.2.1) then
   bif decide (v.2.2.1.toNat < v.2.1.length) then
   let y3 := !((v.1.getD v.2.2.1.toNat false) == (v.2.1.getD v.2.2.1.toNat false))
   bif y3 then
    some (.inr ((false, ())))
   else
   zv6 N n (v.1, v.2.1, w64 (v.2.2.1 + (1 : Int)), ())
   else none
   else none
   else none
   else none
  else
  some (.inl ())
def FveqBoolS (N : Nat) (x : ((List Bool) × ((List Bool) × Unit))) : Option (Bool × Unit) :=
 let y1 := (x.1.length : Int) != (x.2.1.length : Int)
 bif y1 then
  some (false, ())
 else
 (zv6 N N (x.1, x.2.1, (0 : Int), ())).bind fun o4 =>
 Sum.elim (fun o5 =>
  some (true, ())) (fun o6 =>
  some (o6.1, ())) o4
def conveqBoolS (N : Nat) : Con := { f := 37, din := dinveqBoolS, outs := outveqBoolS, F := FveqBoolS N }
def XveqBoolS (N : Nat) : Ctx := { E := EveqBoolS N, H := HveqBoolS, lp := [(0, { hd := dveqBoolS_0, outs := oveqBoolS_0, run := fun v => zv6 N N v })], jn := [] }
def bveqBoolS_0 : Code := zzv (zzy Tryz.f37) 0
theorem FveqBoolS_eq (N : Nat) (x : ((List Bool) × ((List Bool) × Unit))) : evFn (XveqBoolS N) Tryz.f37 dinveqBoolS outveqBoolS x = FveqBoolS N x := by kernel_rfl
theorem lveqBoolS_0_eq (N n : Nat) (v : ((List Bool) × ((List Bool) × (Int × Unit)))) : zv6 N (n + 1) v = ev (XveqBoolS N) bveqBoolS_0 (zzd dveqBoolS_0 oveqBoolS_0 (zv6 N n)) (dveqBoolS_0.mk' v) := by kernel_rfl
theorem cxveqBoolS (N : Nat) : CtxOk Tryz.prog (XveqBoolS N) := ⟨⟨TE_ok, fun k hk => absurd hk List.not_mem_nil⟩, mixed⟩
theorem lpveqBoolS_0 (N : Nat) : zzl Tryz.prog { hd := dveqBoolS_0, outs := oveqBoolS_0, run := fun v => zv6 N N v } bveqBoolS_0 :=
 zzx (d := dveqBoolS_0) (os := oveqBoolS_0) (cxveqBoolS N) (zzz (ids := []) (by kernel_rfl) (trivial)) (zv6 N) (fun _ => rfl) (fun n v => lveqBoolS_0_eq N n v) (fun _ => N)
theorem specveqBoolS (N : Nat) : Spec Tryz.prog (conveqBoolS N) :=
 Spec.of_eq (zzu (cxveqBoolS N) (f := 37) (fn := Tryz.f37) (c := zzy Tryz.f37) (by kernel_rfl) (by kernel_rfl) (by kernel_rfl) (zzz (ids := [0]) (by kernel_rfl) ⟨lp_of (lpveqBoolS_0 N), trivial⟩) (by kernel_rfl)) (fun x r h => (FveqBoolS_eq N x).trans h)
def dinveqThread : Desc := { n := 2, regs := [.one (.val tyq13), .one (.val tyq13)], bx := [], pins := [] }
def outveqThread : Outs := [(.ret, { n := 1, regs := [.one (.val .bool)], bx := [], pins := [] })]
def HveqThread : Hints := [(0, [(0, { fz := true }), (1, { fz := true })])]
def EveqThread (N : Nat) : Env := { te := TE, cs := [conveqIntS N] }
def FveqThread (N : Nat) (x : (tyq4 × (tyq4 × Unit))) : Option (Bool × Unit) :=
 (zso N (x.1.1, x.2.1.1, ())).bind fun r1 =>
 bif !r1.1 then
  some (false, ())
 else
 bif x.1.2.1 != x.2.1.2.1 then
  some (false, ())
 else
 bif !(x.1.2.2.1 == x.2.1.2.2.1) then
  some (false, ())
 else
 bif x.1.2.2.2.1 != x.2.1.2.2.2.1 then
  some (false, ())
 else
 some (true, ())
def conveqThread (N : Nat) : Con := { f := 64, din := dinveqThread, outs := outveqThread, F := FveqThread N }
def XveqThread (N : Nat) : Ctx := { E := EveqThread N, H := HveqThread, lp := [], jn := [] }
theorem FveqThread_eq (N : Nat) (x : (tyq4 × (tyq4 × Unit))) : evFn (XveqThread N) Tryz.f64 dinveqThread outveqThread x = FveqThread N x := by kernel_rfl
theorem cxveqThread (N : Nat) : CtxOk Tryz.prog (XveqThread N) := ⟨⟨TE_ok, List.forall_mem_cons.2 ⟨(specveqIntS N), fun k hk => absurd hk List.not_mem_nil⟩⟩, mixed⟩
theorem specveqThread (N : Nat) : Spec Tryz.prog (conveqThread N) :=
 Spec.of_eq (zzu (cxveqThread N) (f := 64) (fn := Tryz.f64) (c := zzy Tryz.f64) (by kernel_rfl) (by kernel_rfl) (by kernel_rfl) (zzz (ids := []) (by kernel_rfl) (trivial)) (by kernel_rfl)) (fun x r h => (FveqThread_eq N x).trans h)
def dinveqThreadS : Desc := { n := 2, regs := [.one (.val (.sl tyq13)), .one (.val (.sl tyq13))], bx := [], pins := [] }
def outveqThreadS : Outs := [(.ret, { n := 1, regs := [.one (.val .bool)], bx := [], pins := [] })]
def HveqThreadS : Hints := []
def EveqThreadS (N : Nat) : Env := { te := TE, cs := [conveqThread N] }
def zph : Desc := { n := 27, regs := [.one (.val (.sl tyq13)), .one (.val (.sl tyq13)), u, u, u, .one (.val (.int .i64))], bx := [], pins := [] }
def oveqThreadS_0 : Outs := [(.exit 0, { n := 27, regs := [], bx := [], pins := [] }), (.ret, { n := 27, regs := [u, u, u, u, .one (.val .bool)], bx := [], pins := [] })]
def zwp (N : Nat) : Nat → ((List tyq4) × ((List tyq4) × (Int × Unit))) → Option (Unit ⊕ (Bool × Unit))
 | 0, _ => none
 | n + 1, v =>
  let y2 := decide (v.2.2.1 < (v.1.length : Int))
  bif y2 then
   bif decide (0 ≤ v.2.2.1) then
   bif decide (v.2.2.1.toNat < v.1.length) then
   let y3 := v.1.getD v.2.2.1.toNat (([] : (List Int)), (0 : Int), false, (0 : Int), ())
   bif decide (0 ≤ v.2.2.1) then
   bif decide (v.2.2.1.toNat < v.2.1.length) then
   let y4 := v.2.1.getD v.2.2.1.toNat (([] : (List Int)), (0 : Int), false, (0 : Int), ())
   (FveqThread N (y3, y4, ())).bind fun r5 =>
   bif !r5.1 then
    some (.inr ((false, ())))
   else
   zwp N n (v.1, v.2.1, w64 (v.2.2.1 + (1 : Int)), ())
   else none
   else none
   else none
   else none
  else
  some (.inl ())
def zqo (N : Nat) (x : ((List tyq4) × ((List tyq4) × Unit))) : Option (Bool × Unit) :=
 let y1 := (x.1.length : Int) != (x.2.1.length : Int)
 bif y1 then
  some (false, ())
 else
 (zwp N N (x.1, x.2.1, (0 : Int), ())).bind fun o6 =>
 Sum.elim (fun o7 =>
  some (true, ())) (fun o8 =>
  some (o8.1, ())) o6
def conveqThreadS (N : Nat) : Con := { f := 38, din := dinveqThreadS, outs := outveqThreadS, F := zqo N }
def XveqThreadS (N : Nat) : Ctx := { E := EveqThreadS N, H := HveqThreadS, lp := [(0, { hd := zph, outs := oveqThreadS_0, run := fun v => zwp N N v })], jn := [] }
def bveqThreadS_0 : Code := zzv (zzy Tryz.f38) 0
theorem FveqThreadS_eq (N : Nat) (x : ((List tyq4) × ((List tyq4) × Unit))) : evFn (XveqThreadS N) Tryz.f38 dinveqThreadS outveqThreadS x = zqo N x := by kernel_rfl
theorem lveqThreadS_0_eq (N n : Nat) (v : ((List tyq4) × ((List tyq4) × (Int × Unit)))) : zwp N (n + 1) v = ev (XveqThreadS N) bveqThreadS_0 (zzd zph oveqThreadS_0 (zwp N n)) (zph.mk' v) := by kernel_rfl
theorem cxveqThreadS (N : Nat) : CtxOk Tryz.prog (XveqThreadS N) := ⟨⟨TE_ok, List.forall_mem_cons.2 ⟨(specveqThread N), fun k hk => absurd hk List.not_mem_nil⟩⟩, mixed⟩
theorem lpveqThreadS_0 (N : Nat) : zzl Tryz.prog { hd := zph, outs := oveqThreadS_0, run := fun v => zwp N N v } bveqThreadS_0 :=
 zzx (d := zph) (os := oveqThreadS_0) (cxveqThreadS N) (zzz (ids := []) (by kernel_rfl) (trivial)) (zwp N) (fun _ => rfl) (fun n v => lveqThreadS_0_eq N n v) (fun _ => N)
theorem specveqThreadS (N : Nat) : Spec Tryz.prog (conveqThreadS N) :=
 Spec.of_eq (zzu (cxveqThreadS N) (f := 38) (fn := Tryz.f38) (c := zzy Tryz.f38) (by kernel_rfl) (by kernel_rfl) (by kernel_rfl) (zzz (ids := [0]) (by kernel_rfl) ⟨lp_of (lpveqThreadS_0 N), trivial⟩) (by kernel_rfl)) (fun x r h => (FveqThreadS_eq N x).trans h)
def dinveqState : Desc := { n := 2, regs := [.one (.val tyq10), .one (.val tyq10)], bx := [], pins := [] }
def outveqState : Outs := [(.ret, { n := 1, regs := [.one (.val .bool)], bx := [], pins := [] })]
def HveqState : Hints := [(0, [(0, { fz := true }), (1, { fz := true })]),
 (3, [(4, { con := 1 })]),
 (5, [(4, { con := 2 })]),
 (17, [(4, { con := 3 })])]
def EveqState (N : Nat) : Env := { te := TE, cs := [conveqIntS N, conveqRegionS N, conveqBoolS N, conveqThreadS N] }
def FveqState (N : Nat) (x : (tyq1 × (tyq1 × Unit))) : Option (Bool × Unit) :=
 (zso N (x.1.1, x.2.1.1, ())).bind fun r1 =>
 bif !r1.1 then
  some (false, ())
 else
 (zqn N (x.1.2.1, x.2.1.2.1, ())).bind fun r2 =>
 bif !r2.1 then
  some (false, ())
 else
 (FveqBoolS N (x.1.2.2.1, x.2.1.2.2.1, ())).bind fun r3 =>
 bif !r3.1 then
  some (false, ())
 else
 bif x.1.2.2.2.1 != x.2.1.2.2.2.1 then
  some (false, ())
 else
 bif !(x.1.2.2.2.2.1 == x.2.1.2.2.2.2.1) then
  some (false, ())
 else
 let y4 := !(x.1.2.2.2.2.2.1 == x.2.1.2.2.2.2.2.1)
 bif y4 then
  some (false, ())
 else
 let y5 := !(x.1.2.2.2.2.2.2.1 == x.2.1.2.2.2.2.2.2.1)
 bif y5 then
  some (false, ())
 else
 let y6 := x.1.2.2.2.2.2.2.2.1 != x.2.1.2.2.2.2.2.2.2.1
 bif y6 then
  some (false, ())
 else
 (zqo N (x.1.2.2.2.2.2.2.2.2.1, x.2.1.2.2.2.2.2.2.2.2.1, ())).bind fun r7 =>
 bif !r7.1 then
  some (false, ())
 else
 (zso N (x.1.2.2.2.2.2.2.2.2.2.1, x.2.1.2.2.2.2.2.2.2.2.2.1, ())).bind fun r8 =>
 bif !r8.1 then
  some (false, ())
 else
 (zso N (x.1.2.2.2.2.2.2.2.2.2.2.1, x.2.1.2.2.2.2.2.2.2.2.2.2.1, ())).bind fun r9 =>
 bif !r9.1 then
  some (false, ())
 else
 let y10 := x.1.2.2.2.2.2.2.2.2.2.2.2.1 != x.2.1.2.2.2.2.2.2.2.2.2.2.2.1
 bif y10 then
  some (false, ())
 else
 let y11 := x.1.2.2.2.2.2.2.2.2.2.2.2.2.1 != x.2.1.2.2.2.2.2.2.2.2.2.2.2.2.1
 bif y11 then
  some (false, ())
 else
 some (true, ())
def conveqState (N : Nat) : Con := { f := 9, din := dinveqState, outs := outveqState, F := FveqState N }
def XveqState (N : Nat) : Ctx := { E := EveqState N, H := HveqState, lp := [], jn := [] }
theorem FveqState_eq (N : Nat) (x : (tyq1 × (tyq1 × Unit))) : evFn (XveqState N) Tryz.f9 dinveqState outveqState x = FveqState N x := by kernel_rfl
theorem cxveqState (N : Nat) : CtxOk Tryz.prog (XveqState N) := ⟨⟨TE_ok, List.forall_mem_cons.2 ⟨(specveqIntS N), List.forall_mem_cons.2 ⟨(specveqRegionS N), List.forall_mem_cons.2 ⟨(specveqBoolS N), List.forall_mem_cons.2 ⟨(specveqThreadS N), fun k hk => absurd hk List.not_mem_nil⟩⟩⟩⟩⟩, mixed⟩
theorem specveqState (N : Nat) : Spec Tryz.prog (conveqState N) :=
 Spec.of_eq (zzu (cxveqState N) (f := 9) (fn := Tryz.f9) (c := zzy Tryz.f9) (by kernel_rfl) (by kernel_rfl) (by kernel_rfl) (zzz (ids := []) (by kernel_rfl) (trivial)) (by kernel_rfl)) (fun x r h => (FveqState_eq N x).trans h)
def dinvmarkIntS : Desc := { n := 2, regs := [.one (.lit (.row 0)), .one (.val (.int .i64))], bx := [(0, .row (.int .i64))], pins := [] }
def outvmarkIntS : Outs := [(.ret, { n := 1, regs := [.one (.val (.int .i64))], bx := [(0, .row (.int .i64))], pins := [.one (.lit (.row 0))] })]
def HvmarkIntS : Hints := []
def EvmarkIntS (_N : Nat) : Env := { te := TE, cs := [] }
def dvmarkIntS_0 : Desc := { n := 19, regs := [.one (.lit (.row 0)), .one (.val (.int .i64)), u, u, u, .one (.val (.int .i64))], bx := [(0, .row (.int .i64))], pins := [.one (.lit (.row 0))] }
def ovmarkIntS_0 : Outs := [(.exit 0, { n := 19, regs := [u, .one (.val (.int .i64))], bx := [(0, .row (.int .i64))], pins := [.one (.lit (.row 0))] })]
def zx1 (N : Nat) : Nat → (Int × (Int × ((List Int) × Unit))) → Option (Int × ((List Int) × Unit))
 | 0, _ => none
 | n + 1, v =>
  let y1 := decide (v.2.1 < (v.2.2.1.length : Int))
  bif y1 then
   bif decide (0 ≤ v.2.1) then
   bif decide (v.2.1.toNat < v.2.2.1.length) then
   zx1 N n (w64 (v.1 + (1 : Int)), w64 (v.2.1 + (1 : Int)), v.2.2.1.set v.2.1.toNat v.1, ())
   else none
   else none
  else
  some (v.1, v.2.2.1, ())
def zvn (N : Nat) (x : (Int × ((List Int) × Unit))) : Option (Int × ((List Int) × Unit)) :=
 (zx1 N N (x.1, (0 : Int), x.2.1, ())).bind fun o2 =>
 some (o2.1, o2.2.1, ())
def zqa (N : Nat) : Con := { f := 39, din := dinvmarkIntS, outs := outvmarkIntS, F := zvn N }
def XvmarkIntS (N : Nat) : Ctx := { E := EvmarkIntS N, H := HvmarkIntS, lp := [(0, { hd := dvmarkIntS_0, outs := ovmarkIntS_0, run := fun v => zx1 N N v })], jn := [] }
def bvmarkIntS_0 : Code := zzv (zzy Tryz.f39) 0
theorem FvmarkIntS_eq (N : Nat) (x : (Int × ((List Int) × Unit))) : evFn (XvmarkIntS N) Tryz.f39 dinvmarkIntS outvmarkIntS x = zvn N x := by kernel_rfl
theorem lvmarkIntS_0_eq (N n : Nat) (v : (Int × (Int × ((List Int) × Unit)))) : zx1 N (n + 1) v = ev (XvmarkIntS N) bvmarkIntS_0 (zzd dvmarkIntS_0 ovmarkIntS_0 (zx1 N n)) (dvmarkIntS_0.mk' v) := by kernel_rfl
theorem cxvmarkIntS (N : Nat) : CtxOk Tryz.prog (XvmarkIntS N) := ⟨⟨TE_ok, fun k hk => absurd hk List.not_mem_nil⟩, mixed⟩
theorem lpvmarkIntS_0 (N : Nat) : zzl Tryz.prog { hd := dvmarkIntS_0, outs := ovmarkIntS_0, run := fun v => zx1 N N v } bvmarkIntS_0 :=
 zzx (d := dvmarkIntS_0) (os := ovmarkIntS_0) (cxvmarkIntS N) (zzz (ids := []) (by kernel_rfl) (trivial)) (zx1 N) (fun _ => rfl) (fun n v => lvmarkIntS_0_eq N n v) (fun _ => N)
theorem zpz (N : Nat) : Spec Tryz.prog (zqa N) :=
 Spec.of_eq (zzu (cxvmarkIntS N) (f := 39) (fn := Tryz.f39) (c := zzy Tryz.f39) (by kernel_rfl) (by kernel_rfl) (by kernel_rfl) (zzz (ids := [0]) (by kernel_rfl) ⟨lp_of (lpvmarkIntS_0 N), trivial⟩) (by kernel_rfl)) (fun x r h => (FvmarkIntS_eq N x).trans h)
def dinvmarkRegionS : Desc := { n := 2, regs := [.one (.lit (.row 0)), .one (.val (.int .i64))], bx := [(0, .row tyq12)], pins := [] }
def outvmarkRegionS : Outs := [(.ret, { n := 1, regs := [.one (.val (.int .i64))], bx := [(0, .row tyq12)], pins := [.one (.lit (.row 0))] })]
def HvmarkRegionS : Hints := []
def EvmarkRegionS (_N : Nat) : Env := { te := TE, cs := [] }
def zsf : Desc := { n := 48, regs := [.one (.lit (.row 0)), .one (.val (.int .i64)), u, u, u, .one (.val (.int .i64))], bx := [(0, .row tyq12)], pins := [.one (.lit (.row 0))] }
def zpw : Outs := [(.exit 0, { n := 48, regs := [u, .one (.val (.int .i64))], bx := [(0, .row tyq12)], pins := [.one (.lit (.row 0))] })]
def zxn (N : Nat) : Nat → (Int × (Int × ((List tyq3) × Unit))) → Option (Int × ((List tyq3) × Unit))
 | 0, _ => none
 | n + 1, v =>
  let y1 := decide (v.2.1 < (v.2.2.1.length : Int))
  bif y1 then
   bif decide (0 ≤ v.2.1) then
   bif decide (v.2.1.toNat < v.2.2.1.length) then
   let y2 := v.2.2.1.set v.2.1.toNat (v.1, (v.2.2.1.getD v.2.1.toNat ((0 : Int), (0 : Int), (0 : Int), (0 : Int), (0 : Int), ())).2)
   bif decide (0 ≤ v.2.1) then
   bif decide (v.2.1.toNat < y2.length) then
   let y3 := y2.set v.2.1.toNat ((y2.getD v.2.1.toNat ((0 : Int), (0 : Int), (0 : Int), (0 : Int), (0 : Int), ())).1, w64 (v.1 + (1 : Int)), ((y2.getD v.2.1.toNat ((0 : Int), (0 : Int), (0 : Int), (0 : Int), (0 : Int), ())).2).2)
   let y4 := w64 ((w64 (v.1 + (1 : Int))) + (1 : Int))
   bif decide (0 ≤ v.2.1) then
   bif decide (v.2.1.toNat < y3.length) then
   let y5 := y3.set v.2.1.toNat ((y3.getD v.2.1.toNat ((0 : Int), (0 : Int), (0 : Int), (0 : Int), (0 : Int), ())).1, ((y3.getD v.2.1.toNat ((0 : Int), (0 : Int), (0 : Int), (0 : Int), (0 : Int), ())).2).1, y4, (((y3.getD v.2.1.toNat ((0 : Int), (0 : Int), (0 : Int), (0 : Int), (0 : Int), ())).2).2).2)
   bif decide (0 ≤ v.2.1) then
   bif decide (v.2.1.toNat < y5.length) then
   let y6 := y5.set v.2.1.toNat ((y5.getD v.2.1.toNat ((0 : Int), (0 : Int), (0 : Int), (0 : Int), (0 : Int), ())).1, ((y5.getD v.2.1.toNat ((0 : Int), (0 : Int), (0 : Int), (0 : Int), (0 : Int), ())).2).1, (((y5.getD v.2.1.toNat ((0 : Int), (0 : Int), (0 : Int), (0 : Int), (0 : Int), ())).2).2).1, w64 (y4 + (1 : Int)), ((((y5.getD v.2.1.toNat ((0 : Int), (0 : Int), (0 : Int), (0 : Int), (0 : Int), ())).2).2).2).2)
   let y7 := w64 ((w64 (y4 + (1 : Int))) + (1 : Int))
   bif decide (0 ≤ v.2.1) then
   bif decide (v.2.1.toNat < y6.length) then
   let y8 := y6.set v.2.1.toNat ((y6.getD v.2.1.toNat ((0 : Int), (0 : Int), (0 : Int), (0 : Int), (0 : Int), ())).1, ((y6.getD v.2.1.toNat ((0 : Int), (0 : Int), (0 : Int), (0 : Int), (0 : Int), ())).2).1, (((y6.getD v.2.1.toNat ((0 : Int), (0 : Int), (0 : Int), (0 : Int), (0 : Int), ())).2).2).1, ((((y6.getD v.2.1.toNat ((0 : Int), (0 : Int), (0 : Int), (0 : Int), (0 : Int), ())).2).2).2).1, y7, (((((y6.getD v.2.1.toNat ((0 : Int), (0 : Int), (0 : Int), (0 : Int), (0 : Int), ())).2).2).2).2).2)
   zxn N n (w64 (y7 + (1 : Int)), w64 (v.2.1 + (1 : Int)), y8, ())
   else none
   else none
   else none
   else none
   else none
   else none
   else none
   else none
   else none
   else none
  else
  some (v.1, v.2.2.1, ())
def zp8 (N : Nat) (x : (Int × ((List tyq3) × Unit))) : Option (Int × ((List tyq3) × Unit)) :=
 (zxn N N (x.1, (0 : Int), x.2.1, ())).bind fun o9 =>
 some (o9.1, o9.2.1, ())
def convmarkRegionS (N : Nat) : Con := { f := 40, din := dinvmarkRegionS, outs := outvmarkRegionS, F := zp8 N }
def XvmarkRegionS (N : Nat) : Ctx := { E := EvmarkRegionS N, H := HvmarkRegionS, lp := [(0, { hd := zsf, outs := zpw, run := fun v => zxn N N v })], jn := [] }
def bvmarkRegionS_0 : Code := zzv (zzy Tryz.f40) 0
theorem FvmarkRegionS_eq (N : Nat) (x : (Int × ((List tyq3) × Unit))) : evFn (XvmarkRegionS N) Tryz.f40 dinvmarkRegionS outvmarkRegionS x = zp8 N x := by kernel_rfl
theorem lvmarkRegionS_0_eq (N n : Nat) (v : (Int × (Int × ((List tyq3) × Unit)))) : zxn N (n + 1) v = ev (XvmarkRegionS N) bvmarkRegionS_0 (zzd zsf zpw (zxn N n)) (zsf.mk' v) := by kernel_rfl
theorem cxvmarkRegionS (N : Nat) : CtxOk Tryz.prog (XvmarkRegionS N) := ⟨⟨TE_ok, fun k hk => absurd hk List.not_mem_nil⟩, mixed⟩
theorem lpvmarkRegionS_0 (N : Nat) : zzl Tryz.prog { hd := zsf, outs := zpw, run := fun v => zxn N N v } bvmarkRegionS_0 :=
 zzx (d := zsf) (os := zpw) (cxvmarkRegionS N) (zzz (ids := []) (by kernel_rfl) (trivial)) (zxn N) (fun _ => rfl) (fun n v => lvmarkRegionS_0_eq N n v) (fun _ => N)
theorem specvmarkRegionS (N : Nat) : Spec Tryz.prog (convmarkRegionS N) :=
 Spec.of_eq (zzu (cxvmarkRegionS N) (f := 40) (fn := Tryz.f40) (c := zzy Tryz.f40) (by kernel_rfl) (by kernel_rfl) (by kernel_rfl) (zzz (ids := [0]) (by kernel_rfl) ⟨lp_of (lpvmarkRegionS_0 N), trivial⟩) (by kernel_rfl)) (fun x r h => (FvmarkRegionS_eq N x).trans h)
def dinvmarkBoolS : Desc := { n := 2, regs := [.one (.lit (.row 0)), .one (.val (.int .i64))], bx := [(0, .row .bool)], pins := [] }
def outvmarkBoolS : Outs := [(.ret, { n := 1, regs := [.one (.val (.int .i64))], bx := [(0, .row .bool)], pins := [.one (.lit (.row 0))] })]
def HvmarkBoolS : Hints := []
def EvmarkBoolS (_N : Nat) : Env := { te := TE, cs := [] }
def zpk : Desc := { n := 21, regs := [.one (.lit (.row 0)), .one (.val (.int .i64)), u, u, u, .one (.val (.int .i64))], bx := [(0, .row .bool)], pins := [.one (.lit (.row 0))] }
def ovmarkBoolS_0 : Outs := [(.exit 0, { n := 21, regs := [u, .one (.val (.int .i64))], bx := [(0, .row .bool)], pins := [.one (.lit (.row 0))] })]
def zw6 (N : Nat) : Nat → (Int × (Int × ((List Bool) × Unit))) → Option (Int × ((List Bool) × Unit))
 | 0, _ => none
 | n + 1, v =>
  let y1 := decide (v.2.1 < (v.2.2.1.length : Int))
  bif y1 then
   bif decide ((3 : Int) = 0) then
    none
   else
   let y2 := (Int.tmod v.1 (3 : Int)) == (0 : Int)
   bif decide (0 ≤ v.2.1) then
   bif decide (v.2.1.toNat < v.2.2.1.length) then
   zw6 N n (w64 (v.1 + (1 : Int)), w64 (v.2.1 + (1 : Int)), v.2.2.1.set v.2.1.toNat y2, ())
   else none
   else none
  else
  some (v.1, v.2.2.1, ())
def FvmarkBoolS (N : Nat) (x : (Int × ((List Bool) × Unit))) : Option (Int × ((List Bool) × Unit)) :=
 (zw6 N N (x.1, (0 : Int), x.2.1, ())).bind fun o3 =>
 some (o3.1, o3.2.1, ())
def convmarkBoolS (N : Nat) : Con := { f := 41, din := dinvmarkBoolS, outs := outvmarkBoolS, F := FvmarkBoolS N }
def XvmarkBoolS (N : Nat) : Ctx := { E := EvmarkBoolS N, H := HvmarkBoolS, lp := [(0, { hd := zpk, outs := ovmarkBoolS_0, run := fun v => zw6 N N v })], jn := [] }
def bvmarkBoolS_0 : Code := zzv (zzy Tryz.f41) 0
theorem FvmarkBoolS_eq (N : Nat) (x : (Int × ((List Bool) × Unit))) : evFn (XvmarkBoolS N) Tryz.f41 dinvmarkBoolS outvmarkBoolS x = FvmarkBoolS N x := by kernel_rfl
theorem lvmarkBoolS_0_eq (N n : Nat) (v : (Int × (Int × ((List Bool) × Unit)))) : zw6 N (n + 1) v = ev (XvmarkBoolS N) bvmarkBoolS_0 (zzd zpk ovmarkBoolS_0 (zw6 N n)) (zpk.mk' v) := by kernel_rfl
theorem cxvmarkBoolS (N : Nat) : CtxOk Tryz.prog (XvmarkBoolS N) := ⟨⟨TE_ok, fun k hk => absurd hk List.not_mem_nil⟩, mixed⟩
theorem lpvmarkBoolS_0 (N : Nat) : zzl Tryz.prog { hd := zpk, outs := ovmarkBoolS_0, run := fun v => zw6 N N v } bvmarkBoolS_0 :=
 zzx (d := zpk) (os := ovmarkBoolS_0) (cxvmarkBoolS N) (zzz (ids := []) (by kernel_rfl) (trivial)) (zw6 N) (fun _ => rfl) (fun n v => lvmarkBoolS_0_eq N n v) (fun _ => N)
theorem specvmarkBoolS (N : Nat) : Spec Tryz.prog (convmarkBoolS N) :=
 Spec.of_eq (zzu (cxvmarkBoolS N) (f := 41) (fn := Tryz.f41) (c := zzy Tryz.f41) (by kernel_rfl) (by kernel_rfl) (by kernel_rfl) (zzz (ids := [0]) (by kernel_rfl) ⟨lp_of (lpvmarkBoolS_0 N), trivial⟩) (by kernel_rfl)) (fun x r h => (FvmarkBoolS_eq N x).trans h)
def dinvmarkThreadS : Desc := { n := 2, regs := [.one (.lit (.row 0)), .one (.val (.int .i64))], bx := [(0, .row tyq13)], pins := [] }
def outvmarkThreadS : Outs := [(.ret, { n := 1, regs := [.one (.val (.int .i64))], bx := [(0, .row tyq13)], pins := [.one (.lit (.row 0))] })]
def HvmarkThreadS : Hints := [(4, [(6, { sg := [(0, 1051624)], pre := [.take 16 1051624], post := [.give 1051624 0] })])]
def EvmarkThreadS (N : Nat) : Env := { te := TE, cs := [zqa N] }
def zsg : Desc := { n := 43, regs := [.one (.lit (.row 0)), .one (.val (.int .i64)), u, u, u, .one (.val (.int .i64))], bx := [(0, .row tyq13)], pins := [.one (.lit (.row 0))] }
def zpx : Outs := [(.exit 0, { n := 43, regs := [u, .one (.val (.int .i64))], bx := [(0, .row tyq13)], pins := [.one (.lit (.row 0))] })]
def zxo (N : Nat) : Nat → (Int × (Int × ((List tyq4) × Unit))) → Option (Int × ((List tyq4) × Unit))
 | 0, _ => none
 | n + 1, v =>
  let y1 := decide (v.2.1 < (v.2.2.1.length : Int))
  bif y1 then
   bif decide (0 ≤ v.2.1) then
   bif decide (v.2.1.toNat < v.2.2.1.length) then
   (zvn N (v.1, (v.2.2.1.getD v.2.1.toNat (([] : (List Int)), (0 : Int), false, (0 : Int), ())).1, ())).bind fun r2 =>
   bif decide (0 ≤ v.2.1) then
   bif decide (v.2.1.toNat < (v.2.2.1.set v.2.1.toNat (r2.2.1, (v.2.2.1.getD v.2.1.toNat (([] : (List Int)), (0 : Int), false, (0 : Int), ())).2)).length) then
   let y3 := (v.2.2.1.set v.2.1.toNat (r2.2.1, (v.2.2.1.getD v.2.1.toNat (([] : (List Int)), (0 : Int), false, (0 : Int), ())).2)).set v.2.1.toNat (((v.2.2.1.set v.2.1.toNat (r2.2.1, (v.2.2.1.getD v.2.1.toNat (([] : (List Int)), (0 : Int), false, (0 : Int), ())).2)).getD v.2.1.toNat (([] : (List Int)), (0 : Int), false, (0 : Int), ())).1, r2.1, (((v.2.2.1.set v.2.1.toNat (r2.2.1, (v.2.2.1.getD v.2.1.toNat (([] : (List Int)), (0 : Int), false, (0 : Int), ())).2)).getD v.2.1.toNat (([] : (List Int)), (0 : Int), false, (0 : Int), ())).2).2)
   bif decide ((3 : Int) = 0) then
    none
   else
   let y4 := Int.tmod (w64 (r2.1 + (1 : Int))) (3 : Int)
   bif decide (0 ≤ v.2.1) then
   bif decide (v.2.1.toNat < y3.length) then
   let y5 := y3.set v.2.1.toNat ((y3.getD v.2.1.toNat (([] : (List Int)), (0 : Int), false, (0 : Int), ())).1, ((y3.getD v.2.1.toNat (([] : (List Int)), (0 : Int), false, (0 : Int), ())).2).1, y4 == (0 : Int), (((y3.getD v.2.1.toNat (([] : (List Int)), (0 : Int), false, (0 : Int), ())).2).2).2)
   let y6 := w64 ((w64 (r2.1 + (1 : Int))) + (1 : Int))
   bif decide (0 ≤ v.2.1) then
   bif decide (v.2.1.toNat < y5.length) then
   let y7 := y5.set v.2.1.toNat ((y5.getD v.2.1.toNat (([] : (List Int)), (0 : Int), false, (0 : Int), ())).1, ((y5.getD v.2.1.toNat (([] : (List Int)), (0 : Int), false, (0 : Int), ())).2).1, (((y5.getD v.2.1.toNat (([] : (List Int)), (0 : Int), false, (0 : Int), ())).2).2).1, y6, ((((y5.getD v.2.1.toNat (([] : (List Int)), (0 : Int), false, (0 : Int), ())).2).2).2).2)
   zxo N n (w64 (y6 + (1 : Int)), w64 (v.2.1 + (1 : Int)), y7, ())
   else none
   else none
   else none
   else none
   else none
   else none
   else none
   else none
  else
  some (v.1, v.2.2.1, ())
def zp7 (N : Nat) (x : (Int × ((List tyq4) × Unit))) : Option (Int × ((List tyq4) × Unit)) :=
 (zxo N N (x.1, (0 : Int), x.2.1, ())).bind fun o8 =>
 some (o8.1, o8.2.1, ())
def convmarkThreadS (N : Nat) : Con := { f := 42, din := dinvmarkThreadS, outs := outvmarkThreadS, F := zp7 N }
def XvmarkThreadS (N : Nat) : Ctx := { E := EvmarkThreadS N, H := HvmarkThreadS, lp := [(0, { hd := zsg, outs := zpx, run := fun v => zxo N N v })], jn := [] }
def bvmarkThreadS_0 : Code := zzv (zzy Tryz.f42) 0
theorem FvmarkThreadS_eq (N : Nat) (x : (Int × ((List tyq4) × Unit))) : evFn (XvmarkThreadS N) Tryz.f42 dinvmarkThreadS outvmarkThreadS x = zp7 N x := by kernel_rfl
theorem lvmarkThreadS_0_eq (N n : Nat) (v : (Int × (Int × ((List tyq4) × Unit)))) : zxo N (n + 1) v = ev (XvmarkThreadS N) bvmarkThreadS_0 (zzd zsg zpx (zxo N n)) (zsg.mk' v) := by kernel_rfl
theorem cxvmarkThreadS (N : Nat) : CtxOk Tryz.prog (XvmarkThreadS N) := ⟨⟨TE_ok, List.forall_mem_cons.2 ⟨(zpz N), fun k hk => absurd hk List.not_mem_nil⟩⟩, mixed⟩
theorem lpvmarkThreadS_0 (N : Nat) : zzl Tryz.prog { hd := zsg, outs := zpx, run := fun v => zxo N N v } bvmarkThreadS_0 :=
 zzx (d := zsg) (os := zpx) (cxvmarkThreadS N) (zzz (ids := []) (by kernel_rfl) (trivial)) (zxo N) (fun _ => rfl) (fun n v => lvmarkThreadS_0_eq N n v) (fun _ => N)
theorem specvmarkThreadS (N : Nat) : Spec Tryz.prog (convmarkThreadS N) :=
 Spec.of_eq (zzu (cxvmarkThreadS N) (f := 42) (fn := Tryz.f42) (c := zzy Tryz.f42) (by kernel_rfl) (by kernel_rfl) (by kernel_rfl) (zzz (ids := [0]) (by kernel_rfl) ⟨lp_of (lpvmarkThreadS_0 N), trivial⟩) (by kernel_rfl)) (fun x r h => (FvmarkThreadS_eq N x).trans h)
def dinvmarkState : Desc := { n := 2, regs := [.agg [.lit (.row 0), .lit (.row 1), .lit (.row 2), .val (.int .i64), .val .bool, .val .bool, .val .bool, .val (.int .i64), .lit (.row 3), .lit (.row 4), .lit (.row 5), .val (.int .i64), .val (.int .i64)], .one (.val (.int .i64))], bx := [(0, .row (.int .i64)), (1, .row tyq12), (2, .row .bool), (3, .row tyq13), (4, .row (.int .i64)), (5, .row (.int .i64))], pins := [] }
def outvmarkState : Outs := [(.ret, { n := 1, regs := [.one (.val (.int .i64))], bx := [(0, .row (.int .i64)), (1, .row tyq12), (2, .row .bool), (3, .row tyq13), (4, .row (.int .i64)), (5, .row (.int .i64))], pins := [.agg [.lit (.row 0), .lit (.row 1), .lit (.row 2), .un, .un, .un, .un, .un, .lit (.row 3), .lit (.row 4), .lit (.row 5), .un, .un]] })]
def HvmarkState : Hints := [(2, [(3, { con := 1, sg := [(0, 1)] })]),
 (3, [(3, { con := 2, sg := [(0, 2)] })]),
 (4, [(3, { con := 3, sg := [(0, 3)] })]),
 (5, [(3, { sg := [(0, 4)] })]),
 (6, [(3, { sg := [(0, 5)] })])]
def EvmarkState (N : Nat) : Env := { te := TE, cs := [zqa N, convmarkRegionS N, convmarkBoolS N, convmarkThreadS N] }
def FvmarkState (N : Nat) (x : (Int × (Bool × (Bool × (Bool × (Int × (Int × (Int × (Int × ((List Int) × ((List tyq3) × ((List Bool) × ((List tyq4) × ((List Int) × ((List Int) × Unit))))))))))))))) : Option (Int × ((List Int) × ((List tyq3) × ((List Bool) × ((List tyq4) × ((List Int) × ((List Int) × Unit))))))) :=
 (zvn N (x.2.2.2.2.2.2.2.1, x.2.2.2.2.2.2.2.2.1, ())).bind fun r1 =>
 (zp8 N (r1.1, x.2.2.2.2.2.2.2.2.2.1, ())).bind fun r2 =>
 (FvmarkBoolS N (r2.1, x.2.2.2.2.2.2.2.2.2.2.1, ())).bind fun r3 =>
 (zp7 N (r3.1, x.2.2.2.2.2.2.2.2.2.2.2.1, ())).bind fun r4 =>
 (zvn N (r4.1, x.2.2.2.2.2.2.2.2.2.2.2.2.1, ())).bind fun r5 =>
 (zvn N (r5.1, x.2.2.2.2.2.2.2.2.2.2.2.2.2.1, ())).bind fun r6 =>
 some (r6.1, r1.2.1, r2.2.1, r3.2.1, r4.2.1, r5.2.1, r6.2.1, ())
def convmarkState (N : Nat) : Con := { f := 10, din := dinvmarkState, outs := outvmarkState, F := FvmarkState N }
def XvmarkState (N : Nat) : Ctx := { E := EvmarkState N, H := HvmarkState, lp := [], jn := [] }
theorem FvmarkState_eq (N : Nat) (x : (Int × (Bool × (Bool × (Bool × (Int × (Int × (Int × (Int × ((List Int) × ((List tyq3) × ((List Bool) × ((List tyq4) × ((List Int) × ((List Int) × Unit))))))))))))))) : evFn (XvmarkState N) Tryz.f10 dinvmarkState outvmarkState x = FvmarkState N x := by kernel_rfl
theorem cxvmarkState (N : Nat) : CtxOk Tryz.prog (XvmarkState N) := ⟨⟨TE_ok, List.forall_mem_cons.2 ⟨(zpz N), List.forall_mem_cons.2 ⟨(specvmarkRegionS N), List.forall_mem_cons.2 ⟨(specvmarkBoolS N), List.forall_mem_cons.2 ⟨(specvmarkThreadS N), fun k hk => absurd hk List.not_mem_nil⟩⟩⟩⟩⟩, mixed⟩
theorem specvmarkState (N : Nat) : Spec Tryz.prog (convmarkState N) :=
 Spec.of_eq (zzu (cxvmarkState N) (f := 10) (fn := Tryz.f10) (c := zzy Tryz.f10) (by kernel_rfl) (by kernel_rfl) (by kernel_rfl) (zzz (ids := []) (by kernel_rfl) (trivial)) (by kernel_rfl)) (fun x r h => (FvmarkState_eq N x).trans h)
def dinvmarkNodeS : Desc := { n := 2, regs := [.one (.lit (.row 0)), .one (.val (.int .i64))], bx := [(0, .row tyq14)], pins := [] }
def outvmarkNodeS : Outs := [(.ret, { n := 1, regs := [.one (.val (.int .i64))], bx := [(0, .row tyq14)], pins := [.one (.lit (.row 0))] })]
def HvmarkNodeS : Hints := [(4, [(6, { sg := [(0, 1051624)], pre := [.take 16 1051624], post := [.give 1051624 0] })]),
 (5, [(6, { sg := [(0, 1064424)], pre := [.take 23 1064424], post := [.give 1064424 0] })])]
def EvmarkNodeS (N : Nat) : Env := { te := TE, cs := [zqa N] }
def zpm : Desc := { n := 27, regs := [.one (.lit (.row 0)), .one (.val (.int .i64)), u, u, u, .one (.val (.int .i64))], bx := [(0, .row tyq14)], pins := [.one (.lit (.row 0))] }
def ovmarkNodeS_0 : Outs := [(.exit 0, { n := 27, regs := [u, .one (.val (.int .i64))], bx := [(0, .row tyq14)], pins := [.one (.lit (.row 0))] })]
def zw4 (N : Nat) : Nat → (Int × (Int × (tyq6 × Unit))) → Option (Int × (tyq6 × Unit))
 | 0, _ => none
 | n + 1, v =>
  let y1 := decide (v.2.1 < (v.2.2.1.length : Int))
  bif y1 then
   bif decide (0 ≤ v.2.1) then
   bif decide (v.2.1.toNat < v.2.2.1.length) then
   (zvn N (v.1, (v.2.2.1.getD v.2.1.toNat (([] : (List Int)), ([] : (List Int)), ())).1, ())).bind fun r2 =>
   bif decide (0 ≤ v.2.1) then
   bif decide (v.2.1.toNat < (v.2.2.1.set v.2.1.toNat (r2.2.1, (v.2.2.1.getD v.2.1.toNat (([] : (List Int)), ([] : (List Int)), ())).2)).length) then
   (zvn N (r2.1, (((v.2.2.1.set v.2.1.toNat (r2.2.1, (v.2.2.1.getD v.2.1.toNat (([] : (List Int)), ([] : (List Int)), ())).2)).getD v.2.1.toNat (([] : (List Int)), ([] : (List Int)), ())).2).1, ())).bind fun r3 =>
   zw4 N n (r3.1, w64 (v.2.1 + (1 : Int)), (v.2.2.1.set v.2.1.toNat (r2.2.1, (v.2.2.1.getD v.2.1.toNat (([] : (List Int)), ([] : (List Int)), ())).2)).set v.2.1.toNat (((v.2.2.1.set v.2.1.toNat (r2.2.1, (v.2.2.1.getD v.2.1.toNat (([] : (List Int)), ([] : (List Int)), ())).2)).getD v.2.1.toNat (([] : (List Int)), ([] : (List Int)), ())).1, r3.2.1, (((v.2.2.1.set v.2.1.toNat (r2.2.1, (v.2.2.1.getD v.2.1.toNat (([] : (List Int)), ([] : (List Int)), ())).2)).getD v.2.1.toNat (([] : (List Int)), ([] : (List Int)), ())).2).2), ())
   else none
   else none
   else none
   else none
  else
  some (v.1, v.2.2.1, ())
def FvmarkNodeS (N : Nat) (x : (Int × (tyq6 × Unit))) : Option (Int × (tyq6 × Unit)) :=
 (zw4 N N (x.1, (0 : Int), x.2.1, ())).bind fun o4 =>
 some (o4.1, o4.2.1, ())
def convmarkNodeS (N : Nat) : Con := { f := 43, din := dinvmarkNodeS, outs := outvmarkNodeS, F := FvmarkNodeS N }
def XvmarkNodeS (N : Nat) : Ctx := { E := EvmarkNodeS N, H := HvmarkNodeS, lp := [(0, { hd := zpm, outs := ovmarkNodeS_0, run := fun v => zw4 N N v })], jn := [] }
def bvmarkNodeS_0 : Code := zzv (zzy Tryz.f43) 0
theorem FvmarkNodeS_eq (N : Nat) (x : (Int × (tyq6 × Unit))) : evFn (XvmarkNodeS N) Tryz.f43 dinvmarkNodeS outvmarkNodeS x = FvmarkNodeS N x := by kernel_rfl
theorem lvmarkNodeS_0_eq (N n : Nat) (v : (Int × (Int × (tyq6 × Unit)))) : zw4 N (n + 1) v = ev (XvmarkNodeS N) bvmarkNodeS_0 (zzd zpm ovmarkNodeS_0 (zw4 N n)) (zpm.mk' v) := by kernel_rfl
theorem cxvmarkNodeS (N : Nat) : CtxOk Tryz.prog (XvmarkNodeS N) := ⟨⟨TE_ok, List.forall_mem_cons.2 ⟨(zpz N), fun k hk => absurd hk List.not_mem_nil⟩⟩, mixed⟩
theorem lpvmarkNodeS_0 (N : Nat) : zzl Tryz.prog { hd := zpm, outs := ovmarkNodeS_0, run := fun v => zw4 N N v } bvmarkNodeS_0 :=
 zzx (d := zpm) (os := ovmarkNodeS_0) (cxvmarkNodeS N) (zzz (ids := []) (by kernel_rfl) (trivial)) (zw4 N) (fun _ => rfl) (fun n v => lvmarkNodeS_0_eq N n v) (fun _ => N)
theorem specvmarkNodeS (N : Nat) : Spec Tryz.prog (convmarkNodeS N) :=
 Spec.of_eq (zzu (cxvmarkNodeS N) (f := 43) (fn := Tryz.f43) (c := zzy Tryz.f43) (by kernel_rfl) (by kernel_rfl) (by kernel_rfl) (zzz (ids := [0]) (by kernel_rfl) ⟨lp_of (lpvmarkNodeS_0 N), trivial⟩) (by kernel_rfl)) (fun x r h => (FvmarkNodeS_eq N x).trans h)
def dinvmarkIntSS : Desc := { n := 2, regs := [.one (.lit (.row 0)), .one (.val (.int .i64))], bx := [(0, .row (.sl (.int .i64)))], pins := [] }
def outvmarkIntSS : Outs := [(.ret, { n := 1, regs := [.one (.val (.int .i64))], bx := [(0, .row (.sl (.int .i64)))], pins := [.one (.lit (.row 0))] })]
def HvmarkIntSS : Hints := [(4, [(5, { sg := [(0, 1051560)], pre := [.take 15 1051560], post := [.give 1051560 0] })])]
def EvmarkIntSS (N : Nat) : Env := { te := TE, cs := [zqa N] }
def zpl : Desc := { n := 19, regs := [.one (.lit (.row 0)), .one (.val (.int .i64)), u, u, u, .one (.val (.int .i64))], bx := [(0, .row (.sl (.int .i64)))], pins := [.one (.lit (.row 0))] }
def ovmarkIntSS_0 : Outs := [(.exit 0, { n := 19, regs := [u, .one (.val (.int .i64))], bx := [(0, .row (.sl (.int .i64)))], pins := [.one (.lit (.row 0))] })]
def zw5 (N : Nat) : Nat → (Int × (Int × ((List (List Int)) × Unit))) → Option (Int × ((List (List Int)) × Unit))
 | 0, _ => none
 | n + 1, v =>
  let y1 := decide (v.2.1 < (v.2.2.1.length : Int))
  bif y1 then
   bif decide (0 ≤ v.2.1) then
   bif decide (v.2.1.toNat < v.2.2.1.length) then
   (zvn N (v.1, v.2.2.1.getD v.2.1.toNat ([] : (List Int)), ())).bind fun r2 =>
   zw5 N n (r2.1, w64 (v.2.1 + (1 : Int)), v.2.2.1.set v.2.1.toNat r2.2.1, ())
   else none
   else none
  else
  some (v.1, v.2.2.1, ())
def FvmarkIntSS (N : Nat) (x : (Int × ((List (List Int)) × Unit))) : Option (Int × ((List (List Int)) × Unit)) :=
 (zw5 N N (x.1, (0 : Int), x.2.1, ())).bind fun o3 =>
 some (o3.1, o3.2.1, ())
def convmarkIntSS (N : Nat) : Con := { f := 44, din := dinvmarkIntSS, outs := outvmarkIntSS, F := FvmarkIntSS N }
def XvmarkIntSS (N : Nat) : Ctx := { E := EvmarkIntSS N, H := HvmarkIntSS, lp := [(0, { hd := zpl, outs := ovmarkIntSS_0, run := fun v => zw5 N N v })], jn := [] }
def bvmarkIntSS_0 : Code := zzv (zzy Tryz.f44) 0
theorem FvmarkIntSS_eq (N : Nat) (x : (Int × ((List (List Int)) × Unit))) : evFn (XvmarkIntSS N) Tryz.f44 dinvmarkIntSS outvmarkIntSS x = FvmarkIntSS N x := by kernel_rfl
theorem lvmarkIntSS_0_eq (N n : Nat) (v : (Int × (Int × ((List (List Int)) × Unit)))) : zw5 N (n + 1) v = ev (XvmarkIntSS N) bvmarkIntSS_0 (zzd zpl ovmarkIntSS_0 (zw5 N n)) (zpl.mk' v) := by kernel_rfl
theorem cxvmarkIntSS (N : Nat) : CtxOk Tryz.prog (XvmarkIntSS N) := ⟨⟨TE_ok, List.forall_mem_cons.2 ⟨(zpz N), fun k hk => absurd hk List.not_mem_nil⟩⟩, mixed⟩
theorem lpvmarkIntSS_0 (N : Nat) : zzl Tryz.prog { hd := zpl, outs := ovmarkIntSS_0, run := fun v => zw5 N N v } bvmarkIntSS_0 :=
 zzx (d := zpl) (os := ovmarkIntSS_0) (cxvmarkIntSS N) (zzz (ids := []) (by kernel_rfl) (trivial)) (zw5 N) (fun _ => rfl) (fun n v => lvmarkIntSS_0_eq N n v) (fun _ => N)
theorem specvmarkIntSS (N : Nat) : Spec Tryz.prog (convmarkIntSS N) :=
 Spec.of_eq (zzu (cxvmarkIntSS N) (f := 44) (fn := Tryz.f44) (c := zzy Tryz.f44) (by kernel_rfl) (by kernel_rfl) (by kernel_rfl) (zzz (ids := [0]) (by kernel_rfl) ⟨lp_of (lpvmarkIntSS_0 N), trivial⟩) (by kernel_rfl)) (fun x r h => (FvmarkIntSS_eq N x).trans h)
def dinvmarkGraph : Desc := { n := 2, regs := [.agg [.lit (.row 0), .lit (.row 1), .lit (.row 2)], .one (.val (.int .i64))], bx := [(0, .row tyq14), (1, .row (.sl (.int .i64))), (2, .row (.int .i64))], pins := [] }
def outvmarkGraph : Outs := [(.ret, { n := 1, regs := [.one (.val (.int .i64))], bx := [(0, .row tyq14), (1, .row (.sl (.int .i64))), (2, .row (.int .i64))], pins := [.agg [.lit (.row 0), .lit (.row 1), .lit (.row 2)]] })]
def HvmarkGraph : Hints := [(2, [(3, { con := 1, sg := [(0, 1)] })]),
 (3, [(3, { con := 2, sg := [(0, 2)] })])]
def EvmarkGraph (N : Nat) : Env := { te := TE, cs := [convmarkNodeS N, convmarkIntSS N, zqa N] }
def FvmarkGraph (N : Nat) (x : (Int × (tyq6 × tyq7))) : Option (Int × (tyq6 × tyq7)) :=
 (FvmarkNodeS N (x.1, x.2.1, ())).bind fun r1 =>
 (FvmarkIntSS N (r1.1, x.2.2.1, ())).bind fun r2 =>
 (zvn N (r2.1, x.2.2.2.1, ())).bind fun r3 =>
 some (r3.1, r1.2.1, r2.2.1, r3.2.1, ())
def convmarkGraph (N : Nat) : Con := { f := 11, din := dinvmarkGraph, outs := outvmarkGraph, F := FvmarkGraph N }
def XvmarkGraph (N : Nat) : Ctx := { E := EvmarkGraph N, H := HvmarkGraph, lp := [], jn := [] }
theorem FvmarkGraph_eq (N : Nat) (x : (Int × (tyq6 × tyq7))) : evFn (XvmarkGraph N) Tryz.f11 dinvmarkGraph outvmarkGraph x = FvmarkGraph N x := by kernel_rfl
theorem cxvmarkGraph (N : Nat) : CtxOk Tryz.prog (XvmarkGraph N) := ⟨⟨TE_ok, List.forall_mem_cons.2 ⟨(specvmarkNodeS N), List.forall_mem_cons.2 ⟨(specvmarkIntSS N), List.forall_mem_cons.2 ⟨(zpz N), fun k hk => absurd hk List.not_mem_nil⟩⟩⟩⟩, mixed⟩
theorem specvmarkGraph (N : Nat) : Spec Tryz.prog (convmarkGraph N) :=
 Spec.of_eq (zzu (cxvmarkGraph N) (f := 11) (fn := Tryz.f11) (c := zzy Tryz.f11) (by kernel_rfl) (by kernel_rfl) (by kernel_rfl) (zzz (ids := []) (by kernel_rfl) (trivial)) (by kernel_rfl)) (fun x r h => (FvmarkGraph_eq N x).trans h)
def dinvheldIntS : Desc := { n := 2, regs := [.one (.val (.sl (.int .i64))), .one (.val (.int .i64))], bx := [], pins := [] }
def outvheldIntS : Outs := [(.ret, { n := 1, regs := [.one (.val (.int .i64))], bx := [], pins := [] })]
def HvheldIntS : Hints := []
def EvheldIntS (_N : Nat) : Env := { te := TE, cs := [] }
def dvheldIntS_0 : Desc := { n := 21, regs := [.one (.val (.sl (.int .i64))), .one (.val (.int .i64)), u, u, u, .one (.val (.int .i64))], bx := [], pins := [] }
def ovheldIntS_0 : Outs := [(.exit 0, { n := 21, regs := [u, .one (.val (.int .i64))], bx := [], pins := [] }), (.ret, { n := 21, regs := [u, u, u, u, .one (.val (.int .i64))], bx := [], pins := [] })]
def zvf (N : Nat) : Nat → ((List Int) × (Int × (Int × Unit))) → Option ((Int × Unit) ⊕ (Int × Unit))
 | 0, _ => none
 | n + 1, v =>
  let y1 := decide (v.2.2.1 < (v.1.length : Int))
  bif y1 then
   bif decide (0 ≤ v.2.2.1) then
   bif decide (v.2.2.1.toNat < v.1.length) then
   let y2 := (v.1.getD v.2.2.1.toNat (0 : Int)) != v.2.1
   bif y2 then
    some (.inr (((-1 : Int), ())))
   else
   zvf N n (v.1, w64 (v.2.1 + (1 : Int)), w64 (v.2.2.1 + (1 : Int)), ())
   else none
   else none
  else
  some (.inl (v.2.1, ()))
def zq6 (N : Nat) (x : ((List Int) × (Int × Unit))) : Option (Int × Unit) :=
 (zvf N N (x.1, x.2.1, (0 : Int), ())).bind fun o3 =>
 Sum.elim (fun o4 =>
  some (o4.1, ())) (fun o5 =>
  some (o5.1, ())) o3
def convheldIntS (N : Nat) : Con := { f := 47, din := dinvheldIntS, outs := outvheldIntS, F := zq6 N }
def XvheldIntS (N : Nat) : Ctx := { E := EvheldIntS N, H := HvheldIntS, lp := [(0, { hd := dvheldIntS_0, outs := ovheldIntS_0, run := fun v => zvf N N v })], jn := [] }
def bvheldIntS_0 : Code := zzv (zzy Tryz.f47) 0
theorem FvheldIntS_eq (N : Nat) (x : ((List Int) × (Int × Unit))) : evFn (XvheldIntS N) Tryz.f47 dinvheldIntS outvheldIntS x = zq6 N x := by kernel_rfl
theorem lvheldIntS_0_eq (N n : Nat) (v : ((List Int) × (Int × (Int × Unit)))) : zvf N (n + 1) v = ev (XvheldIntS N) bvheldIntS_0 (zzd dvheldIntS_0 ovheldIntS_0 (zvf N n)) (dvheldIntS_0.mk' v) := by kernel_rfl
theorem cxvheldIntS (N : Nat) : CtxOk Tryz.prog (XvheldIntS N) := ⟨⟨TE_ok, fun k hk => absurd hk List.not_mem_nil⟩, mixed⟩
theorem lpvheldIntS_0 (N : Nat) : zzl Tryz.prog { hd := dvheldIntS_0, outs := ovheldIntS_0, run := fun v => zvf N N v } bvheldIntS_0 :=
 zzx (d := dvheldIntS_0) (os := ovheldIntS_0) (cxvheldIntS N) (zzz (ids := []) (by kernel_rfl) (trivial)) (zvf N) (fun _ => rfl) (fun n v => lvheldIntS_0_eq N n v) (fun _ => N)
theorem specvheldIntS (N : Nat) : Spec Tryz.prog (convheldIntS N) :=
 Spec.of_eq (zzu (cxvheldIntS N) (f := 47) (fn := Tryz.f47) (c := zzy Tryz.f47) (by kernel_rfl) (by kernel_rfl) (by kernel_rfl) (zzz (ids := [0]) (by kernel_rfl) ⟨lp_of (lpvheldIntS_0 N), trivial⟩) (by kernel_rfl)) (fun x r h => (FvheldIntS_eq N x).trans h)
def dinvheldNodeS : Desc := { n := 2, regs := [.one (.val (.sl tyq14)), .one (.val (.int .i64))], bx := [], pins := [] }
def outvheldNodeS : Outs := [(.ret, { n := 1, regs := [.one (.val (.int .i64))], bx := [], pins := [] })]
def HvheldNodeS : Hints := []
def EvheldNodeS (N : Nat) : Env := { te := TE, cs := [convheldIntS N] }
def zpj : Desc := { n := 31, regs := [.one (.val (.sl tyq14)), .one (.val (.int .i64)), u, u, u, .one (.val (.int .i64))], bx := [], pins := [] }
def ovheldNodeS_0 : Outs := [(.exit 0, { n := 31, regs := [u, .one (.val (.int .i64))], bx := [], pins := [] }), (.ret, { n := 31, regs := [u, u, u, u, .one (.val (.int .i64))], bx := [], pins := [] })]
def zw7 (N : Nat) : Nat → (tyq6 × (Int × (Int × Unit))) → Option ((Int × Unit) ⊕ (Int × Unit))
 | 0, _ => none
 | n + 1, v =>
  let y1 := decide (v.2.2.1 < (v.1.length : Int))
  bif y1 then
   bif decide (0 ≤ v.2.2.1) then
   bif decide (v.2.2.1.toNat < v.1.length) then
   let y2 := v.1.getD v.2.2.1.toNat (([] : (List Int)), ([] : (List Int)), ())
   (zq6 N (y2.1, v.2.1, ())).bind fun r3 =>
   bif decide (r3.1 < (0 : Int)) then
    some (.inr (((-1 : Int), ())))
   else
   bif decide (0 ≤ v.2.2.1) then
   bif decide (v.2.2.1.toNat < v.1.length) then
   let y4 := v.1.getD v.2.2.1.toNat (([] : (List Int)), ([] : (List Int)), ())
   (zq6 N (y4.2.1, r3.1, ())).bind fun r5 =>
   bif decide (r5.1 < (0 : Int)) then
    some (.inr (((-1 : Int), ())))
   else
   zw7 N n (v.1, r5.1, w64 (v.2.2.1 + (1 : Int)), ())
   else none
   else none
   else none
   else none
  else
  some (.inl (v.2.1, ()))
def FvheldNodeS (N : Nat) (x : (tyq6 × (Int × Unit))) : Option (Int × Unit) :=
 (zw7 N N (x.1, x.2.1, (0 : Int), ())).bind fun o6 =>
 Sum.elim (fun o7 =>
  some (o7.1, ())) (fun o8 =>
  some (o8.1, ())) o6
def convheldNodeS (N : Nat) : Con := { f := 45, din := dinvheldNodeS, outs := outvheldNodeS, F := FvheldNodeS N }
def XvheldNodeS (N : Nat) : Ctx := { E := EvheldNodeS N, H := HvheldNodeS, lp := [(0, { hd := zpj, outs := ovheldNodeS_0, run := fun v => zw7 N N v })], jn := [] }
def bvheldNodeS_0 : Code := zzv (zzy Tryz.f45) 0
theorem FvheldNodeS_eq (N : Nat) (x : (tyq6 × (Int × Unit))) : evFn (XvheldNodeS N) Tryz.f45 dinvheldNodeS outvheldNodeS x = FvheldNodeS N x := by kernel_rfl
theorem lvheldNodeS_0_eq (N n : Nat) (v : (tyq6 × (Int × (Int × Unit)))) : zw7 N (n + 1) v = ev (XvheldNodeS N) bvheldNodeS_0 (zzd zpj ovheldNodeS_0 (zw7 N n)) (zpj.mk' v) := by kernel_rfl
theorem cxvheldNodeS (N : Nat) : CtxOk Tryz.prog (XvheldNodeS N) := ⟨⟨TE_ok, List.forall_mem_cons.2 ⟨(specvheldIntS N), fun k hk => absurd hk List.not_mem_nil⟩⟩, mixed⟩
theorem lpvheldNodeS_0 (N : Nat) : zzl Tryz.prog { hd := zpj, outs := ovheldNodeS_0, run := fun v => zw7 N N v } bvheldNodeS_0 :=
 zzx (d := zpj) (os := ovheldNodeS_0) (cxvheldNodeS N) (zzz (ids := []) (by kernel_rfl) (trivial)) (zw7 N) (fun _ => rfl) (fun n v => lvheldNodeS_0_eq N n v) (fun _ => N)
theorem specvheldNodeS (N : Nat) : Spec Tryz.prog (convheldNodeS N) :=
 Spec.of_eq (zzu (cxvheldNodeS N) (f := 45) (fn := Tryz.f45) (c := zzy Tryz.f45) (by kernel_rfl) (by kernel_rfl) (by kernel_rfl) (zzz (ids := [0]) (by kernel_rfl) ⟨lp_of (lpvheldNodeS_0 N), trivial⟩) (by kernel_rfl)) (fun x r h => (FvheldNodeS_eq N x).trans h)
def dinvheldIntSS : Desc := { n := 2, regs := [.one (.val (.sl (.sl (.int .i64)))), .one (.val (.int .i64))], bx := [], pins := [] }
def outvheldIntSS : Outs := [(.ret, { n := 1, regs := [.one (.val (.int .i64))], bx := [], pins := [] })]
def HvheldIntSS : Hints := []
def EvheldIntSS (N : Nat) : Env := { te := TE, cs := [convheldIntS N] }
def zpi : Desc := { n := 21, regs := [.one (.val (.sl (.sl (.int .i64)))), .one (.val (.int .i64)), u, u, u, .one (.val (.int .i64))], bx := [], pins := [] }
def ovheldIntSS_0 : Outs := [(.exit 0, { n := 21, regs := [u, .one (.val (.int .i64))], bx := [], pins := [] }), (.ret, { n := 21, regs := [u, u, u, u, .one (.val (.int .i64))], bx := [], pins := [] })]
def zw8 (N : Nat) : Nat → ((List (List Int)) × (Int × (Int × Unit))) → Option ((Int × Unit) ⊕ (Int × Unit))
 | 0, _ => none
 | n + 1, v =>
  let y1 := decide (v.2.2.1 < (v.1.length : Int))
  bif y1 then
   bif decide (0 ≤ v.2.2.1) then
   bif decide (v.2.2.1.toNat < v.1.length) then
   let y2 := v.1.getD v.2.2.1.toNat ([] : (List Int))
   (zq6 N (y2, v.2.1, ())).bind fun r3 =>
   bif decide (r3.1 < (0 : Int)) then
    some (.inr (((-1 : Int), ())))
   else
   zw8 N n (v.1, r3.1, w64 (v.2.2.1 + (1 : Int)), ())
   else none
   else none
  else
  some (.inl (v.2.1, ()))
def FvheldIntSS (N : Nat) (x : ((List (List Int)) × (Int × Unit))) : Option (Int × Unit) :=
 (zw8 N N (x.1, x.2.1, (0 : Int), ())).bind fun o4 =>
 Sum.elim (fun o5 =>
  some (o5.1, ())) (fun o6 =>
  some (o6.1, ())) o4
def convheldIntSS (N : Nat) : Con := { f := 46, din := dinvheldIntSS, outs := outvheldIntSS, F := FvheldIntSS N }
def XvheldIntSS (N : Nat) : Ctx := { E := EvheldIntSS N, H := HvheldIntSS, lp := [(0, { hd := zpi, outs := ovheldIntSS_0, run := fun v => zw8 N N v })], jn := [] }
def bvheldIntSS_0 : Code := zzv (zzy Tryz.f46) 0
theorem FvheldIntSS_eq (N : Nat) (x : ((List (List Int)) × (Int × Unit))) : evFn (XvheldIntSS N) Tryz.f46 dinvheldIntSS outvheldIntSS x = FvheldIntSS N x := by kernel_rfl
theorem lvheldIntSS_0_eq (N n : Nat) (v : ((List (List Int)) × (Int × (Int × Unit)))) : zw8 N (n + 1) v = ev (XvheldIntSS N) bvheldIntSS_0 (zzd zpi ovheldIntSS_0 (zw8 N n)) (zpi.mk' v) := by kernel_rfl
theorem cxvheldIntSS (N : Nat) : CtxOk Tryz.prog (XvheldIntSS N) := ⟨⟨TE_ok, List.forall_mem_cons.2 ⟨(specvheldIntS N), fun k hk => absurd hk List.not_mem_nil⟩⟩, mixed⟩
theorem lpvheldIntSS_0 (N : Nat) : zzl Tryz.prog { hd := zpi, outs := ovheldIntSS_0, run := fun v => zw8 N N v } bvheldIntSS_0 :=
 zzx (d := zpi) (os := ovheldIntSS_0) (cxvheldIntSS N) (zzz (ids := []) (by kernel_rfl) (trivial)) (zw8 N) (fun _ => rfl) (fun n v => lvheldIntSS_0_eq N n v) (fun _ => N)
theorem specvheldIntSS (N : Nat) : Spec Tryz.prog (convheldIntSS N) :=
 Spec.of_eq (zzu (cxvheldIntSS N) (f := 46) (fn := Tryz.f46) (c := zzy Tryz.f46) (by kernel_rfl) (by kernel_rfl) (by kernel_rfl) (zzz (ids := [0]) (by kernel_rfl) ⟨lp_of (lpvheldIntSS_0 N), trivial⟩) (by kernel_rfl)) (fun x r h => (FvheldIntSS_eq N x).trans h)
def dinvheldGraph : Desc := { n := 2, regs := [.one (.val (.pair (.sl tyq14) (.pair (.sl (.sl (.int .i64))) (.pair (.sl (.int .i64)) .unit)))), .one (.val (.int .i64))], bx := [], pins := [] }
def outvheldGraph : Outs := [(.ret, { n := 1, regs := [.one (.val (.int .i64))], bx := [], pins := [] })]
def HvheldGraph : Hints := [(0, [(0, { fz := true })]),
 (4, [(3, { con := 1 })]),
 (7, [(3, { con := 2 })])]
def EvheldGraph (N : Nat) : Env := { te := TE, cs := [convheldNodeS N, convheldIntSS N, convheldIntS N] }
def zof (N : Nat) (x : ((tyq6 × tyq7) × (Int × Unit))) : Option (Int × Unit) :=
 (FvheldNodeS N (x.1.1, x.2.1, ())).bind fun r1 =>
 bif decide (r1.1 < (0 : Int)) then
  some ((-1 : Int), ())
 else
 (FvheldIntSS N (x.1.2.1, r1.1, ())).bind fun r2 =>
 bif decide (r2.1 < (0 : Int)) then
  some ((-1 : Int), ())
 else
 (zq6 N (x.1.2.2.1, r2.1, ())).bind fun r3 =>
 bif decide (r3.1 < (0 : Int)) then
  some ((-1 : Int), ())
 else
 some (r3.1, ())
def convheldGraph (N : Nat) : Con := { f := 12, din := dinvheldGraph, outs := outvheldGraph, F := zof N }
def XvheldGraph (N : Nat) : Ctx := { E := EvheldGraph N, H := HvheldGraph, lp := [], jn := [] }
theorem FvheldGraph_eq (N : Nat) (x : ((tyq6 × tyq7) × (Int × Unit))) : evFn (XvheldGraph N) Tryz.f12 dinvheldGraph outvheldGraph x = zof N x := by kernel_rfl
theorem cxvheldGraph (N : Nat) : CtxOk Tryz.prog (XvheldGraph N) := ⟨⟨TE_ok, List.forall_mem_cons.2 ⟨(specvheldNodeS N), List.forall_mem_cons.2 ⟨(specvheldIntSS N), List.forall_mem_cons.2 ⟨(specvheldIntS N), fun k hk => absurd hk List.not_mem_nil⟩⟩⟩⟩, mixed⟩
theorem specvheldGraph (N : Nat) : Spec Tryz.prog (convheldGraph N) :=
 Spec.of_eq (zzu (cxvheldGraph N) (f := 12) (fn := Tryz.f12) (c := zzy Tryz.f12) (by kernel_rfl) (by kernel_rfl) (by kernel_rfl) (zzz (ids := []) (by kernel_rfl) (trivial)) (by kernel_rfl)) (fun x r h => (FvheldGraph_eq N x).trans h)
end Go.Fl
set_option maxRecDepth 100000
set_option linter.all false
namespace Go.Fl
open Go Go.Proofs
def dinvFnExactStateGraph : Desc := { n := 1, regs := [.one (.val tyq10)], bx := [], pins := [] }
def outvFnExactStateGraph : Outs := [(.ret, { n := 1, regs := [.one (.val .bool)], bx := [], pins := [] })]
def HvFnExactStateGraph : Hints := [(0, [(0, { fz := true })]),
 (5, [(1, { con := 1 }), (2, { con := 2 })]),
 (6, [(1, { con := 1 })]),
 (7, [(1, { con := 3 })]),
 (8, [(2, { con := 4 })]),
 (10, [(2, { con := 1 }), (3, { con := 5 })]),
 (13, [(2, { con := 6, sg := [(0, 1076865), (1, 1076866), (2, 1076867), (3, 1076868), (4, 1076869), (5, 1076870)] })]),
 (14, [(5, { con := 4 })]),
 (17, [(2, { con := 7, sg := [(0, 1089665), (1, 1089666), (2, 1089667)] })]),
 (19, [(2, { con := 8 })]),
 (24, [(1, { con := 1 }), (2, { con := 3 })]),
 (25, [(2, { con := 4 })]),
 (28, [(2, { con := 8 })])]
def EvFnExactStateGraph (N : Nat) : Env := { te := TE, cs := [convszState N, convtoState N, consStateGraph N, coniStateGraph N, conveqGraph N, conveqState N, convmarkState N, convmarkGraph N, convheldGraph N] }
def jvFnExactStateGraph_10 : Outs := [(.normal, { n := 96, regs := [u, .one (.fpt tyq10), u, u, .one (.lit (.ptr 1064384 0)), .one (.val .bool), .one (.lit (.ptr 1076928 0)), .one (.lit (.ptr 1089920 0)), .one (.val .bool)], bx := [(1064384, .var [.lit (.row 1064129), .lit (.row 1064130), .lit (.row 1064131)]), (1064129, .row tyq14), (1064130, .row (.sl (.int .i64))), (1064131, .row (.int .i64)), (1076928, .var [.lit (.row 1076865), .lit (.row 1076866), .lit (.row 1076867), .val (.int .i64), .val .bool, .val .bool, .val .bool, .val (.int .i64), .lit (.row 1076868), .lit (.row 1076869), .lit (.row 1076870), .val (.int .i64), .val (.int .i64)]), (1076865, .row (.int .i64)), (1076866, .row tyq12), (1076867, .row .bool), (1076868, .row tyq13), (1076869, .row (.int .i64)), (1076870, .row (.int .i64)), (1089920, .var [.lit (.row 1089665), .lit (.row 1089666), .lit (.row 1089667)]), (1089665, .row tyq14), (1089666, .row (.sl (.int .i64))), (1089667, .row (.int .i64))], pins := [] }), (.ret, { n := 96, regs := [u, u, .one (.val .bool)], bx := [], pins := [] })]
def jvFnExactStateGraph_16 : Outs := [(.normal, { n := 96, regs := [u, .one (.fpt tyq10), u, u, .one (.lit (.ptr 1064384 0)), .one (.val .bool), u, .one (.lit (.ptr 1089920 0))], bx := [(1064384, .var [.lit (.row 1064129), .lit (.row 1064130), .lit (.row 1064131)]), (1064129, .row tyq14), (1064130, .row (.sl (.int .i64))), (1064131, .row (.int .i64)), (1089920, .var [.lit (.row 1089665), .lit (.row 1089666), .lit (.row 1089667)]), (1089665, .row tyq14), (1089666, .row (.sl (.int .i64))), (1089667, .row (.int .i64))], pins := [] }), (.ret, { n := 96, regs := [u, u, .one (.val .bool)], bx := [], pins := [] })]
def jvFnExactStateGraph_27 : Outs := [(.normal, { n := 96, regs := [u, u, u, u, u, u, u, .one (.lit (.ptr 1089920 0)), u, u, .one (.val (.int .i64))], bx := [(1089920, .var [.lit (.row 1089665), .lit (.row 1089666), .lit (.row 1089667)]), (1089665, .row tyq14), (1089666, .row (.sl (.int .i64))), (1089667, .row (.int .i64))], pins := [] }), (.ret, { n := 96, regs := [u, u, .one (.val .bool)], bx := [], pins := [] })]
def FvFnExactStateGraph (N : Nat) (x : (tyq1 × Unit)) : Option (Bool × Unit) :=
 (zs5 N (x.1, (1048576 : Int), ())).bind fun r1 =>
 bif decide (r1.1 < (0 : Int)) then
  some (true, ())
 else
 (FvtoState N (x.1, ())).bind fun r2 =>
 (FsStateGraph N ((r2.2.2.2.2.2.2.2.1, r2.2.2.2.2.2.2.2.2.1, r2.2.2.2.2.2.2.2.2.2.1, r2.1, r2.2.1, r2.2.2.1, r2.2.2.2.1, r2.2.2.2.2.1, r2.2.2.2.2.2.2.2.2.2.2.1, r2.2.2.2.2.2.2.2.2.2.2.2.1, r2.2.2.2.2.2.2.2.2.2.2.2.2.1, r2.2.2.2.2.2.1, r2.2.2.2.2.2.2.1, ()), ())).bind fun r3 =>
 (FvtoState N (x.1, ())).bind fun r4 =>
 (zq8 N ((r4.2.2.2.2.2.2.2.1, r4.2.2.2.2.2.2.2.2.1, r4.2.2.2.2.2.2.2.2.2.1, r4.1, r4.2.1, r4.2.2.1, r4.2.2.2.1, r4.2.2.2.2.1, r4.2.2.2.2.2.2.2.2.2.2.1, r4.2.2.2.2.2.2.2.2.2.2.2.1, r4.2.2.2.2.2.2.2.2.2.2.2.2.1, r4.2.2.2.2.2.1, r4.2.2.2.2.2.2.1, ()), ())).bind fun r5 =>
 Option.bind (
  (FveqGraph N ((r5.2.1, r5.2.2.1, r5.2.2.2.1, ()), (r3.2.1, r3.2.2.1, r3.2.2.2.1, ()), ())).bind fun r6 =>
  bif !r6.1 then
   some (.inr ((false, ())))
  else
  bif !(r5.1 == r3.1) then
   some (.inr ((false, ())))
  else
  some (.inl (x.1, r3.1, r5.1, r3.2.1, r3.2.2.1, r3.2.2.2.1, r4.1, r4.2.1, r4.2.2.1, r4.2.2.2.1, r4.2.2.2.2.1, r4.2.2.2.2.2.1, r4.2.2.2.2.2.2.1, r4.2.2.2.2.2.2.2.1, r4.2.2.2.2.2.2.2.2.1, r4.2.2.2.2.2.2.2.2.2.1, r4.2.2.2.2.2.2.2.2.2.2.1, r4.2.2.2.2.2.2.2.2.2.2.2.1, r4.2.2.2.2.2.2.2.2.2.2.2.2.1, r5.2.1, r5.2.2.1, r5.2.2.2.1, ()))) fun o7 =>
 Sum.elim (fun o8 =>
  (FvtoState N (o8.1, ())).bind fun r9 =>
  (FveqState N ((o8.2.2.2.2.2.2.2.2.2.2.2.2.2.1, o8.2.2.2.2.2.2.2.2.2.2.2.2.2.2.1, o8.2.2.2.2.2.2.2.2.2.2.2.2.2.2.2.1, o8.2.2.2.2.2.2.1, o8.2.2.2.2.2.2.2.1, o8.2.2.2.2.2.2.2.2.1, o8.2.2.2.2.2.2.2.2.2.1, o8.2.2.2.2.2.2.2.2.2.2.1, o8.2.2.2.2.2.2.2.2.2.2.2.2.2.2.2.2.1, o8.2.2.2.2.2.2.2.2.2.2.2.2.2.2.2.2.2.1, o8.2.2.2.2.2.2.2.2.2.2.2.2.2.2.2.2.2.2.1, o8.2.2.2.2.2.2.2.2.2.2.2.1, o8.2.2.2.2.2.2.2.2.2.2.2.2.1, ()), (r9.2.2.2.2.2.2.2.1, r9.2.2.2.2.2.2.2.2.1, r9.2.2.2.2.2.2.2.2.2.1, r9.1, r9.2.1, r9.2.2.1, r9.2.2.2.1, r9.2.2.2.2.1, r9.2.2.2.2.2.2.2.2.2.2.1, r9.2.2.2.2.2.2.2.2.2.2.2.1, r9.2.2.2.2.2.2.2.2.2.2.2.2.1, r9.2.2.2.2.2.1, r9.2.2.2.2.2.2.1, ()), ())).bind fun r10 =>
  bif !r10.1 then
   some (false, ())
  else
  (FvmarkState N (o8.2.2.2.2.2.2.1, o8.2.2.2.2.2.2.2.1, o8.2.2.2.2.2.2.2.2.1, o8.2.2.2.2.2.2.2.2.2.1, o8.2.2.2.2.2.2.2.2.2.2.1, o8.2.2.2.2.2.2.2.2.2.2.2.1, o8.2.2.2.2.2.2.2.2.2.2.2.2.1, (1 : Int), o8.2.2.2.2.2.2.2.2.2.2.2.2.2.1, o8.2.2.2.2.2.2.2.2.2.2.2.2.2.2.1, o8.2.2.2.2.2.2.2.2.2.2.2.2.2.2.2.1, o8.2.2.2.2.2.2.2.2.2.2.2.2.2.2.2.2.1, o8.2.2.2.2.2.2.2.2.2.2.2.2.2.2.2.2.2.1, o8.2.2.2.2.2.2.2.2.2.2.2.2.2.2.2.2.2.2.1, ())).bind fun r11 =>
  Option.bind (
   bif decide (r11.1 < (0 : Int)) then
    some (.inr ((false, ())))
   else
   (FveqGraph N ((o8.2.2.2.2.2.2.2.2.2.2.2.2.2.2.2.2.2.2.2.1, o8.2.2.2.2.2.2.2.2.2.2.2.2.2.2.2.2.2.2.2.2.1, o8.2.2.2.2.2.2.2.2.2.2.2.2.2.2.2.2.2.2.2.2.2.1, ()), (o8.2.2.2.1, o8.2.2.2.2.1, o8.2.2.2.2.2.1, ()), ())).bind fun r12 =>
   bif !r12.1 then
    some (.inr ((false, ())))
   else
   bif !(o8.2.2.1 == o8.2.1) then
    some (.inr ((false, ())))
   else
   some (.inl (o8.1, o8.2.1, o8.2.2.2.1, o8.2.2.2.2.1, o8.2.2.2.2.2.1, o8.2.2.2.2.2.2.2.2.2.2.2.2.2.2.2.2.2.2.2.1, o8.2.2.2.2.2.2.2.2.2.2.2.2.2.2.2.2.2.2.2.2.1, o8.2.2.2.2.2.2.2.2.2.2.2.2.2.2.2.2.2.2.2.2.2.1, ()))) fun o13 =>
  Sum.elim (fun o14 =>
   (FvmarkGraph N ((1 : Int), o14.2.2.2.2.2.1, o14.2.2.2.2.2.2.1, o14.2.2.2.2.2.2.2.1, ())).bind fun r15 =>
   (zof N ((r15.2.1, r15.2.2.1, r15.2.2.2.1, ()), (1 : Int), ())).bind fun r16 =>
   bif decide (r16.1 < (0 : Int)) then
    some (false, ())
   else
   bif r16.1 != r15.1 then
    some (false, ())
   else
   (FvtoState N (o14.1, ())).bind fun r17 =>
   (zq8 N ((r17.2.2.2.2.2.2.2.1, r17.2.2.2.2.2.2.2.2.1, r17.2.2.2.2.2.2.2.2.2.1, r17.1, r17.2.1, r17.2.2.1, r17.2.2.2.1, r17.2.2.2.2.1, r17.2.2.2.2.2.2.2.2.2.2.1, r17.2.2.2.2.2.2.2.2.2.2.2.1, r17.2.2.2.2.2.2.2.2.2.2.2.2.1, r17.2.2.2.2.2.1, r17.2.2.2.2.2.2.1, ()), ())).bind fun r18 =>
   Option.bind (
    (FveqGraph N ((r18.2.1, r18.2.2.1, r18.2.2.2.1, ()), (o14.2.2.1, o14.2.2.2.1, o14.2.2.2.2.1, ()), ())).bind fun r19 =>
    bif !r19.1 then
     some (.inr ((false, ())))
    else
    bif !(r18.1 == o14.2.1) then
     some (.inr ((false, ())))
    else
    some (.inl (r15.1, r15.2.1, r15.2.2.1, r15.2.2.2.1, ()))) fun o20 =>
   Sum.elim (fun o21 =>
    (zof N ((o21.2.1, o21.2.2.1, o21.2.2.2.1, ()), (1 : Int), ())).bind fun r22 =>
    bif decide (r22.1 < (0 : Int)) then
     some (false, ())
    else
    bif r22.1 != o21.1 then
     some (false, ())
    else
    some (true, ())) (fun o23 =>
    some (o23.1, ())) o20) (fun o24 =>
   some (o24.1, ())) o13) (fun o25 =>
  some (o25.1, ())) o7
def convFnExactStateGraph (N : Nat) : Con := { f := 3, din := dinvFnExactStateGraph, outs := outvFnExactStateGraph, F := FvFnExactStateGraph N }
def XvFnExactStateGraph (N : Nat) : Ctx := { E := EvFnExactStateGraph N, H := HvFnExactStateGraph, lp := [], jn := [(10, jvFnExactStateGraph_10), (16, jvFnExactStateGraph_16), (27, jvFnExactStateGraph_27)] }
theorem FvFnExactStateGraph_eq (N : Nat) (x : (tyq1 × Unit)) : evFn (XvFnExactStateGraph N) Tryz.f3 dinvFnExactStateGraph outvFnExactStateGraph x = FvFnExactStateGraph N x := by kernel_rfl
theorem cxvFnExactStateGraph (N : Nat) : CtxOk Tryz.prog (XvFnExactStateGraph N) := ⟨⟨TE_ok, List.forall_mem_cons.2 ⟨(specvszState N), List.forall_mem_cons.2 ⟨(specvtoState N), List.forall_mem_cons.2 ⟨(specsStateGraph N), List.forall_mem_cons.2 ⟨(speciStateGraph N), List.forall_mem_cons.2 ⟨(specveqGraph N), List.forall_mem_cons.2 ⟨(specveqState N), List.forall_mem_cons.2 ⟨(specvmarkState N), List.forall_mem_cons.2 ⟨(specvmarkGraph N), List.forall_mem_cons.2 ⟨(specvheldGraph N), fun k hk => absurd hk List.not_mem_nil⟩⟩⟩⟩⟩⟩⟩⟩⟩⟩, mixed⟩
theorem specvFnExactStateGraph (N : Nat) : Spec Tryz.prog (convFnExactStateGraph N) :=
 Spec.of_eq (zzu (cxvFnExactStateGraph N) (f := 3) (fn := Tryz.f3) (c := zzy Tryz.f3) (by kernel_rfl) (by kernel_rfl) (by kernel_rfl) (zzz (ids := []) (by kernel_rfl) (trivial)) (by kernel_rfl)) (fun x r h => (FvFnExactStateGraph_eq N x).trans h)
end Go.Fl
set_option linter.all false
set_option maxRecDepth 10000
namespace Go.Fl
open Go
abbrev sm (n : Nat) : Prop := n ≤ 1048576
abbrev Nd := List Int × List Int × Unit
abbrev Gr := List Nd × List (List Int) × List Int × Unit
def smN (x : Nd) : Prop := sm x.1.length ∧ sm x.2.1.length
def smG (g : Gr) : Prop := sm g.1.length ∧ (∀ x ∈ g.1, smN x) ∧ sm g.2.1.length ∧ (∀ x ∈ g.2.1, sm x.length) ∧ sm g.2.2.1.length
theorem size_loop {α : Type} {xs : List α} (P : α → Prop) {L : Nat → Nat → Int → Option ((Int × Unit) ⊕ (Int × Unit))} (hl : xs.length ≤ lim)
  (h1 : ∀ n i (h : i < xs.length) (left : Int), 0 ≤ left → left ≤ 1048576 → w64 ((i : Int) + 1) = ((i + 1 : Nat) : Int) →
   L (n + 1) i left = some (.inr (-1, ())) ∨ ∃ r, 0 ≤ r ∧ r ≤ left ∧ P xs[i] ∧ L (n + 1) i left = L n (i + 1) r)
  (h3 : ∀ n left, L (n + 1) xs.length left = some (.inl (left, ()))) {n : Nat} (hn : xs.length < n) {left : Int} (h0 : 0 ≤ left) (h1' : left ≤ 1048576) :
  L n 0 left = some (.inr (-1, ())) ∨ ∃ r, 0 ≤ r ∧ r ≤ left ∧ (∀ x ∈ xs, P x) ∧ L n 0 left = some (.inl (r, ())) := by
 have key : ∀ n i left, 0 ≤ left → left ≤ 1048576 → i ≤ xs.length → xs.length - i < n → L n i left = some (.inr (-1, ())) ∨ ∃ r, 0 ≤ r ∧ r ≤ left ∧ (∀ x ∈ xs.drop i, P x) ∧ L n i left = some (.inl (r, ())) := by
  intro n
  induction n with
  | zero => intro i left _ _ _ h; exact absurd h (Nat.not_lt_zero _)
  | succ n ih =>
   intro i left h0 h2 hi hn
   by_cases h : i < xs.length
   ·rcases h1 n i h left h0 h2 (zyn (by have : lim = 2147483648 := rfl; omega)) with h4 | ⟨r, h4, h5, h6, h7⟩
    ·exact .inl h4
    ·rw [h7]
     rcases ih (i + 1) r h4 (by omega) (by omega) (by omega) with h8 | ⟨q, h8, h9, h10, h11⟩
     ·exact .inl h8
     ·refine .inr ⟨q, h8, by omega, ?_, h11⟩
      rw [zt6 h]
      exact List.forall_mem_cons.2 ⟨h6, h10⟩
   ·have : i = xs.length := by omega
    subst this
    exact .inr ⟨left, h0, Int.le_refl _, by simp, h3 _ _⟩
 simpa using key n 0 left h0 h1' (by omega) (by omega)
abbrev Mst := List Int × List Bool
def meet (st : Mst) (r : Int) : Mst := if 0 ≤ r ∧ st.2.getD r.toNat false = false then (st.1 ++ [r], st.2.set r.toNat true) else st
structure Met (m : Nat) (st : Mst) : Prop where
 len : st.2.length = m
 cnt : st.1.length + st.2.count false = m
 rng : ∀ r ∈ st.1, 0 ≤ r ∧ r < (m : Int)
 had : ∀ r : Int, 0 ≤ r → (st.2.getD r.toNat false = true ↔ r ∈ st.1)
 nd : st.1.Nodup
theorem count_set_true : ∀ {l : List Bool} {i : Nat}, i < l.length → l.getD i false = false → (l.set i true).count false + 1 = l.count false
 | [], _, h, _ => by simp at h
 | b :: l, 0, _, h => by simp at h; subst h; simp
 | b :: l, i + 1, h, h2 => by
  have ih := count_set_true (l := l) (i := i) (by simpa using h) (by simpa using h2)
  simp only [List.set_cons_succ, List.count_cons]
  omega
theorem Met.le {m : Nat} {st : Mst} (h : Met m st) : st.1.length ≤ m := by have := h.cnt; omega
theorem Met.meet {m : Nat} {st : Mst} (h : Met m st) {r : Int} (hr : r < (m : Int)) : Met m (meet st r) := by
 unfold Fl.meet
 split
 ·rename_i hc
  have hl : r.toNat < st.2.length := by rw [h.len]; omega
  have hn : ¬ r ∈ st.1 := fun hm => by
   have := (h.had r hc.1).2 hm
   rw [hc.2] at this
   cases this
  refine ⟨by simp [h.len], ?_, ?_, ?_, ?_⟩
  ·have := count_set_true hl hc.2
   have := h.cnt
   simp only [List.length_append, List.length_singleton]
   omega
  ·intro x hx
   simp only [List.mem_append, List.mem_singleton] at hx
   rcases hx with hx | rfl
   ·exact h.rng x hx
   ·exact ⟨hc.1, hr⟩
  ·intro x hx
   simp only [List.mem_append, List.mem_singleton]
   rw [← h.had x hx]
   simp only [List.getD_eq_getElem?_getD, List.getElem?_set]
   by_cases e : r.toNat = x.toNat
   ·have : x = r := by omega
    subst this
    simp [hl]
   ·have : ¬ x = r := fun e' => e (by rw [e'])
    simp [e, this]
  ·rw [List.nodup_append]
   refine ⟨h.nd, by simp, ?_⟩
   intro a ha b hb e
   simp at hb
   subst hb
   subst e
   exact hn ha
 ·exact h
def shOk (s : Int × Int × Unit) : Bool := decide (0 ≤ s.1) && (decide (s.1 ≤ 4) && (decide (0 ≤ s.2.1) && decide (s.2.1 ≤ 4)))
def inB (i : Int) (n : Nat) : Prop := 0 ≤ i ∧ i < (n : Int)
instance (i : Int) (n : Nat) : Decidable (inB i n) := by unfold inB; infer_instance
def Ret {α : Type} (o : Option α) (P : α → Prop) : Prop := ∃ r, o = some r ∧ P r
theorem Ret.pure {α : Type} {a : α} {P : α → Prop} (h : P a) : Ret (some a) P := ⟨a, rfl, h⟩
theorem Ret.bind {α β : Type} {o : Option α} {k : α → Option β} {P : β → Prop} (Q : α → Prop) (h : Ret o Q) (hk : ∀ r, Q r → Ret (k r) P) : Ret (o.bind k) P := by
 obtain ⟨r, e, hr⟩ := h
 rw [e]
 exact hk r hr
theorem Ret.mono {α : Type} {o : Option α} {P Q : α → Prop} (h : Ret o P) (hm : ∀ r, P r → Q r) : Ret o Q := by
 obtain ⟨r, e, hr⟩ := h; exact ⟨r, e, hm r hr⟩
theorem Ret.bif {α : Type} {c : Bool} {a b : Option α} {P : α → Prop} (h1 : c = true → Ret a P) (h2 : c = false → Ret b P) : Ret (bif c then a else b) P := by
 cases c with
 | true => exact h1 rfl
 | false => exact h2 rfl
theorem Ret.guard {α : Type} {p : Prop} [Decidable p] {a : Option α} {P : α → Prop} (hp : p) (h : Ret a P) : Ret (_root_.cond (decide p) a none) P := by
 simpa [hp] using h
abbrev Shx := Int × Int × Unit
abbrev Rgx := Int × Int × Int × Int × Int × Unit
def zsn (w : List Int) : Bool := decide (w.length % 16 = 0) && (decide (32 ≤ w.length) && decide (w.length ≤ 192))
theorem wordsOk_iff {w : List Int} : zsn w = true ↔ w.length % 16 = 0 ∧ 32 ≤ w.length ∧ w.length ≤ 192 := by
 simp only [zsn, Bool.and_eq_true, decide_eq_true_eq]
def fitsB (w : List Int) (a n : Int) : Bool := zsn w && (decide (1 ≤ n) && (decide (16 ≤ a) && (decide (a < (w.length : Int)) && decide (a % 16 + n ≤ 16))))
theorem fitsB_iff {w : List Int} {a n : Int} : fitsB w a n = true ↔ zsn w = true ∧ 1 ≤ n ∧ 16 ≤ a ∧ a < (w.length : Int) ∧ a % 16 + n ≤ 16 := by
 simp only [fitsB, Bool.and_eq_true, decide_eq_true_eq]
def shSz (s : Shx) : Int := if shOk s = true then 2 + s.1 + s.2.1 else 0
def shWd (s : Shx) : Int := if shOk s = true then 16 * s.1 + s.2.1 else -1
theorem zsz {s : Shx} : shOk s = true ↔ 0 ≤ s.1 ∧ s.1 ≤ 4 ∧ 0 ≤ s.2.1 ∧ s.2.1 ≤ 4 := by
 simp only [shOk, Bool.and_eq_true, decide_eq_true_eq]
theorem fits_room {w : List Int} {a n : Int} (h : fitsB w a n = true) : a + n ≤ (w.length : Int) ∧ a < 192 ∧ w.length ≤ 192 := by
 obtain ⟨h1, h2, h3, h4, h5⟩ := fitsB_iff.1 h
 obtain ⟨h6, h7, h8⟩ := wordsOk_iff.1 h1
 omega
def edgeRow : Rgx := (0, -1, 0, 0, 0, ())
def regBase (r : Int) : Int := if r < 0 ∨ r ≥ 12 then 0 else 16 * r
def regOf (a : Int) : Int := if a < 0 then -1 else a / 16
theorem push_loop {α ρ : Type} {m : Nat} (f : Nat → α) {L : Nat → Nat → List α → Option ρ} {fin : List α → ρ} (hm : m ≤ 1048576)
  (h1 : ∀ n i s, i < m → s.length + 1 ≤ lim → w64 ((i : Int) + 1) = ((i + 1 : Nat) : Int) → L (n + 1) i s = L n (i + 1) (s ++ [f i])) (h3 : ∀ n s, L (n + 1) m s = some (fin s)) :
  ∀ (n i : Nat) (s : List α), i ≤ m → m - i < n → s.length + m ≤ 2097152 + i → L n i s = some (fin (s ++ (List.range' i (m - i)).map f))
 | 0, _, _, _, h, _ => absurd h (Nat.not_lt_zero _)
 | n + 1, i, s, hi, hn, hs => by
  have hlim : lim = 2147483648 := rfl
  by_cases h : i < m
  ·rw [h1 n i s h (by omega) (zyn (by omega)), push_loop f hm h1 h3 n (i + 1) _ (by omega) (by omega) (by simp; omega)]
   have e : m - i = (m - (i + 1)) + 1 := by omega
   rw [e, List.range'_succ]
   simp
  ·have : i = m := by omega
   subst this
   rw [h3]
   simp
abbrev Tgx := Int × Int × Shx × List Int × List Int × Unit
abbrev tg0 : Tgx := (0, 0, (0, 0, ()), [], [], ())
abbrev rg0 : Rgx := (0, 0, 0, 0, 0, ())
def shOf (w : Int) : Option Shx := if 0 ≤ w ∧ w / 16 ≤ 4 ∧ w % 16 ≤ 4 then some (w / 16, w % 16, ()) else none
def zqt (w : List Int) (a : Int) : Option Tgx :=
 if fitsB w a 2 = true then (match shOf (w.getD (a + 1).toNat 0) with
  | some s => if fitsB w a (shSz s) = true then some (a, w.getD a.toNat 0, s, (w.drop (a.toNat + 2)).take s.1.toNat, (w.drop (a.toNat + 2 + s.1.toNat)).take s.2.1.toNat, ()) else none
  | none => none) else none
def zwh (w : List Int) (top : Int) : Nat → Int → Option (List Tgx)
 | 0, _ => none
 | n + 1, a => if a < top then (match zqt w a with
     | none => none
     | some t => if a + shSz t.2.2.1 > top then none else (zwh w top n (a + shSz t.2.2.1)).map (t :: ·)) else some []
def thingsIn (w : List Int) (r top : Int) : Option (List Tgx) :=
 if zsn w = true ∧ 1 ≤ r ∧ r < ((w.length / 16 : Nat) : Int) ∧ 16 * r ≤ top ∧ top ≤ 16 * r + 16 then zwh w top 17 (16 * r) else none
def zts (w : List Int) (tb : List Rgx) : Nat → Nat → Option (List Tgx)
 | 0, _ => some []
 | k + 1, i => match thingsIn w (i : Int) (tb.getD i rg0).2.2.1 with
  | none => none
  | some l => (zts w tb k (i + 1)).map (l ++ ·)
def zu4 (w : List Int) (tb : List Rgx) : Option (List Tgx) := zts w tb (tb.length - 1) 1
theorem shOf_some {w : Int} {s : Shx} (h : shOf w = some s) : shOk s = true ∧ w = 16 * s.1 + s.2.1 := by
 unfold shOf at h
 split at h
 ·simp only [Option.some.injEq] at h
  subst h
  rw [zsz]
  dsimp only
  omega
 ·cases h
theorem zuo {w : List Int} {a : Int} {t : Tgx} (h : zqt w a = some t) : t.1 = a ∧ shOk t.2.2.1 = true ∧ fitsB w a (shSz t.2.2.1) = true ∧ t.2.1 = w.getD a.toNat 0 ∧ t.2.2.2.1.length = t.2.2.1.1.toNat ∧ t.2.2.2.2.1.length = t.2.2.1.2.1.toNat ∧
  2 ≤ shSz t.2.2.1 ∧ shSz t.2.2.1 ≤ 10 := by
 unfold zqt at h
 split at h
 ·split at h
  ·rename_i s hs
   split at h
   ·rename_i hf
    simp only [Option.some.injEq] at h
    subst h
    obtain ⟨h1, _⟩ := shOf_some hs
    have h2 := zsz.1 h1
    have h3 : shSz s = 2 + s.1 + s.2.1 := by unfold shSz; rw [if_pos h1]
    obtain ⟨g1, g2, g3⟩ := fits_room hf
    obtain ⟨f1, f2, f3, f4, f5⟩ := fitsB_iff.1 hf
    refine ⟨rfl, h1, hf, rfl, ?_, ?_, by dsimp only; omega, by dsimp only; omega⟩
    ·simp only [List.length_take, List.length_drop]; omega
    ·simp only [List.length_take, List.length_drop]; omega
   ·cases h
  ·cases h
 ·cases h
theorem range_get {w : List Int} : ∀ (n p i : Nat), p + i + n ≤ w.length → (List.range' i n).map (fun j => w.getD (p + j) 0) = (w.drop (p + i)).take n
 | 0, _, _, _ => by simp
 | n + 1, p, i, h => by
  rw [List.range'_succ, List.map_cons, range_get n p (i + 1) (by omega), zt6 (by omega : p + i < w.length), List.take_succ_cons, zzn (by omega : p + i < w.length)]
  rfl
theorem thingsFrom_at {w : List Int} {top : Int} : ∀ (n : Nat) (a : Int) (l : List Tgx), zwh w top n a = some l → l.Pairwise (fun x y => x.1 < y.1) ∧ ∀ t ∈ l, a ≤ t.1 ∧ t.1 < top ∧ zqt w t.1 = some t
 | 0, _, _, h => by simp [zwh] at h
 | n + 1, a, l, h => by
  unfold zwh at h
  split at h
  ·rename_i hlt
   split at h
   ·cases h
   ·rename_i t ht
    split at h
    ·cases h
    ·simp only [Option.map_eq_some_iff] at h
     obtain ⟨l', h1, rfl⟩ := h
     obtain ⟨e1, _, _, _, _, _, e2, _⟩ := zuo ht
     obtain ⟨p1, p2⟩ := thingsFrom_at n _ l' h1
     refine ⟨List.pairwise_cons.2 ⟨fun y hy => ?_, p1⟩, fun x hx => ?_⟩
     ·have := (p2 y hy).1; omega
     ·rcases List.mem_cons.1 hx with rfl | hx
      ·exact ⟨by omega, by omega, by rw [e1]; exact ht⟩
      ·have := p2 x hx; exact ⟨by omega, this.2⟩
  ·simp only [Option.some.injEq] at h
   subst h
   exact ⟨List.Pairwise.nil, by simp⟩
theorem thingsFrom_len {w : List Int} {top : Int} : ∀ (n : Nat) (a : Int) (l : List Tgx), zwh w top n a = some l → l.length ≤ n
 | 0, _, _, h => by simp [zwh] at h
 | n + 1, a, l, h => by
  unfold zwh at h
  split at h
  ·split at h
   ·cases h
   ·split at h
    ·cases h
    ·simp only [Option.map_eq_some_iff] at h
     obtain ⟨l', h1, rfl⟩ := h
     have := thingsFrom_len n _ l' h1
     simp only [List.length_cons]; omega
  ·simp only [Option.some.injEq] at h
   subst h
   simp
theorem thingsIn_at {w : List Int} {r top : Int} {l : List Tgx} (h : thingsIn w r top = some l) : l.Pairwise (fun x y => x.1 < y.1) ∧ (∀ t ∈ l, 16 * r ≤ t.1 ∧ t.1 < 16 * r + 16 ∧ t.1 < top ∧ zqt w t.1 = some t) ∧ l.length ≤ 17 ∧ 1 ≤ r ∧ r < 12 := by
 unfold thingsIn at h
 split at h
 ·rename_i hc
  have hw := wordsOk_iff.1 hc.1
  obtain ⟨h1, h2⟩ := thingsFrom_at _ _ _ h
  exact ⟨h1, fun t ht => by have := h2 t ht; exact ⟨this.1, by omega, this.2⟩, thingsFrom_len _ _ _ h, hc.2.1, by omega⟩
 ·cases h
theorem thingsGo_at {w : List Int} {tb : List Rgx} : ∀ (k i : Nat) (l : List Tgx), zts w tb k i = some l → l.Pairwise (fun x y => x.1 < y.1) ∧ (∀ t ∈ l, 16 * (i : Int) ≤ t.1 ∧ zqt w t.1 = some t ∧ t.1 < 16 * ((i : Int) + k)) ∧ l.length ≤ 17 * k
 | 0, _, _, h => by simp only [zts, Option.some.injEq] at h; subst h; simp
 | k + 1, i, l, h => by
  unfold zts at h
  split at h
  ·cases h
  ·rename_i l1 h1
   simp only [Option.map_eq_some_iff] at h
   obtain ⟨l2, h2, rfl⟩ := h
   obtain ⟨a1, a2, a3, _⟩ := thingsIn_at h1
   obtain ⟨b1, b2, b3⟩ := thingsGo_at k (i + 1) l2 h2
   refine ⟨List.pairwise_append.2 ⟨a1, b1, fun x hx y hy => ?_⟩, fun t ht => ?_, ?_⟩
   ·have c1 := a2 x hx
    have c2 := b2 y hy
    omega
   ·rcases List.mem_append.1 ht with ht | ht
    ·have c1 := a2 t ht; exact ⟨c1.1, c1.2.2.2, by omega⟩
    ·have c2 := b2 t ht; exact ⟨by omega, c2.2.1, by omega⟩
   ·simp only [List.length_append]; omega
theorem thingsAll_at {w : List Int} {tb : List Rgx} {l : List Tgx} (h : zu4 w tb = some l) : l.Pairwise (fun x y => x.1 < y.1) ∧ (∀ t ∈ l, 16 ≤ t.1 ∧ zqt w t.1 = some t ∧ t.1 < 16 * (1 + ((tb.length - 1 : Nat) : Int))) ∧ l.length ≤ 17 * (tb.length - 1) := by
 obtain ⟨h1, h2, h3⟩ := thingsGo_at _ _ _ h
 exact ⟨h1, fun t ht => by have := h2 t ht; exact ⟨by omega, this.2.1, by omega⟩, h3⟩
def tmap (l : List Tgx) : List (Int × Tgx) := l.map fun t => (t.1, t)
theorem mset_new {α : Type} {m : List (Int × α)} {a : Int} {x : α} (h : ∀ p ∈ m, p.1 ≠ a) : mset m a x = m ++ [(a, x)] := by
 induction m with
 | nil => rfl
 | cons p r ih =>
  obtain ⟨b, y⟩ := p
  have hb : ¬ a = b := fun e => h (b, y) (by simp) e.symm
  simp only [mset, hb, decide_false, cond_false, List.cons_append]
  rw [ih fun p hp => h p (by simp [hp])]
theorem tmap_get {l : List Tgx} {a : Int} : mget (tmap l) a = l.find? fun t => decide (t.1 = a) := by
 induction l with
 | nil => rfl
 | cons t l ih =>
  simp only [tmap, List.map_cons, mget, List.find?_cons] at ih ⊢
  by_cases h : a = t.1
  ·simp [h]
  ·have h' : ¬ t.1 = a := fun e => h e.symm
   simp only [h, h', decide_false, cond_false]
   exact ih
theorem tmap_push {l : List Tgx} {t : Tgx} (h : ∀ x ∈ l, x.1 < t.1) : mset (tmap l) t.1 t = tmap (l ++ [t]) := by
 rw [mset_new]
 ·simp [tmap]
 ·intro p hp
  simp only [tmap, List.mem_map] at hp
  obtain ⟨x, hx, rfl⟩ := hp
  have := h x hx
  dsimp only; omega
def rowOk (i : Nat) (x : Rgx) : Bool :=
 decide (1 ≤ x.1) && (decide (x.1 ≤ 4) && (decide (16 * (i : Int) ≤ x.2.2.1) && (decide (x.2.2.1 ≤ 16 * (i : Int) + 16) && (decide (16 * (i : Int) ≤ x.2.2.2.1) && (decide (x.2.2.2.1 ≤ x.2.2.1) && (decide (0 ≤ x.2.2.2.2.1) && (decide (x.2.2.2.2.1 ≤ x.2.2.1 - 16 * (i : Int)) &&
  ((!(decide (x.1 = 1)) || decide (x.2.2.1 = 16 * (i : Int))) && (if x.1 = 2 then decide (0 ≤ x.2.1) && decide (x.2.1 ≤ 3) else decide (x.2.1 = -1))))))))))
theorem rowOk_iff {i : Nat} {x : Rgx} : rowOk i x = true ↔ 1 ≤ x.1 ∧ x.1 ≤ 4 ∧ 16 * (i : Int) ≤ x.2.2.1 ∧ x.2.2.1 ≤ 16 * (i : Int) + 16 ∧ 16 * (i : Int) ≤ x.2.2.2.1 ∧ x.2.2.2.1 ≤ x.2.2.1 ∧ 0 ≤ x.2.2.2.2.1 ∧ x.2.2.2.2.1 ≤ x.2.2.1 - 16 * (i : Int) ∧
  (x.1 = 1 → x.2.2.1 = 16 * (i : Int)) ∧ ((x.1 = 2 ∧ 0 ≤ x.2.1 ∧ x.2.1 ≤ 3) ∨ (x.1 ≠ 2 ∧ x.2.1 = -1)) := by
 unfold rowOk
 simp only [Bool.and_eq_true, decide_eq_true_eq]
 refine and_congr_right fun _ => and_congr_right fun _ => and_congr_right fun _ => and_congr_right fun _ => and_congr_right fun _ => and_congr_right fun _ => and_congr_right fun _ => and_congr_right fun _ => ?_
 by_cases h2 : x.1 = 2
 ·simp [h2]
 ·by_cases h1 : x.1 = 1 <;> simp [h1, h2]
def hadO (t : List Rgx) (i : Nat) (o : Int) : Bool := ((t.take i).drop 1).any fun x => decide (x.2.1 = o)
def tblGo (t : List Rgx) : Nat → Nat → Bool
 | 0, _ => true
 | k + 1, i => rowOk i (t.getD i rg0) && (!(decide (0 ≤ (t.getD i rg0).2.1) && hadO t i (t.getD i rg0).2.1) && tblGo t k (i + 1))
def tableOk (t : List Rgx) : Bool := decide (2 ≤ t.length) && (decide (t.length ≤ 12) && (decide (t.getD 0 rg0 = edgeRow) && tblGo t (t.length - 1) 1))
theorem hadO_succ {t : List Rgx} {i : Nat} {o : Int} (h1 : 1 ≤ i) (h : i < t.length) : hadO t (i + 1) o = (hadO t i o || decide ((t.getD i rg0).2.1 = o)) := by
 unfold hadO
 rw [List.take_succ_eq_append_getElem h, List.drop_append_of_le_length (by simp; omega), List.any_append, zzn h]
 simp
theorem tblGo_row {t : List Rgx} : ∀ (k i : Nat), tblGo t k i = true → ∀ j, i ≤ j → j < i + k → rowOk j (t.getD j rg0) = true
 | 0, _, _, _, h1, h2 => by omega
 | k + 1, i, h, j, h1, h2 => by
  simp only [tblGo, Bool.and_eq_true] at h
  by_cases e : j = i
  ·subst e; exact h.1
  ·exact tblGo_row k (i + 1) h.2.2 j (by omega) (by omega)
theorem tableOk_iff {t : List Rgx} (h : tableOk t = true) : 2 ≤ t.length ∧ t.length ≤ 12 ∧ t.getD 0 rg0 = edgeRow ∧ ∀ j, 1 ≤ j → j < t.length → rowOk j (t.getD j rg0) = true := by
 simp only [tableOk, Bool.and_eq_true, decide_eq_true_eq] at h
 exact ⟨h.1, h.2.1, h.2.2.1, fun j h1 h2 => tblGo_row _ _ h.2.2.2 j h1 (by omega)⟩
def wholeB (w : List Int) (tb : List Rgx) (mk : List Bool) : Bool := zsn w && (tableOk tb && (decide (tb.length * 16 = w.length) && decide (mk.length = w.length)))
abbrev Stx := List Int × List Rgx × List Bool × Int × Bool × Bool × Bool × Int × List (List Int × Int × Bool × Int × Unit) × List Int × List Int × Int × Int × Unit
theorem zoo {w : List Int} {tb : List Rgx} {mk : List Bool} : wholeB w tb mk = true ↔ zsn w = true ∧ tableOk tb = true ∧ tb.length * 16 = w.length ∧ mk.length = w.length := by
 simp only [wholeB, Bool.and_eq_true, decide_eq_true_eq]
theorem ibeq {a b : Int} : (a == b) = decide (a = b) := by by_cases h : a = b <;> simp [h]
theorem all_erase {α : Type} {q : α → Bool} : ∀ {l : List α} {i : Nat} (h : i < l.length), l.all q = (q l[i] && (l.eraseIdx i).all q)
 | [], _, h => absurd h (Nat.not_lt_zero _)
 | x :: l, 0, _ => by simp
 | x :: l, i + 1, h => by
  have hi : i < l.length := by simpa using h
  have := all_erase (q := q) (l := l) (i := i) hi
  simp only [List.all_cons, List.getElem_cons_succ, List.eraseIdx_cons_succ, this]
  cases q x <;> cases q l[i] <;> rfl
theorem anyall_loop {α ρ : Type} {P : α → Prop} (q : α → Bool) {L : Nat → List α → Option ρ} {yes no : ρ} (h0 : ∀ n, L (n + 1) [] = some yes)
  (h1 : ∀ n rest, rest ≠ [] → (∀ x ∈ rest, P x) → ∃ f, L (n + 1) rest = anyOf rest.length f ∧ ∀ i (h : i < rest.length), (q rest[i] = true → f i = L n (rest.eraseIdx i)) ∧ (q rest[i] = false → f i = some no)) :
  ∀ (n : Nat) (rest : List α), rest.length < n → (∀ x ∈ rest, P x) → L n rest = some (if rest.all q = true then yes else no)
 | 0, _, h, _ => absurd h (Nat.not_lt_zero _)
 | n + 1, rest, h, hP => by
  by_cases he : rest = []
  ·subst he; rw [h0]; simp
  ·obtain ⟨f, e, hf⟩ := h1 n rest he hP
   rw [e]
   have hpos : 0 < rest.length := List.length_pos_iff.2 he
   refine anyOf_eq hpos fun i hi => ?_
   obtain ⟨f1, f2⟩ := hf i hi
   rw [all_erase hi]
   cases hq : q rest[i] with
   | false => rw [f2 hq]; simp
   | true =>
    rw [f1 hq, anyall_loop q h0 h1 n (rest.eraseIdx i) (by rw [List.length_eraseIdx_of_lt hi]; omega) (fun x hx => hP x (List.mem_of_mem_eraseIdx hx))]
    simp
theorem find_of_idx {α : Type} {p : α → Bool} : ∀ {l : List α}, l.find? p = (l.findIdx? p).bind fun i => l[i]?
 | [] => by simp
 | x :: l => by
  have ih := find_of_idx (p := p) (l := l)
  simp only [List.find?_cons, List.findIdx?_cons]
  cases hx : p x with
  | true => simp
  | false =>
   simp only [ih]
   cases l.findIdx? p <;> simp
def fromB (tb : List Rgx) (a : Int) : Bool := decide ((tb.getD (a / 16).toNat rg0).1 = 4)
def findT (l : List Tgx) (a : Int) : Option Tgx := l.find? fun t => decide (t.1 = a)
def movOk (l : List Tgx) (tb : List Rgx) (t : Tgx) : Bool :=
 if t.2.1 = t.1 then true else match findT l t.2.1 with
  | none => false
  | some k => decide (k.2.2.1 = t.2.2.1) && (decide (k.2.1 = k.1) && (!(fromB tb k.1) && fromB tb t.1))
theorem zxt {l : List Tgx} {a : Int} {t : Tgx} (h : findT l a = some t) : t ∈ l ∧ t.1 = a := by
 have h1 := List.mem_of_find?_eq_some h
 have h2 := List.find?_some h
 exact ⟨h1, by simpa using h2⟩
theorem findT_self {l : List Tgx} (hp : l.Pairwise (fun x y => x.1 < y.1)) {t : Tgx} (ht : t ∈ l) : findT l t.1 = some t := by
 unfold findT
 induction l with
 | nil => simp at ht
 | cons x l ih =>
  rw [List.pairwise_cons] at hp
  rw [List.find?_cons]
  rcases List.mem_cons.1 ht with rfl | h
  ·simp
  ·have := hp.1 t h
   have hn : ¬ x.1 = t.1 := by omega
   simp only [hn, decide_false]
   exact ih hp.2 h
theorem thing_rng {w : List Int} {tb : List Rgx} {mk : List Bool} {l : List Tgx} (hw : wholeB w tb mk = true) (hl : zu4 w tb = some l) : ∀ t ∈ l, 16 ≤ t.1 ∧ t.1 < 192 ∧ (t.1 / 16).toNat < tb.length := by
 intro t ht
 obtain ⟨h1, h2, h3, h4⟩ := zoo.1 hw
 have ht2 := tableOk_iff h2
 obtain ⟨_, a2, _⟩ := thingsAll_at hl
 have := a2 t ht
 omega
theorem wf_i64 {n : Int} (h : (Lit.int .i64 n).wf = true) : -9223372036854775808 ≤ n ∧ n < 9223372036854775808 := by
 simp only [Lit.wf, IntKind.min, IntKind.max, IntKind.signed, IntKind.bits] at h
 simp at h
 omega
def lnT : (t : Ty) → t.den → Prop
 | .pair a b, x => lnT a x.1 ∧ lnT b x.2
 | .sl t, xs => xs.length ≤ 1048576 ∧ ∀ x ∈ xs, lnT t x
 | .fz t, x => lnT t x
 | _, _ => True
def mkS {α : Type} (f : Int → α → Int × α) : Int → List α → Int × List α
 | k, [] => (k, [])
 | k, x :: r => ((mkS f (f k x).1 r).1, (f k x).2 :: (mkS f (f k x).1 r).2)
def markE : (t : Ty) → Int → t.den → Int × t.den
 | .int _, k, _ => (k + 1, k)
 | .bool, k, _ => (k + 1, Int.tmod k 3 == 0)
 | .pair a b, k, x => ((markE b (markE a k x.1).1 x.2).1, ((markE a k x.1).2, (markE b (markE a k x.1).1 x.2).2))
 | .sl t, k, xs => mkS (markE t) k xs
 | .fz t, k, x => markE t k x
 | .str, k, x => (k, x)
 | .unit, k, x => (k, x)
 | .mp _, k, x => (k, x)
 | .hnd _, k, x => (k, x)
def bndT : Ty → Int
 | .int _ | .bool => 1
 | .pair a b => bndT a + bndT b
 | .sl t => 1048576 * bndT t
 | .fz t => bndT t
 | _ => 0
theorem zog : ∀ t : Ty, 0 ≤ bndT t
 | .int _ | .bool => by simp [bndT]
 | .pair a b => by have := zog a; have := zog b; simp only [bndT]; omega
 | .sl t => by have := zog t; simp only [bndT]; omega
 | .fz t => by have := zog t; simp only [bndT]; omega
 | .str | .unit | .mp _ | .hnd _ => by simp [bndT]
theorem mkS_rng {α : Type} {f : Int → α → Int × α} {P : α → Prop} {B : Int} (hB : ∀ k x, P x → k ≤ (f k x).1 ∧ (f k x).1 ≤ k + B) : ∀ {xs : List α} (k : Int), (∀ x ∈ xs, P x) → k ≤ (mkS f k xs).1 ∧ (mkS f k xs).1 ≤ k + B * xs.length
 | [], k, _ => by simp [mkS]
 | x :: r, k, h => by
  have h1 := hB k x (h x (by simp))
  have h2 := mkS_rng hB (xs := r) (f k x).1 fun y hy => h y (by simp [hy])
  simp only [mkS, List.length_cons, Int.natCast_add, Int.natCast_one, Int.mul_add, Int.mul_one]
  omega
theorem zv3 : ∀ {t : Ty} {x : t.den} (k : Int), lnT t x → k ≤ (markE t k x).1 ∧ (markE t k x).1 ≤ k + bndT t
 | .int _, _, _, _ | .bool, _, _, _ => by simp only [markE, bndT]; omega
 | .pair a b, x, k, h => by
  have h1 := zv3 (t := a) (x := x.1) k h.1
  have h2 := zv3 (t := b) (x := x.2) (markE a k x.1).1 h.2
  simp only [markE, bndT]; omega
 | .sl t, xs, k, h => by
  have h1 := mkS_rng (f := markE t) (P := lnT t) (B := bndT t) (fun k x hx => zv3 k hx) (xs := xs) k h.2
  have h2 : bndT t * (xs.length : Int) ≤ bndT t * 1048576 := Int.mul_le_mul_of_nonneg_left (by have := h.1; omega) (zog t)
  simp only [markE, bndT]; omega
 | .fz t, x, k, h => zv3 (t := t) (x := x) k h
 | .str, _, _, _ | .unit, _, _, _ | .mp _, _, _, _ | .hnd _, _, _, _ => by simp only [markE, bndT]; omega
theorem mark_loop {α ρ : Type} {f : Int → α → Int × α} {P : α → Prop} {B : Int} {xs : List α} {L : Nat → Int → Nat → List α → Option ρ} {fin : Int → List α → ρ} (hl : xs.length ≤ lim) (hx : ∀ x ∈ xs, P x) (b0 : 0 ≤ B)
  (hB : ∀ k x, P x → k ≤ (f k x).1 ∧ (f k x).1 ≤ k + B)
  (h1 : ∀ n k i (s : List α) (h : i < s.length), P s[i] → 0 ≤ k → k + B ≤ 4611686018427387904 → w64 ((i : Int) + 1) = ((i + 1 : Nat) : Int) → L (n + 1) k i s = L n (f k s[i]).1 (i + 1) (s.set i (f k s[i]).2))
  (h3 : ∀ n k s, L (n + 1) k s.length s = some (fin k s)) {n : Nat} (hn : xs.length < n) {k : Int} (h0 : 0 ≤ k) (hk : k + B * xs.length ≤ 4611686018427387904) : L n k 0 xs = some (fin (mkS f k xs).1 (mkS f k xs).2) := by
 have key : ∀ (ys pre : List α) (n : Nat) (k : Int), (∀ x ∈ ys, P x) → pre.length + ys.length ≤ lim → ys.length < n → 0 ≤ k → k + B * ys.length ≤ 4611686018427387904 →
   L n k pre.length (pre ++ ys) = some (fin (mkS f k ys).1 (pre ++ (mkS f k ys).2)) := by
  intro ys
  induction ys with
  | nil =>
   intro pre n k _ _ hn _ _
   obtain ⟨n, rfl⟩ : ∃ n', n = n' + 1 := ⟨n - 1, by simp at hn; omega⟩
   have := h3 n k pre
   simpa [mkS] using this
  | cons y ys ih =>
   intro pre n k hy hl hn h0 hk
   obtain ⟨n, rfl⟩ : ∃ n', n = n' + 1 := ⟨n - 1, by simp at hn; omega⟩
   have hlim : lim = 2147483648 := rfl
   simp only [List.length_cons, Int.natCast_add, Int.natCast_one, Int.mul_add, Int.mul_one] at hl hn hk
   have b1 : 0 ≤ B * (ys.length : Int) := Int.mul_nonneg b0 (by omega)
   have hlt : pre.length < (pre ++ y :: ys).length := by simp
   have hg : (pre ++ y :: ys)[pre.length] = y := by simp
   have hPy := hy y (by simp)
   have h4 := hB k y hPy
   have := h1 n k pre.length (pre ++ y :: ys) hlt (by rw [hg]; exact hPy) h0 (by omega) (zyn (by omega))
   rw [this, hg]
   have e : (pre ++ y :: ys).set pre.length (f k y).2 = (pre ++ [(f k y).2]) ++ ys := by simp
   have := ih (pre ++ [(f k y).2]) n (f k y).1 (fun x hx => hy x (by simp [hx])) (by simp; omega) (by omega) (by omega) (by omega)
   simp only [List.length_append, List.length_singleton] at this
   rw [e, this]
   simp [mkS]
 have := key xs [] n k hx (by simpa using hl) hn h0 hk
 simpa using this
theorem getD_set_i {α : Type} {l : List α} {i : Nat} {x d : α} (h : i < l.length) : (l.set i x).getD i d = x := by
 rw [zzn (by simpa using h)]; exact List.getElem_set_self _
theorem ne_step {α : Type} [DecidableEq α] {a b : α} {c : Bool} : (_root_.cond (a != b) (some (false, ())) (some (c, ())) : Option (Bool × Unit)) = some (decide (a = b) && c, ()) := by
 by_cases h : a = b <;> simp [h]
theorem not_step {d c : Bool} : (_root_.cond (!d) (some (false, ())) (some (c, ())) : Option (Bool × Unit)) = some (d && c, ()) := by
 cases d <;> rfl
theorem bool_beq {a b : Bool} : (a == b) = decide (a = b) := by cases a <;> cases b <;> rfl
theorem sz_loop {α : Type} {xs : List α} (P : α → Prop) {L : Nat → Nat → Int → Option ((Int × Unit) ⊕ (Int × Unit))} {N : Nat} (hN : lim < N) {left : Int} (hx : (xs.length : Int) ≤ 9223372036854775807) (h0 : 0 ≤ left) (h1' : left ≤ 1048576)
  (h1 : ∀ n i (h : i < xs.length) (left : Int), 0 ≤ left → left ≤ 1048576 → w64 ((i : Int) + 1) = ((i + 1 : Nat) : Int) →
   L (n + 1) i left = some (.inr (-1, ())) ∨ ∃ r, 0 ≤ r ∧ r ≤ left ∧ P xs[i] ∧ L (n + 1) i left = L n (i + 1) r)
  (h3 : ∀ n left, L (n + 1) xs.length left = some (.inl (left, ()))) :
  ∃ r : Int, (_root_.cond (decide (w64 (left - (xs.length : Int)) < 0)) (some ((-1 : Int), ())) ((L N 0 (w64 (left - (xs.length : Int)))).bind fun o => Sum.elim (fun o => some (o.1, ())) (fun o => some (o.1, ())) o) : Option (Int × Unit)) = some (r, ()) ∧
    (r < 0 ∨ (0 ≤ r ∧ r ≤ left ∧ xs.length ≤ 1048576 ∧ ∀ x ∈ xs, P x)) := by
 rw [zyy (by omega) (by omega)]
 by_cases h : left - (xs.length : Int) < 0
 ·exact ⟨-1, by simp [h], by simp⟩
 ·simp only [h, decide_false, cond_false]
  have hlim : lim = 2147483648 := rfl
  rcases size_loop (xs := xs) (n := N) P (by omega) h1 h3 (by omega) (left := left - xs.length) (by omega) (by omega) with hL | ⟨r, h2, h3, h4, hL⟩
  ·exact ⟨-1, by rw [hL]; rfl, by simp⟩
  ·exact ⟨r, by rw [hL]; rfl, .inr ⟨h2, by omega, by omega, h4⟩⟩
abbrev tIntS : Ty := (.sl (.int .i64))
abbrev tBoolS : Ty := (.sl .bool)
abbrev tRegion : Ty := (.pair (.int .i64) (.pair (.int .i64) (.pair (.int .i64) (.pair (.int .i64) (.pair (.int .i64) .unit)))))
abbrev zqy : Ty := (.sl (.pair (.int .i64) (.pair (.int .i64) (.pair (.int .i64) (.pair (.int .i64) (.pair (.int .i64) .unit))))))
abbrev tThread : Ty := (.pair (.sl (.int .i64)) (.pair (.int .i64) (.pair .bool (.pair (.int .i64) .unit))))
abbrev zqz : Ty := (.sl (.pair (.sl (.int .i64)) (.pair (.int .i64) (.pair .bool (.pair (.int .i64) .unit)))))
abbrev tState : Ty := (.pair (.sl (.int .i64)) (.pair (.sl (.pair (.int .i64) (.pair (.int .i64) (.pair (.int .i64) (.pair (.int .i64) (.pair (.int .i64) .unit)))))) (.pair (.sl .bool) (.pair (.int .i64) (.pair .bool (.pair .bool (.pair .bool (.pair (.int .i64) (.pair (.sl (.pair (.sl (.int .i64)) (.pair (.int .i64) (.pair .bool (.pair (.int .i64) .unit))))) (.pair (.sl (.int .i64)) (.pair (.sl (.int .i64)) (.pair (.int .i64) (.pair (.int .i64) .unit)))))))))))))
abbrev tNode : Ty := (.pair (.sl (.int .i64)) (.pair (.sl (.int .i64)) .unit))
abbrev tNodeS : Ty := (.sl (.pair (.sl (.int .i64)) (.pair (.sl (.int .i64)) .unit)))
abbrev tIntSS : Ty := (.sl (.sl (.int .i64)))
abbrev tGraph : Ty := (.pair (.sl (.pair (.sl (.int .i64)) (.pair (.sl (.int .i64)) .unit))) (.pair (.sl (.sl (.int .i64))) (.pair (.sl (.int .i64)) .unit)))
instance decOp_6 : DecidableEq ((Int × Int × Unit) × Unit) := @instDecidableEqProd _ _ inferInstance inferInstance
instance decOp_5 : DecidableEq (Int × ((Int × Int × Unit) × Unit)) := @instDecidableEqProd _ _ inferInstance decOp_6
instance decOp_4 : DecidableEq (Int × (Int × (Int × Int × Unit) × Unit)) := @instDecidableEqProd _ _ inferInstance decOp_5
instance decOp_3 : DecidableEq (Int × (Int × Int × (Int × Int × Unit) × Unit)) := @instDecidableEqProd _ _ inferInstance decOp_4
instance decOp_2 : DecidableEq (Int × (Int × Int × Int × (Int × Int × Unit) × Unit)) := @instDecidableEqProd _ _ inferInstance decOp_3
instance decOp_1 : DecidableEq (Int × (Int × Int × Int × Int × (Int × Int × Unit) × Unit)) := @instDecidableEqProd _ _ inferInstance decOp_2
instance decOp_0 : DecidableEq (Int × (Int × Int × Int × Int × Int × (Int × Int × Unit) × Unit)) := @instDecidableEqProd _ _ inferInstance decOp_1
instance decRegion_4 : DecidableEq (Int × Unit) := @instDecidableEqProd _ _ inferInstance inferInstance
instance decRegion_3 : DecidableEq (Int × (Int × Unit)) := @instDecidableEqProd _ _ inferInstance decRegion_4
instance decRegion_2 : DecidableEq (Int × (Int × Int × Unit)) := @instDecidableEqProd _ _ inferInstance decRegion_3
instance decRegion_1 : DecidableEq (Int × (Int × Int × Int × Unit)) := @instDecidableEqProd _ _ inferInstance decRegion_2
instance decRegion_0 : DecidableEq (Int × (Int × Int × Int × Int × Unit)) := @instDecidableEqProd _ _ inferInstance decRegion_1
instance decState_12 : DecidableEq (Int × Unit) := @instDecidableEqProd _ _ inferInstance inferInstance
instance decState_11 : DecidableEq (Int × (Int × Unit)) := @instDecidableEqProd _ _ inferInstance decState_12
instance decState_10 : DecidableEq ((List Int) × (Int × Int × Unit)) := @instDecidableEqProd _ _ inferInstance decState_11
instance decState_9 : DecidableEq ((List Int) × ((List Int) × Int × Int × Unit)) := @instDecidableEqProd _ _ inferInstance decState_10
instance decState_8 : DecidableEq ((List ((List Int) × Int × Bool × Int × Unit)) × ((List Int) × (List Int) × Int × Int × Unit)) := @instDecidableEqProd _ _ inferInstance decState_9
instance decState_7 : DecidableEq (Int × ((List ((List Int) × Int × Bool × Int × Unit)) × (List Int) × (List Int) × Int × Int × Unit)) := @instDecidableEqProd _ _ inferInstance decState_8
instance decState_6 : DecidableEq (Bool × (Int × (List ((List Int) × Int × Bool × Int × Unit)) × (List Int) × (List Int) × Int × Int × Unit)) := @instDecidableEqProd _ _ inferInstance decState_7
instance decState_5 : DecidableEq (Bool × (Bool × Int × (List ((List Int) × Int × Bool × Int × Unit)) × (List Int) × (List Int) × Int × Int × Unit)) := @instDecidableEqProd _ _ inferInstance decState_6
instance decState_4 : DecidableEq (Bool × (Bool × Bool × Int × (List ((List Int) × Int × Bool × Int × Unit)) × (List Int) × (List Int) × Int × Int × Unit)) := @instDecidableEqProd _ _ inferInstance decState_5
instance decState_3 : DecidableEq (Int × (Bool × Bool × Bool × Int × (List ((List Int) × Int × Bool × Int × Unit)) × (List Int) × (List Int) × Int × Int × Unit)) := @instDecidableEqProd _ _ inferInstance decState_4
instance decState_2 : DecidableEq ((List Bool) × (Int × Bool × Bool × Bool × Int × (List ((List Int) × Int × Bool × Int × Unit)) × (List Int) × (List Int) × Int × Int × Unit)) := @instDecidableEqProd _ _ inferInstance decState_3
instance decState_1 : DecidableEq ((List (Int × Int × Int × Int × Int × Unit)) × ((List Bool) × Int × Bool × Bool × Bool × Int × (List ((List Int) × Int × Bool × Int × Unit)) × (List Int) × (List Int) × Int × Int × Unit)) := @instDecidableEqProd _ _ inferInstance decState_2
instance decState_0 : DecidableEq ((List Int) × ((List (Int × Int × Int × Int × Int × Unit)) × (List Bool) × Int × Bool × Bool × Bool × Int × (List ((List Int) × Int × Bool × Int × Unit)) × (List Int) × (List Int) × Int × Int × Unit)) := @instDecidableEqProd _ _ inferInstance decState_1
instance decCall_5 : DecidableEq (Int × Unit) := @instDecidableEqProd _ _ inferInstance inferInstance
instance decCall_4 : DecidableEq (Int × (Int × Unit)) := @instDecidableEqProd _ _ inferInstance decCall_5
instance decCall_3 : DecidableEq (Int × (Int × Int × Unit)) := @instDecidableEqProd _ _ inferInstance decCall_4
instance decCall_2 : DecidableEq (Int × (Int × Int × Int × Unit)) := @instDecidableEqProd _ _ inferInstance decCall_3
instance decCall_1 : DecidableEq (Int × (Int × Int × Int × Int × Unit)) := @instDecidableEqProd _ _ inferInstance decCall_2
instance decCall_0 : DecidableEq (Int × (Int × Int × Int × Int × Int × Unit)) := @instDecidableEqProd _ _ inferInstance decCall_1
theorem stWf {s : Stx} (h : Wf tState s) (l : lnT tState s) : s.1.length ≤ 1048576 ∧ s.2.1.length ≤ 1048576 ∧ s.2.2.1.length ≤ 1048576 ∧ (∀ x ∈ s.1, -9223372036854775808 ≤ x ∧ x < 9223372036854775808) ∧ (∀ x ∈ s.2.1, -9223372036854775808 ≤ x.2.1 ∧ x.2.1 < 9223372036854775808) :=
 ⟨l.1.1, l.2.1.1, l.2.2.1.1, fun x hx => wf_i64 (h.1.2 x hx), fun x hx => wf_i64 (h.2.1.2 x hx).2.1⟩
abbrev Thr := List Int × Int × Bool × Int × Unit
def meetA (l : List Tgx) : List Int → List Int → Option (List Int)
 | [], met => some met
 | a :: rs, met => if a = 0 then meetA l rs met else match findT l a with
  | none => none
  | some t => meetA l rs (if t.2.1 ∈ met then met else met ++ [t.2.1])
def refsT (l : List Tgx) (a : Int) : List Int := match findT l a with
 | some t => t.2.2.2.1
 | none => []
def zu5 (l : List Tgx) : Nat → Nat → List Int → Option (List Int)
 | 0, _, met => some met
 | m + 1, k, met => if k < met.length then (match meetA l (refsT l (met.getD k 0)) met with
  | none => none
  | some met' => zu5 l m (k + 1) met') else some met
def thrOk (t : Thr) : Bool := decide (t.1.length ≤ 8) && (decide (0 ≤ t.2.2.2.1) && decide (t.2.2.2.1 ≤ 2))
def pinOk (l : List Tgx) (tb : List Rgx) (a : Int) : Bool := match findT l a with
 | none => false
 | some t => decide (t.2.1 = a) && !(fromB tb a)
abbrev stPh (s : Stx) : Int := s.2.2.2.1
abbrev stThr (s : Stx) : List Thr := s.2.2.2.2.2.2.2.2.1
abbrev zzo (s : Stx) : List Int := s.2.2.2.2.2.2.2.2.2.2.1
def headOk (s : Stx) : Bool := decide (0 ≤ stPh s) && (decide (stPh s ≤ 3) && (decide (1 ≤ (stThr s).length) && (decide ((stThr s).length ≤ 3) && decide ((zzo s).length ≤ 8))))
def zvx (ts : List Thr) : List Int := ts.flatMap fun t => t.1
def zu3 (s : Stx) : Option (List Tgx) := if wholeB s.1 s.2.1 s.2.2.1 = true then zu4 s.1 s.2.1 else none
def metOf (l : List Tgx) (s : Stx) : Option (List Int) :=
 if (l.all (movOk l s.2.1) && (headOk s && ((stThr s).all thrOk && (zzo s).all (pinOk l s.2.1)))) = true then
  (meetA l (zvx (stThr s) ++ zzo s) []).bind (zu5 l l.length 0)
 else none
def zu9 (s : Stx) : Option (List Tgx × List Int) := match zu3 s with
 | none => none
 | some l => (metOf l s).map fun m => (l, m)
theorem zqg {l : List Tgx} : ∀ (rs bs met : List Int), meetA l (rs ++ bs) met = (meetA l rs met).bind (meetA l bs)
 | [], bs, met => rfl
 | a :: rs, bs, met => by
  simp only [List.cons_append, meetA]
  split
  ·exact zqg rs bs met
  ·cases findT l a with
   | none => rfl
   | some t => exact zqg rs bs _
structure MetOk (l : List Tgx) (met : List Int) : Prop where
 nd : met.Nodup
 self : ∀ n ∈ met, ∃ t, findT l n = some t ∧ t.2.1 = n
theorem MetOk.nil {l : List Tgx} : MetOk l [] := ⟨List.nodup_nil, by simp⟩
theorem movOk_self {l : List Tgx} {tb : List Rgx} (hp : l.Pairwise (fun x y => x.1 < y.1)) (hm : l.all (movOk l tb) = true) {t : Tgx} (ht : t ∈ l) : ∃ k, findT l t.2.1 = some k ∧ k.2.1 = t.2.1 ∧ k.2.2.1 = t.2.2.1 := by
 have h := List.all_eq_true.1 hm t ht
 unfold movOk at h
 split at h
 ·rename_i e
  exact ⟨t, by rw [e]; exact findT_self hp ht, rfl, rfl⟩
 ·cases hf : findT l t.2.1 with
  | none => rw [hf] at h; cases h
  | some k =>
   rw [hf] at h
   simp only [Bool.and_eq_true, decide_eq_true_eq] at h
   exact ⟨k, rfl, by rw [h.2.1, (zxt hf).2], h.1⟩
theorem MetOk.push {l : List Tgx} {tb : List Rgx} (hp : l.Pairwise (fun x y => x.1 < y.1)) (hm : l.all (movOk l tb) = true) {met : List Int} (h : MetOk l met) {t : Tgx} (ht : t ∈ l) (hn : t.2.1 ∉ met) : MetOk l (met ++ [t.2.1]) := by
 refine ⟨?_, ?_⟩
 ·rw [List.nodup_append]
  refine ⟨h.nd, by simp, ?_⟩
  intro a ha b hb e
  simp only [List.mem_singleton] at hb
  subst hb; subst e
  exact hn ha
 ·intro n hn
  rcases List.mem_append.1 hn with hn | hn
  ·exact h.self n hn
  ·simp only [List.mem_singleton] at hn
   subst hn
   obtain ⟨k, h1, h2, _⟩ := movOk_self hp hm ht
   exact ⟨k, h1, h2⟩
theorem MetOk.meet {l : List Tgx} {tb : List Rgx} (hp : l.Pairwise (fun x y => x.1 < y.1)) (hm : l.all (movOk l tb) = true) : ∀ {rs met met' : List Int}, MetOk l met → meetA l rs met = some met' → MetOk l met'
 | [], met, met', h, e => by simp only [meetA, Option.some.injEq] at e; subst e; exact h
 | a :: rs, met, met', h, e => by
  simp only [meetA] at e
  split at e
  ·exact MetOk.meet hp hm h e
  ·cases hf : findT l a with
   | none => rw [hf] at e; cases e
   | some t =>
    rw [hf] at e
    dsimp only at e
    by_cases hc : t.2.1 ∈ met
    ·rw [if_pos hc] at e; exact MetOk.meet hp hm h e
    ·rw [if_neg hc] at e; exact MetOk.meet hp hm (h.push hp hm (zxt hf).1 hc) e
theorem MetOk.reach {l : List Tgx} {tb : List Rgx} (hp : l.Pairwise (fun x y => x.1 < y.1)) (hm : l.all (movOk l tb) = true) : ∀ {m k : Nat} {met met' : List Int}, MetOk l met → zu5 l m k met = some met' → MetOk l met'
 | 0, k, met, met', h, e => by simp only [zu5, Option.some.injEq] at e; subst e; exact h
 | m + 1, k, met, met', h, e => by
  simp only [zu5] at e
  split at e
  ·cases hq : meetA l (refsT l (met.getD k 0)) met with
   | none => rw [hq] at e; cases e
   | some met1 => rw [hq] at e; exact MetOk.reach hp hm (h.meet hp hm hq) e
  ·simp only [Option.some.injEq] at e; subst e; exact h
theorem MetOk.mem {l : List Tgx} {met : List Int} (h : MetOk l met) {n : Int} (hn : n ∈ met) : n ∈ l.map (·.1) := by
 obtain ⟨t, h1, _⟩ := h.self n hn
 have := zxt h1
 exact List.mem_map.2 ⟨t, this.1, this.2⟩
theorem nodup_sub_len : ∀ {a b : List Int}, a.Nodup → (∀ x ∈ a, x ∈ b) → a.length ≤ b.length
 | [], _, _, _ => Nat.zero_le _
 | x :: a, b, hn, h => by
  rw [List.nodup_cons] at hn
  have hx := h x (by simp)
  have := nodup_sub_len (a := a) (b := b.erase x) hn.2 (fun y hy => by
   have hne : y ≠ x := fun e => hn.1 (e ▸ hy)
   exact (List.mem_erase_of_ne hne).2 (h y (by simp [hy])))
  rw [List.length_erase_of_mem hx] at this
  have hp : 0 < b.length := List.length_pos_of_mem hx
  simp only [List.length_cons]; omega
theorem MetOk.len {l : List Tgx} {met : List Int} (h : MetOk l met) : met.length ≤ l.length := by
 have := nodup_sub_len h.nd (fun x hx => h.mem hx)
 simpa using this
theorem stThings_some {s : Stx} {l : List Tgx} (h : zu3 s = some l) : wholeB s.1 s.2.1 s.2.2.1 = true ∧ zu4 s.1 s.2.1 = some l := by
 unfold zu3 at h
 split at h
 ·rename_i hw; exact ⟨hw, h⟩
 ·cases h
theorem stThings_rng {s : Stx} {l : List Tgx} (h : zu3 s = some l) : l.Pairwise (fun x y => x.1 < y.1) ∧ (∀ t ∈ l, 16 ≤ t.1 ∧ t.1 < 192 ∧ (t.1 / 16).toNat < s.2.1.length ∧ zqt s.1 t.1 = some t) ∧ l.length ≤ 187 := by
 obtain ⟨hw, ht⟩ := stThings_some h
 obtain ⟨a1, a2, a3⟩ := thingsAll_at ht
 have hr := thing_rng hw ht
 have := tableOk_iff (zoo.1 hw).2.1
 exact ⟨a1, fun t htm => ⟨(hr t htm).1, (hr t htm).2.1, (hr t htm).2.2, (a2 t htm).2.1⟩, by omega⟩
structure Hp (s : Stx) (l : List Tgx) : Prop where
 th : zu3 s = some l
 mv : l.all (movOk l s.2.1) = true
theorem Hp.pw {s : Stx} {l : List Tgx} (C : Hp s l) : l.Pairwise (fun x y => x.1 < y.1) := (stThings_rng C.th).1
theorem Hp.rng {s : Stx} {l : List Tgx} (C : Hp s l) : ∀ t ∈ l, 16 ≤ t.1 ∧ t.1 < 192 ∧ (t.1 / 16).toNat < s.2.1.length ∧ zqt s.1 t.1 = some t := (stThings_rng C.th).2.1
theorem Hp.len {s : Stx} {l : List Tgx} (C : Hp s l) : l.length ≤ 187 := (stThings_rng C.th).2.2
theorem Hp.self {s : Stx} {l : List Tgx} (C : Hp s l) {t : Tgx} (ht : t ∈ l) : ∃ k, findT l t.2.1 = some k ∧ k.2.1 = t.2.1 ∧ k.2.2.1 = t.2.2.1 := movOk_self C.pw C.mv ht
theorem Hp.now {s : Stx} {l : List Tgx} (C : Hp s l) {t : Tgx} (ht : t ∈ l) : 16 ≤ t.2.1 ∧ t.2.1 < 192 := by
 obtain ⟨k, h1, _⟩ := C.self ht
 obtain ⟨h2, h3⟩ := zxt h1
 have := C.rng k h2
 omega
theorem Hp.met {s : Stx} {l : List Tgx} (C : Hp s l) {met : List Int} (h : MetOk l met) : met.length ≤ 187 := by
 have := h.len; have := C.len; omega
theorem Hp.refs {s : Stx} {l : List Tgx} (C : Hp s l) {t : Tgx} (ht : t ∈ l) : t.2.2.2.1.length ≤ 4 := by
 obtain ⟨_, h1, _, _, h2, _⟩ := zuo (C.rng t ht).2.2.2
 have := zsz.1 h1
 omega
theorem Hp.push {s : Stx} {l : List Tgx} (C : Hp s l) {met : List Int} (h : MetOk l met) {t : Tgx} (ht : t ∈ l) : MetOk l (if t.2.1 ∈ met then met else met ++ [t.2.1]) := by
 split
 ·exact h
 ·rename_i hc; exact h.push C.pw C.mv ht hc
theorem meetA_len {l : List Tgx} : ∀ {rs met met' : List Int}, meetA l rs met = some met' → met.length ≤ met'.length
 | [], met, met', e => by simp only [meetA, Option.some.injEq] at e; subst e; exact Nat.le_refl _
 | a :: rs, met, met', e => by
  simp only [meetA] at e
  split at e
  ·exact meetA_len e
  ·cases hf : findT l a with
   | none => rw [hf] at e; cases e
   | some t =>
    rw [hf] at e
    dsimp only at e
    have := meetA_len e
    split at this
    ·exact this
    ·simp only [List.length_append, List.length_singleton] at this; omega
theorem meet_loop {s : Stx} {l : List Tgx} (C : Hp s l) {ρ : Type} {rs : List Int} (has : rs.length ≤ lim) {L : Nat → Nat → List Int → Option ρ} {yes : List Int → Option ρ} {no : Option ρ}
  (h0 : ∀ n i met (h : i < rs.length), MetOk l met → w64 ((i : Int) + 1) = ((i + 1 : Nat) : Int) → rs[i] = 0 → L (n + 1) i met = L n (i + 1) met)
  (h1 : ∀ n i met (h : i < rs.length), MetOk l met → rs[i] ≠ 0 → findT l rs[i] = none → L (n + 1) i met = no)
  (h2 : ∀ n i met (h : i < rs.length) t, MetOk l met → w64 ((i : Int) + 1) = ((i + 1 : Nat) : Int) → rs[i] ≠ 0 → findT l rs[i] = some t → t ∈ l → t.2.1 ≠ 0 → met.length + 1 ≤ lim → L (n + 1) i met = L n (i + 1) (if t.2.1 ∈ met then met else met ++ [t.2.1]))
  (h3 : ∀ n met, MetOk l met → L (n + 1) rs.length met = yes met) {n : Nat} (hn : rs.length < n) {met : List Int} (hM : MetOk l met) :
  L n 0 met = match meetA l rs met with | some m => yes m | none => no := by
 have key : ∀ n i met, i ≤ rs.length → rs.length - i < n → MetOk l met → L n i met = match meetA l (rs.drop i) met with | some m => yes m | none => no := by
  intro n
  induction n with
  | zero => intro i met _ h; exact absurd h (Nat.not_lt_zero _)
  | succ n ih =>
   intro i met hi hn hM
   by_cases h : i < rs.length
   ·have hw : w64 ((i : Int) + 1) = ((i + 1 : Nat) : Int) := zyn (by have : lim = 2147483648 := rfl; omega)
    rw [zt6 h]
    simp only [meetA]
    by_cases ha : rs[i] = 0
    ·rw [if_pos ha, h0 n i met h hM hw ha]
     exact ih (i + 1) met (by omega) (by omega) hM
    ·rw [if_neg ha]
     cases hf : findT l rs[i] with
     | none => exact h1 n i met h hM ha hf
     | some t =>
      have ht := (zxt hf).1
      have hl := C.met hM
      rw [h2 n i met h t hM hw ha hf ht (by have := C.now ht; omega) (by rw [zrf]; omega)]
      exact ih (i + 1) _ (by omega) (by omega) (C.push hM ht)
   ·have : i = rs.length := by omega
    subst this
    rw [h3 n met hM]
    simp [meetA]
 simpa using key n 0 met (by omega) (by omega) hM
theorem reach_loop {s : Stx} {l : List Tgx} (C : Hp s l) {ρ : Type} {L : Nat → Nat → List Int → Option ρ} {yes : List Int → Option ρ} {no : Option ρ}
  (h1 : ∀ (n k : Nat) (met : List Int) (h : k < met.length) (t : Tgx), MetOk l met → w64 ((k : Int) + 1) = ((k + 1 : Nat) : Int) → findT l met[k] = some t → t ∈ l → t.2.1 = met[k] → L (n + 1) k met = match meetA l t.2.2.2.1 met with | some m => L n (k + 1) m | none => no)
  (h3 : ∀ n met, MetOk l met → L (n + 1) met.length met = yes met) {n : Nat} (hn : l.length < n) {met : List Int} (hM : MetOk l met) :
  L n 0 met = match zu5 l l.length 0 met with | some m => yes m | none => no := by
 have key : ∀ d n k met, l.length ≤ k + d → d < n → k ≤ met.length → MetOk l met → L n k met = match zu5 l d k met with | some m => yes m | none => no := by
  intro d
  induction d with
  | zero =>
   intro n k met hd hn hk hM
   obtain ⟨n, rfl⟩ : ∃ m, n = m + 1 := ⟨n - 1, by omega⟩
   have := hM.len
   have : k = met.length := by omega
   subst this
   exact h3 n met hM
  | succ d ih =>
   intro n k met hd hn hk hM
   obtain ⟨n, rfl⟩ : ∃ m, n = m + 1 := ⟨n - 1, by omega⟩
   have hl := C.met hM
   simp only [zu5]
   by_cases h : k < met.length
   ·obtain ⟨t, hf, e⟩ := hM.self _ (List.getElem_mem h)
    rw [if_pos h, h1 n k met h t hM (zyn (by omega)) hf (zxt hf).1 e, zzn h]
    have er : refsT l met[k] = t.2.2.2.1 := by simp only [refsT, hf]
    rw [er]
    cases hq : meetA l t.2.2.2.1 met with
    | none => rfl
    | some m =>
     have := meetA_len hq
     exact ih n (k + 1) m (by omega) (by omega) (by omega) (hM.meet C.pw C.mv hq)
   ·have : k = met.length := by omega
    subst this
    rw [if_neg (Nat.lt_irrefl _)]
    exact h3 n met hM
 exact key l.length n 0 met (by omega) hn (by omega) hM
def putA (had : List Int) (a : Int) : List Int := if a = 0 ∨ a ∈ had then had else had ++ [a]
def meetT (l : List Tgx) : List Thr → List Int → Option (List Int)
 | [], met => some met
 | t :: ts, met => if thrOk t = true then (meetA l t.1 met).bind (meetT l ts) else none
def meetP (l : List Tgx) (tb : List Rgx) : List Int → List Int → Option (List Int)
 | [], met => some met
 | a :: rs, met => if pinOk l tb a = true then meetP l tb rs (putA met a) else none
theorem meetT_eq {l : List Tgx} : ∀ (ts : List Thr) (met : List Int), meetT l ts met = if ts.all thrOk = true then meetA l (zvx ts) met else none
 | [], met => rfl
 | t :: ts, met => by
  simp only [meetT, List.all_cons, Bool.and_eq_true]
  by_cases h : thrOk t = true
  ·simp only [h, if_true, true_and]
   have : zvx (t :: ts) = t.1 ++ zvx ts := rfl
   rw [this, zqg]
   by_cases h2 : ts.all thrOk = true
   ·simp only [h2, if_true]
    congr 1
    funext m
    rw [meetT_eq ts m, if_pos h2]
   ·simp only [h2, if_false]
    cases meetA l t.1 met with
    | none => rfl
    | some m => simp only [Option.bind_some]; rw [meetT_eq ts m, if_neg h2]; rfl
  ·simp only [h, if_false, false_and]; rfl
theorem pinOk_some {l : List Tgx} {tb : List Rgx} {a : Int} (h : pinOk l tb a = true) : ∃ t, findT l a = some t ∧ t.2.1 = a ∧ fromB tb a = false := by
 unfold pinOk at h
 cases hf : findT l a with
 | none => rw [hf] at h; cases h
 | some t =>
  rw [hf] at h
  simp only [Bool.and_eq_true, decide_eq_true_eq, Bool.not_eq_true'] at h
  exact ⟨t, rfl, h.1, h.2⟩
theorem meetP_eq {s : Stx} {l : List Tgx} (C : Hp s l) : ∀ (rs met : List Int), meetP l s.2.1 rs met = if rs.all (pinOk l s.2.1) = true then meetA l rs met else none
 | [], met => rfl
 | a :: rs, met => by
  simp only [meetP, List.all_cons, Bool.and_eq_true]
  by_cases h : pinOk l s.2.1 a = true
  ·obtain ⟨t, h1, h2, _⟩ := pinOk_some h
   obtain ⟨h3, h4⟩ := zxt h1
   have := C.rng t h3
   have ha : ¬ a = 0 := by omega
   simp only [h, if_true, true_and, meetA, ha, if_false, h1, h2]
   rw [meetP_eq C rs]
   simp only [putA, ha, false_or]
  ·simp only [h, if_false, false_and]; rfl
theorem heapOf_eq {s : Stx} {l : List Tgx} (C : Hp s l) (hh : headOk s = true) : zu9 s = ((meetT l (stThr s) []).bind fun m => (meetP l s.2.1 (zzo s) m).bind fun m => (zu5 l l.length 0 m).map fun m => (l, m)) := by
 simp only [zu9, C.th, metOf, C.mv, hh, Bool.true_and, meetT_eq, meetP_eq C]
 by_cases h1 : (stThr s).all thrOk = true
 ·simp only [h1, Bool.true_and, if_true]
  by_cases h2 : (zzo s).all (pinOk l s.2.1) = true
  ·simp only [h2, if_true, zqg]
   cases meetA l (zvx (stThr s)) [] with
   | none => rfl
   | some m =>
    simp only [Option.bind_some]
    cases meetA l (zzo s) m with
    | none => rfl
    | some m => rfl
  ·simp only [h2, if_false]
   cases meetA l (zvx (stThr s)) [] <;> rfl
 ·simp only [h1, Bool.false_and, if_false]; rfl
theorem stWf2 {s : Stx} (l : lnT tState s) : (stThr s).length ≤ 1048576 ∧ (∀ t ∈ stThr s, t.1.length ≤ 1048576) ∧ (zzo s).length ≤ 1048576 := by
 have h := l.2.2.2.2.2.2.2.2.1
 exact ⟨h.1, fun t ht => (h.2 t ht).1.1, l.2.2.2.2.2.2.2.2.2.2.1.1⟩
section
variable {N : Nat} (hN : lim < N)
include hN
theorem sl6Find_ok {l : List Tgx} {a : Int} (hl : l.length ≤ 1048576) : ztk N (l, a, ()) = some (match l.findIdx? (fun t => decide (t.1 = a)) with | some i => (i : Int) | none => -1, ()) := by
 have hlim : lim = 2147483648 := rfl
 have hL := find_loop (xs := l) (n := N) (fun t => decide (t.1 = a)) (L := fun n i => zu7 N n (l, a, (i : Int), ())) (yes := fun i => .inr ((i : Int), ())) (no := .inl ()) (by omega)
  (fun n i h hw hq => by
   have : ¬ l[i].1 = a := by simpa using hq
   simp [zu7, h, hw, this])
  (fun n i h hq => by
   have : l[i].1 = a := by simpa using hq
   simp [zu7, h, this])
  (fun n => by simp [zu7]) (by omega)
 simp only [Int.natCast_zero] at hL
 simp only [ztk, hL, Option.bind_some]
 cases l.findIdx? (fun t => decide (t.1 = a)) <;> rfl
theorem sFind_none {l : List Tgx} {a : Int} (hl : l.length ≤ 1048576) (h : findT l a = none) : ztk N (l, a, ()) = some (-1, ()) := by
 unfold findT at h
 rw [find_of_idx] at h
 rw [sl6Find_ok hN hl]
 cases hf : l.findIdx? (fun t => decide (t.1 = a)) with
 | none => rfl
 | some k =>
  obtain ⟨hk, _, _⟩ := List.findIdx?_eq_some_iff_getElem.1 hf
  rw [hf] at h
  simp [hk] at h
theorem zrz {l : List Tgx} {a : Int} {t : Tgx} (hl : l.length ≤ 1048576) (h : findT l a = some t) : ∃ (k : Nat) (hk : k < l.length), l[k] = t ∧ ztk N (l, a, ()) = some ((k : Int), ()) := by
 unfold findT at h
 rw [find_of_idx] at h
 rw [sl6Find_ok hN hl]
 cases hf : l.findIdx? (fun t => decide (t.1 = a)) with
 | none => rw [hf] at h; cases h
 | some k =>
  obtain ⟨hk, _, _⟩ := List.findIdx?_eq_some_iff_getElem.1 hf
  rw [hf] at h
  simp only [Option.bind_some, List.getElem?_eq_getElem hk, Option.some.injEq] at h
  exact ⟨k, hk, h, rfl⟩
theorem sNow_zero {l : List Tgx} : zqm N (l, 0, ()) = some (0, ()) := by
 simp [zqm]
theorem sNow_some {l : List Tgx} {a : Int} {t : Tgx} (hl : l.length ≤ 1048576) (ha : a ≠ 0) (h : findT l a = some t) : zqm N (l, a, ()) = some (t.2.1, ()) := by
 obtain ⟨k, hk, h1, h2⟩ := zrz hN hl h
 simp only [zqm, zu0, ha, if_false, h2, Option.bind_some, Int.natCast_nonneg, Int.toNat_natCast, hk, decide_true, cond_true, zzn hk, h1]
theorem sPlace_ok {xs : List Int} {r : Int} (hl : xs.length ≤ 1048576) : zty N (xs, r, ()) = some (match xs.findIdx? (fun x => decide (x = r)) with | some i => (i : Int) | none => -1, ()) := by
 have hlim : lim = 2147483648 := rfl
 have hL := find_loop (xs := xs) (n := N) (fun x => decide (x = r)) (L := fun n i => zv7 N n (xs, r, (i : Int), ())) (yes := fun i => .inr ((i : Int), ())) (no := .inl ()) (by omega)
  (fun n i h hw hq => by
   simp at hq
   simp [zv7, h, hw, hq])
  (fun n i h hq => by
   simp at hq
   simp [zv7, h, hq])
  (fun n => by simp [zv7]) (by omega)
 simp only [Int.natCast_zero] at hL
 simp only [zty, hL, Option.bind_some]
 cases xs.findIdx? (fun x => decide (x = r)) <;> rfl
theorem sPlace_in {xs : List Int} {r : Int} (hl : xs.length ≤ 1048576) (h : r ∈ xs) : ∃ (k : Nat) (hk : k < xs.length), xs[k] = r ∧ zty N (xs, r, ()) = some ((k : Int), ()) := by
 rw [sPlace_ok hN hl]
 cases hf : xs.findIdx? (fun x => decide (x = r)) with
 | none => rw [List.findIdx?_eq_none_iff] at hf; have := hf r h; simp at this
 | some k =>
  obtain ⟨hk, h1, _⟩ := List.findIdx?_eq_some_iff_getElem.1 hf
  exact ⟨k, hk, by simpa using h1, rfl⟩
theorem sPlace_not {xs : List Int} {r : Int} (hl : xs.length ≤ 1048576) (h : r ∉ xs) : zty N (xs, r, ()) = some (-1, ()) := by
 rw [sPlace_ok hN hl]
 cases hf : xs.findIdx? (fun x => decide (x = r)) with
 | none => rfl
 | some k =>
  obtain ⟨hk, h1, _⟩ := List.findIdx?_eq_some_iff_getElem.1 hf
  have : xs[k] = r := by simpa using h1
  exact absurd (this ▸ List.getElem_mem hk) h
theorem sPut_ok {had : List Int} {a : Int} (hl : had.length ≤ 1048576) : Fsl6Put N (a, had, ()) = some (putA had a, ()) := by
 have hlim : lim = 2147483648 := rfl
 unfold Fsl6Put putA
 by_cases ha : a = 0
 ·simp [ha]
 ·by_cases hm : a ∈ had
  ·obtain ⟨k, hk, _, e⟩ := sPlace_in hN hl hm
   have : (k : Int) ≥ 0 := by omega
   simp only [zu0, ha, if_false, e, Option.bind_some, this, decide_true, cond_true, Sum.elim_inr, hm, or_true, if_true]
  ·have l1 : had.length + [a].length ≤ lim := by simp only [List.length_singleton]; omega
   simp only [zu0, ha, if_false, sPlace_not hN hl hm, Option.bind_some, show decide ((-1 : Int) ≥ 0) = false from rfl, cond_false, Sum.elim_inl, l1, decide_true, cond_true, hm, or_self]
end
section
variable {N : Nat}
theorem sWordsOk_ok {w : List Int} (hl : w.length ≤ 1048576) : FsWordsOk N (w, ()) = some (zsn w, ()) := by
 unfold FsWordsOk zsn
 dsimp only
 have e1 : w64 (Int.tdiv (w.length : Int) 16) = ((w.length / 16 : Nat) : Int) := by
  rw [Int.tdiv_eq_ediv_of_nonneg (by omega), zyy (by omega) (by omega)]; omega
 have e2 : Int.tmod (w.length : Int) 16 = ((w.length % 16 : Nat) : Int) := by rw [Int.tmod_eq_emod_of_nonneg (by omega)]; omega
 simp only [e1, e2, show decide ((16 : Int) = 0) = false from rfl, cond_false, zu0]
 by_cases h : w.length % 16 = 0
 ·have h1 : ((w.length % 16 : Nat) : Int) = 0 := by omega
  have h2 : decide (((w.length / 16 : Nat) : Int) ≥ 2) = decide (32 ≤ w.length) := by by_cases h3 : 32 ≤ w.length <;> simp [h3] <;> omega
  have h4 : decide (((w.length / 16 : Nat) : Int) ≤ 12) = decide (w.length ≤ 192) := by by_cases h3 : w.length ≤ 192 <;> simp [h3] <;> omega
  rw [if_pos h1, h2, h4]
  cases decide (32 ≤ w.length) <;> simp [h]
 ·have h1 : ¬ ((w.length % 16 : Nat) : Int) = 0 := by omega
  rw [if_neg h1]
  simp [h]
theorem sRegionOf_ok {a : Int} (h : a < 9223372036854775808) : ztx N (a, ()) = some (regOf a, ()) := by
 unfold ztx regOf
 dsimp only
 by_cases h0 : a < 0
 ·simp [h0]
 ·have e1 : w64 (Int.tdiv a 16) = a / 16 := by
   rw [Int.tdiv_eq_ediv_of_nonneg (by omega), zyy (by omega) (by omega)]
  simp only [h0, decide_false, cond_false, show decide ((16 : Int) = 0) = false from rfl, e1, if_false]
theorem sl3Fits_ok {w : List Int} {a n : Int} (hl : w.length ≤ 1048576) : Fsl3Fits N (w, a, n, ()) = some (fitsB w a n, ()) := by
 unfold Fsl3Fits fitsB
 simp only [sWordsOk_ok hl, Option.bind_some]
 cases hw : zsn w with
 | false => simp
 | true =>
  by_cases h1 : 1 ≤ n
  ·have h1' : n > 0 := by omega
   by_cases h2 : n ≤ 16
   ·by_cases h3 : 16 ≤ a
    ·by_cases h4 : a < (w.length : Int)
     ·have e1 := sRegionOf_ok (N := N) (a := a) (by omega)
      have e2 := sRegionOf_ok (N := N) (a := a + n - 1) (by omega)
      have e3 : w64 (a + n) = a + n := zyy (by omega) (by omega)
      have e4 : w64 (a + n - 1) = a + n - 1 := zyy (by omega) (by omega)
      simp only [h1, h1', h2, h3, h4, ge_iff_le, e1, e2, e3, e4, decide_true, cond_true, Option.bind_some, Bool.true_and]
      have h5 : (regOf a == regOf (a + n - 1)) = decide (a % 16 + n ≤ 16) := by
       have n1 : ¬ a < 0 := by omega
       have n2 : ¬ a + n - 1 < 0 := by omega
       simp only [regOf, n1, n2, if_false]
       by_cases h6 : a % 16 + n ≤ 16
       ·have : a / 16 = (a + n - 1) / 16 := by omega
        simp [h6, this]
       ·have : ¬ a / 16 = (a + n - 1) / 16 := by omega
        simp [h6, this]
      rw [h5]
     ·simp [h1, h1', h2, h3, h4]
    ·simp [h1, h1', h2, h3]
   ·have : ¬ a % 16 + n ≤ 16 := by omega
    simp [h1', h2, this]
  ·have h1' : ¬ n > 0 := by omega
   simp [h1, h1']
theorem sShapeOk_ok {s : Shx} : FsShapeOk N (s, ()) = some (shOk s, ()) := by
 unfold FsShapeOk shOk
 dsimp only
 by_cases h1 : 0 ≤ s.1 <;> by_cases h2 : s.1 ≤ 4 <;> by_cases h3 : 0 ≤ s.2.1 <;> simp [h1, h2, h3]
theorem sShapeSize_ok {s : Shx} : zql N (s, ()) = some (shSz s, ()) := by
 unfold zql shSz
 simp only [sShapeOk_ok, Option.bind_some]
 cases h : shOk s with
 | false => simp
 | true =>
  have := zsz.1 h
  have e1 : w64 (2 + s.1) = 2 + s.1 := zyy (by omega) (by omega)
  have e2 : w64 (2 + s.1 + s.2.1) = 2 + s.1 + s.2.1 := zyy (by omega) (by omega)
  simp only [Bool.not_true, cond_false, e1, e2, if_true]
theorem sShapeWord_ok {s : Shx} : zod N (s, ()) = some (shWd s, ()) := by
 unfold zod shWd
 simp only [sShapeOk_ok, Option.bind_some]
 cases h : shOk s with
 | false => simp
 | true =>
  have := zsz.1 h
  have e1 : w64 (16 * s.1) = 16 * s.1 := zyy (by omega) (by omega)
  have e2 : w64 (16 * s.1 + s.2.1) = 16 * s.1 + s.2.1 := zyy (by omega) (by omega)
  simp only [Bool.not_true, cond_false, e1, e2, if_true]
end
section
variable {N : Nat} (hN : lim < N)
theorem sRegionBase_ok {r : Int} : ztv N (r, ()) = some (regBase r, ()) := by
 unfold ztv regBase
 dsimp only
 by_cases h1 : r < 0
 ·simp [h1]
 ·by_cases h2 : r ≥ 12
  ·simp only [h1, h2, decide_true, decide_false, cond_true, cond_false, or_true, if_true]
  ·have e : w64 (r * 16) = 16 * r := by rw [zyy (by omega) (by omega)]; omega
   simp only [h1, h2, decide_false, cond_false, or_self, if_false, e]
include hN
end
section
variable {N : Nat} (hN : lim < N)
include hN
theorem sShapeOf_ok {w : Int} (hw : w < 9223372036854775808) (hw' : -9223372036854775808 ≤ w) : FsShapeOf N (w, ()) = some (match shOf w with | some s => (s.1, s.2.1, true, ()) | none => (0, 0, false, ())) := by
 have hlim : lim = 2147483648 := rfl
 have wd : ∀ r m : Int, 0 ≤ r → r ≤ 4 → 0 ≤ m → m ≤ 4 → zod N ((r, m, ()), ()) = some (16 * r + m, ()) := by
  intro r m h1 h2 h3 h4
  rw [sShapeWord_ok, shWd, if_pos (zsz.2 ⟨h1, h2, h3, h4⟩)]
 have L2 : ∀ (n k : Nat) (r : Int), 0 ≤ r → r ≤ 4 → k ≤ 5 → 5 - k < n → zto N n (w, r, (k : Int), 0, 0, ()) = some (if 16 * r + k ≤ w ∧ w ≤ 16 * r + 4 then .inr (true, r, w - 16 * r, ()) else .inl (w, r, 0, 0, ())) := by
  intro n
  induction n with
  | zero => intro k r _ _ _ h; exact absurd h (Nat.not_lt_zero _)
  | succ n ih =>
   intro k r h0 h4 hk hn
   unfold zto
   dsimp only
   by_cases h : (k : Int) ≤ 4
   ·have e := wd r k h0 h4 (by omega) h
    have e1 : w64 ((k : Int) + 1) = ((k + 1 : Nat) : Int) := zyn (by omega)
    simp only [h, decide_true, cond_true, e, Option.bind_some, zu0, e1]
    by_cases hq : 16 * r + (k : Int) = w
    ·rw [if_pos hq, if_pos (by omega)]
     have : w - 16 * r = (k : Int) := by omega
     rw [this]
    ·rw [if_neg hq, ih (k + 1) r h0 h4 (by omega) (by omega)]
     by_cases hc : 16 * r + (k : Int) ≤ w ∧ w ≤ 16 * r + 4
     ·rw [if_pos hc, if_pos (by omega)]
     ·rw [if_neg hc, if_neg (by omega)]
   ·have : k = 5 := by omega
    subst this
    rw [if_neg (by omega)]
    simp
 have L0 : ∀ (n k : Nat), k ≤ 5 → 5 - k < n → ztn N n (w, (k : Int), 0, 0, ()) = some (match (if 16 * (k : Int) ≤ w then shOf w else none) with | some s => .inr (true, s.1, s.2.1, ()) | none => .inl (0, 0, ())) := by
  intro n
  induction n with
  | zero => intro k _ h; exact absurd h (Nat.not_lt_zero _)
  | succ n ih =>
   intro k hk hn
   unfold ztn
   dsimp only
   by_cases h : (k : Int) ≤ 4
   ·have e := L2 N 0 (k : Int) (by omega) h (by omega) (by omega)
    have e1 : w64 ((k : Int) + 1) = ((k + 1 : Nat) : Int) := zyn (by omega)
    simp only [Int.natCast_zero, Int.add_zero] at e
    simp only [h, decide_true, cond_true, e, Option.bind_some]
    by_cases hc : 16 * (k : Int) ≤ w ∧ w ≤ 16 * (k : Int) + 4
    ·have e2 : shOf w = some ((k : Int), w - 16 * (k : Int), ()) := by
      unfold shOf
      rw [if_pos (by omega)]
      have : w / 16 = (k : Int) := by omega
      have : w % 16 = w - 16 * (k : Int) := by omega
      simp [*]
     rw [if_pos hc, if_pos hc.1, e2]
     rfl
    ·rw [if_neg hc]
     simp only [Sum.elim_inl, e1]
     rw [ih (k + 1) (by omega) (by omega)]
     by_cases h2 : 16 * (k : Int) ≤ w
     ·rw [if_pos h2]
      by_cases h3 : 16 * ((k + 1 : Nat) : Int) ≤ w
      ·rw [if_pos h3]
      ·have : shOf w = none := by unfold shOf; rw [if_neg (by omega)]
       rw [if_neg h3, this]
     ·rw [if_neg h2, if_neg (by omega)]
   ·have : k = 5 := by omega
    subst this
    have : (if 16 * ((5 : Nat) : Int) ≤ w then shOf w else none) = none := by
     split
     ·unfold shOf; rw [if_neg (by omega)]
     ·rfl
    rw [this]
    simp
 have := L0 N 0 (by omega) (by omega)
 simp only [Int.natCast_zero, Int.mul_zero] at this
 have e : (if (0 : Int) ≤ w then shOf w else none) = shOf w := by
  split
  ·rfl
  ·unfold shOf; rw [if_neg (by omega)]
 rw [e] at this
 simp only [FsShapeOf, this, Option.bind_some]
 cases shOf w <;> rfl
theorem sThingAt_ok {w : List Int} {a : Int} (hl : w.length ≤ 1048576) (hw : ∀ x ∈ w, -9223372036854775808 ≤ x ∧ x < 9223372036854775808) :
  FsThingAt N (w, a, ()) = some (match zqt w a with | some t => (t.1, t.2.1, t.2.2.1.1, t.2.2.1.2.1, true, t.2.2.2.1, t.2.2.2.2.1, ()) | none => (0, 0, 0, 0, false, [], [], ())) := by
 have hlim : lim = 2147483648 := rfl
 unfold FsThingAt zqt
 simp only [sl3Fits_ok hl, Option.bind_some]
 cases hf : fitsB w a 2 with
 | false => simp
 | true =>
  obtain ⟨f1, f2, f3, f4, f5⟩ := fitsB_iff.1 hf
  obtain ⟨g1, g2, g3⟩ := fits_room hf
  have e1 : w64 (a + 1) = a + 1 := zyy (by omega) (by omega)
  have p1 : (0 : Int) ≤ a + 1 := by omega
  have p2 : (a + 1).toNat < w.length := by omega
  have hx := hw _ (List.getElem_mem p2)
  rw [← zzn (d := 0) p2] at hx
  simp only [Bool.not_true, cond_false, e1, p1, p2, decide_true, cond_true, sShapeOf_ok hN hx.2 hx.1, Option.bind_some, if_true]
  cases hs : shOf (w.getD (a + 1).toNat 0) with
  | none => simp
  | some s =>
   obtain ⟨h1, _⟩ := shOf_some hs
   have h2 := zsz.1 h1
   obtain ⟨sr, sm, ⟨⟩⟩ := s
   dsimp only at h2 ⊢
   simp only [Bool.not_true, cond_false, sShapeSize_ok, Option.bind_some]
   cases hf2 : fitsB w a (shSz (sr, sm, ())) with
   | false => simp
   | true =>
    obtain ⟨q1, q2, q3⟩ := fits_room hf2
    have h3 : shSz (sr, sm, ()) = 2 + sr + sm := by unfold shSz; rw [if_pos h1]
    obtain ⟨r, rfl⟩ := Int.eq_ofNat_of_zero_le h2.1
    obtain ⟨m, rfl⟩ := Int.eq_ofNat_of_zero_le h2.2.2.1
    obtain ⟨b, rfl⟩ := Int.eq_ofNat_of_zero_le (show 0 ≤ a by omega)
    have p3 : b < w.length := by omega
    have hL0 := push_loop (m := r) (fun i => w.getD (b + 2 + i) 0) (L := fun n i s => zuf N n (w, (b : Int), (i : Int), 0, 0, 0, 0, (r : Int), (m : Int), (b : Int), w.getD b 0, (r : Int), (m : Int), s, [], ()))
     (fin := fun s => (w, (b : Int), 0, 0, 0, 0, (r : Int), (m : Int), (b : Int), w.getD b 0, (r : Int), (m : Int), s, [], ())) (by omega)
     (fun n i s h hs hw => by
      have h' : (i : Int) < (r : Int) := by omega
      have e2 : w64 ((b : Int) + 2) = (b : Int) + 2 := zyy (by omega) (by omega)
      have e3 : w64 ((b : Int) + 2 + (i : Int)) = ((b + 2 + i : Nat) : Int) := by rw [zyy (by omega) (by omega)]; omega
      have p4 : b + 2 + i < w.length := by omega
      have l : s.length + [w.getD (b + 2 + i) 0].length ≤ lim := by simpa using hs
      simp only [zuf, h', decide_true, cond_true, e2, e3, Int.natCast_nonneg, Int.toNat_natCast, p4, l, hw])
     (fun n s => by simp [zuf]) N 0 [] (by omega) (by omega) (by simp; omega)
    have hL2 := fun S => push_loop (m := m) (fun i => w.getD (b + 2 + r + i) 0) (L := fun n i s => zug N n (w, (b : Int), (i : Int), 0, 0, 0, 0, (r : Int), (m : Int), (b : Int), w.getD b 0, (r : Int), (m : Int), S, s, ()))
     (fin := fun s => (0, 0, 0, 0, (b : Int), w.getD b 0, (r : Int), (m : Int), S, s, ())) (by omega)
     (fun n i s h hs hw => by
      have h' : (i : Int) < (m : Int) := by omega
      have e2 : w64 ((b : Int) + 2) = (b : Int) + 2 := zyy (by omega) (by omega)
      have e4 : w64 ((b : Int) + 2 + (r : Int)) = (b : Int) + 2 + (r : Int) := zyy (by omega) (by omega)
      have e3 : w64 ((b : Int) + 2 + (r : Int) + (i : Int)) = ((b + 2 + r + i : Nat) : Int) := by rw [zyy (by omega) (by omega)]; omega
      have p4 : b + 2 + r + i < w.length := by omega
      have l : s.length + [w.getD (b + 2 + r + i) 0].length ≤ lim := by simpa using hs
      simp only [zug, h', decide_true, cond_true, e2, e4, e3, Int.natCast_nonneg, Int.toNat_natCast, p4, l, hw])
     (fun n s => by simp [zug]) N 0 [] (by omega) (by omega) (by simp; omega)
    have er := range_get (w := w) r (b + 2) 0 (by omega)
    have em := range_get (w := w) m (b + 2 + r) 0 (by omega)
    simp only [Nat.add_zero] at er em
    simp only [Int.natCast_zero, Nat.sub_zero, List.nil_append, er, em] at hL0 hL2
    simp only [Bool.not_true, cond_false, Option.bind_some, Sum.elim_inl, Int.natCast_nonneg, Int.toNat_natCast, p3, decide_true, cond_true, hL0, hL2, if_true]
theorem sThings_loop {w : List Int} {top : Int} (hl : w.length ≤ 1048576) (hw : ∀ x ∈ w, -9223372036854775808 ≤ x ∧ x < 9223372036854775808) (ht : top ≤ 208) : ∀ (k n : Nat) (a : Int) (acc : List Tgx), 0 ≤ a → (top - a).toNat < 2 * k → k ≤ n → acc.length + k ≤ 1048576 →
  zum N n (w, top, a, acc, ()) = some (match zwh w top k a with | some l => .inl (acc ++ l, ()) | none => .inr (false, [], ()))
 | 0, _, _, _, _, h, _, _ => absurd h (Nat.not_lt_zero _)
 | k + 1, 0, _, _, _, _, h, _ => absurd h (by omega)
 | k + 1, n + 1, a, acc, h0, hk, hn, hacc => by
  have hlim : lim = 2147483648 := rfl
  unfold zum zwh
  dsimp only
  by_cases h : a < top
  ·simp only [h, decide_true, cond_true, sThingAt_ok hN hl hw, Option.bind_some, if_true]
   cases hta : zqt w a with
   | none => simp
   | some t =>
    obtain ⟨e1, e2, e3, e4, e5, e6, e7, e8⟩ := zuo hta
    obtain ⟨t1, t2, ⟨t3, t4, ⟨⟩⟩, t5, t6, ⟨⟩⟩ := t
    have e9 : 2 ≤ shSz (t3, t4, ()) ∧ shSz (t3, t4, ()) ≤ 10 := ⟨e7, e8⟩
    clear e3 e5 e6 e7 e8
    dsimp only at e1 e2 ⊢
    have w1 : w64 (a + shSz (t3, t4, ())) = a + shSz (t3, t4, ()) := zyy (by omega) (by omega)
    simp only [Bool.not_true, cond_false, sShapeSize_ok, Option.bind_some, w1]
    by_cases hgt : a + shSz (t3, t4, ()) > top
    ·simp only [hgt, decide_true, cond_true, Option.bind_some, Sum.elim_inr, if_true]
    ·have l : acc.length + [((t1, t2, (t3, t4, ()), t5, t6, ()) : Tgx)].length ≤ lim := by simp only [List.length_cons, List.length_nil]; omega
     have ih := sThings_loop hl hw ht k n (a + shSz (t3, t4, ())) (acc ++ [(t1, t2, (t3, t4, ()), t5, t6, ())]) (by omega) (by omega) (by omega) (by simp only [List.length_append, List.length_cons, List.length_nil]; omega)
     simp only [hgt, decide_false, cond_false, Option.bind_some, Sum.elim_inl, l, decide_true, cond_true, w1, ih, if_false]
     cases zwh w top k (a + shSz (t3, t4, ())) <;> simp
  ·simp only [h, decide_false, cond_false, if_false, List.append_nil]
theorem sThingsIn_ok {w : List Int} {r top : Int} (hl : w.length ≤ 1048576) (hw : ∀ x ∈ w, -9223372036854775808 ≤ x ∧ x < 9223372036854775808) :
  FsThingsIn N (w, r, top, ()) = some (match thingsIn w r top with | some l => (true, l, ()) | none => (false, [], ())) := by
 have hlim : lim = 2147483648 := rfl
 unfold FsThingsIn thingsIn
 simp only [sWordsOk_ok hl, Option.bind_some]
 cases hwo : zsn w with
 | false => simp
 | true =>
  have hwo' := wordsOk_iff.1 hwo
  have e1 : w64 (Int.tdiv (w.length : Int) 16) = ((w.length / 16 : Nat) : Int) := by
   rw [Int.tdiv_eq_ediv_of_nonneg (by omega), zyy (by omega) (by omega)]; omega
  by_cases h1 : r < 1
  ·have : ¬ 1 ≤ r := by omega
   simp [h1, this]
  ·have h1' : 1 ≤ r := by omega
   by_cases h2 : r ≥ ((w.length / 16 : Nat) : Int)
   ·have : ¬ r < ((w.length / 16 : Nat) : Int) := by omega
    simp only [h1, h1', h2, this, e1, Bool.not_true, cond_false, decide_true, decide_false, cond_true, show decide ((16 : Int) = 0) = false from rfl, Option.bind_some, Sum.elim_inr, and_false, false_and, true_and, if_false]
   ·have h2' : r < ((w.length / 16 : Nat) : Int) := by omega
    have e2 : regBase r = 16 * r := by unfold regBase; rw [if_neg (by omega)]
    have e3 : w64 (16 * r + 16) = 16 * r + 16 := zyy (by omega) (by omega)
    simp only [h1, h1', h2, h2', e1, e2, e3, Bool.not_true, cond_false, decide_true, decide_false, cond_true, show decide ((16 : Int) = 0) = false from rfl, sRegionBase_ok, Option.bind_some, true_and]
    by_cases h3 : top < 16 * r
    ·have : ¬ 16 * r ≤ top := by omega
     simp only [h3, this, decide_true, cond_true, Option.bind_some, Sum.elim_inr, false_and, if_false]
    ·have h3' : 16 * r ≤ top := by omega
     by_cases h4 : top > 16 * r + 16
     ·have : ¬ top ≤ 16 * r + 16 := by omega
      simp only [h3, h4, this, decide_true, decide_false, cond_true, cond_false, Option.bind_some, Sum.elim_inr, and_false, if_false]
     ·have h4' : top ≤ 16 * r + 16 := by omega
      have hL := sThings_loop hN (top := top) hl hw (by omega) 17 N (16 * r) [] (by omega) (by omega) (by omega) (by simp)
      simp only [h3, h3', h4, h4', decide_false, cond_false, Option.bind_some, Sum.elim_inl, e2, hL, and_self, if_true, List.nil_append]
      cases zwh w top 17 (16 * r) <;> rfl
theorem sl6Things_ok {s : Stx} (hl : s.1.length ≤ 1048576) (hw : ∀ x ∈ s.1, -9223372036854775808 ≤ x ∧ x < 9223372036854775808) (ht : s.2.1.length ≤ 1048576) :
  zoe N (s, ()) = some (match zu4 s.1 s.2.1 with | some l => (true, l, ()) | none => (false, [], ())) := by
 have hlim : lim = 2147483648 := rfl
 have key : ∀ (k n i : Nat) (acc : List Tgx), 1 ≤ i → s.2.1.length ≤ i + k → (i ≤ s.2.1.length ∨ k = 0) → (k = 0 ∨ i + k = s.2.1.length) → k < n → acc.length + 17 * k ≤ 100000000 →
   zvc N n (s, (i : Int), acc, ()) = some (match zts s.1 s.2.1 k i with | some l => .inl (acc ++ l, ()) | none => .inr (false, [], ())) := by
  intro k
  induction k with
  | zero =>
   intro n i acc hi hlen _ _ hn _
   obtain ⟨n, rfl⟩ : ∃ n', n = n' + 1 := ⟨n - 1, by omega⟩
   have : ¬ (i : Int) < (s.2.1.length : Int) := by omega
   simp [zvc, this, zts]
  | succ k ih =>
   intro n i acc hi hlen h1 h2 hn hacc
   obtain ⟨n, rfl⟩ : ∃ n', n = n' + 1 := ⟨n - 1, by omega⟩
   have hlt : i < s.2.1.length := by omega
   have hlt' : (i : Int) < (s.2.1.length : Int) := by omega
   have e1 : w64 ((i : Int) + 1) = ((i + 1 : Nat) : Int) := zyn (by omega)
   unfold zvc zts
   dsimp only
   simp only [hlt', hlt, decide_true, cond_true, Int.natCast_nonneg, Int.toNat_natCast, sThingsIn_ok hN hl hw, Option.bind_some]
   have eg : s.2.1.getD i (0, 0, 0, 0, 0, ()) = s.2.1.getD i rg0 := rfl
   rw [eg]
   cases hti : thingsIn s.1 (i : Int) (s.2.1.getD i rg0).2.2.1 with
   | none => simp
   | some l =>
    have hll := (thingsIn_at hti).2.2.1
    have l1 : acc.length + l.length ≤ lim := by omega
    have ih := ih n (i + 1) (acc ++ l) (by omega) (by omega) (by omega) (by omega) (by omega) (by simp only [List.length_append]; omega)
    simp only [Bool.not_true, cond_false, l1, decide_true, cond_true, e1, ih]
    cases zts s.1 s.2.1 k (i + 1) <;> simp
 have := key (s.2.1.length - 1) N 1 [] (by omega) (by omega) (by omega) (by omega) (by omega) (by simp; omega)
 simp only [Int.natCast_one] at this
 unfold zoe zu4
 simp only [this, Option.bind_some, List.nil_append]
 cases zts s.1 s.2.1 (s.2.1.length - 1) 1 <;> rfl
end
section
variable {N : Nat} (hN : lim < N)
include hN
theorem sOwners_loop {t : List Rgx} {k tp ta lv : Int} {i : Nat} {o : Int} (hi : i < t.length) (hl : t.length ≤ 12) : ∀ (n j : Nat), 1 ≤ j → j ≤ i → i - j < n →
  zue N n (t, (i : Int), (j : Int), k, o, tp, ta, lv, ()) = some (if 0 ≤ o ∧ (((t.take i).drop j).any fun x => decide (x.2.1 = o)) = true then .inr (false, ()) else .inl (t, (i : Int), ()))
 | 0, _, _, _, h => absurd h (Nat.not_lt_zero _)
 | n + 1, j, h1, hj, hn => by
  unfold zue
  dsimp only
  by_cases h : j < i
  ·have h' : (j : Int) < (i : Int) := by omega
   have e1 : w64 ((j : Int) + 1) = ((j + 1 : Nat) : Int) := zyn (by omega)
   have ih := sOwners_loop (k := k) (tp := tp) (ta := ta) (lv := lv) (o := o) hi hl n (j + 1) (by omega) (by omega) (by omega)
   have hjt : j < t.length := by omega
   have ed : ((t.take i).drop j) = t[j] :: (t.take i).drop (j + 1) := by
    rw [zt6 (by simp; omega)]
    simp
   have eg : t.getD j (0, 0, 0, 0, 0, ()) = t[j] := zzn hjt
   rw [ed]
   simp only [h', decide_true, cond_true, Int.natCast_nonneg, Int.toNat_natCast, hjt, eg, e1, ih, List.any_cons, zu0]
   by_cases ho : o ≥ 0
   ·have ho' : 0 ≤ o := ho
    simp only [ho, ho', decide_true, cond_true, true_and]
    by_cases he : t[j].2.1 = o
    ·simp [he]
    ·simp only [he, if_false, decide_false, Bool.false_or]
   ·have ho' : ¬ 0 ≤ o := ho
    simp only [ho, ho', decide_false, cond_false, false_and, if_false]
  ·have : j = i := by omega
   subst this
   have : (t.take j).drop j = [] := List.drop_eq_nil_of_le (by simp; omega)
   simp [this]
theorem sTable_loop {t : List Rgx} (hl : t.length ≤ 12) (hx : ∀ x ∈ t, -9223372036854775808 ≤ x.2.1 ∧ x.2.1 < 9223372036854775808) : ∀ (k n i : Nat), 1 ≤ i → i + k = t.length → k < n → zud N n (t, (i : Int), ()) = some (if tblGo t k i = true then .inl () else .inr (false, ()))
 | 0, n, i, _, he, hn => by
  obtain ⟨n, rfl⟩ : ∃ n', n = n' + 1 := ⟨n - 1, by omega⟩
  have : ¬ (i : Int) < (t.length : Int) := by omega
  simp [zud, this, tblGo]
 | c + 1, n, i, h1, he, hn => by
  obtain ⟨n, rfl⟩ : ∃ n', n = n' + 1 := ⟨n - 1, by omega⟩
  have hlim : lim = 2147483648 := rfl
  have hlt : i < t.length := by omega
  have hlt' : (i : Int) < (t.length : Int) := by omega
  have e1 : w64 ((i : Int) + 1) = ((i + 1 : Nat) : Int) := zyn (by omega)
  have eb : regBase (i : Int) = 16 * (i : Int) := by unfold regBase; rw [if_neg (by omega)]
  have eg : t.getD i (0, 0, 0, 0, 0, ()) = t.getD i rg0 := rfl
  have ih := sTable_loop hl hx c n (i + 1) (by omega) (by omega) (by omega)
  unfold zud tblGo
  dsimp only
  simp only [hlt', hlt, decide_true, cond_true, Int.natCast_nonneg, Int.toNat_natCast, eg, sRegionBase_ok, eb, Option.bind_some]
  have hiff := rowOk_iff (i := i) (x := t.getD i rg0)
  have ow := fun k tp ta lv o => sOwners_loop hN (t := t) (k := k) (tp := tp) (ta := ta) (lv := lv) (i := i) (o := o) hlt hl N 1 (by omega) h1 (by omega)
  simp only [Int.natCast_one] at ow
  have hho : hadO t i (t.getD i rg0).2.1 = (((t.take i).drop 1).any fun x => decide (x.2.1 = (t.getD i rg0).2.1)) := rfl
  rw [hho]
  generalize t.getD i rg0 = x at hiff ⊢
  obtain ⟨k, o, tp, ta, lv, ⟨⟩⟩ := x
  dsimp only at hiff ⊢
  generalize rowOk i (k, o, tp, ta, lv, PUnit.unit) = rv at hiff ⊢
  have no : ¬ (rv = true) → rv = false := by simp
  have w1 : w64 (16 * (i : Int) + 16) = 16 * (i : Int) + 16 := zyy (by omega) (by omega)
  simp only [w1]
  by_cases g1 : k < 1
  ·rw [no (by rw [hiff]; omega)]; simp [g1]
  by_cases g2 : k > 4
  ·rw [no (by rw [hiff]; omega)]; simp [g1, g2]
  by_cases g3 : tp < 16 * (i : Int)
  ·rw [no (by rw [hiff]; omega)]; simp [g1, g2, g3]
  by_cases g4 : tp > 16 * (i : Int) + 16
  ·rw [no (by rw [hiff]; omega)]; simp [g1, g2, g3, g4]
  by_cases g5 : ta < 16 * (i : Int)
  ·rw [no (by rw [hiff]; omega)]; simp [g1, g2, g3, g4, g5]
  by_cases g6 : ta > tp
  ·rw [no (by rw [hiff]; omega)]; simp [g1, g2, g3, g4, g5, g6]
  by_cases g7 : lv < 0
  ·rw [no (by rw [hiff]; omega)]; simp [g1, g2, g3, g4, g5, g6, g7]
  have w2 : w64 (tp - 16 * (i : Int)) = tp - 16 * (i : Int) := zyy (by omega) (by omega)
  by_cases g8 : lv > tp - 16 * (i : Int)
  ·rw [no (by rw [hiff]; omega)]; simp [g1, g2, g3, g4, g5, g6, g7, w2, g8]
  simp only [g1, g2, g3, g4, g5, g6, g7, g8, w2, decide_false, cond_false, Option.bind_some, Sum.elim_inl, zu0, zua]
  have first : ∀ {β : Type} {z : Option β} {K : _ → Option β}, (k = 1 → tp = 16 * (i : Int)) → K (.inl (t, (i : Int), k, o, tp, ta, lv, ())) = z →
    Option.bind (if k = 1 then (if tp = 16 * (i : Int) then some (.inl (t, (i : Int), k, o, tp, ta, lv, ())) else some (.inr (false, ()))) else some (.inl (t, (i : Int), k, o, tp, ta, lv, ())) : Option (_ ⊕ (Bool × Unit))) K = z := by
   intro β z K h hK
   by_cases c1 : k = 1
   ·simp only [c1, h c1, if_true]; rw [← c1, ← h c1]; exact hK
   ·simp only [c1, if_false]; exact hK
  by_cases g9 : k = 1 → tp = 16 * (i : Int)
  ·refine first g9 ?_
   clear first
   dsimp only [Sum.elim_inl]
   by_cases c2 : k = 2
   ·by_cases o1 : o ≥ 0
    ·have o2 : ¬ o < -1 := by omega
     by_cases o3 : o > 3
     ·rw [no (by rw [hiff]; omega)]
      simp [c2, o1, o2, o3]
     ·rw [hiff.2 (by omega)]
      have o4 : 0 ≤ o := o1
      have q1 : (k == 2) = true := by simp [c2]
      simp only [q1, o1, o2, o3, decide_true, decide_false, beq_self_eq_true, Bool.not_true, cond_false, Option.bind_some, Sum.elim_inl, ow, Bool.true_and]
      cases hb : ((t.take i).drop 1).any fun x => decide (x.2.1 = o) with
      | true => simp [o4]
      | false => simp only [o4, true_and, Bool.false_eq_true, if_false, Option.bind_some, Sum.elim_inl, e1, ih, Bool.and_false, Bool.not_false, Bool.true_and]
    ·rw [no (by rw [hiff]; omega)]
     simp [c2, o1]
   ·have q1 : (k == 2) = false := by simp [c2]
    by_cases o1 : o ≥ 0
    ·rw [no (by rw [hiff]; omega)]
     simp [q1, o1]
    ·by_cases o2 : o < -1
     ·rw [no (by rw [hiff]; omega)]
      simp [q1, o1, o2]
     ·rw [hiff.2 (by omega)]
      have o3 : ¬ o > 3 := by omega
      have o4 : ¬ 0 ≤ o := o1
      simp only [q1, o1, o2, o3, o4, decide_false, beq_self_eq_true, Bool.not_true, cond_false, Option.bind_some, Sum.elim_inl, ow, false_and, if_false, e1, ih, Bool.false_and, Bool.not_false, Bool.true_and]
  ·have c1 : k = 1 := by
    by_cases c1 : k = 1
    ·exact c1
    ·exact absurd (fun h => absurd h c1) g9
   have c2 : ¬ tp = 16 * (i : Int) := fun h => g9 fun _ => h
   rw [no (by rw [hiff]; omega)]
   simp [c1, c2]
theorem sTableOk_ok {t : List Rgx} (hl : t.length ≤ 1048576) (hx : ∀ x ∈ t, -9223372036854775808 ≤ x.2.1 ∧ x.2.1 < 9223372036854775808) : FsTableOk N (t, ()) = some (tableOk t, ()) := by
 have hlim : lim = 2147483648 := rfl
 unfold FsTableOk tableOk
 by_cases h1 : (t.length : Int) < 2
 ·have : ¬ 2 ≤ t.length := by omega
  simp [h1, this]
 by_cases h2 : (t.length : Int) > 12
 ·have : ¬ t.length ≤ 12 := by omega
  simp [h1, h2, this]
 have h3 : 2 ≤ t.length := by omega
 have h4 : t.length ≤ 12 := by omega
 have h5 : 0 < t.length := by omega
 simp only [h1, h2, h3, h4, h5, decide_true, decide_false, cond_true, cond_false, Bool.true_and, Option.bind_some, show (0 : Int).toNat = 0 from rfl, Int.le_refl]
 have eg : t.getD 0 (0, 0, 0, 0, 0, ()) = t.getD 0 rg0 := rfl
 rw [eg]
 have hedge : (((t.getD 0 rg0).1 == 0) && (((t.getD 0 rg0).2.1 == -1) && (((t.getD 0 rg0).2.2.1 == 0) && (((t.getD 0 rg0).2.2.2.1 == 0) && (((t.getD 0 rg0).2.2.2.2.1 == 0) && true))))) = decide (t.getD 0 rg0 = edgeRow) := by
  generalize t.getD 0 rg0 = x
  obtain ⟨a, b, c, d, e, ⟨⟩⟩ := x
  simp only [edgeRow, Prod.mk.injEq, and_true, Bool.and_true, Bool.decide_and, ibeq]
 rw [hedge]
 by_cases he : t.getD 0 rg0 = edgeRow
 ·have hL := sTable_loop hN h4 hx (t.length - 1) N 1 (by omega) (by omega) (by omega)
  simp only [Int.natCast_one] at hL
  simp only [he, decide_true, Bool.not_true, cond_false, Option.bind_some, Sum.elim_inl, hL, Bool.true_and]
  cases tblGo t (t.length - 1) 1 <;> rfl
 ·simp only [he, decide_false, Bool.not_false, cond_true, Option.bind_some, Sum.elim_inr, Bool.false_and]
end
section
variable {N : Nat} (hN : lim < N)
include hN
theorem sFind_self {l : List Tgx} (hl : l.length ≤ 1048576) (hp : l.Pairwise (fun x y => x.1 < y.1)) {i : Nat} (hi : i < l.length) : ztk N (l, l[i].1, ()) = some ((i : Int), ()) := by
 obtain ⟨k, hk, e, h⟩ := zrz hN hl (findT_self hp (List.getElem_mem hi))
 rw [h]
 have : k = i := by
  rcases Nat.lt_trichotomy k i with h1 | h1 | h1
  ·have := List.pairwise_iff_getElem.1 hp k i hk hi h1; rw [e] at this; omega
  ·exact h1
  ·have := List.pairwise_iff_getElem.1 hp i k hi hk h1; rw [e] at this; omega
 rw [this]
omit hN in
theorem shape_beq {a b : Shx} : ((a.1 == b.1) && ((a.2.1 == b.2.1) && true)) = decide (a = b) := by
 obtain ⟨a1, a2, ⟨⟩⟩ := a
 obtain ⟨b1, b2, ⟨⟩⟩ := b
 by_cases h1 : a1 = b1 <;> by_cases h2 : a2 = b2 <;> simp [h1, h2]
theorem sOk_0 {s : Stx} {l : List Tgx} (hta : zu3 s = some l) : zwm N N (s, l, 0, ()) = some (bif l.all (movOk l s.2.1) then .inl (s, l, ()) else .inr (false, ())) := by
 have hlim : lim = 2147483648 := rfl
 obtain ⟨hp, hr, hll⟩ := stThings_rng hta
 have hll' : l.length ≤ 1048576 := by omega
 have hreg : ∀ t ∈ l, ztx N (t.1, ()) = some (t.1 / 16, ()) ∧ 0 ≤ t.1 / 16 := by
  intro t ht
  have := hr t ht
  refine ⟨?_, by omega⟩
  rw [sRegionOf_ok (by omega), regOf, if_neg (by omega)]
 have step : ∀ n i (h : i < l.length), w64 ((i : Int) + 1) = ((i + 1 : Nat) : Int) → zwm N (n + 1) (s, l, (i : Int), ()) = if movOk l s.2.1 l[i] = true then zwm N n (s, l, ((i + 1 : Nat) : Int), ()) else some (.inr (false, ())) := by
  intro n i h hw
  have hm := List.getElem_mem h
  have h' : (i : Int) < (l.length : Int) := by omega
  have eg : ∀ x : Nat, s.2.1.getD x (0, 0, 0, 0, 0, ()) = s.2.1.getD x rg0 := fun x => rfl
  have ege : ∀ x : Nat, l.getD x (0, 0, (0, 0, ()), [], [], ()) = l.getD x tg0 := fun x => rfl
  rw [zwm]
  simp only [h', h, decide_true, cond_true, Int.natCast_nonneg, Int.toNat_natCast, ege, zzn h]
  unfold movOk
  by_cases e : l[i].2.1 = l[i].1
  ·rw [if_pos e]
   simp only [e, sFind_self hN hll' hp h, Option.bind_some, Int.natCast_nonneg, Int.toNat_natCast, h, decide_true, cond_true, zzn h, zua, if_true, beq_self_eq_true, Bool.and_true, Bool.not_true, cond_false, Sum.elim_inl, hw]
   have : ¬ (i : Int) < 0 := by omega
   simp only [this, decide_false, cond_false, Option.bind_some, Sum.elim_inl, if_true, hw]
  ·rw [if_neg e]
   cases hf : findT l l[i].2.1 with
   | none => simp only [sFind_none hN hll' hf, Option.bind_some, show decide ((-1 : Int) < 0) = true from rfl, cond_true, Sum.elim_inr, Bool.false_eq_true, if_false]
   | some t =>
    obtain ⟨k, hk, ek, e2⟩ := zrz hN hll' hf
    obtain ⟨m1, m2⟩ := zxt hf
    have k0 : ¬ (k : Int) < 0 := by omega
    have ki : ¬ (k : Int) = (i : Int) := by
     intro h3
     have : k = i := by omega
     subst this
     rw [ek] at e
     exact e (by rw [ek] at m2; exact m2.symm)
    simp only [e2, Option.bind_some, k0, decide_false, cond_false, Int.natCast_nonneg, Int.toNat_natCast, hk, h, decide_true, cond_true, zzn hk, zzn h, ek, zua, shape_beq, zu0]
    by_cases q2 : t.2.1 = t.1
    ·by_cases q1 : t.2.2.1 = l[i].2.2.1
     ·simp only [q2, q1, if_true, decide_true, Bool.not_true, cond_false, Option.bind_some, Sum.elim_inl, ki, if_false, Int.natCast_nonneg, Int.toNat_natCast, hk, h, cond_true, zzn hk, zzn h, ek, (hreg _ hm).1, (hreg _ hm).2, (hr _ hm).2.2.1, (hreg _ m1).1, (hreg _ m1).2, (hr _ m1).2.2.1, eg, fromB, Bool.true_and, hw, zua, zu0]
      by_cases q4 : (s.2.1.getD (l[i].1 / 16).toNat rg0).1 = 4
      ·by_cases q3 : (s.2.1.getD (t.1 / 16).toNat rg0).1 = 4 <;> simp [q3, q4, -List.getD_eq_getElem?_getD]
      ·simp [q4, -List.getD_eq_getElem?_getD]
     ·simp only [q2, q1, if_true, decide_false, Bool.not_false, cond_true, Option.bind_some, Sum.elim_inr, Bool.false_and, Bool.false_eq_true, if_false]
    ·simp only [q2, if_false, Option.bind_some, Sum.elim_inr, decide_false, Bool.false_and, Bool.and_false, Bool.false_eq_true]
 have hL := all_loop (xs := l) (n := N) (movOk l s.2.1) (L := fun n i => zwm N n (s, l, (i : Int), ())) (yes := .inl (s, l, ())) (no := .inr (false, ())) (by omega)
  (fun n i h hw hq => by rw [step n i h hw, if_pos hq])
  (fun n i h hq => by rw [step n i h (zyn (by omega)), if_neg (by rw [hq]; decide)])
  (fun n => by simp [zwm]) (by omega)
 simpa using hL
theorem sOk_4 {s : Stx} {l : List Tgx} (C : Hp s l) {i : Int} {t : Thr} (ht : t.1.length ≤ 1048576) {met : List Int} (hM : MetOk l met) :
  zwb N N (s, l, i, 0, met, t.1, t.2.1, t.2.2.1, t.2.2.2.1, ()) = some (match meetA l t.1 met with | some m => .inl (s, l, i, m, ()) | none => .inr (false, ())) := by
 have hlim : lim = 2147483648 := rfl
 have hll : l.length ≤ 1048576 := by have := C.len; omega
 have h := meet_loop C (rs := t.1) (by omega) (L := fun n j met => zwb N n (s, l, i, (j : Int), met, t.1, t.2.1, t.2.2.1, t.2.2.2.1, ())) (yes := fun m => some (.inl (s, l, i, m, ()))) (no := some (.inr (false, ())))
  (fun n j met hj hm hw h0 => by
   have hml : met.length ≤ 1048576 := by have := C.met hm; omega
   have hj' : (j : Int) < (t.1.length : Int) := by omega
   simp only [zwb, hj', hj, decide_true, cond_true, Int.natCast_nonneg, Int.toNat_natCast, zzn hj, h0, zua, if_true, Option.bind_some, Sum.elim_inl, sNow_zero hN, sPut_ok hN hml, putA, true_or, hw])
  (fun n j met hj hm h0 hf => by
   have hj' : (j : Int) < (t.1.length : Int) := by omega
   simp only [zwb, hj', hj, decide_true, cond_true, Int.natCast_nonneg, Int.toNat_natCast, zzn hj, h0, zua, if_false, sFind_none hN hll hf, Option.bind_some, show decide ((-1 : Int) < 0) = true from rfl, Sum.elim_inr])
  (fun n j met hj u hm hw h0 hf hu hu0 _ => by
   have hml : met.length ≤ 1048576 := by have := C.met hm; omega
   have hj' : (j : Int) < (t.1.length : Int) := by omega
   obtain ⟨k, hk, ek, e2⟩ := zrz hN hll hf
   have k0 : ¬ (k : Int) < 0 := by omega
   simp only [zwb, hj', hj, decide_true, cond_true, Int.natCast_nonneg, Int.toNat_natCast, zzn hj, h0, zua, if_false, e2, Option.bind_some, k0, decide_false, cond_false, Sum.elim_inl, sNow_some hN hll h0 hf, sPut_ok hN hml, putA, hu0, false_or, hw])
  (fun n met hm => by simp [zwb]) (n := N) (by omega) hM
 simp only [Int.natCast_zero] at h
 rw [h]
 cases meetA l t.1 met <;> rfl
theorem sOk_2 {s : Stx} {l : List Tgx} (C : Hp s l) (hT : (stThr s).length ≤ 1048576) (hR : ∀ t ∈ stThr s, t.1.length ≤ 1048576) :
  zuz N N (s, l, 0, [], ()) = some (match meetT l (stThr s) [] with | some m => .inl (s, l, m, ()) | none => .inr (false, ())) := by
 have hlim : lim = 2147483648 := rfl
 have key : ∀ n i met, i ≤ (stThr s).length → (stThr s).length - i < n → MetOk l met → zuz N n (s, l, (i : Int), met, ()) = some (match meetT l ((stThr s).drop i) met with | some m => .inl (s, l, m, ()) | none => .inr (false, ())) := by
  intro n
  induction n with
  | zero => intro i met _ h; exact absurd h (Nat.not_lt_zero _)
  | succ n ih =>
   intro i met hi hn hM
   by_cases h : i < (stThr s).length
   ·have h' : (i : Int) < ((stThr s).length : Int) := by omega
    have hw : w64 ((i : Int) + 1) = ((i + 1 : Nat) : Int) := zyn (by omega)
    have hm := List.getElem_mem h
    have e4 := sOk_4 hN C (i := (i : Int)) (hR _ hm) hM
    rw [zt6 h]
    have eg : (stThr s).getD i ([], 0, false, 0, ()) = (stThr s)[i] := zzn h
    have hu : i < s.2.2.2.2.2.2.2.2.1.length := h
    have hu' : (i : Int) < (s.2.2.2.2.2.2.2.2.1.length : Int) := h'
    simp only [stThr] at eg
    simp only [zuz, hu', hu, decide_true, cond_true, Int.natCast_nonneg, Int.toNat_natCast, eg, meetT]
    by_cases c1 : (stThr s)[i].1.length ≤ 8
    ·by_cases c2 : 0 ≤ (stThr s)[i].2.2.2.1
     ·by_cases c3 : (stThr s)[i].2.2.2.1 ≤ 2
      ·have ho : thrOk (stThr s)[i] = true := by simp [thrOk, c1, c2, c3]
       have n1 : ¬ ((stThr s)[i].1.length : Int) > 8 := by omega
       have n2 : ¬ (stThr s)[i].2.2.2.1 < 0 := by omega
       have n3 : ¬ (stThr s)[i].2.2.2.1 > 2 := by omega
       simp only [n1, n2, n3, decide_false, cond_false, Option.bind_some, Sum.elim_inl, e4, ho, if_true]
       cases hq : meetA l (stThr s)[i].1 met with
       | none => rfl
       | some m =>
        simp only [Sum.elim_inl, hw, Option.bind_some]
        exact ih (i + 1) m (by omega) (by omega) (hM.meet C.pw C.mv hq)
      ·have ho : thrOk (stThr s)[i] = false := by simp [thrOk, c3]
       have n1 : ¬ ((stThr s)[i].1.length : Int) > 8 := by omega
       have n2 : ¬ (stThr s)[i].2.2.2.1 < 0 := by omega
       have n3 : (stThr s)[i].2.2.2.1 > 2 := by omega
       simp only [n1, n2, n3, decide_false, decide_true, cond_true, cond_false, Option.bind_some, Sum.elim_inr, ho, Bool.false_eq_true, if_false]
     ·have ho : thrOk (stThr s)[i] = false := by simp [thrOk, c2]
      have n1 : ¬ ((stThr s)[i].1.length : Int) > 8 := by omega
      have n2 : (stThr s)[i].2.2.2.1 < 0 := by omega
      simp only [n1, n2, decide_false, decide_true, cond_true, cond_false, Option.bind_some, Sum.elim_inr, ho, Bool.false_eq_true, if_false]
    ·have ho : thrOk (stThr s)[i] = false := by simp [thrOk, c1]
     have n1 : ((stThr s)[i].1.length : Int) > 8 := by omega
     simp only [n1, decide_true, cond_true, Option.bind_some, Sum.elim_inr, ho, Bool.false_eq_true, if_false]
   ·have : i = (stThr s).length := by omega
    subst this
    simp [zuz, meetT, stThr]
 simpa using key N 0 [] (by omega) (by omega) MetOk.nil
omit hN in
theorem putA_ok {s : Stx} {l : List Tgx} (C : Hp s l) {met : List Int} (hM : MetOk l met) {a : Int} (h : pinOk l s.2.1 a = true) : MetOk l (putA met a) := by
 obtain ⟨t, h1, h2, _⟩ := pinOk_some h
 have := C.push hM (zxt h1).1
 have hp := C.now (zxt h1).1
 rw [h2] at this hp
 simp only [putA, show ¬ a = 0 by omega, false_or]
 exact this
theorem sOk_6 {s : Stx} {l : List Tgx} (C : Hp s l) (hP : (zzo s).length ≤ 1048576) {met : List Int} (hM : MetOk l met) :
  zv9 N N (s, l, 0, met, ()) = some (match meetP l s.2.1 (zzo s) met with | some m => .inl (l, m, ()) | none => .inr (false, ())) := by
 have hlim : lim = 2147483648 := rfl
 have hll : l.length ≤ 1048576 := by have := C.len; omega
 have hreg : ∀ t ∈ l, ztx N (t.1, ()) = some (t.1 / 16, ()) ∧ 0 ≤ t.1 / 16 := by
  intro t ht
  have := C.rng t ht
  refine ⟨?_, by omega⟩
  rw [sRegionOf_ok (by omega), regOf, if_neg (by omega)]
 have key : ∀ n i met, i ≤ (zzo s).length → (zzo s).length - i < n → MetOk l met → zv9 N n (s, l, (i : Int), met, ()) = some (match meetP l s.2.1 ((zzo s).drop i) met with | some m => .inl (l, m, ()) | none => .inr (false, ())) := by
  intro n
  induction n with
  | zero => intro i met _ h; exact absurd h (Nat.not_lt_zero _)
  | succ n ih =>
   intro i met hi hn hM
   by_cases h : i < (zzo s).length
   ·have h' : (i : Int) < ((zzo s).length : Int) := by omega
    have hw : w64 ((i : Int) + 1) = ((i + 1 : Nat) : Int) := zyn (by omega)
    have hml : met.length ≤ 1048576 := by have := C.met hM; omega
    rw [zt6 h]
    have hih := fun m => ih (i + 1) m (by omega) (by omega)
    obtain ⟨a, ha⟩ : ∃ a, a = (zzo s)[i] := ⟨_, rfl⟩
    rw [← ha]
    have eg : s.2.2.2.2.2.2.2.2.2.2.1.getD i 0 = a := by rw [ha]; exact zzn h
    have ege : ∀ x : Nat, l.getD x (0, 0, (0, 0, ()), [], [], ()) = l.getD x tg0 := fun x => rfl
    have egr : ∀ x : Nat, s.2.1.getD x (0, 0, 0, 0, 0, ()) = s.2.1.getD x rg0 := fun x => rfl
    have hu : i < s.2.2.2.2.2.2.2.2.2.2.1.length := h
    have hu' : (i : Int) < (s.2.2.2.2.2.2.2.2.2.2.1.length : Int) := h'
    simp only [zv9, hu', hu, decide_true, cond_true, Int.natCast_nonneg, Int.toNat_natCast, eg, meetP]
    cases hf : findT l a with
    | none =>
     have ho : pinOk l s.2.1 a = false := by simp [pinOk, hf]
     simp only [sFind_none hN hll hf, Option.bind_some, show decide ((-1 : Int) < 0) = true from rfl, cond_true, Sum.elim_inr, ho, Bool.false_eq_true, if_false]
    | some t =>
     obtain ⟨k, hk, ek, e2⟩ := zrz hN hll hf
     obtain ⟨m1, m2⟩ := zxt hf
     have k0 : ¬ (k : Int) < 0 := by omega
     have hpo : pinOk l s.2.1 a = (decide (t.2.1 = a) && !(fromB s.2.1 a)) := by simp [pinOk, hf]
     have hput := putA_ok C hM (a := a)
     rw [hpo] at hput ⊢
     clear hpo ha
     subst m2
     simp only [e2, Option.bind_some, k0, decide_false, cond_false, Int.natCast_nonneg, Int.toNat_natCast, hk, hu, decide_true, cond_true, ege, egr, zzn hk, eg, ek, zua, zu0, (hreg _ m1).1, (hreg _ m1).2, (C.rng _ m1).2.2.1, fromB]
     by_cases q2 : t.2.1 = t.1
     ·by_cases q3 : (s.2.1.getD (t.1 / 16).toNat rg0).1 = 4
      ·simp only [q2, q3, if_true, Option.bind_some, Sum.elim_inr, decide_true, Bool.not_true, Bool.and_false, Bool.false_eq_true, if_false]
      ·simp only [q2, q3, if_true, if_false, Option.bind_some, Sum.elim_inl, decide_true, decide_false, Bool.not_false, Bool.and_true, cond_true, Int.natCast_nonneg, Int.toNat_natCast, hu, eg, sPut_ok hN hml, hw]
       exact hih _ (hput (by simp [q2, fromB, q3, -List.getD_eq_getElem?_getD]))
     ·simp only [q2, if_false, Option.bind_some, Sum.elim_inr, decide_false, Bool.false_and, Bool.false_eq_true]
   ·have : i = (zzo s).length := by omega
    subst this
    simp [zv9, meetP, zzo]
 simpa using key N 0 met (by omega) (by omega) hM
theorem sOk_10 {s : Stx} {l : List Tgx} (C : Hp s l) {i : Int} {rs : List Int} {t : Tgx} (ht : t ∈ l) {met : List Int} (hM : MetOk l met) :
  zx2 N N (l, i, 0, met, t.1, t.2.1, t.2.2.1.1, t.2.2.1.2.1, t.2.2.2.1, t.2.2.2.2.1, ()) = some (match meetA l t.2.2.2.1 met with | some m => .inl (l, i, m, ()) | none => .inr (false, ())) := by
 have hlim : lim = 2147483648 := rfl
 have hll : l.length ≤ 1048576 := by have := C.len; omega
 have hrl := C.refs ht
 have h := meet_loop C (rs := t.2.2.2.1) (by omega) (L := fun n j met => zx2 N n (l, i, (j : Int), met, t.1, t.2.1, t.2.2.1.1, t.2.2.1.2.1, t.2.2.2.1, t.2.2.2.2.1, ())) (yes := fun m => some (.inl (l, i, m, ()))) (no := some (.inr (false, ())))
  (fun n j met hj hm hw h0 => by
   have hml : met.length ≤ 1048576 := by have := C.met hm; omega
   have hj' : (j : Int) < (t.2.2.2.1.length : Int) := by omega
   simp only [zx2, hj', hj, decide_true, cond_true, Int.natCast_nonneg, Int.toNat_natCast, zzn hj, h0, zua, if_true, Option.bind_some, Sum.elim_inl, sNow_zero hN, sPut_ok hN hml, putA, true_or, hw])
  (fun n j met hj hm h0 hf => by
   have hj' : (j : Int) < (t.2.2.2.1.length : Int) := by omega
   simp only [zx2, hj', hj, decide_true, cond_true, Int.natCast_nonneg, Int.toNat_natCast, zzn hj, h0, zua, if_false, sFind_none hN hll hf, Option.bind_some, show decide ((-1 : Int) < 0) = true from rfl, Sum.elim_inr])
  (fun n j met hj u hm hw h0 hf hu hu0 _ => by
   have hml : met.length ≤ 1048576 := by have := C.met hm; omega
   have hj' : (j : Int) < (t.2.2.2.1.length : Int) := by omega
   obtain ⟨k, hk, ek, e2⟩ := zrz hN hll hf
   have k0 : ¬ (k : Int) < 0 := by omega
   simp only [zx2, hj', hj, decide_true, cond_true, Int.natCast_nonneg, Int.toNat_natCast, zzn hj, h0, zua, if_false, e2, Option.bind_some, k0, decide_false, cond_false, Sum.elim_inl, sNow_some hN hll h0 hf, sPut_ok hN hml, putA, hu0, false_or, hw])
  (fun n met hm => by simp [zx2]) (n := N) (by omega) hM
 simp only [Int.natCast_zero] at h
 rw [h]
 cases meetA l t.2.2.2.1 met <;> rfl
theorem sOk_8 {s : Stx} {l : List Tgx} (C : Hp s l) {met : List Int} (hM : MetOk l met) :
  zv8 N N (l, 0, met, ()) = some (match zu5 l l.length 0 met with | some _ => .inl () | none => .inr (false, ())) := by
 have hlim : lim = 2147483648 := rfl
 have hll : l.length ≤ 1048576 := by have := C.len; omega
 have h := reach_loop C (L := fun n k met => zv8 N n (l, (k : Int), met, ())) (yes := fun _ => some (.inl ())) (no := some (.inr (false, ())))
  (fun n k met hk t hm hw hf ht e => by
   have hk' : (k : Int) < (met.length : Int) := by omega
   obtain ⟨q, hq, eq, e2⟩ := zrz hN hll hf
   simp only [zv8, hk', hk, decide_true, cond_true, Int.natCast_nonneg, Int.toNat_natCast, zzn hk, e2, Option.bind_some, hq, zzn hq, eq, sOk_10 hN C (i := (k : Int)) (rs := []) ht hm]
   cases meetA l t.2.2.2.1 met with
   | none => rfl
   | some m => simp only [Sum.elim_inl, hw])
  (fun n met hm => by simp [zv8]) (n := N) (by omega) hM
 simp only [Int.natCast_zero] at h
 rw [h]
 cases zu5 l l.length 0 met <;> rfl
theorem sStateOk_ok {s : Stx} (b1 : s.1.length ≤ 1048576) (b2 : s.2.1.length ≤ 1048576) (b3 : s.2.2.1.length ≤ 1048576) (b4 : ∀ x ∈ s.1, -9223372036854775808 ≤ x ∧ x < 9223372036854775808) (b5 : ∀ x ∈ s.2.1, -9223372036854775808 ≤ x.2.1 ∧ x.2.1 < 9223372036854775808)
  (hT : (stThr s).length ≤ 1048576) (hR : ∀ t ∈ stThr s, t.1.length ≤ 1048576) (hP : (zzo s).length ≤ 1048576) :
  FsStateOk N (s, ()) = some ((zu9 s).isSome, ()) := by
 have hlim : lim = 2147483648 := rfl
 unfold FsStateOk
 simp only [sWordsOk_ok b1, sTableOk_ok hN b2 b5, Option.bind_some, zua]
 have hw16 : w64 ((s.2.1.length : Int) * 16) = (s.2.1.length : Int) * 16 := zyy (by omega) (by omega)
 have hlen : ((s.2.1.length : Int) * 16 = (s.1.length : Int)) ↔ s.2.1.length * 16 = s.1.length := by omega
 have hlen2 : ((s.2.2.1.length : Int) = (s.1.length : Int)) ↔ s.2.2.1.length = s.1.length := by omega
 simp only [hw16, hlen, hlen2]
 have hno : zu3 s = none → zu9 s = none := fun h => by simp only [zu9, h]
 by_cases hw : wholeB s.1 s.2.1 s.2.2.1 = true
 ·obtain ⟨w1, w2, w3, w4⟩ := zoo.1 hw
  have hst : zu3 s = zu4 s.1 s.2.1 := by simp only [zu3, hw, if_true]
  simp only [w1, w2, w3, w4, Bool.not_true, cond_false, if_true, Option.bind_some, Sum.elim_inl]
  by_cases hh : headOk s = true
  ·have hh' := hh
   simp only [headOk, Bool.and_eq_true, decide_eq_true_eq] at hh'
   obtain ⟨q1, q2, q3, q4, q5⟩ := hh'
   simp only [stPh, stThr, zzo] at q1 q2 q3 q4 q5
   have n1 : ¬ s.2.2.2.1 < 0 := by omega
   have n2 : ¬ s.2.2.2.1 > 3 := by omega
   have n3 : ¬ (s.2.2.2.2.2.2.2.2.1.length : Int) < 1 := by omega
   have n4 : ¬ (s.2.2.2.2.2.2.2.2.1.length : Int) > 3 := by omega
   have n5 : ¬ (s.2.2.2.2.2.2.2.2.2.2.1.length : Int) > 8 := by omega
   simp only [n1, n2, n3, n4, decide_false, cond_false, Option.bind_some, Sum.elim_inl, sl6Things_ok hN b1 b4 b2]
   cases hta : zu4 s.1 s.2.1 with
   | none => simp [hno (hst.trans hta)]
   | some l =>
    have hta' : zu3 s = some l := hst.trans hta
    simp only [Bool.not_true, cond_false, sOk_0 hN hta', Option.bind_some]
    by_cases hm : l.all (movOk l s.2.1) = true
    ·have C : Hp s l := ⟨hta', hm⟩
     simp only [hm, cond_true, Sum.elim_inl, sOk_2 hN C hT hR, Option.bind_some, heapOf_eq C hh]
     cases h2 : meetT l (stThr s) [] with
     | none => rfl
     | some m =>
      have hM : MetOk l m := by
       rw [meetT_eq] at h2
       split at h2
       ·exact MetOk.nil.meet C.pw C.mv h2
       ·cases h2
      simp only [Sum.elim_inl, n5, decide_false, cond_false, sOk_6 hN C hP hM, Option.bind_some]
      cases h3 : meetP l s.2.1 (zzo s) m with
      | none => rfl
      | some m2 =>
       have hM2 : MetOk l m2 := by
        rw [meetP_eq C] at h3
        split at h3
        ·exact hM.meet C.pw C.mv h3
        ·cases h3
       simp only [Sum.elim_inl, sOk_8 hN C hM2, Option.bind_some]
       cases zu5 l l.length 0 m2 <;> rfl
    ·have hm' : l.all (movOk l s.2.1) = false := by simpa using hm
     simp only [hm', cond_false, Sum.elim_inr, zu9, hta', metOf, Bool.false_and, Bool.false_eq_true, if_false, Option.map_none, Option.isSome_none]
  ·have hno2 : zu9 s = none := by
    simp only [zu9]
    cases zu3 s with
    | none => rfl
    | some l => simp only [metOf, hh, Bool.false_and, Bool.and_false, Bool.false_eq_true, if_false, Option.map_none]
   simp only [hno2, Option.isSome_none]
   have hf : ∀ {α β : Type} (x : Option α), (x.bind fun _ => (none : Option β)) = none := by intro α β x; cases x <;> rfl
   by_cases n1 : s.2.2.2.1 < 0
   ·simp only [n1, decide_true, cond_true, Option.bind_some, Sum.elim_inr]
   ·by_cases n2 : s.2.2.2.1 > 3
    ·simp only [n1, n2, decide_true, decide_false, cond_false, cond_true, Option.bind_some, Sum.elim_inr]
    ·by_cases n3 : (s.2.2.2.2.2.2.2.2.1.length : Int) < 1
     ·simp only [n1, n2, n3, decide_true, decide_false, cond_false, cond_true, Option.bind_some, Sum.elim_inr]
     ·by_cases n4 : (s.2.2.2.2.2.2.2.2.1.length : Int) > 3
      ·simp only [n1, n2, n3, n4, decide_true, decide_false, cond_false, cond_true, Option.bind_some, Sum.elim_inr]
      ·have n5 : (s.2.2.2.2.2.2.2.2.2.2.1.length : Int) > 8 := by
        have : ¬ (zzo s).length ≤ 8 := by
         intro h5
         apply hh
         simp only [headOk, stPh, stThr, Bool.and_eq_true, decide_eq_true_eq]
         exact ⟨by omega, by omega, by omega, by omega, h5⟩
        simp only [zzo] at this
        omega
       simp only [n1, n2, n3, n4, decide_false, cond_false, Option.bind_some, Sum.elim_inl, sl6Things_ok hN b1 b4 b2]
       cases hta : zu4 s.1 s.2.1 with
       | none => rfl
       | some l =>
        have hta' : zu3 s = some l := hst.trans hta
        simp only [Bool.not_true, cond_false, sOk_0 hN hta', Option.bind_some]
        by_cases hm : l.all (movOk l s.2.1) = true
        ·have C : Hp s l := ⟨hta', hm⟩
         simp only [hm, cond_true, Sum.elim_inl, sOk_2 hN C hT hR, Option.bind_some]
         cases h2 : meetT l (stThr s) [] with
         | none => rfl
         | some m => simp only [Sum.elim_inl, n5, decide_true, cond_true]
        ·have hm' : l.all (movOk l s.2.1) = false := by simpa using hm
         simp only [hm', cond_false, Sum.elim_inr]
 ·have hw' : wholeB s.1 s.2.1 s.2.2.1 = false := by simpa using hw
  have hno2 : zu9 s = none := hno (by simp [zu3, hw'])
  simp only [hno2, Option.isSome_none]
  simp only [zoo, not_and] at hw
  cases h1 : zsn s.1 with
  | false => rfl
  | true =>
   cases h2 : tableOk s.2.1 with
   | false => rfl
   | true =>
    by_cases h3 : s.2.1.length * 16 = s.1.length
    ·have h4 : ¬ s.2.2.1.length = s.1.length := hw h1 h2 h3
     simp only [Bool.not_true, cond_false, h3, h4, if_true, if_false, Option.bind_some, Sum.elim_inr]
    ·simp only [Bool.not_true, cond_false, h3, if_false, Option.bind_some, Sum.elim_inr]
end
end Go.Fl
end

/- Proved: for every input the law FnExactHistFits returns true and leaves its arguments as they were. Part 2: the functions that the law reaches, as plain functions, and plain laws about them; no conditions. -/
import Derived.Test.YtjlcdaggbpgpjaaExactHistFitsP1
set_option linter.all false
set_option maxRecDepth 100000
set_option linter.all false
namespace Go.Fl
open Go Go.Proofs
/-! ### 118: impl.HistOk -/

noncomputable def diniHistOk : Desc := { n := 3, regs := [.one (.val (.pair (.int .i64) (.pair (.int .i64) (.pair (.int .i64) .unit)))), .one (.val (.sl (.sl (.pair (.int .i64) (.pair (.int .i64) (.pair (.int .i64) (.pair (.int .i64) (.pair (.int .i64) (.pair (.int .i64) (.pair (.pair (.int .i64) (.pair (.int .i64) .unit)) .unit)))))))))), .one (.val (.sl (.pair (.int .i64) (.pair (.int .i64) (.pair (.int .i64) (.pair (.int .i64) (.pair (.int .i64) (.pair (.int .i64) .unit))))))))], bx := [], pins := [] }
noncomputable def outiHistOk : Outs := [(.ret, { n := 1, regs := [.one (.val .bool)], bx := [], pins := [] })]
noncomputable def HiHistOk : Hints := [(0, [(0, { fz := true })])]
noncomputable def EiHistOk (N : Nat) : Env := { te := TE, cs := [coniprogsOk N] }
noncomputable def diHistOk_0 : Desc := { n := 138, regs := [u, .one (.val (.sl (.sl (.pair (.int .i64) (.pair (.int .i64) (.pair (.int .i64) (.pair (.int .i64) (.pair (.int .i64) (.pair (.int .i64) (.pair (.pair (.int .i64) (.pair (.int .i64) .unit)) .unit)))))))))), .one (.val (.sl (.pair (.int .i64) (.pair (.int .i64) (.pair (.int .i64) (.pair (.int .i64) (.pair (.int .i64) (.pair (.int .i64) .unit)))))))), .one (.fpt (.pair (.int .i64) (.pair (.int .i64) (.pair (.int .i64) .unit)))), u, u, u, .one (.lit (.row 1038528)), .one (.lit (.row 1051328)), u, u, u, u, u, u, u, u, u, u, u, u, u, u, u, u, .one (.val (.int .i64)), .one (.val (.int .i64))], bx := [(1038528, .row (.int .i64)), (1051328, .row (.int .i64))], pins := [] }
noncomputable def oiHistOk_0 : Outs := [(.exit 0, { n := 138, regs := [u, .one (.val (.sl (.sl (.pair (.int .i64) (.pair (.int .i64) (.pair (.int .i64) (.pair (.int .i64) (.pair (.int .i64) (.pair (.int .i64) (.pair (.pair (.int .i64) (.pair (.int .i64) .unit)) .unit)))))))))), .one (.val (.sl (.pair (.int .i64) (.pair (.int .i64) (.pair (.int .i64) (.pair (.int .i64) (.pair (.int .i64) (.pair (.int .i64) .unit)))))))), .one (.fpt (.pair (.int .i64) (.pair (.int .i64) (.pair (.int .i64) .unit)))), u, u, u, .one (.lit (.row 1038528)), .one (.lit (.row 1051328))], bx := [(1038528, .row (.int .i64)), (1051328, .row (.int .i64))], pins := [] })]
noncomputable def diHistOk_2 : Desc := { n := 138, regs := [u, .one (.val (.sl (.sl (.pair (.int .i64) (.pair (.int .i64) (.pair (.int .i64) (.pair (.int .i64) (.pair (.int .i64) (.pair (.int .i64) (.pair (.pair (.int .i64) (.pair (.int .i64) .unit)) .unit)))))))))), .one (.val (.sl (.pair (.int .i64) (.pair (.int .i64) (.pair (.int .i64) (.pair (.int .i64) (.pair (.int .i64) (.pair (.int .i64) .unit)))))))), .one (.fpt (.pair (.int .i64) (.pair (.int .i64) (.pair (.int .i64) .unit)))), u, u, u, .one (.lit (.row 1038528)), .one (.lit (.row 1051328)), u, .one (.lit (.row 1128128)), u, u, u, u, u, u, u, u, u, u, u, u, u, u, u, u, u, u, u, u, u, u, u, u, u, .one (.val (.sl (.pair (.int .i64) (.pair (.int .i64) (.pair (.int .i64) (.pair (.int .i64) (.pair (.int .i64) (.pair (.int .i64) .unit)))))))), .one (.val (.int .i64)), .one (.val (.int .i64))], bx := [(1038528, .row (.int .i64)), (1051328, .row (.int .i64)), (1128128, .row .bool)], pins := [] }
noncomputable def oiHistOk_2 : Outs := [(.exit 2, { n := 138, regs := [], bx := [], pins := [] }), (.ret, { n := 138, regs := [u, u, u, u, u, u, .one (.val .bool)], bx := [], pins := [] })]
noncomputable def jiHistOk_17 : Outs := [(.normal, { n := 138, regs := [u, .one (.val (.sl (.sl (.pair (.int .i64) (.pair (.int .i64) (.pair (.int .i64) (.pair (.int .i64) (.pair (.int .i64) (.pair (.int .i64) (.pair (.pair (.int .i64) (.pair (.int .i64) .unit)) .unit)))))))))), .one (.val (.sl (.pair (.int .i64) (.pair (.int .i64) (.pair (.int .i64) (.pair (.int .i64) (.pair (.int .i64) (.pair (.int .i64) .unit)))))))), .one (.fpt (.pair (.int .i64) (.pair (.int .i64) (.pair (.int .i64) .unit)))), u, u, u, .one (.lit (.row 1038528)), .one (.lit (.row 1051328)), u, .one (.lit (.row 1128128)), u, .one (.lit (.ptr 1166592 0)), .one (.val (.int .i64)), u, u, u, u, u, u, u, u, u, u, u, u, u, u, u, u, u, u, u, u, u, u, .one (.val (.sl (.pair (.int .i64) (.pair (.int .i64) (.pair (.int .i64) (.pair (.int .i64) (.pair (.int .i64) (.pair (.int .i64) .unit)))))))), .one (.val (.int .i64)), .one (.val (.int .i64))], bx := [(1038528, .row (.int .i64)), (1051328, .row (.int .i64)), (1128128, .row .bool), (1166592, .var [.val (.int .i64), .val (.int .i64), .val (.int .i64), .val (.int .i64), .val (.int .i64), .val (.int .i64)])], pins := [] }), (.ret, { n := 138, regs := [u, u, u, u, u, u, .one (.val .bool)], bx := [], pins := [] })]
noncomputable def jiHistOk_23 : Outs := [(.normal, { n := 138, regs := [u, .one (.val (.sl (.sl (.pair (.int .i64) (.pair (.int .i64) (.pair (.int .i64) (.pair (.int .i64) (.pair (.int .i64) (.pair (.int .i64) (.pair (.pair (.int .i64) (.pair (.int .i64) .unit)) .unit)))))))))), .one (.val (.sl (.pair (.int .i64) (.pair (.int .i64) (.pair (.int .i64) (.pair (.int .i64) (.pair (.int .i64) (.pair (.int .i64) .unit)))))))), .one (.fpt (.pair (.int .i64) (.pair (.int .i64) (.pair (.int .i64) .unit)))), u, u, u, .one (.lit (.row 1038528)), .one (.lit (.row 1051328)), u, .one (.lit (.row 1128128)), u, .one (.lit (.ptr 1166592 0)), .one (.val (.int .i64)), u, u, u, u, u, u, u, u, u, u, u, u, u, u, u, u, u, u, u, u, u, u, .one (.val (.sl (.pair (.int .i64) (.pair (.int .i64) (.pair (.int .i64) (.pair (.int .i64) (.pair (.int .i64) (.pair (.int .i64) .unit)))))))), .one (.val (.int .i64)), .one (.val (.int .i64))], bx := [(1038528, .row (.int .i64)), (1051328, .row (.int .i64)), (1128128, .row .bool), (1166592, .var [.val (.int .i64), .val (.int .i64), .val (.int .i64), .val (.int .i64), .val (.int .i64), .val (.int .i64)])], pins := [] }), (.ret, { n := 138, regs := [u, u, u, u, u, u, .one (.val .bool)], bx := [], pins := [] })]
noncomputable def liHistOk_0 (N : Nat) : Nat → ((List (List (Int × (Int × (Int × (Int × (Int × (Int × ((Int × (Int × Unit)) × Unit))))))))) × ((List (Int × (Int × (Int × (Int × (Int × (Int × Unit))))))) × ((Int × (Int × (Int × Unit))) × (Int × (Int × ((List Int) × ((List Int) × Unit))))))) → Option ((List (List (Int × (Int × (Int × (Int × (Int × (Int × ((Int × (Int × Unit)) × Unit))))))))) × ((List (Int × (Int × (Int × (Int × (Int × (Int × Unit))))))) × ((Int × (Int × (Int × Unit))) × ((List Int) × ((List Int) × Unit)))))
  | 0, _ => none
  | n + 1, v =>
    bif decide (v.2.2.2.2.1 < v.2.2.2.1) then
     bif decide (0 ≤ v.2.2.2.2.1) then
     bif decide (v.2.2.2.2.1.toNat < v.2.2.2.2.2.2.1.length) then
     let y4 := v.2.2.2.2.2.2.1.set v.2.2.2.2.1.toNat (-1 : Int)
     liHistOk_0 N n (v.1, v.2.1, v.2.2.1, v.2.2.2.1, w64 (v.2.2.2.2.1 + (1 : Int)), v.2.2.2.2.2.1, y4, ())
     else none
     else none
    else
    some (v.1, v.2.1, v.2.2.1, v.2.2.2.2.2.1, v.2.2.2.2.2.2.1, ())
noncomputable def liHistOk_2 (N : Nat) : Nat → ((List (List (Int × (Int × (Int × (Int × (Int × (Int × ((Int × (Int × Unit)) × Unit))))))))) × ((List (Int × (Int × (Int × (Int × (Int × (Int × Unit))))))) × ((Int × (Int × (Int × Unit))) × ((List (Int × (Int × (Int × (Int × (Int × (Int × Unit))))))) × (Int × (Int × ((List Int) × ((List Int) × ((List Bool) × Unit))))))))) → Option (Unit ⊕ (Bool × Unit))
  | 0, _ => none
  | n + 1, v =>
    bif decide (v.2.2.2.2.2.1 < v.2.2.2.2.1) then
     bif decide (0 ≤ v.2.2.2.2.2.1) then
     bif decide (v.2.2.2.2.2.1.toNat < v.2.2.2.1.length) then
     let y7 := v.2.2.2.1.getD v.2.2.2.2.2.1.toNat ((0 : Int), (0 : Int), (0 : Int), (0 : Int), (0 : Int), (0 : Int), ())
     Option.bind (
      bif decide (y7.1 < (0 : Int)) then
       some (.inr ((false, ())))
      else
      bif decide (y7.1 ≥ v.2.2.1.2.1) then
       some (.inr ((false, ())))
      else
      bif decide (y7.2.2.1 < (0 : Int)) then
       some (.inr ((false, ())))
      else
      bif decide (v.2.2.2.2.2.1 > (0 : Int)) then
       bif decide (0 ≤ (w64 (v.2.2.2.2.2.1 - (1 : Int)))) then
       bif decide ((w64 (v.2.2.2.2.2.1 - (1 : Int))).toNat < v.2.1.length) then
       let y8 := v.2.1.getD ((w64 (v.2.2.2.2.2.1 - (1 : Int))).toNat) ((0 : Int), (0 : Int), (0 : Int), (0 : Int), (0 : Int), (0 : Int), ())
       bif decide (y8.2.2.1 ≥ y7.2.2.1) then
        some (.inr ((false, ())))
       else
       bif decide (0 ≤ y7.1) then
       bif decide (y7.1.toNat < v.2.2.2.2.2.2.1.length) then
       let y9 := v.2.2.2.2.2.2.1.getD y7.1.toNat (0 : Int)
       bif y7.2.1 != y9 then
        some (.inr ((false, ())))
       else
       bif decide (0 ≤ y7.1) then
       bif decide (y7.1.toNat < v.1.length) then
       let y10 := v.1.getD y7.1.toNat ([] : (List (Int × (Int × (Int × (Int × (Int × (Int × ((Int × (Int × Unit)) × Unit)))))))))
       bif decide (y7.2.1 ≥ (y10.length : Int)) then
        some (.inr ((false, ())))
       else
       bif decide (0 ≤ y7.1) then
       bif decide (y7.1.toNat < v.2.2.2.2.2.2.2.2.1.length) then
       let y11 := v.2.2.2.2.2.2.2.2.1.getD y7.1.toNat false
       bif y11 then
        some (.inr ((false, ())))
       else
       bif decide (0 ≤ y7.1) then
       bif decide (y7.1.toNat < v.2.2.2.2.2.2.2.1.length) then
       let y12 := v.2.2.2.2.2.2.2.1.getD y7.1.toNat (0 : Int)
       bif decide (y7.2.2.1 ≤ y12) then
        some (.inr ((false, ())))
       else
       some (.inl (v.1, v.2.1, v.2.2.1, y7.1, v.2.2.2.1, v.2.2.2.2.1, v.2.2.2.2.2.1, v.2.2.2.2.2.2.1, v.2.2.2.2.2.2.2.1, v.2.2.2.2.2.2.2.2.1, y7.1, y7.2.1, y7.2.2.1, y7.2.2.2.1, y7.2.2.2.2.1, y7.2.2.2.2.2.1, ()))
       else none
       else none
       else none
       else none
       else none
       else none
       else none
       else none
       else none
       else none
      else
      bif decide (0 ≤ y7.1) then
      bif decide (y7.1.toNat < v.2.2.2.2.2.2.1.length) then
      let y13 := v.2.2.2.2.2.2.1.getD y7.1.toNat (0 : Int)
      bif y7.2.1 != y13 then
       some (.inr ((false, ())))
      else
      bif decide (0 ≤ y7.1) then
      bif decide (y7.1.toNat < v.1.length) then
      let y14 := v.1.getD y7.1.toNat ([] : (List (Int × (Int × (Int × (Int × (Int × (Int × ((Int × (Int × Unit)) × Unit)))))))))
      bif decide (y7.2.1 ≥ (y14.length : Int)) then
       some (.inr ((false, ())))
      else
      bif decide (0 ≤ y7.1) then
      bif decide (y7.1.toNat < v.2.2.2.2.2.2.2.2.1.length) then
      let y15 := v.2.2.2.2.2.2.2.2.1.getD y7.1.toNat false
      bif y15 then
       some (.inr ((false, ())))
      else
      bif decide (0 ≤ y7.1) then
      bif decide (y7.1.toNat < v.2.2.2.2.2.2.2.1.length) then
      let y16 := v.2.2.2.2.2.2.2.1.getD y7.1.toNat (0 : Int)
      bif decide (y7.2.2.1 ≤ y16) then
       some (.inr ((false, ())))
      else
      some (.inl (v.1, v.2.1, v.2.2.1, y7.1, v.2.2.2.1, v.2.2.2.2.1, v.2.2.2.2.2.1, v.2.2.2.2.2.2.1, v.2.2.2.2.2.2.2.1, v.2.2.2.2.2.2.2.2.1, y7.1, y7.2.1, y7.2.2.1, y7.2.2.2.1, y7.2.2.2.2.1, y7.2.2.2.2.2.1, ()))
      else none
      else none
      else none
      else none
      else none
      else none
      else none
      else none) fun o17 =>
     Sum.elim (fun o18 =>
      Option.bind (
       let y19 := o18.2.2.2.2.2.2.2.2.2.2.2.2.2.1 == (-1 : Int)
       bif y19 then
        let y20 := o18.2.2.2.2.2.2.2.2.2.2.2.2.2.2.1 != (0 : Int)
        bif y20 then
         some (.inr ((false, ())))
        else
        let y21 := o18.2.2.2.2.2.2.2.2.2.2.2.2.2.2.2.1 != (0 : Int)
        bif y21 then
         some (.inr ((false, ())))
        else
        bif decide (0 ≤ o18.2.2.2.1) then
        bif decide (o18.2.2.2.1.toNat < o18.2.2.2.2.2.2.2.2.2.1.length) then
        let y22 := o18.2.2.2.2.2.2.2.2.2.1.set o18.2.2.2.1.toNat true
        some (.inl (o18.1, o18.2.1, o18.2.2.1, o18.2.2.2.1, o18.2.2.2.2.1, o18.2.2.2.2.2.1, o18.2.2.2.2.2.2.1, o18.2.2.2.2.2.2.2.1, o18.2.2.2.2.2.2.2.2.1, y22, o18.2.2.2.2.2.2.2.2.2.2.1, o18.2.2.2.2.2.2.2.2.2.2.2.1, o18.2.2.2.2.2.2.2.2.2.2.2.2.1, o18.2.2.2.2.2.2.2.2.2.2.2.2.2.1, o18.2.2.2.2.2.2.2.2.2.2.2.2.2.2.1, o18.2.2.2.2.2.2.2.2.2.2.2.2.2.2.2.1, ()))
        else none
        else none
       else
       let y23 := decide (o18.2.2.2.2.2.2.2.2.2.2.2.2.2.1 < o18.2.2.2.2.2.2.2.2.2.2.2.2.1)
       bif y23 then
        some (.inr ((false, ())))
       else
       some (.inl (o18.1, o18.2.1, o18.2.2.1, o18.2.2.2.1, o18.2.2.2.2.1, o18.2.2.2.2.2.1, o18.2.2.2.2.2.2.1, o18.2.2.2.2.2.2.2.1, o18.2.2.2.2.2.2.2.2.1, o18.2.2.2.2.2.2.2.2.2.1, o18.2.2.2.2.2.2.2.2.2.2.1, o18.2.2.2.2.2.2.2.2.2.2.2.1, o18.2.2.2.2.2.2.2.2.2.2.2.2.1, o18.2.2.2.2.2.2.2.2.2.2.2.2.2.1, o18.2.2.2.2.2.2.2.2.2.2.2.2.2.2.1, o18.2.2.2.2.2.2.2.2.2.2.2.2.2.2.2.1, ()))) fun o24 =>
      Sum.elim (fun o25 =>
       bif decide (0 ≤ o25.2.2.2.1) then
       bif decide (o25.2.2.2.1.toNat < o25.2.2.2.2.2.2.2.1.length) then
       let y26 := o25.2.2.2.2.2.2.2.1.getD o25.2.2.2.1.toNat (0 : Int)
       bif decide (0 ≤ o25.2.2.2.1) then
       bif decide (o25.2.2.2.1.toNat < o25.2.2.2.2.2.2.2.1.length) then
       let y27 := o25.2.2.2.2.2.2.2.1.set o25.2.2.2.1.toNat (w64 (y26 + (1 : Int)))
       bif decide (0 ≤ o25.2.2.2.1) then
       bif decide (o25.2.2.2.1.toNat < o25.2.2.2.2.2.2.2.2.1.length) then
       let y28 := o25.2.2.2.2.2.2.2.2.1.set o25.2.2.2.1.toNat o25.2.2.2.2.2.2.2.2.2.2.2.2.2.1
       liHistOk_2 N n (o25.1, o25.2.1, o25.2.2.1, o25.2.2.2.2.1, o25.2.2.2.2.2.1, w64 (o25.2.2.2.2.2.2.1 + (1 : Int)), y27, y28, o25.2.2.2.2.2.2.2.2.2.1, ())
       else none
       else none
       else none
       else none
       else none
       else none) (fun o29 =>
       some (.inr ((o29.1, ())))) o24) (fun o30 =>
      some (.inr ((o30.1, ())))) o17
     else none
     else none
    else
    some (.inl ())
noncomputable def FiHistOk (N : Nat) (x : ((Int × (Int × (Int × Unit))) × ((List (List (Int × (Int × (Int × (Int × (Int × (Int × ((Int × (Int × Unit)) × Unit))))))))) × ((List (Int × (Int × (Int × (Int × (Int × (Int × Unit))))))) × Unit)))) : Option (Bool × Unit) :=
  (FiprogsOk N (x.1, x.2.1, ())).bind fun r1 =>
  bif !r1.1 then
   some (false, ())
  else
  bif decide (0 ≤ x.1.2.1) then
  bif decide (x.1.2.1.toNat ≤ lim) then
  let y2 := List.replicate x.1.2.1.toNat (0 : Int)
  bif decide (0 ≤ x.1.2.1) then
  bif decide (x.1.2.1.toNat ≤ lim) then
  let y3 := List.replicate x.1.2.1.toNat (0 : Int)
  (liHistOk_0 N N (x.2.1, x.2.2.1, x.1, (y3.length : Int), (0 : Int), y2, y3, ())).bind fun o5 =>
  bif decide (0 ≤ o5.2.2.1.2.1) then
  bif decide (o5.2.2.1.2.1.toNat ≤ lim) then
  let y6 := List.replicate o5.2.2.1.2.1.toNat false
  (liHistOk_2 N N (o5.1, o5.2.1, o5.2.2.1, o5.2.1, (o5.2.1.length : Int), (0 : Int), o5.2.2.2.1, o5.2.2.2.2.1, y6, ())).bind fun o31 =>
  Sum.elim (fun o32 =>
   some (true, ())) (fun o33 =>
   some (o33.1, ())) o31
  else none
  else none
  else none
  else none
  else none
  else none
noncomputable def coniHistOk (N : Nat) : Con := { f := 118, din := diniHistOk, outs := outiHistOk, F := FiHistOk N }
noncomputable def XiHistOk (N : Nat) : Ctx := { E := EiHistOk N, H := HiHistOk, lp := [(0, { hd := diHistOk_0, outs := oiHistOk_0, run := fun v => liHistOk_0 N N v }), (2, { hd := diHistOk_2, outs := oiHistOk_2, run := fun v => liHistOk_2 N N v })], jn := [(17, jiHistOk_17), (23, jiHistOk_23)] }
noncomputable def biHistOk_2 : Code := loopBody (codeOf Try.f118) 1
noncomputable def biHistOk_0 : Code := loopBody (codeOf Try.f118) 0
theorem FiHistOk_eq (N : Nat) (x : ((Int × (Int × (Int × Unit))) × ((List (List (Int × (Int × (Int × (Int × (Int × (Int × ((Int × (Int × Unit)) × Unit))))))))) × ((List (Int × (Int × (Int × (Int × (Int × (Int × Unit))))))) × Unit)))) : evFn (XiHistOk N) Try.f118 diniHistOk outiHistOk x = FiHistOk N x := by kernel_rfl
theorem liHistOk_0_eq (N n : Nat) (v : ((List (List (Int × (Int × (Int × (Int × (Int × (Int × ((Int × (Int × Unit)) × Unit))))))))) × ((List (Int × (Int × (Int × (Int × (Int × (Int × Unit))))))) × ((Int × (Int × (Int × Unit))) × (Int × (Int × ((List Int) × ((List Int) × Unit)))))))) : liHistOk_0 N (n + 1) v = ev (XiHistOk N) biHistOk_0 (roundK diHistOk_0 oiHistOk_0 (liHistOk_0 N n)) (diHistOk_0.mk' v) := by kernel_rfl
theorem liHistOk_2_eq (N n : Nat) (v : ((List (List (Int × (Int × (Int × (Int × (Int × (Int × ((Int × (Int × Unit)) × Unit))))))))) × ((List (Int × (Int × (Int × (Int × (Int × (Int × Unit))))))) × ((Int × (Int × (Int × Unit))) × ((List (Int × (Int × (Int × (Int × (Int × (Int × Unit))))))) × (Int × (Int × ((List Int) × ((List Int) × ((List Bool) × Unit)))))))))) : liHistOk_2 N (n + 1) v = ev (XiHistOk N) biHistOk_2 (roundK diHistOk_2 oiHistOk_2 (liHistOk_2 N n)) (diHistOk_2.mk' v) := by kernel_rfl
theorem cxiHistOk (N : Nat) : CtxOk Try.prog (XiHistOk N) := ⟨⟨TE_ok, List.forall_mem_cons.2 ⟨(speciprogsOk N), fun k hk => absurd hk List.not_mem_nil⟩⟩, mixed⟩
theorem lpiHistOk_0 (N : Nat) : LoopOk Try.prog { hd := diHistOk_0, outs := oiHistOk_0, run := fun v => liHistOk_0 N N v } biHistOk_0 :=
  loop_fuel (d := diHistOk_0) (os := oiHistOk_0) (cxiHistOk N) (loops_at (ids := []) (by kernel_rfl) (trivial)) (liHistOk_0 N) (fun _ => rfl) (fun n v => liHistOk_0_eq N n v) (fun _ => N)
theorem lpiHistOk_2 (N : Nat) : LoopOk Try.prog { hd := diHistOk_2, outs := oiHistOk_2, run := fun v => liHistOk_2 N N v } biHistOk_2 :=
  loop_fuel (d := diHistOk_2) (os := oiHistOk_2) (cxiHistOk N) (loops_at (ids := []) (by kernel_rfl) (trivial)) (liHistOk_2 N) (fun _ => rfl) (fun n v => liHistOk_2_eq N n v) (fun _ => N)
theorem speciHistOk (N : Nat) : Spec Try.prog (coniHistOk N) :=
  Spec.of_eq (fn_spec (cxiHistOk N) (f := 118) (fn := Try.f118) (c := codeOf Try.f118) (by kernel_rfl) (by kernel_rfl) (by kernel_rfl) (loops_at (ids := [0, 2]) (by kernel_rfl) ⟨lp_of (lpiHistOk_0 N), ⟨lp_of (lpiHistOk_2 N), trivial⟩⟩) (by kernel_rfl)) (fun x r h => (FiHistOk_eq N x).trans h)

/-! ### 111: impl.truth -/

noncomputable def dinitruth : Desc := { n := 1, regs := [.one (.val .bool)], bx := [], pins := [] }
noncomputable def outitruth : Outs := [(.ret, { n := 1, regs := [.one (.val (.int .i64))], bx := [], pins := [] })]
noncomputable def Hitruth : Hints := []
noncomputable def Eitruth (_N : Nat) : Env := { te := TE, cs := [] }
noncomputable def Fitruth (N : Nat) (x : (Bool × Unit)) : Option (Int × Unit) :=
  bif x.1 then
   some ((1 : Int), ())
  else
  some ((0 : Int), ())
noncomputable def conitruth (N : Nat) : Con := { f := 111, din := dinitruth, outs := outitruth, F := Fitruth N }
noncomputable def Xitruth (N : Nat) : Ctx := { E := Eitruth N, H := Hitruth, lp := [], jn := [] }
theorem Fitruth_eq (N : Nat) (x : (Bool × Unit)) : evFn (Xitruth N) Try.f111 dinitruth outitruth x = Fitruth N x := by kernel_rfl
theorem cxitruth (N : Nat) : CtxOk Try.prog (Xitruth N) := ⟨⟨TE_ok, fun k hk => absurd hk List.not_mem_nil⟩, mixed⟩
theorem specitruth (N : Nat) : Spec Try.prog (conitruth N) :=
  Spec.of_eq (fn_spec (cxitruth N) (f := 111) (fn := Try.f111) (c := codeOf Try.f111) (by kernel_rfl) (by kernel_rfl) (by kernel_rfl) (loops_at (ids := []) (by kernel_rfl) (trivial)) (by kernel_rfl)) (fun x r h => (Fitruth_eq N x).trans h)

/-! ### 160: bits.Mul64 -/

noncomputable def dinmath_bits_Mul64 : Desc := { n := 2, regs := [.one (.val (.int .u64)), .one (.val (.int .u64))], bx := [], pins := [] }
noncomputable def outmath_bits_Mul64 : Outs := [(.ret, { n := 2, regs := [.one (.val (.int .u64)), .one (.val (.int .u64))], bx := [], pins := [] })]
noncomputable def Hmath_bits_Mul64 : Hints := []
noncomputable def Emath_bits_Mul64 (_N : Nat) : Env := { te := TE, cs := [] }
noncomputable def Fmath_bits_Mul64 (N : Nat) (x : (Int × (Int × Unit))) : Option (Int × (Int × Unit)) :=
  let y1 := IntKind.wrap .u64 (((bitsOf .u64 x.1 &&& bitsOf .u64 (4294967295 : Int)).toNat : Int))
  bif decide (0 ≤ (32 : Int)) then
  let y2 := Int.fdiv x.1 (2 ^ min (32 : Int).toNat 64)
  let y3 := IntKind.wrap .u64 (((bitsOf .u64 x.2.1 &&& bitsOf .u64 (4294967295 : Int)).toNat : Int))
  bif decide (0 ≤ (32 : Int)) then
  let y4 := Int.fdiv x.2.1 (2 ^ min (32 : Int).toNat 64)
  bif decide (0 ≤ (32 : Int)) then
  let y5 := Int.fdiv (IntKind.wrap .u64 (y1 * y3)) (2 ^ min (32 : Int).toNat 64)
  let y6 := IntKind.wrap .u64 ((IntKind.wrap .u64 (y2 * y3)) + y5)
  let y7 := IntKind.wrap .u64 (((bitsOf .u64 y6 &&& bitsOf .u64 (4294967295 : Int)).toNat : Int))
  bif decide (0 ≤ (32 : Int)) then
  let y8 := Int.fdiv y6 (2 ^ min (32 : Int).toNat 64)
  let y9 := IntKind.wrap .u64 (y7 + (IntKind.wrap .u64 (y1 * y4)))
  let y10 := IntKind.wrap .u64 ((IntKind.wrap .u64 (y2 * y4)) + y8)
  bif decide (0 ≤ (32 : Int)) then
  let y11 := Int.fdiv y9 (2 ^ min (32 : Int).toNat 64)
  some (IntKind.wrap .u64 (y10 + y11), IntKind.wrap .u64 (x.1 * x.2.1), ())
  else none
  else none
  else none
  else none
  else none
noncomputable def conmath_bits_Mul64 (N : Nat) : Con := { f := 160, din := dinmath_bits_Mul64, outs := outmath_bits_Mul64, F := Fmath_bits_Mul64 N }
noncomputable def Xmath_bits_Mul64 (N : Nat) : Ctx := { E := Emath_bits_Mul64 N, H := Hmath_bits_Mul64, lp := [], jn := [] }
theorem Fmath_bits_Mul64_eq (N : Nat) (x : (Int × (Int × Unit))) : evFn (Xmath_bits_Mul64 N) Try.f160 dinmath_bits_Mul64 outmath_bits_Mul64 x = Fmath_bits_Mul64 N x := by kernel_rfl
theorem cxmath_bits_Mul64 (N : Nat) : CtxOk Try.prog (Xmath_bits_Mul64 N) := ⟨⟨TE_ok, fun k hk => absurd hk List.not_mem_nil⟩, mixed⟩
theorem specmath_bits_Mul64 (N : Nat) : Spec Try.prog (conmath_bits_Mul64 N) :=
  Spec.of_eq (fn_spec (cxmath_bits_Mul64 N) (f := 160) (fn := Try.f160) (c := codeOf Try.f160) (by kernel_rfl) (by kernel_rfl) (by kernel_rfl) (loops_at (ids := []) (by kernel_rfl) (trivial)) (by kernel_rfl)) (fun x r h => (Fmath_bits_Mul64_eq N x).trans h)

/-! ### 156: bits.Mul -/

noncomputable def dinmath_bits_Mul : Desc := { n := 2, regs := [.one (.val (.int .u64)), .one (.val (.int .u64))], bx := [], pins := [] }
noncomputable def outmath_bits_Mul : Outs := [(.ret, { n := 2, regs := [.one (.val (.int .u64)), .one (.val (.int .u64))], bx := [], pins := [] })]
noncomputable def Hmath_bits_Mul : Hints := []
noncomputable def Emath_bits_Mul (N : Nat) : Env := { te := TE, cs := [conmath_bits_Mul64 N] }
noncomputable def Fmath_bits_Mul (N : Nat) (x : (Int × (Int × Unit))) : Option (Int × (Int × Unit)) :=
  (Fmath_bits_Mul64 N (x.1, x.2.1, ())).bind fun r1 =>
  some (r1.1, r1.2.1, ())
noncomputable def conmath_bits_Mul (N : Nat) : Con := { f := 156, din := dinmath_bits_Mul, outs := outmath_bits_Mul, F := Fmath_bits_Mul N }
noncomputable def Xmath_bits_Mul (N : Nat) : Ctx := { E := Emath_bits_Mul N, H := Hmath_bits_Mul, lp := [], jn := [] }
theorem Fmath_bits_Mul_eq (N : Nat) (x : (Int × (Int × Unit))) : evFn (Xmath_bits_Mul N) Try.f156 dinmath_bits_Mul outmath_bits_Mul x = Fmath_bits_Mul N x := by kernel_rfl
theorem cxmath_bits_Mul (N : Nat) : CtxOk Try.prog (Xmath_bits_Mul N) := ⟨⟨TE_ok, List.forall_mem_cons.2 ⟨(specmath_bits_Mul64 N), fun k hk => absurd hk List.not_mem_nil⟩⟩, mixed⟩
theorem specmath_bits_Mul (N : Nat) : Spec Try.prog (conmath_bits_Mul N) :=
  Spec.of_eq (fn_spec (cxmath_bits_Mul N) (f := 156) (fn := Try.f156) (c := codeOf Try.f156) (by kernel_rfl) (by kernel_rfl) (by kernel_rfl) (loops_at (ids := []) (by kernel_rfl) (trivial)) (by kernel_rfl)) (fun x r h => (Fmath_bits_Mul_eq N x).trans h)

/-! ### 145: slices.Repeat[[]int,int] -/

noncomputable def dinkRepeat_Sint_int : Desc := { n := 2, regs := [.one (.val (.sl (.int .i64))), .one (.val (.int .i64))], bx := [], pins := [] }
noncomputable def outkRepeat_Sint_int : Outs := [(.ret, { n := 1, regs := [.one (.lit (.row 1076928))], bx := [(1076928, .row (.int .i64))], pins := [] })]
noncomputable def HkRepeat_Sint_int : Hints := []
noncomputable def EkRepeat_Sint_int (N : Nat) : Env := { te := TE, cs := [conmath_bits_Mul N] }
noncomputable def dkRepeat_Sint_int_0 : Desc := { n := 48, regs := [u, u, u, u, u, u, u, .one (.lit (.row 1076928)), .one (.val (.int .i64))], bx := [(1076928, .row (.int .i64))], pins := [] }
noncomputable def okRepeat_Sint_int_0 : Outs := [(.exit 0, { n := 48, regs := [u, u, u, u, u, u, u, .one (.lit (.row 1076928))], bx := [(1076928, .row (.int .i64))], pins := [] })]
noncomputable def jkRepeat_Sint_int_3 : Outs := [(.normal, { n := 48, regs := [.one (.val (.sl (.int .i64))), .one (.val (.int .i64))], bx := [], pins := [] })]
noncomputable def jkRepeat_Sint_int_6 : Outs := [(.normal, { n := 48, regs := [.one (.val (.sl (.int .i64))), u, u, u, u, u, .one (.val (.int .u64))], bx := [], pins := [] })]
noncomputable def lkRepeat_Sint_int_0 (N : Nat) : Nat → (Int × ((List Int) × Unit)) → Option ((List Int) × Unit)
  | 0, _ => none
  | n + 1, v =>
    bif decide (v.1 < (v.2.1.length : Int)) then
     bif decide (0 ≤ (v.2.1.length : Int)) then
     bif decide ((v.2.1.length : Int) ≤ (v.2.1.length : Int)) then
     bif decide (0 ≤ v.1) then
     bif decide (v.1 ≤ (v.2.1.length : Int)) then
     bif decide (0 ≤ v.1) then
     bif decide (v.1 ≤ (v.2.1.length : Int)) then
     bif decide (0 ≤ (0 : Int)) then
     bif decide ((0 : Int) ≤ v.1) then
     let y8 := lay v.2.1 v.1.toNat (((v.2.1.drop ((0 : Int).toNat)).take (v.1.toNat - (0 : Int).toNat)).take ((v.2.1.length : Int).toNat - v.1.toNat))
     let y9 := ((min ((v.2.1.drop ((0 : Int).toNat)).take (v.1.toNat - (0 : Int).toNat)).length ((v.2.1.length : Int).toNat - v.1.toNat) : Nat) : Int)
     lkRepeat_Sint_int_0 N n (w64 (v.1 + y9), y8, ())
     else none
     else none
     else none
     else none
     else none
     else none
     else none
     else none
    else
    some (v.2.1, ())
noncomputable def FkRepeat_Sint_int (N : Nat) (x : ((List Int) × (Int × Unit))) : Option ((List Int) × Unit) :=
  Option.bind (
   bif decide (x.2.1 < (0 : Int)) then
    none
   else
   some (x.1, x.2.1, ())) fun o1 =>
  let y2 := IntKind.wrap .u64 ((o1.1.length : Int))
  (Fmath_bits_Mul N (y2, IntKind.wrap .u64 (o1.2.1), ())).bind fun r3 =>
  Option.bind (
   bif decide (r3.1 > (0 : Int)) then
    none
   else
   let y4 := decide (r3.2.1 > (9223372036854775807 : Int))
   bif y4 then
    none
   else
   some (o1.1, r3.2.1, ())) fun o5 =>
  bif decide (0 ≤ (w64 (o5.2.1))) then
  bif decide ((w64 (o5.2.1)).toNat ≤ lim) then
  let y6 := List.replicate (w64 (o5.2.1)).toNat (0 : Int)
  let y7 := ((min o5.1.length y6.length : Nat) : Int)
  (lkRepeat_Sint_int_0 N N (y7, lay y6 0 (o5.1.take y6.length), ())).bind fun o10 =>
  some (o10.1, ())
  else none
  else none
noncomputable def conkRepeat_Sint_int (N : Nat) : Con := { f := 145, din := dinkRepeat_Sint_int, outs := outkRepeat_Sint_int, F := FkRepeat_Sint_int N }
noncomputable def XkRepeat_Sint_int (N : Nat) : Ctx := { E := EkRepeat_Sint_int N, H := HkRepeat_Sint_int, lp := [(0, { hd := dkRepeat_Sint_int_0, outs := okRepeat_Sint_int_0, run := fun v => lkRepeat_Sint_int_0 N N v })], jn := [(3, jkRepeat_Sint_int_3), (6, jkRepeat_Sint_int_6)] }
noncomputable def bkRepeat_Sint_int_0 : Code := loopBody (codeOf Try.f145) 0
theorem FkRepeat_Sint_int_eq (N : Nat) (x : ((List Int) × (Int × Unit))) : evFn (XkRepeat_Sint_int N) Try.f145 dinkRepeat_Sint_int outkRepeat_Sint_int x = FkRepeat_Sint_int N x := by kernel_rfl
theorem lkRepeat_Sint_int_0_eq (N n : Nat) (v : (Int × ((List Int) × Unit))) : lkRepeat_Sint_int_0 N (n + 1) v = ev (XkRepeat_Sint_int N) bkRepeat_Sint_int_0 (roundK dkRepeat_Sint_int_0 okRepeat_Sint_int_0 (lkRepeat_Sint_int_0 N n)) (dkRepeat_Sint_int_0.mk' v) := by kernel_rfl
theorem cxkRepeat_Sint_int (N : Nat) : CtxOk Try.prog (XkRepeat_Sint_int N) := ⟨⟨TE_ok, List.forall_mem_cons.2 ⟨(specmath_bits_Mul N), fun k hk => absurd hk List.not_mem_nil⟩⟩, mixed⟩
theorem lpkRepeat_Sint_int_0 (N : Nat) : LoopOk Try.prog { hd := dkRepeat_Sint_int_0, outs := okRepeat_Sint_int_0, run := fun v => lkRepeat_Sint_int_0 N N v } bkRepeat_Sint_int_0 :=
  loop_fuel (d := dkRepeat_Sint_int_0) (os := okRepeat_Sint_int_0) (cxkRepeat_Sint_int N) (loops_at (ids := []) (by kernel_rfl) (trivial)) (lkRepeat_Sint_int_0 N) (fun _ => rfl) (fun n v => lkRepeat_Sint_int_0_eq N n v) (fun _ => N)
theorem speckRepeat_Sint_int (N : Nat) : Spec Try.prog (conkRepeat_Sint_int N) :=
  Spec.of_eq (fn_spec (cxkRepeat_Sint_int N) (f := 145) (fn := Try.f145) (c := codeOf Try.f145) (by kernel_rfl) (by kernel_rfl) (by kernel_rfl) (loops_at (ids := [0]) (by kernel_rfl) ⟨lp_of (lpkRepeat_Sint_int_0 N), trivial⟩) (by kernel_rfl)) (fun x r h => (FkRepeat_Sint_int_eq N x).trans h)

/-! ### 110: impl.none -/

noncomputable def dininone : Desc := { n := 1, regs := [.one (.val (.int .i64))], bx := [], pins := [] }
noncomputable def outinone : Outs := [(.ret, { n := 1, regs := [.one (.lit (.row 1012929))], bx := [(1012929, .row (.int .i64))], pins := [] })]
noncomputable def Hinone : Hints := []
noncomputable def Einone (N : Nat) : Env := { te := TE, cs := [conkRepeat_Sint_int N] }
noncomputable def Finone (N : Nat) (x : (Int × Unit)) : Option ((List Int) × Unit) :=
  (FkRepeat_Sint_int N ([(-1 : Int)], x.1, ())).bind fun r1 =>
  some (r1.1, ())
noncomputable def coninone (N : Nat) : Con := { f := 110, din := dininone, outs := outinone, F := Finone N }
noncomputable def Xinone (N : Nat) : Ctx := { E := Einone N, H := Hinone, lp := [], jn := [] }
theorem Finone_eq (N : Nat) (x : (Int × Unit)) : evFn (Xinone N) Try.f110 dininone outinone x = Finone N x := by kernel_rfl
theorem cxinone (N : Nat) : CtxOk Try.prog (Xinone N) := ⟨⟨TE_ok, List.forall_mem_cons.2 ⟨(speckRepeat_Sint_int N), fun k hk => absurd hk List.not_mem_nil⟩⟩, mixed⟩
theorem specinone (N : Nat) : Spec Try.prog (coninone N) :=
  Spec.of_eq (fn_spec (cxinone N) (f := 110) (fn := Try.f110) (c := codeOf Try.f110) (by kernel_rfl) (by kernel_rfl) (by kernel_rfl) (loops_at (ids := []) (by kernel_rfl) (trivial)) (by kernel_rfl)) (fun x r h => (Finone_eq N x).trans h)

/-! ### 121: impl.GraphNew -/

noncomputable def diniGraphNew : Desc := { n := 1, regs := [.one (.val (.int .i64))], bx := [], pins := [] }
noncomputable def outiGraphNew : Outs := [(.ret, { n := 2, regs := [.agg [.lit (.row 1038592), .lit (.row 1038658), .lit .nil], .one (.val .bool)], bx := [(1038592, .row (.pair (.sl (.int .i64)) (.pair (.sl (.int .i64)) .unit))), (1038658, .row (.sl (.int .i64)))], pins := [] })]
noncomputable def HiGraphNew : Hints := [(2, [(0, { nl := [(0, (.pair (.sl (.int .i64)) (.pair (.sl (.int .i64)) .unit))), (1, (.sl (.int .i64)))] })]),
  (3, [(3, { dp := true }), (4, { nl := [(1, (.sl (.int .i64)))] })]),
  (6, [(3, { dp := true }), (4, { dp := true })])]
noncomputable def EiGraphNew (N : Nat) : Env := { te := TE, cs := [coninone N] }
noncomputable def diGraphNew_0 : Desc := { n := 28, regs := [u, u, .one (.lit (.ptr 1000000 0)), u, .one (.lit (.ptr 1038720 0)), u, u, u, u, u, u, u, u, u, u, u, u, .one (.val (.int .i64)), .one (.val (.int .i64))], bx := [(1000000, .var [.lit .nil, .lit .nil, .lit .nil]), (1038720, .var [.lit (.row 1038592), .lit (.row 1038658), .lit .nil]), (1038592, .row (.pair (.sl (.int .i64)) (.pair (.sl (.int .i64)) .unit))), (1038658, .row (.sl (.int .i64)))], pins := [] }
noncomputable def oiGraphNew_0 : Outs := [(.exit 0, { n := 28, regs := [u, u, .one (.lit (.ptr 1000000 0)), u, .one (.lit (.ptr 1038720 0))], bx := [(1000000, .var [.lit .nil, .lit .nil, .lit .nil]), (1038720, .var [.lit (.row 1038592), .lit (.row 1038658), .lit .nil]), (1038592, .row (.pair (.sl (.int .i64)) (.pair (.sl (.int .i64)) .unit))), (1038658, .row (.sl (.int .i64)))], pins := [] })]
noncomputable def jiGraphNew_3 : Outs := [(.normal, { n := 28, regs := [.one (.val (.int .i64)), u, .one (.lit (.ptr 1000000 0))], bx := [(1000000, .var [.lit .nil, .lit .nil, .lit .nil])], pins := [] }), (.ret, { n := 28, regs := [u, u, .one (.lit (.ptr 1000000 0)), .one (.val .bool)], bx := [(1000000, .var [.lit (.row 1025601), .lit (.row 1025602), .lit .nil]), (1025601, .row (.pair (.sl (.int .i64)) (.pair (.sl (.int .i64)) .unit))), (1025602, .row (.sl (.int .i64)))], pins := [] })]
noncomputable def liGraphNew_0 (N : Nat) : Nat → (Int × (Int × ((List ((List Int) × ((List Int) × Unit))) × ((List (List Int)) × Unit)))) → Option ((List ((List Int) × ((List Int) × Unit))) × ((List (List Int)) × Unit))
  | 0, _ => none
  | n + 1, v =>
    bif decide (v.2.1 < v.1) then
     bif decide (v.2.2.2.1.length + [[(0 : Int)]].length ≤ lim) then
     liGraphNew_0 N n (v.1, w64 (v.2.1 + (1 : Int)), v.2.2.1, v.2.2.2.1 ++ [[(0 : Int)]], ())
     else none
    else
    some (v.2.2.1, v.2.2.2.1, ())
noncomputable def FiGraphNew (N : Nat) (x : (Int × Unit)) : Option (Bool × ((List ((List Int) × ((List Int) × Unit))) × ((List (List Int)) × Unit))) :=
  Option.bind (
   bif decide (x.1 < (1 : Int)) then
    let y1 := ([] : (List ((List Int) × ((List Int) × Unit))))
    some (.inr ((false, y1, ([] : (List (List Int))), ())))
   else
   bif decide (x.1 > (3 : Int)) then
    let y2 := ([] : (List ((List Int) × ((List Int) × Unit))))
    some (.inr ((false, y2, ([] : (List (List Int))), ())))
   else
   some (.inl (x.1, ()))) fun o3 =>
  Sum.elim (fun o4 =>
   (Finone N ((4 : Int), ())).bind fun r5 =>
   bif decide (0 ≤ (2 : Int)) then
   bif decide ((2 : Int).toNat ≤ lim) then
   let y6 := List.replicate (2 : Int).toNat (0 : Int)
   (liGraphNew_0 N N (o4.1, (0 : Int), [(r5.1, y6, ())], ([] : (List (List Int))), ())).bind fun o7 =>
   some (true, o7.1, o7.2.1, ())
   else none
   else none) (fun o8 =>
   some (o8.1, o8.2.1, o8.2.2.1, ())) o3
noncomputable def coniGraphNew (N : Nat) : Con := { f := 121, din := diniGraphNew, outs := outiGraphNew, F := FiGraphNew N }
noncomputable def XiGraphNew (N : Nat) : Ctx := { E := EiGraphNew N, H := HiGraphNew, lp := [(0, { hd := diGraphNew_0, outs := oiGraphNew_0, run := fun v => liGraphNew_0 N N v })], jn := [(3, jiGraphNew_3)] }
noncomputable def biGraphNew_0 : Code := loopBody (codeOf Try.f121) 0
theorem FiGraphNew_eq (N : Nat) (x : (Int × Unit)) : evFn (XiGraphNew N) Try.f121 diniGraphNew outiGraphNew x = FiGraphNew N x := by kernel_rfl
theorem liGraphNew_0_eq (N n : Nat) (v : (Int × (Int × ((List ((List Int) × ((List Int) × Unit))) × ((List (List Int)) × Unit))))) : liGraphNew_0 N (n + 1) v = ev (XiGraphNew N) biGraphNew_0 (roundK diGraphNew_0 oiGraphNew_0 (liGraphNew_0 N n)) (diGraphNew_0.mk' v) := by kernel_rfl
theorem cxiGraphNew (N : Nat) : CtxOk Try.prog (XiGraphNew N) := ⟨⟨TE_ok, List.forall_mem_cons.2 ⟨(specinone N), fun k hk => absurd hk List.not_mem_nil⟩⟩, mixed⟩
theorem lpiGraphNew_0 (N : Nat) : LoopOk Try.prog { hd := diGraphNew_0, outs := oiGraphNew_0, run := fun v => liGraphNew_0 N N v } biGraphNew_0 :=
  loop_fuel (d := diGraphNew_0) (os := oiGraphNew_0) (cxiGraphNew N) (loops_at (ids := []) (by kernel_rfl) (trivial)) (liGraphNew_0 N) (fun _ => rfl) (fun n v => liGraphNew_0_eq N n v) (fun _ => N)
theorem speciGraphNew (N : Nat) : Spec Try.prog (coniGraphNew N) :=
  Spec.of_eq (fn_spec (cxiGraphNew N) (f := 121) (fn := Try.f121) (c := codeOf Try.f121) (by kernel_rfl) (by kernel_rfl) (by kernel_rfl) (loops_at (ids := [0]) (by kernel_rfl) ⟨lp_of (lpiGraphNew_0 N), trivial⟩) (by kernel_rfl)) (fun x r h => (FiGraphNew_eq N x).trans h)

/-! ### 119: impl.HistFits$1 -/

noncomputable def diniHistFits_1 : Desc := { n := 3, regs := [.one (.val (.int .i64)), .one (.fpt (.sl (.pair (.int .i64) (.pair (.int .i64) (.pair (.int .i64) (.pair (.int .i64) (.pair (.int .i64) (.pair (.int .i64) .unit)))))))), .one (.fpt (.sl .bool))], bx := [], pins := [] }
noncomputable def outiHistFits_1 : Outs := [(.ret, { n := 1, regs := [.one (.val .bool)], bx := [], pins := [] })]
noncomputable def HiHistFits_1 : Hints := []
noncomputable def EiHistFits_1 (_N : Nat) : Env := { te := TE, cs := [] }
noncomputable def diHistFits_1_0 : Desc := { n := 35, regs := [.one (.val (.int .i64)), .one (.fpt (.sl (.pair (.int .i64) (.pair (.int .i64) (.pair (.int .i64) (.pair (.int .i64) (.pair (.int .i64) (.pair (.int .i64) .unit)))))))), .one (.fpt (.sl .bool)), u, u, u, u, .one (.val (.sl (.pair (.int .i64) (.pair (.int .i64) (.pair (.int .i64) (.pair (.int .i64) (.pair (.int .i64) (.pair (.int .i64) .unit)))))))), .one (.val (.int .i64)), .one (.val (.int .i64))], bx := [], pins := [] }
noncomputable def oiHistFits_1_0 : Outs := [(.exit 0, { n := 35, regs := [], bx := [], pins := [] }), (.ret, { n := 35, regs := [u, u, u, u, .one (.val .bool)], bx := [], pins := [] })]
noncomputable def liHistFits_1_0 (N : Nat) : Nat → (Int × ((List (Int × (Int × (Int × (Int × (Int × (Int × Unit))))))) × ((List Bool) × ((List (Int × (Int × (Int × (Int × (Int × (Int × Unit))))))) × (Int × (Int × Unit)))))) → Option (Unit ⊕ (Bool × Unit))
  | 0, _ => none
  | n + 1, v =>
    bif decide (v.2.2.2.2.2.1 < v.2.2.2.2.1) then
     bif decide (0 ≤ v.2.2.2.2.2.1) then
     bif decide (v.2.2.2.2.2.1.toNat < v.2.2.2.1.length) then
     let y1 := v.2.2.2.1.getD v.2.2.2.2.2.1.toNat ((0 : Int), (0 : Int), (0 : Int), (0 : Int), (0 : Int), (0 : Int), ())
     bif decide (0 ≤ v.2.2.2.2.2.1) then
     bif decide (v.2.2.2.2.2.1.toNat < v.2.2.1.length) then
     let y2 := v.2.2.1.getD v.2.2.2.2.2.1.toNat false
     bif !y2 then
      bif y1.2.2.2.1 != (-1 : Int) then
       bif decide (0 ≤ v.1) then
       bif decide (v.1.toNat < v.2.1.length) then
       let y3 := v.2.1.getD v.1.toNat ((0 : Int), (0 : Int), (0 : Int), (0 : Int), (0 : Int), (0 : Int), ())
       bif decide (y3.2.2.1 > y1.2.2.2.1) then
        some (.inr ((false, ())))
       else
       liHistFits_1_0 N n (v.1, v.2.1, v.2.2.1, v.2.2.2.1, v.2.2.2.2.1, w64 (v.2.2.2.2.2.1 + (1 : Int)), ())
       else none
       else none
      else
      liHistFits_1_0 N n (v.1, v.2.1, v.2.2.1, v.2.2.2.1, v.2.2.2.2.1, w64 (v.2.2.2.2.2.1 + (1 : Int)), ())
     else
     liHistFits_1_0 N n (v.1, v.2.1, v.2.2.1, v.2.2.2.1, v.2.2.2.2.1, w64 (v.2.2.2.2.2.1 + (1 : Int)), ())
     else none
     else none
     else none
     else none
    else
    some (.inl ())
noncomputable def FiHistFits_1 (N : Nat) (x : (Int × ((List (Int × (Int × (Int × (Int × (Int × (Int × Unit))))))) × ((List Bool) × Unit)))) : Option (Bool × Unit) :=
  (liHistFits_1_0 N N (x.1, x.2.1, x.2.2.1, x.2.1, (x.2.1.length : Int), (0 : Int), ())).bind fun o4 =>
  Sum.elim (fun o5 =>
   some (true, ())) (fun o6 =>
   some (o6.1, ())) o4
noncomputable def coniHistFits_1 (N : Nat) : Con := { f := 119, din := diniHistFits_1, outs := outiHistFits_1, F := FiHistFits_1 N }
noncomputable def XiHistFits_1 (N : Nat) : Ctx := { E := EiHistFits_1 N, H := HiHistFits_1, lp := [(0, { hd := diHistFits_1_0, outs := oiHistFits_1_0, run := fun v => liHistFits_1_0 N N v })], jn := [] }
noncomputable def biHistFits_1_0 : Code := loopBody (codeOf Try.f119) 0
theorem FiHistFits_1_eq (N : Nat) (x : (Int × ((List (Int × (Int × (Int × (Int × (Int × (Int × Unit))))))) × ((List Bool) × Unit)))) : evFn (XiHistFits_1 N) Try.f119 diniHistFits_1 outiHistFits_1 x = FiHistFits_1 N x := by kernel_rfl
theorem liHistFits_1_0_eq (N n : Nat) (v : (Int × ((List (Int × (Int × (Int × (Int × (Int × (Int × Unit))))))) × ((List Bool) × ((List (Int × (Int × (Int × (Int × (Int × (Int × Unit))))))) × (Int × (Int × Unit))))))) : liHistFits_1_0 N (n + 1) v = ev (XiHistFits_1 N) biHistFits_1_0 (roundK diHistFits_1_0 oiHistFits_1_0 (liHistFits_1_0 N n)) (diHistFits_1_0.mk' v) := by kernel_rfl
theorem cxiHistFits_1 (N : Nat) : CtxOk Try.prog (XiHistFits_1 N) := ⟨⟨TE_ok, fun k hk => absurd hk List.not_mem_nil⟩, mixed⟩
theorem lpiHistFits_1_0 (N : Nat) : LoopOk Try.prog { hd := diHistFits_1_0, outs := oiHistFits_1_0, run := fun v => liHistFits_1_0 N N v } biHistFits_1_0 :=
  loop_fuel (d := diHistFits_1_0) (os := oiHistFits_1_0) (cxiHistFits_1 N) (loops_at (ids := []) (by kernel_rfl) (trivial)) (liHistFits_1_0 N) (fun _ => rfl) (fun n v => liHistFits_1_0_eq N n v) (fun _ => N)
theorem speciHistFits_1 (N : Nat) : Spec Try.prog (coniHistFits_1 N) :=
  Spec.of_eq (fn_spec (cxiHistFits_1 N) (f := 119) (fn := Try.f119) (c := codeOf Try.f119) (by kernel_rfl) (by kernel_rfl) (by kernel_rfl) (loops_at (ids := [0]) (by kernel_rfl) ⟨lp_of (lpiHistFits_1_0 N), trivial⟩) (by kernel_rfl)) (fun x r h => (FiHistFits_1_eq N x).trans h)

/-! ### 148: impl.Graph).leads$1 -/

noncomputable def diniGraph_leads_1 : Desc := { n := 3, regs := [.one (.val (.int .i64)), .one (.fpt (.int .i64)), .one (.fpt (.pair (.sl (.pair (.sl (.int .i64)) (.pair (.sl (.int .i64)) .unit))) (.pair (.sl (.sl (.int .i64))) (.pair (.sl (.int .i64)) .unit))))], bx := [], pins := [] }
noncomputable def outiGraph_leads_1 : Outs := [(.ret, { n := 1, regs := [.one (.val .bool)], bx := [], pins := [] })]
noncomputable def HiGraph_leads_1 : Hints := []
noncomputable def EiGraph_leads_1 (_N : Nat) : Env := { te := TE, cs := [] }
noncomputable def FiGraph_leads_1 (N : Nat) (x : (Int × (Int × (((List ((List Int) × ((List Int) × Unit))) × ((List (List Int)) × ((List Int) × Unit))) × Unit)))) : Option (Bool × Unit) :=
  bif decide (x.1 < x.2.1) then
   some (true, ())
  else
  let y1 := decide (x.1 ≥ (x.2.2.1.1.length : Int))
  some (y1, ())
noncomputable def coniGraph_leads_1 (N : Nat) : Con := { f := 148, din := diniGraph_leads_1, outs := outiGraph_leads_1, F := FiGraph_leads_1 N }
noncomputable def XiGraph_leads_1 (N : Nat) : Ctx := { E := EiGraph_leads_1 N, H := HiGraph_leads_1, lp := [], jn := [] }
theorem FiGraph_leads_1_eq (N : Nat) (x : (Int × (Int × (((List ((List Int) × ((List Int) × Unit))) × ((List (List Int)) × ((List Int) × Unit))) × Unit)))) : evFn (XiGraph_leads_1 N) Try.f148 diniGraph_leads_1 outiGraph_leads_1 x = FiGraph_leads_1 N x := by kernel_rfl
theorem cxiGraph_leads_1 (N : Nat) : CtxOk Try.prog (XiGraph_leads_1 N) := ⟨⟨TE_ok, fun k hk => absurd hk List.not_mem_nil⟩, mixed⟩
theorem speciGraph_leads_1 (N : Nat) : Spec Try.prog (coniGraph_leads_1 N) :=
  Spec.of_eq (fn_spec (cxiGraph_leads_1 N) (f := 148) (fn := Try.f148) (c := codeOf Try.f148) (by kernel_rfl) (by kernel_rfl) (by kernel_rfl) (loops_at (ids := []) (by kernel_rfl) (trivial)) (by kernel_rfl)) (fun x r h => (FiGraph_leads_1_eq N x).trans h)

/-! ### 157: slices.IndexFunc[[]int,int] -/

noncomputable def dinkIndexFunc_Sint_int_iGraph_leads_1 : Desc := { n := 2, regs := [.one (.val (.sl (.int .i64))), .one (.clo 148 [.inr (.int .i64), .inr (.pair (.sl (.pair (.sl (.int .i64)) (.pair (.sl (.int .i64)) .unit))) (.pair (.sl (.sl (.int .i64))) (.pair (.sl (.int .i64)) .unit)))])], bx := [], pins := [] }
noncomputable def outkIndexFunc_Sint_int_iGraph_leads_1 : Outs := [(.ret, { n := 1, regs := [.one (.val (.int .i64))], bx := [], pins := [] })]
noncomputable def HkIndexFunc_Sint_int_iGraph_leads_1 : Hints := []
noncomputable def EkIndexFunc_Sint_int_iGraph_leads_1 (N : Nat) : Env := { te := TE, cs := [coniGraph_leads_1 N] }
noncomputable def dkIndexFunc_Sint_int_iGraph_leads_1_0 : Desc := { n := 19, regs := [.one (.val (.sl (.int .i64))), .one (.clo 148 [.inr (.int .i64), .inr (.pair (.sl (.pair (.sl (.int .i64)) (.pair (.sl (.int .i64)) .unit))) (.pair (.sl (.sl (.int .i64))) (.pair (.sl (.int .i64)) .unit)))]), u, u, u, u, u, .one (.val (.int .i64)), .one (.val (.int .i64))], bx := [], pins := [] }
noncomputable def okIndexFunc_Sint_int_iGraph_leads_1_0 : Outs := [(.exit 0, { n := 19, regs := [], bx := [], pins := [] }), (.ret, { n := 19, regs := [u, u, u, u, .one (.val (.int .i64))], bx := [], pins := [] })]
noncomputable def lkIndexFunc_Sint_int_iGraph_leads_1_0 (N : Nat) : Nat → ((List Int) × (Int × (((List ((List Int) × ((List Int) × Unit))) × ((List (List Int)) × ((List Int) × Unit))) × (Int × (Int × Unit))))) → Option (Unit ⊕ (Int × Unit))
  | 0, _ => none
  | n + 1, v =>
    bif decide (v.2.2.2.2.1 < v.2.2.2.1) then
     bif decide (0 ≤ v.2.2.2.2.1) then
     bif decide (v.2.2.2.2.1.toNat < v.1.length) then
     (FiGraph_leads_1 N (v.1.getD v.2.2.2.2.1.toNat (0 : Int), v.2.1, v.2.2.1, ())).bind fun r1 =>
     bif r1.1 then
      some (.inr ((v.2.2.2.2.1, ())))
     else
     lkIndexFunc_Sint_int_iGraph_leads_1_0 N n (v.1, v.2.1, v.2.2.1, v.2.2.2.1, w64 (v.2.2.2.2.1 + (1 : Int)), ())
     else none
     else none
    else
    some (.inl ())
noncomputable def FkIndexFunc_Sint_int_iGraph_leads_1 (N : Nat) (x : ((List Int) × (Int × (((List ((List Int) × ((List Int) × Unit))) × ((List (List Int)) × ((List Int) × Unit))) × Unit)))) : Option (Int × Unit) :=
  (lkIndexFunc_Sint_int_iGraph_leads_1_0 N N (x.1, x.2.1, x.2.2.1, (x.1.length : Int), (0 : Int), ())).bind fun o2 =>
  Sum.elim (fun o3 =>
   some ((-1 : Int), ())) (fun o4 =>
   some (o4.1, ())) o2
noncomputable def conkIndexFunc_Sint_int_iGraph_leads_1 (N : Nat) : Con := { f := 157, din := dinkIndexFunc_Sint_int_iGraph_leads_1, outs := outkIndexFunc_Sint_int_iGraph_leads_1, F := FkIndexFunc_Sint_int_iGraph_leads_1 N }
noncomputable def XkIndexFunc_Sint_int_iGraph_leads_1 (N : Nat) : Ctx := { E := EkIndexFunc_Sint_int_iGraph_leads_1 N, H := HkIndexFunc_Sint_int_iGraph_leads_1, lp := [(0, { hd := dkIndexFunc_Sint_int_iGraph_leads_1_0, outs := okIndexFunc_Sint_int_iGraph_leads_1_0, run := fun v => lkIndexFunc_Sint_int_iGraph_leads_1_0 N N v })], jn := [] }
noncomputable def bkIndexFunc_Sint_int_iGraph_leads_1_0 : Code := loopBody (codeOf Try.f157) 0
theorem FkIndexFunc_Sint_int_iGraph_leads_1_eq (N : Nat) (x : ((List Int) × (Int × (((List ((List Int) × ((List Int) × Unit))) × ((List (List Int)) × ((List Int) × Unit))) × Unit)))) : evFn (XkIndexFunc_Sint_int_iGraph_leads_1 N) Try.f157 dinkIndexFunc_Sint_int_iGraph_leads_1 outkIndexFunc_Sint_int_iGraph_leads_1 x = FkIndexFunc_Sint_int_iGraph_leads_1 N x := by kernel_rfl
theorem lkIndexFunc_Sint_int_iGraph_leads_1_0_eq (N n : Nat) (v : ((List Int) × (Int × (((List ((List Int) × ((List Int) × Unit))) × ((List (List Int)) × ((List Int) × Unit))) × (Int × (Int × Unit)))))) : lkIndexFunc_Sint_int_iGraph_leads_1_0 N (n + 1) v = ev (XkIndexFunc_Sint_int_iGraph_leads_1 N) bkIndexFunc_Sint_int_iGraph_leads_1_0 (roundK dkIndexFunc_Sint_int_iGraph_leads_1_0 okIndexFunc_Sint_int_iGraph_leads_1_0 (lkIndexFunc_Sint_int_iGraph_leads_1_0 N n)) (dkIndexFunc_Sint_int_iGraph_leads_1_0.mk' v) := by kernel_rfl
theorem cxkIndexFunc_Sint_int_iGraph_leads_1 (N : Nat) : CtxOk Try.prog (XkIndexFunc_Sint_int_iGraph_leads_1 N) := ⟨⟨TE_ok, List.forall_mem_cons.2 ⟨(speciGraph_leads_1 N), fun k hk => absurd hk List.not_mem_nil⟩⟩, mixed⟩
theorem lpkIndexFunc_Sint_int_iGraph_leads_1_0 (N : Nat) : LoopOk Try.prog { hd := dkIndexFunc_Sint_int_iGraph_leads_1_0, outs := okIndexFunc_Sint_int_iGraph_leads_1_0, run := fun v => lkIndexFunc_Sint_int_iGraph_leads_1_0 N N v } bkIndexFunc_Sint_int_iGraph_leads_1_0 :=
  loop_fuel (d := dkIndexFunc_Sint_int_iGraph_leads_1_0) (os := okIndexFunc_Sint_int_iGraph_leads_1_0) (cxkIndexFunc_Sint_int_iGraph_leads_1 N) (loops_at (ids := []) (by kernel_rfl) (trivial)) (lkIndexFunc_Sint_int_iGraph_leads_1_0 N) (fun _ => rfl) (fun n v => lkIndexFunc_Sint_int_iGraph_leads_1_0_eq N n v) (fun _ => N)
theorem speckIndexFunc_Sint_int_iGraph_leads_1 (N : Nat) : Spec Try.prog (conkIndexFunc_Sint_int_iGraph_leads_1 N) :=
  Spec.of_eq (fn_spec (cxkIndexFunc_Sint_int_iGraph_leads_1 N) (f := 157) (fn := Try.f157) (c := codeOf Try.f157) (by kernel_rfl) (by kernel_rfl) (by kernel_rfl) (loops_at (ids := [0]) (by kernel_rfl) ⟨lp_of (lpkIndexFunc_Sint_int_iGraph_leads_1_0 N), trivial⟩) (by kernel_rfl)) (fun x r h => (FkIndexFunc_Sint_int_iGraph_leads_1_eq N x).trans h)

/-! ### 147: slices.ContainsFunc[[]int,int] -/

noncomputable def dinkContainsFunc_Sint_int_iGraph_leads_1 : Desc := { n := 2, regs := [.one (.val (.sl (.int .i64))), .one (.clo 148 [.inr (.int .i64), .inr (.pair (.sl (.pair (.sl (.int .i64)) (.pair (.sl (.int .i64)) .unit))) (.pair (.sl (.sl (.int .i64))) (.pair (.sl (.int .i64)) .unit)))])], bx := [], pins := [] }
noncomputable def outkContainsFunc_Sint_int_iGraph_leads_1 : Outs := [(.ret, { n := 1, regs := [.one (.val .bool)], bx := [], pins := [] })]
noncomputable def HkContainsFunc_Sint_int_iGraph_leads_1 : Hints := []
noncomputable def EkContainsFunc_Sint_int_iGraph_leads_1 (N : Nat) : Env := { te := TE, cs := [conkIndexFunc_Sint_int_iGraph_leads_1 N] }
noncomputable def FkContainsFunc_Sint_int_iGraph_leads_1 (N : Nat) (x : ((List Int) × (Int × (((List ((List Int) × ((List Int) × Unit))) × ((List (List Int)) × ((List Int) × Unit))) × Unit)))) : Option (Bool × Unit) :=
  (FkIndexFunc_Sint_int_iGraph_leads_1 N (x.1, x.2.1, x.2.2.1, ())).bind fun r1 =>
  some (decide (r1.1 ≥ (0 : Int)), ())
noncomputable def conkContainsFunc_Sint_int_iGraph_leads_1 (N : Nat) : Con := { f := 147, din := dinkContainsFunc_Sint_int_iGraph_leads_1, outs := outkContainsFunc_Sint_int_iGraph_leads_1, F := FkContainsFunc_Sint_int_iGraph_leads_1 N }
noncomputable def XkContainsFunc_Sint_int_iGraph_leads_1 (N : Nat) : Ctx := { E := EkContainsFunc_Sint_int_iGraph_leads_1 N, H := HkContainsFunc_Sint_int_iGraph_leads_1, lp := [], jn := [] }
theorem FkContainsFunc_Sint_int_iGraph_leads_1_eq (N : Nat) (x : ((List Int) × (Int × (((List ((List Int) × ((List Int) × Unit))) × ((List (List Int)) × ((List Int) × Unit))) × Unit)))) : evFn (XkContainsFunc_Sint_int_iGraph_leads_1 N) Try.f147 dinkContainsFunc_Sint_int_iGraph_leads_1 outkContainsFunc_Sint_int_iGraph_leads_1 x = FkContainsFunc_Sint_int_iGraph_leads_1 N x := by kernel_rfl
theorem cxkContainsFunc_Sint_int_iGraph_leads_1 (N : Nat) : CtxOk Try.prog (XkContainsFunc_Sint_int_iGraph_leads_1 N) := ⟨⟨TE_ok, List.forall_mem_cons.2 ⟨(speckIndexFunc_Sint_int_iGraph_leads_1 N), fun k hk => absurd hk List.not_mem_nil⟩⟩, mixed⟩
theorem speckContainsFunc_Sint_int_iGraph_leads_1 (N : Nat) : Spec Try.prog (conkContainsFunc_Sint_int_iGraph_leads_1 N) :=
  Spec.of_eq (fn_spec (cxkContainsFunc_Sint_int_iGraph_leads_1 N) (f := 147) (fn := Try.f147) (c := codeOf Try.f147) (by kernel_rfl) (by kernel_rfl) (by kernel_rfl) (loops_at (ids := []) (by kernel_rfl) (trivial)) (by kernel_rfl)) (fun x r h => (FkContainsFunc_Sint_int_iGraph_leads_1_eq N x).trans h)

/-! ### 126: impl.Graph).leads -/

noncomputable def diniGraph_leads : Desc := { n := 3, regs := [.one (.val (.pair (.sl (.pair (.sl (.int .i64)) (.pair (.sl (.int .i64)) .unit))) (.pair (.sl (.sl (.int .i64))) (.pair (.sl (.int .i64)) .unit)))), .one (.val (.sl (.int .i64))), .one (.val (.int .i64))], bx := [], pins := [] }
noncomputable def outiGraph_leads : Outs := [(.ret, { n := 1, regs := [.one (.val .bool)], bx := [], pins := [] })]
noncomputable def HiGraph_leads : Hints := [(0, [(0, { fz := true }), (1, { fz := true })])]
noncomputable def EiGraph_leads (N : Nat) : Env := { te := TE, cs := [conkContainsFunc_Sint_int_iGraph_leads_1 N] }
noncomputable def FiGraph_leads (N : Nat) (x : (((List ((List Int) × ((List Int) × Unit))) × ((List (List Int)) × ((List Int) × Unit))) × ((List Int) × (Int × Unit)))) : Option (Bool × Unit) :=
  (FkContainsFunc_Sint_int_iGraph_leads_1 N (x.2.1, x.2.2.1, x.1, ())).bind fun r1 =>
  some (!r1.1, ())
noncomputable def coniGraph_leads (N : Nat) : Con := { f := 126, din := diniGraph_leads, outs := outiGraph_leads, F := FiGraph_leads N }
noncomputable def XiGraph_leads (N : Nat) : Ctx := { E := EiGraph_leads N, H := HiGraph_leads, lp := [], jn := [] }
theorem FiGraph_leads_eq (N : Nat) (x : (((List ((List Int) × ((List Int) × Unit))) × ((List (List Int)) × ((List Int) × Unit))) × ((List Int) × (Int × Unit)))) : evFn (XiGraph_leads N) Try.f126 diniGraph_leads outiGraph_leads x = FiGraph_leads N x := by kernel_rfl
theorem cxiGraph_leads (N : Nat) : CtxOk Try.prog (XiGraph_leads N) := ⟨⟨TE_ok, List.forall_mem_cons.2 ⟨(speckContainsFunc_Sint_int_iGraph_leads_1 N), fun k hk => absurd hk List.not_mem_nil⟩⟩, mixed⟩
theorem speciGraph_leads (N : Nat) : Spec Try.prog (coniGraph_leads N) :=
  Spec.of_eq (fn_spec (cxiGraph_leads N) (f := 126) (fn := Try.f126) (c := codeOf Try.f126) (by kernel_rfl) (by kernel_rfl) (by kernel_rfl) (loops_at (ids := []) (by kernel_rfl) (trivial)) (by kernel_rfl)) (fun x r h => (FiGraph_leads_eq N x).trans h)

/-! ### 66: impl.GraphOk -/

noncomputable def diniGraphOk : Desc := { n := 1, regs := [.one (.val (.pair (.sl (.pair (.sl (.int .i64)) (.pair (.sl (.int .i64)) .unit))) (.pair (.sl (.sl (.int .i64))) (.pair (.sl (.int .i64)) .unit))))], bx := [], pins := [] }
noncomputable def outiGraphOk : Outs := [(.ret, { n := 1, regs := [.one (.val .bool)], bx := [], pins := [] })]
noncomputable def HiGraphOk : Hints := [(0, [(0, { fz := true })])]
noncomputable def EiGraphOk (N : Nat) : Env := { te := TE, cs := [coniGraph_leads N] }
noncomputable def diGraphOk_0 : Desc := { n := 78, regs := [u, .one (.fpt (.pair (.sl (.pair (.sl (.int .i64)) (.pair (.sl (.int .i64)) .unit))) (.pair (.sl (.sl (.int .i64))) (.pair (.sl (.int .i64)) .unit)))), u, u, u, u, u, u, u, u, u, u, u, u, u, u, u, u, u, u, u, u, u, u, u, u, u, u, u, u, u, u, u, u, u, u, u, .one (.val (.sl (.pair (.sl (.int .i64)) (.pair (.sl (.int .i64)) .unit)))), .one (.val (.int .i64)), .one (.val (.int .i64))], bx := [], pins := [] }
noncomputable def oiGraphOk_0 : Outs := [(.exit 0, { n := 78, regs := [u, .one (.fpt (.pair (.sl (.pair (.sl (.int .i64)) (.pair (.sl (.int .i64)) .unit))) (.pair (.sl (.sl (.int .i64))) (.pair (.sl (.int .i64)) .unit))))], bx := [], pins := [] }), (.ret, { n := 78, regs := [u, u, .one (.val .bool)], bx := [], pins := [] })]
noncomputable def diGraphOk_2 : Desc := { n := 78, regs := [u, .one (.fpt (.pair (.sl (.pair (.sl (.int .i64)) (.pair (.sl (.int .i64)) .unit))) (.pair (.sl (.sl (.int .i64))) (.pair (.sl (.int .i64)) .unit)))), u, u, u, u, u, u, u, u, u, u, u, u, u, u, u, u, u, u, u, u, u, u, u, u, u, u, u, u, u, u, u, u, u, u, u, u, u, u, u, u, u, u, u, u, u, u, u, u, u, u, u, u, u, u, u, u, u, u, u, u, .one (.val (.sl (.sl (.int .i64)))), .one (.val (.int .i64)), .one (.val (.int .i64))], bx := [], pins := [] }
noncomputable def oiGraphOk_2 : Outs := [(.exit 2, { n := 78, regs := [], bx := [], pins := [] }), (.ret, { n := 78, regs := [u, u, .one (.val .bool)], bx := [], pins := [] })]
noncomputable def jiGraphOk_3 : Outs := [(.normal, { n := 78, regs := [u, .one (.fpt (.pair (.sl (.pair (.sl (.int .i64)) (.pair (.sl (.int .i64)) .unit))) (.pair (.sl (.sl (.int .i64))) (.pair (.sl (.int .i64)) .unit))))], bx := [], pins := [] }), (.ret, { n := 78, regs := [u, u, .one (.val .bool)], bx := [], pins := [] })]
noncomputable def liGraphOk_0 (N : Nat) : Nat → (((List ((List Int) × ((List Int) × Unit))) × ((List (List Int)) × ((List Int) × Unit))) × ((List ((List Int) × ((List Int) × Unit))) × (Int × (Int × Unit)))) → Option ((((List ((List Int) × ((List Int) × Unit))) × ((List (List Int)) × ((List Int) × Unit))) × Unit) ⊕ (Bool × Unit))
  | 0, _ => none
  | n + 1, v =>
    bif decide (v.2.2.2.1 < v.2.2.1) then
     bif decide (0 ≤ v.2.2.2.1) then
     bif decide (v.2.2.2.1.toNat < v.2.1.length) then
     let y8 := v.2.1.getD v.2.2.2.1.toNat (([] : (List Int)), ([] : (List Int)), ())
     let y9 := decide ((y8.1.length : Int) > (4 : Int))
     bif y9 then
      some (.inr ((false, ())))
     else
     let y10 := decide ((y8.2.1.length : Int) > (4 : Int))
     bif y10 then
      some (.inr ((false, ())))
     else
     (FiGraph_leads N (v.1, y8.1, (-1 : Int), ())).bind fun r11 =>
     bif !r11.1 then
      some (.inr ((false, ())))
     else
     liGraphOk_0 N n (v.1, v.2.1, v.2.2.1, w64 (v.2.2.2.1 + (1 : Int)), ())
     else none
     else none
    else
    some (.inl (v.1, ()))
noncomputable def liGraphOk_2 (N : Nat) : Nat → (((List ((List Int) × ((List Int) × Unit))) × ((List (List Int)) × ((List Int) × Unit))) × ((List (List Int)) × (Int × (Int × Unit)))) → Option (Unit ⊕ (Bool × Unit))
  | 0, _ => none
  | n + 1, v =>
    bif decide (v.2.2.2.1 < v.2.2.1) then
     bif decide (0 ≤ v.2.2.2.1) then
     bif decide (v.2.2.2.1.toNat < v.2.1.length) then
     let y14 := v.2.1.getD v.2.2.2.1.toNat ([] : (List Int))
     let y15 := decide ((y14.length : Int) > (8 : Int))
     bif y15 then
      some (.inr ((false, ())))
     else
     (FiGraph_leads N (v.1, y14, (-1 : Int), ())).bind fun r16 =>
     bif !r16.1 then
      some (.inr ((false, ())))
     else
     liGraphOk_2 N n (v.1, v.2.1, v.2.2.1, w64 (v.2.2.2.1 + (1 : Int)), ())
     else none
     else none
    else
    some (.inl ())
noncomputable def FiGraphOk (N : Nat) (x : (((List ((List Int) × ((List Int) × Unit))) × ((List (List Int)) × ((List Int) × Unit))) × Unit)) : Option (Bool × Unit) :=
  Option.bind (
   let y1 := decide ((x.1.1.length : Int) > (200 : Int))
   bif y1 then
    some (.inr ((false, ())))
   else
   let y2 := decide ((x.1.2.1.length : Int) < (1 : Int))
   bif y2 then
    some (.inr ((false, ())))
   else
   let y3 := decide ((x.1.2.1.length : Int) > (3 : Int))
   bif y3 then
    some (.inr ((false, ())))
   else
   let y4 := decide ((x.1.2.2.1.length : Int) > (8 : Int))
   bif y4 then
    some (.inr ((false, ())))
   else
   (FiGraph_leads N (x.1, x.1.2.2.1, (0 : Int), ())).bind fun r5 =>
   bif !r5.1 then
    some (.inr ((false, ())))
   else
   some (.inl (x.1, ()))) fun o6 =>
  Sum.elim (fun o7 =>
   (liGraphOk_0 N N (o7.1, o7.1.1, (o7.1.1.length : Int), (0 : Int), ())).bind fun o12 =>
   Sum.elim (fun o13 =>
    (liGraphOk_2 N N (o13.1, o13.1.2.1, (o13.1.2.1.length : Int), (0 : Int), ())).bind fun o17 =>
    Sum.elim (fun o18 =>
     some (true, ())) (fun o19 =>
     some (o19.1, ())) o17) (fun o20 =>
    some (o20.1, ())) o12) (fun o21 =>
   some (o21.1, ())) o6
noncomputable def coniGraphOk (N : Nat) : Con := { f := 66, din := diniGraphOk, outs := outiGraphOk, F := FiGraphOk N }
noncomputable def XiGraphOk (N : Nat) : Ctx := { E := EiGraphOk N, H := HiGraphOk, lp := [(0, { hd := diGraphOk_0, outs := oiGraphOk_0, run := fun v => liGraphOk_0 N N v }), (2, { hd := diGraphOk_2, outs := oiGraphOk_2, run := fun v => liGraphOk_2 N N v })], jn := [(3, jiGraphOk_3)] }
noncomputable def biGraphOk_2 : Code := loopBody (codeOf Try.f66) 1
noncomputable def biGraphOk_0 : Code := loopBody (codeOf Try.f66) 0
theorem FiGraphOk_eq (N : Nat) (x : (((List ((List Int) × ((List Int) × Unit))) × ((List (List Int)) × ((List Int) × Unit))) × Unit)) : evFn (XiGraphOk N) Try.f66 diniGraphOk outiGraphOk x = FiGraphOk N x := by kernel_rfl
theorem liGraphOk_0_eq (N n : Nat) (v : (((List ((List Int) × ((List Int) × Unit))) × ((List (List Int)) × ((List Int) × Unit))) × ((List ((List Int) × ((List Int) × Unit))) × (Int × (Int × Unit))))) : liGraphOk_0 N (n + 1) v = ev (XiGraphOk N) biGraphOk_0 (roundK diGraphOk_0 oiGraphOk_0 (liGraphOk_0 N n)) (diGraphOk_0.mk' v) := by kernel_rfl
theorem liGraphOk_2_eq (N n : Nat) (v : (((List ((List Int) × ((List Int) × Unit))) × ((List (List Int)) × ((List Int) × Unit))) × ((List (List Int)) × (Int × (Int × Unit))))) : liGraphOk_2 N (n + 1) v = ev (XiGraphOk N) biGraphOk_2 (roundK diGraphOk_2 oiGraphOk_2 (liGraphOk_2 N n)) (diGraphOk_2.mk' v) := by kernel_rfl
theorem cxiGraphOk (N : Nat) : CtxOk Try.prog (XiGraphOk N) := ⟨⟨TE_ok, List.forall_mem_cons.2 ⟨(speciGraph_leads N), fun k hk => absurd hk List.not_mem_nil⟩⟩, mixed⟩
theorem lpiGraphOk_0 (N : Nat) : LoopOk Try.prog { hd := diGraphOk_0, outs := oiGraphOk_0, run := fun v => liGraphOk_0 N N v } biGraphOk_0 :=
  loop_fuel (d := diGraphOk_0) (os := oiGraphOk_0) (cxiGraphOk N) (loops_at (ids := []) (by kernel_rfl) (trivial)) (liGraphOk_0 N) (fun _ => rfl) (fun n v => liGraphOk_0_eq N n v) (fun _ => N)
theorem lpiGraphOk_2 (N : Nat) : LoopOk Try.prog { hd := diGraphOk_2, outs := oiGraphOk_2, run := fun v => liGraphOk_2 N N v } biGraphOk_2 :=
  loop_fuel (d := diGraphOk_2) (os := oiGraphOk_2) (cxiGraphOk N) (loops_at (ids := []) (by kernel_rfl) (trivial)) (liGraphOk_2 N) (fun _ => rfl) (fun n v => liGraphOk_2_eq N n v) (fun _ => N)
theorem speciGraphOk (N : Nat) : Spec Try.prog (coniGraphOk N) :=
  Spec.of_eq (fn_spec (cxiGraphOk N) (f := 66) (fn := Try.f66) (c := codeOf Try.f66) (by kernel_rfl) (by kernel_rfl) (by kernel_rfl) (loops_at (ids := [0, 2]) (by kernel_rfl) ⟨lp_of (lpiGraphOk_0 N), ⟨lp_of (lpiGraphOk_2 N), trivial⟩⟩) (by kernel_rfl)) (fun x r h => (FiGraphOk_eq N x).trans h)

/-! ### 143: impl.ShapeOk -/

noncomputable def diniShapeOk : Desc := { n := 1, regs := [.one (.val (.pair (.int .i64) (.pair (.int .i64) .unit)))], bx := [], pins := [] }
noncomputable def outiShapeOk : Outs := [(.ret, { n := 1, regs := [.one (.val .bool)], bx := [], pins := [] })]
noncomputable def HiShapeOk : Hints := [(0, [(0, { fz := true })])]
noncomputable def EiShapeOk (_N : Nat) : Env := { te := TE, cs := [] }
noncomputable def FiShapeOk (N : Nat) (x : ((Int × (Int × Unit)) × Unit)) : Option (Bool × Unit) :=
  bif decide (x.1.1 ≥ (0 : Int)) then
   bif decide (x.1.1 ≤ (4 : Int)) then
    bif decide (x.1.2.1 ≥ (0 : Int)) then
     some (decide (x.1.2.1 ≤ (4 : Int)), ())
    else
    some (false, ())
   else
   some (false, ())
  else
  some (false, ())
noncomputable def coniShapeOk (N : Nat) : Con := { f := 143, din := diniShapeOk, outs := outiShapeOk, F := FiShapeOk N }
noncomputable def XiShapeOk (N : Nat) : Ctx := { E := EiShapeOk N, H := HiShapeOk, lp := [], jn := [] }
theorem FiShapeOk_eq (N : Nat) (x : ((Int × (Int × Unit)) × Unit)) : evFn (XiShapeOk N) Try.f143 diniShapeOk outiShapeOk x = FiShapeOk N x := by kernel_rfl
theorem cxiShapeOk (N : Nat) : CtxOk Try.prog (XiShapeOk N) := ⟨⟨TE_ok, fun k hk => absurd hk List.not_mem_nil⟩, mixed⟩
theorem speciShapeOk (N : Nat) : Spec Try.prog (coniShapeOk N) :=
  Spec.of_eq (fn_spec (cxiShapeOk N) (f := 143) (fn := Try.f143) (c := codeOf Try.f143) (by kernel_rfl) (by kernel_rfl) (by kernel_rfl) (loops_at (ids := []) (by kernel_rfl) (trivial)) (by kernel_rfl)) (fun x r h => (FiShapeOk_eq N x).trans h)

/-! ### 106: impl.OpOk -/

noncomputable def diniOpOk : Desc := { n := 1, regs := [.one (.val (.pair (.int .i64) (.pair (.int .i64) (.pair (.int .i64) (.pair (.int .i64) (.pair (.int .i64) (.pair (.int .i64) (.pair (.pair (.int .i64) (.pair (.int .i64) .unit)) .unit))))))))], bx := [], pins := [] }
noncomputable def outiOpOk : Outs := [(.ret, { n := 1, regs := [.one (.val .bool)], bx := [], pins := [] })]
noncomputable def HiOpOk : Hints := [(0, [(0, { fz := true })])]
noncomputable def EiOpOk (N : Nat) : Env := { te := TE, cs := [coniShapeOk N] }
noncomputable def FiOpOk (N : Nat) (x : ((Int × (Int × (Int × (Int × (Int × (Int × ((Int × (Int × Unit)) × Unit))))))) × Unit)) : Option (Bool × Unit) :=
  bif decide (x.1.1 ≥ (1 : Int)) then
   bif decide (x.1.1 ≤ (11 : Int)) then
    bif x.1.1 != (1 : Int) then
     some (true, ())
    else
    (FiShapeOk N (x.1.2.2.2.2.2.2.1, ())).bind fun r1 =>
    some (r1.1, ())
   else
   some (false, ())
  else
  some (false, ())
noncomputable def coniOpOk (N : Nat) : Con := { f := 106, din := diniOpOk, outs := outiOpOk, F := FiOpOk N }
noncomputable def XiOpOk (N : Nat) : Ctx := { E := EiOpOk N, H := HiOpOk, lp := [], jn := [] }
theorem FiOpOk_eq (N : Nat) (x : ((Int × (Int × (Int × (Int × (Int × (Int × ((Int × (Int × Unit)) × Unit))))))) × Unit)) : evFn (XiOpOk N) Try.f106 diniOpOk outiOpOk x = FiOpOk N x := by kernel_rfl
theorem cxiOpOk (N : Nat) : CtxOk Try.prog (XiOpOk N) := ⟨⟨TE_ok, List.forall_mem_cons.2 ⟨(speciShapeOk N), fun k hk => absurd hk List.not_mem_nil⟩⟩, mixed⟩
theorem speciOpOk (N : Nat) : Spec Try.prog (coniOpOk N) :=
  Spec.of_eq (fn_spec (cxiOpOk N) (f := 106) (fn := Try.f106) (c := codeOf Try.f106) (by kernel_rfl) (by kernel_rfl) (by kernel_rfl) (loops_at (ids := []) (by kernel_rfl) (trivial)) (by kernel_rfl)) (fun x r h => (FiOpOk_eq N x).trans h)

/-! ### 82: slices.Clone[[]int,int] -/

noncomputable def dinkClone_Sint_int : Desc := { n := 1, regs := [.one (.val (.sl (.int .i64)))], bx := [], pins := [] }
noncomputable def outkClone_Sint_int : Outs := [(.ret, { n := 1, regs := [.one (.lit (.row 1025600))], bx := [(1025600, .row (.int .i64))], pins := [] })]
noncomputable def HkClone_Sint_int : Hints := [(2, [(0, { nl := [(0, (.int .i64))] })])]
noncomputable def EkClone_Sint_int (_N : Nat) : Env := { te := TE, cs := [] }
noncomputable def FkClone_Sint_int (N : Nat) (x : ((List Int) × Unit)) : Option ((List Int) × Unit) :=
  bif x.1.isEmpty then
   anyOf (2) fun i1 =>
    bif bif i1 == 0 then false else true then
     some (([] : (List Int)), ())
    else
    bif decide (([] : (List Int)).length + x.1.length ≤ lim) then
    some (([] : (List Int)) ++ x.1, ())
    else none
  else
  bif decide (([] : (List Int)).length + x.1.length ≤ lim) then
  some (([] : (List Int)) ++ x.1, ())
  else none
noncomputable def conkClone_Sint_int (N : Nat) : Con := { f := 82, din := dinkClone_Sint_int, outs := outkClone_Sint_int, F := FkClone_Sint_int N }
noncomputable def XkClone_Sint_int (N : Nat) : Ctx := { E := EkClone_Sint_int N, H := HkClone_Sint_int, lp := [], jn := [] }
theorem FkClone_Sint_int_eq (N : Nat) (x : ((List Int) × Unit)) : evFn (XkClone_Sint_int N) Try.f82 dinkClone_Sint_int outkClone_Sint_int x = FkClone_Sint_int N x := by kernel_rfl
theorem cxkClone_Sint_int (N : Nat) : CtxOk Try.prog (XkClone_Sint_int N) := ⟨⟨TE_ok, fun k hk => absurd hk List.not_mem_nil⟩, mixed⟩
theorem speckClone_Sint_int (N : Nat) : Spec Try.prog (conkClone_Sint_int N) :=
  Spec.of_eq (fn_spec (cxkClone_Sint_int N) (f := 82) (fn := Try.f82) (c := codeOf Try.f82) (by kernel_rfl) (by kernel_rfl) (by kernel_rfl) (loops_at (ids := []) (by kernel_rfl) (trivial)) (by kernel_rfl)) (fun x r h => (FkClone_Sint_int_eq N x).trans h)

/-! ### 107: impl.Graph).copy -/

noncomputable def diniGraph_copy : Desc := { n := 1, regs := [.one (.val (.pair (.sl (.pair (.sl (.int .i64)) (.pair (.sl (.int .i64)) .unit))) (.pair (.sl (.sl (.int .i64))) (.pair (.sl (.int .i64)) .unit))))], bx := [], pins := [] }
noncomputable def outiGraph_copy : Outs := [(.ret, { n := 1, regs := [.agg [.lit (.row 1012993), .lit (.row 1012994), .lit (.row 1012929)]], bx := [(1012993, .row (.pair (.sl (.int .i64)) (.pair (.sl (.int .i64)) .unit))), (1012994, .row (.sl (.int .i64))), (1012929, .row (.int .i64))], pins := [] })]
noncomputable def HiGraph_copy : Hints := [(0, [(0, { fz := true })]),
  (1, [(3, { nl := [(0, (.pair (.sl (.int .i64)) (.pair (.sl (.int .i64)) .unit))), (1, (.sl (.int .i64)))] })]),
  (5, [(9, { dp := true }), (10, { dp := true })]),
  (10, [(4, { dp := true }), (5, { dp := true })])]
noncomputable def EiGraph_copy (N : Nat) : Env := { te := TE, cs := [conkClone_Sint_int N] }
noncomputable def diGraph_copy_0 : Desc := { n := 48, regs := [u, .one (.fpt (.pair (.sl (.pair (.sl (.int .i64)) (.pair (.sl (.int .i64)) .unit))) (.pair (.sl (.sl (.int .i64))) (.pair (.sl (.int .i64)) .unit)))), .one (.lit (.ptr 1000064 0)), .one (.lit (.ptr 1013056 0)), u, u, u, u, u, u, u, u, u, .one (.val (.sl (.pair (.sl (.int .i64)) (.pair (.sl (.int .i64)) .unit)))), .one (.val (.int .i64)), .one (.val (.int .i64))], bx := [(1000064, .var [.lit .nil, .lit .nil, .lit .nil]), (1013056, .var [.lit (.row 1012993), .lit (.row 1012994), .lit (.row 1012929)]), (1012993, .row (.pair (.sl (.int .i64)) (.pair (.sl (.int .i64)) .unit))), (1012994, .row (.sl (.int .i64))), (1012929, .row (.int .i64))], pins := [] }
noncomputable def oiGraph_copy_0 : Outs := [(.exit 0, { n := 48, regs := [u, .one (.fpt (.pair (.sl (.pair (.sl (.int .i64)) (.pair (.sl (.int .i64)) .unit))) (.pair (.sl (.sl (.int .i64))) (.pair (.sl (.int .i64)) .unit)))), .one (.lit (.ptr 1000064 0)), .one (.lit (.ptr 1013056 0))], bx := [(1000064, .var [.lit .nil, .lit .nil, .lit .nil]), (1013056, .var [.lit (.row 1012993), .lit (.row 1012994), .lit (.row 1012929)]), (1012993, .row (.pair (.sl (.int .i64)) (.pair (.sl (.int .i64)) .unit))), (1012994, .row (.sl (.int .i64))), (1012929, .row (.int .i64))], pins := [] })]
noncomputable def diGraph_copy_2 : Desc := { n := 48, regs := [u, u, .one (.lit (.ptr 1000064 0)), .one (.lit (.ptr 1013056 0)), u, u, u, u, u, u, u, u, u, u, u, u, u, u, u, u, u, u, u, u, u, u, u, u, u, u, u, u, u, .one (.val (.sl (.sl (.int .i64)))), .one (.val (.int .i64)), .one (.val (.int .i64))], bx := [(1000064, .var [.lit .nil, .lit .nil, .lit .nil]), (1013056, .var [.lit (.row 1012993), .lit (.row 1012994), .lit (.row 1012929)]), (1012993, .row (.pair (.sl (.int .i64)) (.pair (.sl (.int .i64)) .unit))), (1012994, .row (.sl (.int .i64))), (1012929, .row (.int .i64))], pins := [] }
noncomputable def oiGraph_copy_2 : Outs := [(.exit 2, { n := 48, regs := [u, u, .one (.lit (.ptr 1000064 0)), .one (.lit (.ptr 1013056 0))], bx := [(1000064, .var [.lit .nil, .lit .nil, .lit .nil]), (1013056, .var [.lit (.row 1012993), .lit (.row 1012994), .lit (.row 1012929)]), (1012993, .row (.pair (.sl (.int .i64)) (.pair (.sl (.int .i64)) .unit))), (1012994, .row (.sl (.int .i64))), (1012929, .row (.int .i64))], pins := [] })]
noncomputable def liGraph_copy_0 (N : Nat) : Nat → (((List ((List Int) × ((List Int) × Unit))) × ((List (List Int)) × ((List Int) × Unit))) × ((List ((List Int) × ((List Int) × Unit))) × (Int × (Int × ((List ((List Int) × ((List Int) × Unit))) × ((List (List Int)) × ((List Int) × Unit))))))) → Option (((List ((List Int) × ((List Int) × Unit))) × ((List (List Int)) × ((List Int) × Unit))) × ((List ((List Int) × ((List Int) × Unit))) × ((List (List Int)) × ((List Int) × Unit))))
  | 0, _ => none
  | n + 1, v =>
    bif decide (v.2.2.2.1 < v.2.2.1) then
     bif decide (0 ≤ v.2.2.2.1) then
     bif decide (v.2.2.2.1.toNat < v.2.1.length) then
     let y3 := v.2.1.getD v.2.2.2.1.toNat (([] : (List Int)), ([] : (List Int)), ())
     (FkClone_Sint_int N (y3.1, ())).bind fun r4 =>
     (FkClone_Sint_int N (y3.2.1, ())).bind fun r5 =>
     bif decide (v.2.2.2.2.1.length + [(r4.1, r5.1, ())].length ≤ lim) then
     liGraph_copy_0 N n (v.1, v.2.1, v.2.2.1, w64 (v.2.2.2.1 + (1 : Int)), v.2.2.2.2.1 ++ [(r4.1, r5.1, ())], v.2.2.2.2.2.1, v.2.2.2.2.2.2.1, ())
     else none
     else none
     else none
    else
    some (v.1, v.2.2.2.2.1, v.2.2.2.2.2.1, v.2.2.2.2.2.2.1, ())
noncomputable def liGraph_copy_2 (N : Nat) : Nat → ((List (List Int)) × (Int × (Int × ((List ((List Int) × ((List Int) × Unit))) × ((List (List Int)) × ((List Int) × Unit)))))) → Option ((List ((List Int) × ((List Int) × Unit))) × ((List (List Int)) × ((List Int) × Unit)))
  | 0, _ => none
  | n + 1, v =>
    bif decide (v.2.2.1 < v.2.1) then
     bif decide (0 ≤ v.2.2.1) then
     bif decide (v.2.2.1.toNat < v.1.length) then
     let y7 := v.1.getD v.2.2.1.toNat ([] : (List Int))
     (FkClone_Sint_int N (y7, ())).bind fun r8 =>
     bif decide (v.2.2.2.2.1.length + [r8.1].length ≤ lim) then
     liGraph_copy_2 N n (v.1, v.2.1, w64 (v.2.2.1 + (1 : Int)), v.2.2.2.1, v.2.2.2.2.1 ++ [r8.1], v.2.2.2.2.2.1, ())
     else none
     else none
     else none
    else
    some (v.2.2.2.1, v.2.2.2.2.1, v.2.2.2.2.2.1, ())
noncomputable def FiGraph_copy (N : Nat) (x : (((List ((List Int) × ((List Int) × Unit))) × ((List (List Int)) × ((List Int) × Unit))) × Unit)) : Option ((List ((List Int) × ((List Int) × Unit))) × ((List (List Int)) × ((List Int) × Unit))) :=
  (FkClone_Sint_int N (x.1.2.2.1, ())).bind fun r1 =>
  let y2 := ([] : (List ((List Int) × ((List Int) × Unit))))
  (liGraph_copy_0 N N (x.1, x.1.1, (x.1.1.length : Int), (0 : Int), y2, ([] : (List (List Int))), r1.1, ())).bind fun o6 =>
  (liGraph_copy_2 N N (o6.1.2.1, (o6.1.2.1.length : Int), (0 : Int), o6.2.1, o6.2.2.1, o6.2.2.2.1, ())).bind fun o9 =>
  some (o9.1, o9.2.1, o9.2.2.1, ())
noncomputable def coniGraph_copy (N : Nat) : Con := { f := 107, din := diniGraph_copy, outs := outiGraph_copy, F := FiGraph_copy N }
noncomputable def XiGraph_copy (N : Nat) : Ctx := { E := EiGraph_copy N, H := HiGraph_copy, lp := [(0, { hd := diGraph_copy_0, outs := oiGraph_copy_0, run := fun v => liGraph_copy_0 N N v }), (2, { hd := diGraph_copy_2, outs := oiGraph_copy_2, run := fun v => liGraph_copy_2 N N v })], jn := [] }
noncomputable def biGraph_copy_2 : Code := loopBody (codeOf Try.f107) 1
noncomputable def biGraph_copy_0 : Code := loopBody (codeOf Try.f107) 0
theorem FiGraph_copy_eq (N : Nat) (x : (((List ((List Int) × ((List Int) × Unit))) × ((List (List Int)) × ((List Int) × Unit))) × Unit)) : evFn (XiGraph_copy N) Try.f107 diniGraph_copy outiGraph_copy x = FiGraph_copy N x := by kernel_rfl
theorem liGraph_copy_0_eq (N n : Nat) (v : (((List ((List Int) × ((List Int) × Unit))) × ((List (List Int)) × ((List Int) × Unit))) × ((List ((List Int) × ((List Int) × Unit))) × (Int × (Int × ((List ((List Int) × ((List Int) × Unit))) × ((List (List Int)) × ((List Int) × Unit)))))))) : liGraph_copy_0 N (n + 1) v = ev (XiGraph_copy N) biGraph_copy_0 (roundK diGraph_copy_0 oiGraph_copy_0 (liGraph_copy_0 N n)) (diGraph_copy_0.mk' v) := by kernel_rfl
theorem liGraph_copy_2_eq (N n : Nat) (v : ((List (List Int)) × (Int × (Int × ((List ((List Int) × ((List Int) × Unit))) × ((List (List Int)) × ((List Int) × Unit))))))) : liGraph_copy_2 N (n + 1) v = ev (XiGraph_copy N) biGraph_copy_2 (roundK diGraph_copy_2 oiGraph_copy_2 (liGraph_copy_2 N n)) (diGraph_copy_2.mk' v) := by kernel_rfl
theorem cxiGraph_copy (N : Nat) : CtxOk Try.prog (XiGraph_copy N) := ⟨⟨TE_ok, List.forall_mem_cons.2 ⟨(speckClone_Sint_int N), fun k hk => absurd hk List.not_mem_nil⟩⟩, mixed⟩
theorem lpiGraph_copy_0 (N : Nat) : LoopOk Try.prog { hd := diGraph_copy_0, outs := oiGraph_copy_0, run := fun v => liGraph_copy_0 N N v } biGraph_copy_0 :=
  loop_fuel (d := diGraph_copy_0) (os := oiGraph_copy_0) (cxiGraph_copy N) (loops_at (ids := []) (by kernel_rfl) (trivial)) (liGraph_copy_0 N) (fun _ => rfl) (fun n v => liGraph_copy_0_eq N n v) (fun _ => N)
theorem lpiGraph_copy_2 (N : Nat) : LoopOk Try.prog { hd := diGraph_copy_2, outs := oiGraph_copy_2, run := fun v => liGraph_copy_2 N N v } biGraph_copy_2 :=
  loop_fuel (d := diGraph_copy_2) (os := oiGraph_copy_2) (cxiGraph_copy N) (loops_at (ids := []) (by kernel_rfl) (trivial)) (liGraph_copy_2 N) (fun _ => rfl) (fun n v => liGraph_copy_2_eq N n v) (fun _ => N)
theorem speciGraph_copy (N : Nat) : Spec Try.prog (coniGraph_copy N) :=
  Spec.of_eq (fn_spec (cxiGraph_copy N) (f := 107) (fn := Try.f107) (c := codeOf Try.f107) (by kernel_rfl) (by kernel_rfl) (by kernel_rfl) (loops_at (ids := [0, 2]) (by kernel_rfl) ⟨lp_of (lpiGraph_copy_0 N), ⟨lp_of (lpiGraph_copy_2 N), trivial⟩⟩) (by kernel_rfl)) (fun x r h => (FiGraph_copy_eq N x).trans h)

/-! ### 144: impl.Op).handles -/

noncomputable def diniOp_handles : Desc := { n := 1, regs := [.one (.val (.pair (.int .i64) (.pair (.int .i64) (.pair (.int .i64) (.pair (.int .i64) (.pair (.int .i64) (.pair (.int .i64) (.pair (.pair (.int .i64) (.pair (.int .i64) .unit)) .unit))))))))], bx := [], pins := [] }
noncomputable def outiOp_handles : Outs := [(.ret, { n := 1, regs := [.one (.lit (.row 1051200))], bx := [(1051200, .row (.int .i64))], pins := [] })]
noncomputable def HiOp_handles : Hints := [(0, [(0, { fz := true })]),
  (4, [(0, { nl := [(0, (.int .i64))] })])]
noncomputable def EiOp_handles (_N : Nat) : Env := { te := TE, cs := [] }
noncomputable def FiOp_handles (N : Nat) (x : ((Int × (Int × (Int × (Int × (Int × (Int × ((Int × (Int × Unit)) × Unit))))))) × Unit)) : Option ((List Int) × Unit) :=
  bif x.1.1 == (1 : Int) then
   some (([] : (List Int)), ())
  else
  bif x.1.1 == (8 : Int) then
   some (([] : (List Int)), ())
  else
  bif x.1.1 == (3 : Int) then
   some ([x.1.2.1, x.1.2.2.1], ())
  else
  bif x.1.1 == (6 : Int) then
   some ([x.1.2.1, x.1.2.2.1], ())
  else
  bif x.1.1 == (7 : Int) then
   some ([x.1.2.1, x.1.2.2.1, x.1.2.2.2.1], ())
  else
  some ([x.1.2.1], ())
noncomputable def coniOp_handles (N : Nat) : Con := { f := 144, din := diniOp_handles, outs := outiOp_handles, F := FiOp_handles N }
noncomputable def XiOp_handles (N : Nat) : Ctx := { E := EiOp_handles N, H := HiOp_handles, lp := [], jn := [] }
theorem FiOp_handles_eq (N : Nat) (x : ((Int × (Int × (Int × (Int × (Int × (Int × ((Int × (Int × Unit)) × Unit))))))) × Unit)) : evFn (XiOp_handles N) Try.f144 diniOp_handles outiOp_handles x = FiOp_handles N x := by kernel_rfl
theorem cxiOp_handles (N : Nat) : CtxOk Try.prog (XiOp_handles N) := ⟨⟨TE_ok, fun k hk => absurd hk List.not_mem_nil⟩, mixed⟩
theorem speciOp_handles (N : Nat) : Spec Try.prog (coniOp_handles N) :=
  Spec.of_eq (fn_spec (cxiOp_handles N) (f := 144) (fn := Try.f144) (c := codeOf Try.f144) (by kernel_rfl) (by kernel_rfl) (by kernel_rfl) (loops_at (ids := []) (by kernel_rfl) (trivial)) (by kernel_rfl)) (fun x r h => (FiOp_handles_eq N x).trans h)

/-! ### 108: impl.Op).early -/

noncomputable def diniOp_early : Desc := { n := 3, regs := [.one (.val (.pair (.int .i64) (.pair (.int .i64) (.pair (.int .i64) (.pair (.int .i64) (.pair (.int .i64) (.pair (.int .i64) (.pair (.pair (.int .i64) (.pair (.int .i64) .unit)) .unit)))))))), .one (.val (.sl (.int .i64))), .one (.val (.int .i64))], bx := [], pins := [] }
noncomputable def outiOp_early : Outs := [(.ret, { n := 1, regs := [.one (.val (.int .i64))], bx := [], pins := [] })]
noncomputable def HiOp_early : Hints := [(0, [(0, { fz := true })])]
noncomputable def EiOp_early (N : Nat) : Env := { te := TE, cs := [coniOp_handles N] }
noncomputable def diOp_early_0 : Desc := { n := 61, regs := [u, .one (.val (.sl (.int .i64))), .one (.val (.int .i64)), .one (.fpt (.pair (.int .i64) (.pair (.int .i64) (.pair (.int .i64) (.pair (.int .i64) (.pair (.int .i64) (.pair (.int .i64) (.pair (.pair (.int .i64) (.pair (.int .i64) .unit)) .unit)))))))), u, u, u, u, u, u, .one (.lit (.row 1012865)), .one (.val (.int .i64)), .one (.val (.int .i64))], bx := [(1012865, .row (.int .i64))], pins := [] }
noncomputable def oiOp_early_0 : Outs := [(.exit 0, { n := 61, regs := [u, .one (.val (.sl (.int .i64))), .one (.val (.int .i64)), .one (.fpt (.pair (.int .i64) (.pair (.int .i64) (.pair (.int .i64) (.pair (.int .i64) (.pair (.int .i64) (.pair (.int .i64) (.pair (.pair (.int .i64) (.pair (.int .i64) .unit)) .unit))))))))], bx := [], pins := [] }), (.ret, { n := 61, regs := [u, u, u, u, u, u, .one (.val (.int .i64))], bx := [], pins := [] })]
noncomputable def jiOp_early_16 : Outs := [(.normal, { n := 61, regs := [u, .one (.val (.sl (.int .i64))), u, .one (.fpt (.pair (.int .i64) (.pair (.int .i64) (.pair (.int .i64) (.pair (.int .i64) (.pair (.int .i64) (.pair (.int .i64) (.pair (.pair (.int .i64) (.pair (.int .i64) .unit)) .unit))))))))], bx := [], pins := [] }), (.ret, { n := 61, regs := [u, u, u, u, u, u, .one (.val (.int .i64))], bx := [], pins := [] })]
noncomputable def liOp_early_0 (N : Nat) : Nat → ((List Int) × (Int × ((Int × (Int × (Int × (Int × (Int × (Int × ((Int × (Int × Unit)) × Unit))))))) × (Int × (Int × ((List Int) × Unit)))))) → Option (((List Int) × (Int × ((Int × (Int × (Int × (Int × (Int × (Int × ((Int × (Int × Unit)) × Unit))))))) × Unit))) ⊕ (Int × Unit))
  | 0, _ => none
  | n + 1, v =>
    bif decide (v.2.2.2.2.1 < v.2.2.2.1) then
     bif decide (0 ≤ v.2.2.2.2.1) then
     bif decide (v.2.2.2.2.1.toNat < v.2.2.2.2.2.1.length) then
     let y2 := v.2.2.2.2.2.1.getD v.2.2.2.2.1.toNat (0 : Int)
     bif decide (y2 < (0 : Int)) then
      some (.inr (((2 : Int), ())))
     else
     bif decide (y2 ≥ (v.1.length : Int)) then
      some (.inr (((2 : Int), ())))
     else
     liOp_early_0 N n (v.1, v.2.1, v.2.2.1, v.2.2.2.1, w64 (v.2.2.2.2.1 + (1 : Int)), v.2.2.2.2.2.1, ())
     else none
     else none
    else
    some (.inl (v.1, v.2.1, v.2.2.1, ()))
noncomputable def FiOp_early (N : Nat) (x : ((Int × (Int × (Int × (Int × (Int × (Int × ((Int × (Int × Unit)) × Unit))))))) × ((List Int) × (Int × Unit)))) : Option (Int × Unit) :=
  (FiOp_handles N (x.1, ())).bind fun r1 =>
  (liOp_early_0 N N (x.2.1, x.2.2.1, x.1, (r1.1.length : Int), (0 : Int), r1.1, ())).bind fun o3 =>
  Sum.elim (fun o4 =>
   Option.bind (
    bif o4.2.2.1.1 == (8 : Int) then
     bif (o4.1.length : Int) == (0 : Int) then
      some (.inr (((2 : Int), ())))
     else
     some (.inl (o4.1, o4.2.2.1, ()))
    else
    bif o4.2.2.1.1 == (1 : Int) then
     some (.inl (o4.1, o4.2.2.1, ()))
    else
    bif o4.2.2.1.1 == (6 : Int) then
     some (.inl (o4.1, o4.2.2.1, ()))
    else
    bif o4.2.2.1.1 == (9 : Int) then
     some (.inl (o4.1, o4.2.2.1, ()))
    else
    bif decide (0 ≤ o4.2.2.1.2.1) then
    bif decide (o4.2.2.1.2.1.toNat < o4.1.length) then
    let y5 := o4.1.getD o4.2.2.1.2.1.toNat (0 : Int)
    bif y5 == o4.2.1 then
     some (.inr (((3 : Int), ())))
    else
    some (.inl (o4.1, o4.2.2.1, ()))
    else none
    else none) fun o6 =>
   Sum.elim (fun o7 =>
    bif o7.2.1.1 == (1 : Int) then
     let y8 := decide ((o7.1.length : Int) ≥ (8 : Int))
     bif y8 then
      some ((5 : Int), ())
     else
     some ((0 : Int), ())
    else
    bif o7.2.1.1 == (2 : Int) then
     let y9 := decide ((o7.1.length : Int) ≥ (8 : Int))
     bif y9 then
      some ((5 : Int), ())
     else
     some ((0 : Int), ())
    else
    bif o7.2.1.1 == (9 : Int) then
     let y10 := decide ((o7.1.length : Int) ≥ (8 : Int))
     bif y10 then
      some ((5 : Int), ())
     else
     some ((0 : Int), ())
    else
    some ((0 : Int), ())) (fun o11 =>
    some (o11.1, ())) o6) (fun o12 =>
   some (o12.1, ())) o3
noncomputable def coniOp_early (N : Nat) : Con := { f := 108, din := diniOp_early, outs := outiOp_early, F := FiOp_early N }
noncomputable def XiOp_early (N : Nat) : Ctx := { E := EiOp_early N, H := HiOp_early, lp := [(0, { hd := diOp_early_0, outs := oiOp_early_0, run := fun v => liOp_early_0 N N v })], jn := [(16, jiOp_early_16)] }
noncomputable def biOp_early_0 : Code := loopBody (codeOf Try.f108) 0
theorem FiOp_early_eq (N : Nat) (x : ((Int × (Int × (Int × (Int × (Int × (Int × ((Int × (Int × Unit)) × Unit))))))) × ((List Int) × (Int × Unit)))) : evFn (XiOp_early N) Try.f108 diniOp_early outiOp_early x = FiOp_early N x := by kernel_rfl
theorem liOp_early_0_eq (N n : Nat) (v : ((List Int) × (Int × ((Int × (Int × (Int × (Int × (Int × (Int × ((Int × (Int × Unit)) × Unit))))))) × (Int × (Int × ((List Int) × Unit))))))) : liOp_early_0 N (n + 1) v = ev (XiOp_early N) biOp_early_0 (roundK diOp_early_0 oiOp_early_0 (liOp_early_0 N n)) (diOp_early_0.mk' v) := by kernel_rfl
theorem cxiOp_early (N : Nat) : CtxOk Try.prog (XiOp_early N) := ⟨⟨TE_ok, List.forall_mem_cons.2 ⟨(speciOp_handles N), fun k hk => absurd hk List.not_mem_nil⟩⟩, mixed⟩
theorem lpiOp_early_0 (N : Nat) : LoopOk Try.prog { hd := diOp_early_0, outs := oiOp_early_0, run := fun v => liOp_early_0 N N v } biOp_early_0 :=
  loop_fuel (d := diOp_early_0) (os := oiOp_early_0) (cxiOp_early N) (loops_at (ids := []) (by kernel_rfl) (trivial)) (liOp_early_0 N) (fun _ => rfl) (fun n v => liOp_early_0_eq N n v) (fun _ => N)
theorem speciOp_early (N : Nat) : Spec Try.prog (coniOp_early N) :=
  Spec.of_eq (fn_spec (cxiOp_early N) (f := 108) (fn := Try.f108) (c := codeOf Try.f108) (by kernel_rfl) (by kernel_rfl) (by kernel_rfl) (loops_at (ids := [0]) (by kernel_rfl) ⟨lp_of (lpiOp_early_0 N), trivial⟩) (by kernel_rfl)) (fun x r h => (FiOp_early_eq N x).trans h)

/-! ### 109: impl.Op).field -/

noncomputable def diniOp_field : Desc := { n := 3, regs := [.one (.val (.pair (.int .i64) (.pair (.int .i64) (.pair (.int .i64) (.pair (.int .i64) (.pair (.int .i64) (.pair (.int .i64) (.pair (.pair (.int .i64) (.pair (.int .i64) .unit)) .unit)))))))), .one (.val (.int .i64)), .one (.val (.int .i64))], bx := [], pins := [] }
noncomputable def outiOp_field : Outs := [(.ret, { n := 1, regs := [.one (.val .bool)], bx := [], pins := [] })]
noncomputable def HiOp_field : Hints := [(0, [(0, { fz := true })])]
noncomputable def EiOp_field (_N : Nat) : Env := { te := TE, cs := [] }
noncomputable def FiOp_field (N : Nat) (x : ((Int × (Int × (Int × (Int × (Int × (Int × ((Int × (Int × Unit)) × Unit))))))) × (Int × (Int × Unit)))) : Option (Bool × Unit) :=
  bif x.1.1 == (2 : Int) then
   bif decide (x.1.2.2.2.2.1 ≥ (0 : Int)) then
    some (decide (x.1.2.2.2.2.1 < x.2.1), ())
   else
   some (false, ())
  else
  bif x.1.1 == (3 : Int) then
   bif decide (x.1.2.2.2.2.1 ≥ (0 : Int)) then
    some (decide (x.1.2.2.2.2.1 < x.2.1), ())
   else
   some (false, ())
  else
  bif x.1.1 == (7 : Int) then
   bif decide (x.1.2.2.2.2.1 ≥ (0 : Int)) then
    some (decide (x.1.2.2.2.2.1 < x.2.1), ())
   else
   some (false, ())
  else
  bif x.1.1 == (4 : Int) then
   bif decide (x.1.2.2.2.2.1 ≥ (0 : Int)) then
    some (decide (x.1.2.2.2.2.1 < x.2.2.1), ())
   else
   some (false, ())
  else
  bif x.1.1 == (5 : Int) then
   bif decide (x.1.2.2.2.2.1 ≥ (0 : Int)) then
    some (decide (x.1.2.2.2.2.1 < x.2.2.1), ())
   else
   some (false, ())
  else
  some (true, ())
noncomputable def coniOp_field (N : Nat) : Con := { f := 109, din := diniOp_field, outs := outiOp_field, F := FiOp_field N }
noncomputable def XiOp_field (N : Nat) : Ctx := { E := EiOp_field N, H := HiOp_field, lp := [], jn := [] }
theorem FiOp_field_eq (N : Nat) (x : ((Int × (Int × (Int × (Int × (Int × (Int × ((Int × (Int × Unit)) × Unit))))))) × (Int × (Int × Unit)))) : evFn (XiOp_field N) Try.f109 diniOp_field outiOp_field x = FiOp_field N x := by kernel_rfl
theorem cxiOp_field (N : Nat) : CtxOk Try.prog (XiOp_field N) := ⟨⟨TE_ok, fun k hk => absurd hk List.not_mem_nil⟩, mixed⟩
theorem speciOp_field (N : Nat) : Spec Try.prog (coniOp_field N) :=
  Spec.of_eq (fn_spec (cxiOp_field N) (f := 109) (fn := Try.f109) (c := codeOf Try.f109) (by kernel_rfl) (by kernel_rfl) (by kernel_rfl) (loops_at (ids := []) (by kernel_rfl) (trivial)) (by kernel_rfl)) (fun x r h => (FiOp_field_eq N x).trans h)

/-! ### 112: impl.lastOf -/

noncomputable def dinilastOf : Desc := { n := 2, regs := [.one (.val (.sl (.int .i64))), .one (.val (.int .i64))], bx := [], pins := [] }
noncomputable def outilastOf : Outs := [(.ret, { n := 1, regs := [.one (.val (.int .i64))], bx := [], pins := [] })]
noncomputable def HilastOf : Hints := []
noncomputable def EilastOf (_N : Nat) : Env := { te := TE, cs := [] }
noncomputable def dilastOf_0 : Desc := { n := 20, regs := [.one (.val (.sl (.int .i64))), .one (.val (.int .i64)), u, u, u, .one (.val (.int .i64))], bx := [], pins := [] }
noncomputable def oilastOf_0 : Outs := [(.exit 0, { n := 20, regs := [], bx := [], pins := [] }), (.ret, { n := 20, regs := [u, u, u, u, .one (.val (.int .i64))], bx := [], pins := [] })]
noncomputable def lilastOf_0 (N : Nat) : Nat → ((List Int) × (Int × (Int × Unit))) → Option (Unit ⊕ (Int × Unit))
  | 0, _ => none
  | n + 1, v =>
    bif decide (v.2.2.1 ≥ (0 : Int)) then
     bif decide (0 ≤ v.2.2.1) then
     bif decide (v.2.2.1.toNat < v.1.length) then
     let y1 := (v.1.getD v.2.2.1.toNat (0 : Int)) == v.2.1
     bif y1 then
      some (.inr ((v.2.2.1, ())))
     else
     lilastOf_0 N n (v.1, v.2.1, w64 (v.2.2.1 - (1 : Int)), ())
     else none
     else none
    else
    some (.inl ())
noncomputable def FilastOf (N : Nat) (x : ((List Int) × (Int × Unit))) : Option (Int × Unit) :=
  (lilastOf_0 N N (x.1, x.2.1, w64 ((x.1.length : Int) - (1 : Int)), ())).bind fun o2 =>
  Sum.elim (fun o3 =>
   some ((-1 : Int), ())) (fun o4 =>
   some (o4.1, ())) o2
noncomputable def conilastOf (N : Nat) : Con := { f := 112, din := dinilastOf, outs := outilastOf, F := FilastOf N }
noncomputable def XilastOf (N : Nat) : Ctx := { E := EilastOf N, H := HilastOf, lp := [(0, { hd := dilastOf_0, outs := oilastOf_0, run := fun v => lilastOf_0 N N v })], jn := [] }
noncomputable def bilastOf_0 : Code := loopBody (codeOf Try.f112) 0
theorem FilastOf_eq (N : Nat) (x : ((List Int) × (Int × Unit))) : evFn (XilastOf N) Try.f112 dinilastOf outilastOf x = FilastOf N x := by kernel_rfl
theorem lilastOf_0_eq (N n : Nat) (v : ((List Int) × (Int × (Int × Unit)))) : lilastOf_0 N (n + 1) v = ev (XilastOf N) bilastOf_0 (roundK dilastOf_0 oilastOf_0 (lilastOf_0 N n)) (dilastOf_0.mk' v) := by kernel_rfl
theorem cxilastOf (N : Nat) : CtxOk Try.prog (XilastOf N) := ⟨⟨TE_ok, fun k hk => absurd hk List.not_mem_nil⟩, mixed⟩
theorem lpilastOf_0 (N : Nat) : LoopOk Try.prog { hd := dilastOf_0, outs := oilastOf_0, run := fun v => lilastOf_0 N N v } bilastOf_0 :=
  loop_fuel (d := dilastOf_0) (os := oilastOf_0) (cxilastOf N) (loops_at (ids := []) (by kernel_rfl) (trivial)) (lilastOf_0 N) (fun _ => rfl) (fun n v => lilastOf_0_eq N n v) (fun _ => N)
theorem specilastOf (N : Nat) : Spec Try.prog (conilastOf N) :=
  Spec.of_eq (fn_spec (cxilastOf N) (f := 112) (fn := Try.f112) (c := codeOf Try.f112) (by kernel_rfl) (by kernel_rfl) (by kernel_rfl) (loops_at (ids := [0]) (by kernel_rfl) ⟨lp_of (lpilastOf_0 N), trivial⟩) (by kernel_rfl)) (fun x r h => (FilastOf_eq N x).trans h)

/-! ### 113: slices.Delete[[]int,int] -/

noncomputable def dinkDelete_Sint_int : Desc := { n := 3, regs := [.one (.lit (.row 0)), .one (.val (.int .i64)), .one (.val (.int .i64))], bx := [(0, .row (.int .i64))], pins := [] }
noncomputable def outkDelete_Sint_int : Outs := [(.ret, { n := 1, regs := [.one (.lit (.row 0))], bx := [(0, .row (.int .i64))], pins := [] })]
noncomputable def HkDelete_Sint_int : Hints := [(7, [(1, { dp := true })])]
noncomputable def EkDelete_Sint_int (_N : Nat) : Env := { te := TE, cs := [] }
noncomputable def FkDelete_Sint_int (N : Nat) (x : (Int × (Int × ((List Int) × Unit)))) : Option ((List Int) × Unit) :=
  bif decide (0 ≤ x.1) then
  bif decide (x.1 ≤ x.2.1) then
  bif decide (x.2.1 ≤ (x.2.2.1.length : Int)) then
  bif decide ((x.2.2.1.length : Int) ≤ (x.2.2.1.length : Int)) then
  bif x.1 == x.2.1 then
   some (x.2.2.1, ())
  else
  bif decide (0 ≤ x.1) then
  bif decide (x.1 ≤ (x.2.2.1.length : Int)) then
  bif decide (0 ≤ (0 : Int)) then
  bif decide ((0 : Int) ≤ x.1) then
  bif decide (0 ≤ (x.2.2.1.length : Int)) then
  bif decide ((x.2.2.1.length : Int) ≤ (x.2.2.1.length : Int)) then
  bif decide (0 ≤ x.2.1) then
  bif decide (x.2.1 ≤ (x.2.2.1.length : Int)) then
  bif decide ((x.1.toNat - (0 : Int).toNat) + ((x.2.2.1.drop x.2.1.toNat).take ((x.2.2.1.length : Int).toNat - x.2.1.toNat)).length ≤ x.2.2.1.length) then
  let y1 := lay x.2.2.1 (x.1.toNat - (0 : Int).toNat) ((x.2.2.1.drop x.2.1.toNat).take ((x.2.2.1.length : Int).toNat - x.2.1.toNat))
  let y2 := ((((x.1.toNat - (0 : Int).toNat) + ((x.2.2.1.drop x.2.1.toNat).take ((x.2.2.1.length : Int).toNat - x.2.1.toNat)).length) : Nat) : Int)
  bif decide (0 ≤ (x.2.2.1.length : Int)) then
  bif decide ((x.2.2.1.length : Int) ≤ ((y1.length : Nat) : Int)) then
  bif decide (0 ≤ y2) then
  bif decide (y2 ≤ (x.2.2.1.length : Int)) then
  let y3 := lay y1 y2.toNat (List.replicate ((x.2.2.1.length : Int).toNat - y2.toNat) (0 : Int))
  let y4 := y3.take ((x.1.toNat - (0 : Int).toNat) + ((x.2.2.1.drop x.2.1.toNat).take ((x.2.2.1.length : Int).toNat - x.2.1.toNat)).length)
  some (y4, ())
  else none
  else none
  else none
  else none
  else none
  else none
  else none
  else none
  else none
  else none
  else none
  else none
  else none
  else none
  else none
  else none
  else none
noncomputable def conkDelete_Sint_int (N : Nat) : Con := { f := 113, din := dinkDelete_Sint_int, outs := outkDelete_Sint_int, F := FkDelete_Sint_int N }
noncomputable def XkDelete_Sint_int (N : Nat) : Ctx := { E := EkDelete_Sint_int N, H := HkDelete_Sint_int, lp := [], jn := [] }
theorem FkDelete_Sint_int_eq (N : Nat) (x : (Int × (Int × ((List Int) × Unit)))) : evFn (XkDelete_Sint_int N) Try.f113 dinkDelete_Sint_int outkDelete_Sint_int x = FkDelete_Sint_int N x := by kernel_rfl
theorem cxkDelete_Sint_int (N : Nat) : CtxOk Try.prog (XkDelete_Sint_int N) := ⟨⟨TE_ok, fun k hk => absurd hk List.not_mem_nil⟩, mixed⟩
theorem speckDelete_Sint_int (N : Nat) : Spec Try.prog (conkDelete_Sint_int N) :=
  Spec.of_eq (fn_spec (cxkDelete_Sint_int N) (f := 113) (fn := Try.f113) (c := codeOf Try.f113) (by kernel_rfl) (by kernel_rfl) (by kernel_rfl) (loops_at (ids := []) (by kernel_rfl) (trivial)) (by kernel_rfl)) (fun x r h => (FkDelete_Sint_int_eq N x).trans h)

/-! ### 51: impl.GraphDo -/

noncomputable def diniGraphDo : Desc := { n := 3, regs := [.one (.val (.pair (.sl (.pair (.sl (.int .i64)) (.pair (.sl (.int .i64)) .unit))) (.pair (.sl (.sl (.int .i64))) (.pair (.sl (.int .i64)) .unit)))), .one (.val (.int .i64)), .one (.val (.pair (.int .i64) (.pair (.int .i64) (.pair (.int .i64) (.pair (.int .i64) (.pair (.int .i64) (.pair (.int .i64) (.pair (.pair (.int .i64) (.pair (.int .i64) .unit)) .unit))))))))], bx := [], pins := [] }
noncomputable def outiGraphDo : Outs := [(.ret, { n := 3, regs := [.agg [.lit (.row 1038465), .lit (.row 1038466), .lit (.row 1038467)], .one (.val (.int .i64)), .one (.val (.int .i64))], bx := [(1038465, .row (.pair (.sl (.int .i64)) (.pair (.sl (.int .i64)) .unit))), (1038466, .row (.sl (.int .i64))), (1038467, .row (.int .i64))], pins := [] })]
noncomputable def HiGraphDo : Hints := [(0, [(0, { fz := true }), (1, { fz := true })]),
  (1, [(16, { con := 1 })]),
  (2, [(0, { nl := [(0, (.pair (.sl (.int .i64)) (.pair (.sl (.int .i64)) .unit))), (1, (.sl (.int .i64))), (2, (.int .i64))] })]),
  (3, [(1, { con := 2 })]),
  (5, [(4, { con := 3 })]),
  (14, [(11, { con := 4 })]),
  (21, [(5, { con := 5 }), (11, { dp := true }), (12, { dp := true })]),
  (31, [(10, { con := 6 })]),
  (45, [(3, { con := 7 })]),
  (48, [(5, { con := 8, sg := [(0, 1038467)] })])]
noncomputable def EiGraphDo (N : Nat) : Env := { te := TE, cs := [coniGraphOk N, coniOpOk N, coniGraph_copy N, coniOp_early N, coniOp_field N, coninone N, conitruth N, conilastOf N, conkDelete_Sint_int N] }
noncomputable def jiGraphDo_3 : Outs := [(.normal, { n := 272, regs := [u, .one (.val (.int .i64)), u, .one (.fpt (.pair (.sl (.pair (.sl (.int .i64)) (.pair (.sl (.int .i64)) .unit))) (.pair (.sl (.sl (.int .i64))) (.pair (.sl (.int .i64)) .unit)))), u, .one (.fpt (.pair (.int .i64) (.pair (.int .i64) (.pair (.int .i64) (.pair (.int .i64) (.pair (.int .i64) (.pair (.int .i64) (.pair (.pair (.int .i64) (.pair (.int .i64) .unit)) .unit)))))))), .one (.lit (.ptr 1000128 0))], bx := [(1000128, .var [.lit .nil, .lit .nil, .lit .nil])], pins := [] }), (.ret, { n := 272, regs := [u, u, u, u, u, u, .one (.lit (.ptr 1000128 0)), .one (.val (.int .i64)), .one (.val (.int .i64))], bx := [(1000128, .var [.lit (.row 1025601), .lit (.row 1025602), .lit (.row 1025603)]), (1025601, .row (.pair (.sl (.int .i64)) (.pair (.sl (.int .i64)) .unit))), (1025602, .row (.sl (.int .i64))), (1025603, .row (.int .i64))], pins := [] })]
noncomputable def jiGraphDo_12 : Outs := [(.normal, { n := 272, regs := [u, u, u, u, u, .one (.fpt (.pair (.int .i64) (.pair (.int .i64) (.pair (.int .i64) (.pair (.int .i64) (.pair (.int .i64) (.pair (.int .i64) (.pair (.pair (.int .i64) (.pair (.int .i64) .unit)) .unit)))))))), .one (.lit (.ptr 1000128 0)), u, u, .one (.lit (.ptr 1038528 0)), .one (.ept 1038466 0), u, .one (.lit .pnil), .one (.val (.int .i64))], bx := [(1000128, .var [.lit .nil, .lit .nil, .lit .nil]), (1038528, .var [.lit (.row 1038465), .lit (.row 1038466), .lit (.row 1038467)]), (1038465, .row (.pair (.sl (.int .i64)) (.pair (.sl (.int .i64)) .unit))), (1038466, .row (.sl (.int .i64))), (1038467, .row (.int .i64))], pins := [] })]
noncomputable def FiGraphDo (N : Nat) (x : (((List ((List Int) × ((List Int) × Unit))) × ((List (List Int)) × ((List Int) × Unit))) × (Int × ((Int × (Int × (Int × (Int × (Int × (Int × ((Int × (Int × Unit)) × Unit))))))) × Unit)))) : Option (Int × (Int × ((List ((List Int) × ((List Int) × Unit))) × ((List (List Int)) × ((List Int) × Unit))))) :=
  Option.bind (
   (FiGraphOk N (x.1, ())).bind fun r1 =>
   bif !r1.1 then
    let y2 := ([] : (List ((List Int) × ((List Int) × Unit))))
    some (.inr (((0 : Int), (1 : Int), y2, ([] : (List (List Int))), ([] : (List Int)), ())))
   else
   bif decide (x.2.1 < (0 : Int)) then
    let y3 := ([] : (List ((List Int) × ((List Int) × Unit))))
    some (.inr (((0 : Int), (1 : Int), y3, ([] : (List (List Int))), ([] : (List Int)), ())))
   else
   let y4 := decide (x.2.1 ≥ (x.1.2.1.length : Int))
   bif y4 then
    let y5 := ([] : (List ((List Int) × ((List Int) × Unit))))
    some (.inr (((0 : Int), (1 : Int), y5, ([] : (List (List Int))), ([] : (List Int)), ())))
   else
   (FiOpOk N (x.2.2.1, ())).bind fun r6 =>
   bif !r6.1 then
    let y7 := ([] : (List ((List Int) × ((List Int) × Unit))))
    some (.inr (((0 : Int), (1 : Int), y7, ([] : (List (List Int))), ([] : (List Int)), ())))
   else
   some (.inl (x.2.1, x.1, x.2.2.1, ()))) fun o8 =>
  Sum.elim (fun o9 =>
   (FiGraph_copy N (o9.2.1, ())).bind fun r10 =>
   bif decide (0 ≤ o9.1) then
   bif decide (o9.1.toNat < r10.2.1.length) then
   (FiOp_early N (o9.2.2.1, r10.2.1.getD o9.1.toNat ([] : (List Int)), (-1 : Int), ())).bind fun r11 =>
   bif r11.1 != (0 : Int) then
    some ((0 : Int), r11.1, r10.1, r10.2.1, r10.2.2.1, ())
   else
   Option.bind (
    bif o9.2.2.1.1 != (1 : Int) then
     bif o9.2.2.1.1 != (8 : Int) then
      bif decide (0 ≤ o9.2.2.1.2.1) then
      bif decide (o9.2.2.1.2.1.toNat < (r10.2.1.getD o9.1.toNat ([] : (List Int))).length) then
      let y12 := (r10.2.1.getD o9.1.toNat ([] : (List Int))).getD o9.2.2.1.2.1.toNat (0 : Int)
      some (o9.2.2.1, Int.ofNat o9.1.toNat, y12, r10.1, r10.2.1, r10.2.2.1, ())
      else none
      else none
     else
     some (o9.2.2.1, Int.ofNat o9.1.toNat, (-1 : Int), r10.1, r10.2.1, r10.2.2.1, ())
    else
    some (o9.2.2.1, Int.ofNat o9.1.toNat, (-1 : Int), r10.1, r10.2.1, r10.2.2.1, ())) fun o13 =>
   bif decide (o13.2.2.1 ≥ (0 : Int)) then
    bif decide (0 ≤ o13.2.2.1) then
    bif decide (o13.2.2.1.toNat < o13.2.2.2.1.length) then
    let y14 := (((o13.2.2.2.1.getD o13.2.2.1.toNat (([] : (List Int)), ([] : (List Int)), ())).1).length : Int)
    let y15 := ((((o13.2.2.2.1.getD o13.2.2.1.toNat (([] : (List Int)), ([] : (List Int)), ())).2).1).length : Int)
    (FiOp_field N (o13.1, y14, y15, ())).bind fun r16 =>
    bif !r16.1 then
     some ((0 : Int), (4 : Int), o13.2.2.2.1, o13.2.2.2.2.1, o13.2.2.2.2.2.1, ())
    else
    bif o13.1.1 == (1 : Int) then
     let y17 := (o13.2.2.2.1.length : Int) == (200 : Int)
     bif y17 then
      some ((0 : Int), (6 : Int), o13.2.2.2.1, o13.2.2.2.2.1, o13.2.2.2.2.2.1, ())
     else
     bif decide ((o13.2.2.2.2.1.getD o13.2.1.toNat ([] : (List Int))).length + [(o13.2.2.2.1.length : Int)].length ≤ lim) then
     let y18 := (o13.2.2.2.2.1.getD o13.2.1.toNat ([] : (List Int))) ++ [(o13.2.2.2.1.length : Int)]
     bif decide (o13.2.1.toNat = o13.2.1.toNat) then
     (Finone N (o13.1.2.2.2.2.2.2.1.1, ())).bind fun r19 =>
     bif decide (0 ≤ o13.1.2.2.2.2.2.2.1.2.1) then
     bif decide (o13.1.2.2.2.2.2.2.1.2.1.toNat ≤ lim) then
     let y20 := List.replicate o13.1.2.2.2.2.2.2.1.2.1.toNat (0 : Int)
     bif decide (o13.2.2.2.1.length + [(r19.1, y20, ())].length ≤ lim) then
     some ((0 : Int), (0 : Int), o13.2.2.2.1 ++ [(r19.1, y20, ())], o13.2.2.2.2.1.set o13.2.1.toNat y18, o13.2.2.2.2.2.1, ())
     else none
     else none
     else none
     else none
     else none
    else
    bif o13.1.1 == (2 : Int) then
     bif decide (0 ≤ o13.1.2.2.2.2.1) then
     bif decide (o13.1.2.2.2.2.1.toNat < ((o13.2.2.2.1.getD o13.2.2.1.toNat (([] : (List Int)), ([] : (List Int)), ())).1).length) then
     let y21 := ((o13.2.2.2.1.getD o13.2.2.1.toNat (([] : (List Int)), ([] : (List Int)), ())).1).getD o13.1.2.2.2.2.1.toNat (0 : Int)
     bif decide ((o13.2.2.2.2.1.getD o13.2.1.toNat ([] : (List Int))).length + [y21].length ≤ lim) then
     let y22 := (o13.2.2.2.2.1.getD o13.2.1.toNat ([] : (List Int))) ++ [y21]
     bif decide (o13.2.1.toNat = o13.2.1.toNat) then
     some ((0 : Int), (0 : Int), o13.2.2.2.1, o13.2.2.2.2.1.set o13.2.1.toNat y22, o13.2.2.2.2.2.1, ())
     else none
     else none
     else none
     else none
    else
    bif o13.1.1 == (3 : Int) then
     bif decide (0 ≤ o13.1.2.2.1) then
     bif decide (o13.1.2.2.1.toNat < (o13.2.2.2.2.1.getD o13.2.1.toNat ([] : (List Int))).length) then
     let y23 := (o13.2.2.2.2.1.getD o13.2.1.toNat ([] : (List Int))).getD o13.1.2.2.1.toNat (0 : Int)
     bif decide (0 ≤ o13.1.2.2.2.2.1) then
     bif decide (o13.1.2.2.2.2.1.toNat < ((o13.2.2.2.1.getD o13.2.2.1.toNat (([] : (List Int)), ([] : (List Int)), ())).1).length) then
     let y24 := o13.2.2.2.1.set o13.2.2.1.toNat (((o13.2.2.2.1.getD o13.2.2.1.toNat (([] : (List Int)), ([] : (List Int)), ())).1).set o13.1.2.2.2.2.1.toNat y23, (o13.2.2.2.1.getD o13.2.2.1.toNat (([] : (List Int)), ([] : (List Int)), ())).2)
     some ((0 : Int), (0 : Int), y24, o13.2.2.2.2.1, o13.2.2.2.2.2.1, ())
     else none
     else none
     else none
     else none
    else
    bif o13.1.1 == (4 : Int) then
     bif decide (0 ≤ o13.1.2.2.2.2.1) then
     bif decide (o13.1.2.2.2.2.1.toNat < (((o13.2.2.2.1.getD o13.2.2.1.toNat (([] : (List Int)), ([] : (List Int)), ())).2).1).length) then
     let y25 := o13.2.2.2.1.set o13.2.2.1.toNat ((o13.2.2.2.1.getD o13.2.2.1.toNat (([] : (List Int)), ([] : (List Int)), ())).1, (((o13.2.2.2.1.getD o13.2.2.1.toNat (([] : (List Int)), ([] : (List Int)), ())).2).1).set o13.1.2.2.2.2.1.toNat o13.1.2.2.2.2.2.1, ((o13.2.2.2.1.getD o13.2.2.1.toNat (([] : (List Int)), ([] : (List Int)), ())).2).2)
     some ((0 : Int), (0 : Int), y25, o13.2.2.2.2.1, o13.2.2.2.2.2.1, ())
     else none
     else none
    else
    bif o13.1.1 == (5 : Int) then
     bif decide (0 ≤ o13.1.2.2.2.2.1) then
     bif decide (o13.1.2.2.2.2.1.toNat < (((o13.2.2.2.1.getD o13.2.2.1.toNat (([] : (List Int)), ([] : (List Int)), ())).2).1).length) then
     let y26 := (((o13.2.2.2.1.getD o13.2.2.1.toNat (([] : (List Int)), ([] : (List Int)), ())).2).1).getD o13.1.2.2.2.2.1.toNat (0 : Int)
     some (y26, (0 : Int), o13.2.2.2.1, o13.2.2.2.2.1, o13.2.2.2.2.2.1, ())
     else none
     else none
    else
    bif o13.1.1 == (6 : Int) then
     bif decide (0 ≤ o13.1.2.2.1) then
     bif decide (o13.1.2.2.1.toNat < (o13.2.2.2.2.1.getD o13.2.1.toNat ([] : (List Int))).length) then
     let y27 := (o13.2.2.2.2.1.getD o13.2.1.toNat ([] : (List Int))).getD o13.1.2.2.1.toNat (0 : Int)
     (Fitruth N (o13.2.2.1 == y27, ())).bind fun r28 =>
     some (r28.1, (0 : Int), o13.2.2.2.1, o13.2.2.2.2.1, o13.2.2.2.2.2.1, ())
     else none
     else none
    else
    bif o13.1.1 == (7 : Int) then
     bif decide (0 ≤ o13.1.2.2.2.2.1) then
     bif decide (o13.1.2.2.2.2.1.toNat < ((o13.2.2.2.1.getD o13.2.2.1.toNat (([] : (List Int)), ([] : (List Int)), ())).1).length) then
     let y29 := ((o13.2.2.2.1.getD o13.2.2.1.toNat (([] : (List Int)), ([] : (List Int)), ())).1).getD o13.1.2.2.2.2.1.toNat (0 : Int)
     bif decide (0 ≤ o13.1.2.2.1) then
     bif decide (o13.1.2.2.1.toNat < (o13.2.2.2.2.1.getD o13.2.1.toNat ([] : (List Int))).length) then
     let y30 := (o13.2.2.2.2.1.getD o13.2.1.toNat ([] : (List Int))).getD o13.1.2.2.1.toNat (0 : Int)
     bif y29 != y30 then
      some ((0 : Int), (0 : Int), o13.2.2.2.1, o13.2.2.2.2.1, o13.2.2.2.2.2.1, ())
     else
     bif decide (0 ≤ o13.1.2.2.2.1) then
     bif decide (o13.1.2.2.2.1.toNat < (o13.2.2.2.2.1.getD o13.2.1.toNat ([] : (List Int))).length) then
     let y31 := (o13.2.2.2.2.1.getD o13.2.1.toNat ([] : (List Int))).getD o13.1.2.2.2.1.toNat (0 : Int)
     bif decide (0 ≤ o13.1.2.2.2.2.1) then
     bif decide (o13.1.2.2.2.2.1.toNat < ((o13.2.2.2.1.getD o13.2.2.1.toNat (([] : (List Int)), ([] : (List Int)), ())).1).length) then
     let y32 := o13.2.2.2.1.set o13.2.2.1.toNat (((o13.2.2.2.1.getD o13.2.2.1.toNat (([] : (List Int)), ([] : (List Int)), ())).1).set o13.1.2.2.2.2.1.toNat y31, (o13.2.2.2.1.getD o13.2.2.1.toNat (([] : (List Int)), ([] : (List Int)), ())).2)
     some ((1 : Int), (0 : Int), y32, o13.2.2.2.2.1, o13.2.2.2.2.2.1, ())
     else none
     else none
     else none
     else none
     else none
     else none
     else none
     else none
    else
    bif o13.1.1 == (8 : Int) then
     let y33 := ((o13.2.2.2.2.1.getD o13.2.1.toNat ([] : (List Int))).length : Int)
     bif decide (0 ≤ (w64 (y33 - (1 : Int)))) then
     bif decide ((w64 (y33 - (1 : Int))) ≤ ((o13.2.2.2.2.1.getD o13.2.1.toNat ([] : (List Int))).length : Int)) then
     bif decide (0 ≤ (0 : Int)) then
     bif decide ((0 : Int) ≤ (w64 (y33 - (1 : Int)))) then
     bif decide (o13.2.1.toNat = o13.2.1.toNat) then
     let y34 := o13.2.2.2.2.1.set o13.2.1.toNat ((o13.2.2.2.2.1.getD o13.2.1.toNat ([] : (List Int))).take ((w64 (y33 - (1 : Int))).toNat))
     some ((0 : Int), (0 : Int), o13.2.2.2.1, y34, o13.2.2.2.2.2.1, ())
     else none
     else none
     else none
     else none
     else none
    else
    bif o13.1.1 == (9 : Int) then
     bif decide ((o13.2.2.2.2.1.getD o13.2.1.toNat ([] : (List Int))).length + [o13.2.2.1].length ≤ lim) then
     let y35 := (o13.2.2.2.2.1.getD o13.2.1.toNat ([] : (List Int))) ++ [o13.2.2.1]
     bif decide (o13.2.1.toNat = o13.2.1.toNat) then
     some ((0 : Int), (0 : Int), o13.2.2.2.1, o13.2.2.2.2.1.set o13.2.1.toNat y35, o13.2.2.2.2.2.1, ())
     else none
     else none
    else
    bif o13.1.1 == (10 : Int) then
     let y36 := (o13.2.2.2.2.2.1.length : Int) == (8 : Int)
     bif y36 then
      some ((0 : Int), (7 : Int), o13.2.2.2.1, o13.2.2.2.2.1, o13.2.2.2.2.2.1, ())
     else
     bif decide (o13.2.2.2.2.2.1.length + [o13.2.2.1].length ≤ lim) then
     some ((0 : Int), (0 : Int), o13.2.2.2.1, o13.2.2.2.2.1, o13.2.2.2.2.2.1 ++ [o13.2.2.1], ())
     else none
    else
    bif o13.1.1 == (11 : Int) then
     (FilastOf N (o13.2.2.2.2.2.1, o13.2.2.1, ())).bind fun r37 =>
     bif decide (r37.1 < (0 : Int)) then
      some ((0 : Int), (7 : Int), o13.2.2.2.1, o13.2.2.2.2.1, o13.2.2.2.2.2.1, ())
     else
     (FkDelete_Sint_int N (r37.1, w64 (r37.1 + (1 : Int)), o13.2.2.2.2.2.1, ())).bind fun r38 =>
     some ((0 : Int), (0 : Int), o13.2.2.2.1, o13.2.2.2.2.1, r38.1, ())
    else
    some ((0 : Int), (0 : Int), o13.2.2.2.1, o13.2.2.2.2.1, o13.2.2.2.2.2.1, ())
    else none
    else none
   else
   bif o13.1.1 == (1 : Int) then
    let y39 := (o13.2.2.2.1.length : Int) == (200 : Int)
    bif y39 then
     some ((0 : Int), (6 : Int), o13.2.2.2.1, o13.2.2.2.2.1, o13.2.2.2.2.2.1, ())
    else
    bif decide ((o13.2.2.2.2.1.getD o13.2.1.toNat ([] : (List Int))).length + [(o13.2.2.2.1.length : Int)].length ≤ lim) then
    let y40 := (o13.2.2.2.2.1.getD o13.2.1.toNat ([] : (List Int))) ++ [(o13.2.2.2.1.length : Int)]
    bif decide (o13.2.1.toNat = o13.2.1.toNat) then
    (Finone N (o13.1.2.2.2.2.2.2.1.1, ())).bind fun r41 =>
    bif decide (0 ≤ o13.1.2.2.2.2.2.2.1.2.1) then
    bif decide (o13.1.2.2.2.2.2.2.1.2.1.toNat ≤ lim) then
    let y42 := List.replicate o13.1.2.2.2.2.2.2.1.2.1.toNat (0 : Int)
    bif decide (o13.2.2.2.1.length + [(r41.1, y42, ())].length ≤ lim) then
    some ((0 : Int), (0 : Int), o13.2.2.2.1 ++ [(r41.1, y42, ())], o13.2.2.2.2.1.set o13.2.1.toNat y40, o13.2.2.2.2.2.1, ())
    else none
    else none
    else none
    else none
    else none
   else
   bif o13.1.1 == (2 : Int) then
    none
   else
   bif o13.1.1 == (3 : Int) then
    none
   else
   bif o13.1.1 == (4 : Int) then
    none
   else
   bif o13.1.1 == (5 : Int) then
    none
   else
   bif o13.1.1 == (6 : Int) then
    bif decide (0 ≤ o13.1.2.2.1) then
    bif decide (o13.1.2.2.1.toNat < (o13.2.2.2.2.1.getD o13.2.1.toNat ([] : (List Int))).length) then
    let y43 := (o13.2.2.2.2.1.getD o13.2.1.toNat ([] : (List Int))).getD o13.1.2.2.1.toNat (0 : Int)
    (Fitruth N (o13.2.2.1 == y43, ())).bind fun r44 =>
    some (r44.1, (0 : Int), o13.2.2.2.1, o13.2.2.2.2.1, o13.2.2.2.2.2.1, ())
    else none
    else none
   else
   bif o13.1.1 == (7 : Int) then
    none
   else
   bif o13.1.1 == (8 : Int) then
    let y45 := ((o13.2.2.2.2.1.getD o13.2.1.toNat ([] : (List Int))).length : Int)
    bif decide (0 ≤ (w64 (y45 - (1 : Int)))) then
    bif decide ((w64 (y45 - (1 : Int))) ≤ ((o13.2.2.2.2.1.getD o13.2.1.toNat ([] : (List Int))).length : Int)) then
    bif decide (0 ≤ (0 : Int)) then
    bif decide ((0 : Int) ≤ (w64 (y45 - (1 : Int)))) then
    bif decide (o13.2.1.toNat = o13.2.1.toNat) then
    let y46 := o13.2.2.2.2.1.set o13.2.1.toNat ((o13.2.2.2.2.1.getD o13.2.1.toNat ([] : (List Int))).take ((w64 (y45 - (1 : Int))).toNat))
    some ((0 : Int), (0 : Int), o13.2.2.2.1, y46, o13.2.2.2.2.2.1, ())
    else none
    else none
    else none
    else none
    else none
   else
   bif o13.1.1 == (9 : Int) then
    bif decide ((o13.2.2.2.2.1.getD o13.2.1.toNat ([] : (List Int))).length + [o13.2.2.1].length ≤ lim) then
    let y47 := (o13.2.2.2.2.1.getD o13.2.1.toNat ([] : (List Int))) ++ [o13.2.2.1]
    bif decide (o13.2.1.toNat = o13.2.1.toNat) then
    some ((0 : Int), (0 : Int), o13.2.2.2.1, o13.2.2.2.2.1.set o13.2.1.toNat y47, o13.2.2.2.2.2.1, ())
    else none
    else none
   else
   bif o13.1.1 == (10 : Int) then
    let y48 := (o13.2.2.2.2.2.1.length : Int) == (8 : Int)
    bif y48 then
     some ((0 : Int), (7 : Int), o13.2.2.2.1, o13.2.2.2.2.1, o13.2.2.2.2.2.1, ())
    else
    bif decide (o13.2.2.2.2.2.1.length + [o13.2.2.1].length ≤ lim) then
    some ((0 : Int), (0 : Int), o13.2.2.2.1, o13.2.2.2.2.1, o13.2.2.2.2.2.1 ++ [o13.2.2.1], ())
    else none
   else
   bif o13.1.1 == (11 : Int) then
    (FilastOf N (o13.2.2.2.2.2.1, o13.2.2.1, ())).bind fun r49 =>
    bif decide (r49.1 < (0 : Int)) then
     some ((0 : Int), (7 : Int), o13.2.2.2.1, o13.2.2.2.2.1, o13.2.2.2.2.2.1, ())
    else
    (FkDelete_Sint_int N (r49.1, w64 (r49.1 + (1 : Int)), o13.2.2.2.2.2.1, ())).bind fun r50 =>
    some ((0 : Int), (0 : Int), o13.2.2.2.1, o13.2.2.2.2.1, r50.1, ())
   else
   some ((0 : Int), (0 : Int), o13.2.2.2.1, o13.2.2.2.2.1, o13.2.2.2.2.2.1, ())
   else none
   else none) (fun o51 =>
   some (o51.1, o51.2.1, o51.2.2.1, o51.2.2.2.1, o51.2.2.2.2.1, ())) o8
noncomputable def coniGraphDo (N : Nat) : Con := { f := 51, din := diniGraphDo, outs := outiGraphDo, F := FiGraphDo N }
noncomputable def XiGraphDo (N : Nat) : Ctx := { E := EiGraphDo N, H := HiGraphDo, lp := [], jn := [(3, jiGraphDo_3), (12, jiGraphDo_12)] }
theorem FiGraphDo_eq (N : Nat) (x : (((List ((List Int) × ((List Int) × Unit))) × ((List (List Int)) × ((List Int) × Unit))) × (Int × ((Int × (Int × (Int × (Int × (Int × (Int × ((Int × (Int × Unit)) × Unit))))))) × Unit)))) : evFn (XiGraphDo N) Try.f51 diniGraphDo outiGraphDo x = FiGraphDo N x := by kernel_rfl
theorem cxiGraphDo (N : Nat) : CtxOk Try.prog (XiGraphDo N) := ⟨⟨TE_ok, List.forall_mem_cons.2 ⟨(speciGraphOk N), List.forall_mem_cons.2 ⟨(speciOpOk N), List.forall_mem_cons.2 ⟨(speciGraph_copy N), List.forall_mem_cons.2 ⟨(speciOp_early N), List.forall_mem_cons.2 ⟨(speciOp_field N), List.forall_mem_cons.2 ⟨(specinone N), List.forall_mem_cons.2 ⟨(specitruth N), List.forall_mem_cons.2 ⟨(specilastOf N), List.forall_mem_cons.2 ⟨(speckDelete_Sint_int N), fun k hk => absurd hk List.not_mem_nil⟩⟩⟩⟩⟩⟩⟩⟩⟩⟩, mixed⟩
theorem speciGraphDo (N : Nat) : Spec Try.prog (coniGraphDo N) :=
  Spec.of_eq (fn_spec (cxiGraphDo N) (f := 51) (fn := Try.f51) (c := codeOf Try.f51) (by kernel_rfl) (by kernel_rfl) (by kernel_rfl) (loops_at (ids := []) (by kernel_rfl) (trivial)) (by kernel_rfl)) (fun x r h => (FiGraphDo_eq N x).trans h)

/-! ### 120: impl.HistFits$2 -/

noncomputable def diniHistFits_2_iHistFits_1_iHistFits_2 : Desc := { n := 8, regs := [.one (.val (.pair (.sl (.pair (.sl (.int .i64)) (.pair (.sl (.int .i64)) .unit))) (.pair (.sl (.sl (.int .i64))) (.pair (.sl (.int .i64)) .unit)))), .one (.lit (.ptr 64 0)), .one (.fpt (.sl (.pair (.int .i64) (.pair (.int .i64) (.pair (.int .i64) (.pair (.int .i64) (.pair (.int .i64) (.pair (.int .i64) .unit)))))))), .one (.lit (.ptr 192 0)), .one (.lit (.ptr 256 0)), .one (.fpt (.sl (.sl (.pair (.int .i64) (.pair (.int .i64) (.pair (.int .i64) (.pair (.int .i64) (.pair (.int .i64) (.pair (.int .i64) (.pair (.pair (.int .i64) (.pair (.int .i64) .unit)) .unit)))))))))), .one (.lit (.ptr 384 0)), .one (.lit (.ptr 448 0))], bx := [(64, .var [.val (.int .i64)]), (192, .var [.lit (.row 193)]), (193, .row .bool), (256, .var [.clo 119 [.inr (.sl (.pair (.int .i64) (.pair (.int .i64) (.pair (.int .i64) (.pair (.int .i64) (.pair (.int .i64) (.pair (.int .i64) .unit))))))), .inl 192]]), (384, .var [.lit (.row 385)]), (385, .row (.int .i64)), (448, .var [.clo 120 [.inl 64, .inr (.sl (.pair (.int .i64) (.pair (.int .i64) (.pair (.int .i64) (.pair (.int .i64) (.pair (.int .i64) (.pair (.int .i64) .unit))))))), .inl 192, .inl 256, .inr (.sl (.sl (.pair (.int .i64) (.pair (.int .i64) (.pair (.int .i64) (.pair (.int .i64) (.pair (.int .i64) (.pair (.int .i64) (.pair (.pair (.int .i64) (.pair (.int .i64) .unit)) .unit))))))))), .inl 384, .inl 448]])], pins := [] }
noncomputable def outiHistFits_2_iHistFits_1_iHistFits_2 : Outs := [(.ret, { n := 1, regs := [.one (.val .bool)], bx := [(64, .var [.val (.int .i64)]), (192, .var [.lit (.row 193)]), (193, .row .bool), (256, .var [.clo 119 [.inr (.sl (.pair (.int .i64) (.pair (.int .i64) (.pair (.int .i64) (.pair (.int .i64) (.pair (.int .i64) (.pair (.int .i64) .unit))))))), .inl 192]]), (384, .var [.lit (.row 385)]), (385, .row (.int .i64)), (448, .var [.clo 120 [.inl 64, .inr (.sl (.pair (.int .i64) (.pair (.int .i64) (.pair (.int .i64) (.pair (.int .i64) (.pair (.int .i64) (.pair (.int .i64) .unit))))))), .inl 192, .inl 256, .inr (.sl (.sl (.pair (.int .i64) (.pair (.int .i64) (.pair (.int .i64) (.pair (.int .i64) (.pair (.int .i64) (.pair (.int .i64) (.pair (.pair (.int .i64) (.pair (.int .i64) .unit)) .unit))))))))), .inl 384, .inl 448]])], pins := [u, .one (.lit (.ptr 64 0)), u, .one (.lit (.ptr 192 0)), .one (.lit (.ptr 256 0)), u, .one (.lit (.ptr 384 0)), .one (.lit (.ptr 448 0))] })]
noncomputable def HiHistFits_2_iHistFits_1_iHistFits_2 : Hints := [(0, [(0, { fz := true })]),
  (9, [(12, { con := 1 })]),
  (15, [(4, { con := 2 })]),
  (16, [(2, { con := 3 })]),
  (18, [(4, { con := 2 })]),
  (19, [(4, { dp := true })])]
noncomputable def diHistFits_2_iHistFits_1_iHistFits_2_0 : Desc := { n := 110, regs := [u, .one (.lit (.ptr 64 0)), u, .one (.lit (.ptr 192 0)), .one (.lit (.ptr 256 0)), .one (.fpt (.sl (.sl (.pair (.int .i64) (.pair (.int .i64) (.pair (.int .i64) (.pair (.int .i64) (.pair (.int .i64) (.pair (.int .i64) (.pair (.pair (.int .i64) (.pair (.int .i64) .unit)) .unit)))))))))), .one (.lit (.ptr 384 0)), .one (.lit (.ptr 448 0)), .one (.fpt (.pair (.sl (.pair (.sl (.int .i64)) (.pair (.sl (.int .i64)) .unit))) (.pair (.sl (.sl (.int .i64))) (.pair (.sl (.int .i64)) .unit)))), u, u, u, u, u, u, u, u, u, .one (.val (.sl (.pair (.int .i64) (.pair (.int .i64) (.pair (.int .i64) (.pair (.int .i64) (.pair (.int .i64) (.pair (.int .i64) .unit)))))))), .one (.val (.int .i64)), .one (.val (.int .i64))], bx := [(64, .var [.val (.int .i64)]), (192, .var [.lit (.row 193)]), (193, .row .bool), (256, .var [.clo 119 [.inr (.sl (.pair (.int .i64) (.pair (.int .i64) (.pair (.int .i64) (.pair (.int .i64) (.pair (.int .i64) (.pair (.int .i64) .unit))))))), .inl 192]]), (384, .var [.lit (.row 385)]), (385, .row (.int .i64)), (448, .var [.clo 120 [.inl 64, .inr (.sl (.pair (.int .i64) (.pair (.int .i64) (.pair (.int .i64) (.pair (.int .i64) (.pair (.int .i64) (.pair (.int .i64) .unit))))))), .inl 192, .inl 256, .inr (.sl (.sl (.pair (.int .i64) (.pair (.int .i64) (.pair (.int .i64) (.pair (.int .i64) (.pair (.int .i64) (.pair (.int .i64) (.pair (.pair (.int .i64) (.pair (.int .i64) .unit)) .unit))))))))), .inl 384, .inl 448]])], pins := [u, .one (.lit (.ptr 64 0)), u, .one (.lit (.ptr 192 0)), .one (.lit (.ptr 256 0)), u, .one (.lit (.ptr 384 0)), .one (.lit (.ptr 448 0))] }
noncomputable def oiHistFits_2_iHistFits_1_iHistFits_2_0 : Outs := [(.exit 0, { n := 110, regs := [], bx := [(64, .var [.val (.int .i64)]), (192, .var [.lit (.row 193)]), (193, .row .bool), (256, .var [.clo 119 [.inr (.sl (.pair (.int .i64) (.pair (.int .i64) (.pair (.int .i64) (.pair (.int .i64) (.pair (.int .i64) (.pair (.int .i64) .unit))))))), .inl 192]]), (384, .var [.lit (.row 385)]), (385, .row (.int .i64)), (448, .var [.clo 120 [.inl 64, .inr (.sl (.pair (.int .i64) (.pair (.int .i64) (.pair (.int .i64) (.pair (.int .i64) (.pair (.int .i64) (.pair (.int .i64) .unit))))))), .inl 192, .inl 256, .inr (.sl (.sl (.pair (.int .i64) (.pair (.int .i64) (.pair (.int .i64) (.pair (.int .i64) (.pair (.int .i64) (.pair (.int .i64) (.pair (.pair (.int .i64) (.pair (.int .i64) .unit)) .unit))))))))), .inl 384, .inl 448]])], pins := [u, .one (.lit (.ptr 64 0)), u, .one (.lit (.ptr 192 0)), .one (.lit (.ptr 256 0)), u, .one (.lit (.ptr 384 0)), .one (.lit (.ptr 448 0))] }), (.ret, { n := 110, regs := [u, u, u, u, u, u, u, u, u, .one (.val .bool)], bx := [(64, .var [.val (.int .i64)]), (192, .var [.lit (.row 193)]), (193, .row .bool), (256, .var [.clo 119 [.inr (.sl (.pair (.int .i64) (.pair (.int .i64) (.pair (.int .i64) (.pair (.int .i64) (.pair (.int .i64) (.pair (.int .i64) .unit))))))), .inl 192]]), (384, .var [.lit (.row 385)]), (385, .row (.int .i64)), (448, .var [.clo 120 [.inl 64, .inr (.sl (.pair (.int .i64) (.pair (.int .i64) (.pair (.int .i64) (.pair (.int .i64) (.pair (.int .i64) (.pair (.int .i64) .unit))))))), .inl 192, .inl 256, .inr (.sl (.sl (.pair (.int .i64) (.pair (.int .i64) (.pair (.int .i64) (.pair (.int .i64) (.pair (.int .i64) (.pair (.int .i64) (.pair (.pair (.int .i64) (.pair (.int .i64) .unit)) .unit))))))))), .inl 384, .inl 448]])], pins := [u, .one (.lit (.ptr 64 0)), u, .one (.lit (.ptr 192 0)), .one (.lit (.ptr 256 0)), u, .one (.lit (.ptr 384 0)), .one (.lit (.ptr 448 0))] })]
noncomputable def jiHistFits_2_iHistFits_1_iHistFits_2_7 : Outs := [(.exit 1, { n := 110, regs := [u, .one (.lit (.ptr 64 0)), u, .one (.lit (.ptr 192 0)), .one (.lit (.ptr 256 0)), .one (.fpt (.sl (.sl (.pair (.int .i64) (.pair (.int .i64) (.pair (.int .i64) (.pair (.int .i64) (.pair (.int .i64) (.pair (.int .i64) (.pair (.pair (.int .i64) (.pair (.int .i64) .unit)) .unit)))))))))), .one (.lit (.ptr 384 0)), .one (.lit (.ptr 448 0)), .one (.fpt (.pair (.sl (.pair (.sl (.int .i64)) (.pair (.sl (.int .i64)) .unit))) (.pair (.sl (.sl (.int .i64))) (.pair (.sl (.int .i64)) .unit)))), u, u, u, u, u, u, u, u, u, .one (.val (.sl (.pair (.int .i64) (.pair (.int .i64) (.pair (.int .i64) (.pair (.int .i64) (.pair (.int .i64) (.pair (.int .i64) .unit)))))))), .one (.val (.int .i64)), .one (.val (.int .i64))], bx := [(64, .var [.val (.int .i64)]), (192, .var [.lit (.row 193)]), (193, .row .bool), (256, .var [.clo 119 [.inr (.sl (.pair (.int .i64) (.pair (.int .i64) (.pair (.int .i64) (.pair (.int .i64) (.pair (.int .i64) (.pair (.int .i64) .unit))))))), .inl 192]]), (384, .var [.lit (.row 385)]), (385, .row (.int .i64)), (448, .var [.clo 120 [.inl 64, .inr (.sl (.pair (.int .i64) (.pair (.int .i64) (.pair (.int .i64) (.pair (.int .i64) (.pair (.int .i64) (.pair (.int .i64) .unit))))))), .inl 192, .inl 256, .inr (.sl (.sl (.pair (.int .i64) (.pair (.int .i64) (.pair (.int .i64) (.pair (.int .i64) (.pair (.int .i64) (.pair (.int .i64) (.pair (.pair (.int .i64) (.pair (.int .i64) .unit)) .unit))))))))), .inl 384, .inl 448]])], pins := [u, .one (.lit (.ptr 64 0)), u, .one (.lit (.ptr 192 0)), .one (.lit (.ptr 256 0)), u, .one (.lit (.ptr 384 0)), .one (.lit (.ptr 448 0))] }), (.normal, { n := 110, regs := [u, .one (.lit (.ptr 64 0)), u, .one (.lit (.ptr 192 0)), .one (.lit (.ptr 256 0)), .one (.fpt (.sl (.sl (.pair (.int .i64) (.pair (.int .i64) (.pair (.int .i64) (.pair (.int .i64) (.pair (.int .i64) (.pair (.int .i64) (.pair (.pair (.int .i64) (.pair (.int .i64) .unit)) .unit)))))))))), .one (.lit (.ptr 384 0)), .one (.lit (.ptr 448 0)), .one (.fpt (.pair (.sl (.pair (.sl (.int .i64)) (.pair (.sl (.int .i64)) .unit))) (.pair (.sl (.sl (.int .i64))) (.pair (.sl (.int .i64)) .unit)))), u, .one (.val (.int .i64)), .one (.lit (.ptr 1064192 0)), u, u, u, u, u, u, .one (.val (.sl (.pair (.int .i64) (.pair (.int .i64) (.pair (.int .i64) (.pair (.int .i64) (.pair (.int .i64) (.pair (.int .i64) .unit)))))))), .one (.val (.int .i64)), .one (.val (.int .i64))], bx := [(64, .var [.val (.int .i64)]), (192, .var [.lit (.row 193)]), (193, .row .bool), (256, .var [.clo 119 [.inr (.sl (.pair (.int .i64) (.pair (.int .i64) (.pair (.int .i64) (.pair (.int .i64) (.pair (.int .i64) (.pair (.int .i64) .unit))))))), .inl 192]]), (384, .var [.lit (.row 385)]), (385, .row (.int .i64)), (448, .var [.clo 120 [.inl 64, .inr (.sl (.pair (.int .i64) (.pair (.int .i64) (.pair (.int .i64) (.pair (.int .i64) (.pair (.int .i64) (.pair (.int .i64) .unit))))))), .inl 192, .inl 256, .inr (.sl (.sl (.pair (.int .i64) (.pair (.int .i64) (.pair (.int .i64) (.pair (.int .i64) (.pair (.int .i64) (.pair (.int .i64) (.pair (.pair (.int .i64) (.pair (.int .i64) .unit)) .unit))))))))), .inl 384, .inl 448]]), (1064192, .var [.val (.int .i64), .val (.int .i64), .val (.int .i64), .val (.int .i64), .val (.int .i64), .val (.int .i64)])], pins := [u, .one (.lit (.ptr 64 0)), u, .one (.lit (.ptr 192 0)), .one (.lit (.ptr 256 0)), u, .one (.lit (.ptr 384 0)), .one (.lit (.ptr 448 0))] })]
noncomputable def jiHistFits_2_iHistFits_1_iHistFits_2_13 : Outs := [(.exit 1, { n := 110, regs := [u, .one (.lit (.ptr 64 0)), u, .one (.lit (.ptr 192 0)), .one (.lit (.ptr 256 0)), .one (.fpt (.sl (.sl (.pair (.int .i64) (.pair (.int .i64) (.pair (.int .i64) (.pair (.int .i64) (.pair (.int .i64) (.pair (.int .i64) (.pair (.pair (.int .i64) (.pair (.int .i64) .unit)) .unit)))))))))), .one (.lit (.ptr 384 0)), .one (.lit (.ptr 448 0)), .one (.fpt (.pair (.sl (.pair (.sl (.int .i64)) (.pair (.sl (.int .i64)) .unit))) (.pair (.sl (.sl (.int .i64))) (.pair (.sl (.int .i64)) .unit)))), u, u, u, u, u, u, u, u, u, .one (.val (.sl (.pair (.int .i64) (.pair (.int .i64) (.pair (.int .i64) (.pair (.int .i64) (.pair (.int .i64) (.pair (.int .i64) .unit)))))))), .one (.val (.int .i64)), .one (.val (.int .i64))], bx := [(64, .var [.val (.int .i64)]), (192, .var [.lit (.row 193)]), (193, .row .bool), (256, .var [.clo 119 [.inr (.sl (.pair (.int .i64) (.pair (.int .i64) (.pair (.int .i64) (.pair (.int .i64) (.pair (.int .i64) (.pair (.int .i64) .unit))))))), .inl 192]]), (384, .var [.lit (.row 385)]), (385, .row (.int .i64)), (448, .var [.clo 120 [.inl 64, .inr (.sl (.pair (.int .i64) (.pair (.int .i64) (.pair (.int .i64) (.pair (.int .i64) (.pair (.int .i64) (.pair (.int .i64) .unit))))))), .inl 192, .inl 256, .inr (.sl (.sl (.pair (.int .i64) (.pair (.int .i64) (.pair (.int .i64) (.pair (.int .i64) (.pair (.int .i64) (.pair (.int .i64) (.pair (.pair (.int .i64) (.pair (.int .i64) .unit)) .unit))))))))), .inl 384, .inl 448]])], pins := [u, .one (.lit (.ptr 64 0)), u, .one (.lit (.ptr 192 0)), .one (.lit (.ptr 256 0)), u, .one (.lit (.ptr 384 0)), .one (.lit (.ptr 448 0))] }), (.normal, { n := 110, regs := [u, .one (.lit (.ptr 64 0)), u, .one (.lit (.ptr 192 0)), .one (.lit (.ptr 256 0)), .one (.fpt (.sl (.sl (.pair (.int .i64) (.pair (.int .i64) (.pair (.int .i64) (.pair (.int .i64) (.pair (.int .i64) (.pair (.int .i64) (.pair (.pair (.int .i64) (.pair (.int .i64) .unit)) .unit)))))))))), .one (.lit (.ptr 384 0)), .one (.lit (.ptr 448 0)), .one (.fpt (.pair (.sl (.pair (.sl (.int .i64)) (.pair (.sl (.int .i64)) .unit))) (.pair (.sl (.sl (.int .i64))) (.pair (.sl (.int .i64)) .unit)))), u, .one (.val (.int .i64)), .one (.lit (.ptr 1064192 0)), .one (.lit (.ptr 1089664 0)), u, u, u, u, u, .one (.val (.sl (.pair (.int .i64) (.pair (.int .i64) (.pair (.int .i64) (.pair (.int .i64) (.pair (.int .i64) (.pair (.int .i64) .unit)))))))), .one (.val (.int .i64)), .one (.val (.int .i64))], bx := [(64, .var [.val (.int .i64)]), (192, .var [.lit (.row 193)]), (193, .row .bool), (256, .var [.clo 119 [.inr (.sl (.pair (.int .i64) (.pair (.int .i64) (.pair (.int .i64) (.pair (.int .i64) (.pair (.int .i64) (.pair (.int .i64) .unit))))))), .inl 192]]), (384, .var [.lit (.row 385)]), (385, .row (.int .i64)), (448, .var [.clo 120 [.inl 64, .inr (.sl (.pair (.int .i64) (.pair (.int .i64) (.pair (.int .i64) (.pair (.int .i64) (.pair (.int .i64) (.pair (.int .i64) .unit))))))), .inl 192, .inl 256, .inr (.sl (.sl (.pair (.int .i64) (.pair (.int .i64) (.pair (.int .i64) (.pair (.int .i64) (.pair (.int .i64) (.pair (.int .i64) (.pair (.pair (.int .i64) (.pair (.int .i64) .unit)) .unit))))))))), .inl 384, .inl 448]]), (1064192, .var [.val (.int .i64), .val (.int .i64), .val (.int .i64), .val (.int .i64), .val (.int .i64), .val (.int .i64)]), (1089664, .var [.val (.sl (.pair (.sl (.int .i64)) (.pair (.sl (.int .i64)) .unit))), .val (.sl (.sl (.int .i64))), .val (.sl (.int .i64))])], pins := [u, .one (.lit (.ptr 64 0)), u, .one (.lit (.ptr 192 0)), .one (.lit (.ptr 256 0)), u, .one (.lit (.ptr 384 0)), .one (.lit (.ptr 448 0))] })]
noncomputable def liHistFits_2_iHistFits_1_iHistFits_2_0 (N : Nat) (f_ : (((List ((List Int) × ((List Int) × Unit))) × ((List (List Int)) × ((List Int) × Unit))) × ((List (Int × (Int × (Int × (Int × (Int × (Int × Unit))))))) × ((List (List (Int × (Int × (Int × (Int × (Int × (Int × ((Int × (Int × Unit)) × Unit))))))))) × (Int × ((List Bool) × ((List (Int × (Int × (Int × (Int × (Int × (Int × Unit))))))) × ((List Int) × ((List (Int × (Int × (Int × (Int × (Int × (Int × Unit))))))) × ((List (List (Int × (Int × (Int × (Int × (Int × (Int × ((Int × (Int × Unit)) × Unit))))))))) × Unit))))))))) → Option (Bool × (Int × ((List Bool) × ((List (Int × (Int × (Int × (Int × (Int × (Int × Unit))))))) × ((List Int) × ((List (Int × (Int × (Int × (Int × (Int × (Int × Unit))))))) × ((List (List (Int × (Int × (Int × (Int × (Int × (Int × ((Int × (Int × Unit)) × Unit))))))))) × Unit)))))))) : Nat → ((List (List (Int × (Int × (Int × (Int × (Int × (Int × ((Int × (Int × Unit)) × Unit))))))))) × (((List ((List Int) × ((List Int) × Unit))) × ((List (List Int)) × ((List Int) × Unit))) × ((List (Int × (Int × (Int × (Int × (Int × (Int × Unit))))))) × (Int × (Int × (Int × ((List Bool) × ((List (Int × (Int × (Int × (Int × (Int × (Int × Unit))))))) × ((List Int) × ((List (Int × (Int × (Int × (Int × (Int × (Int × Unit))))))) × ((List (List (Int × (Int × (Int × (Int × (Int × (Int × ((Int × (Int × Unit)) × Unit))))))))) × Unit))))))))))) → Option ((Int × ((List Bool) × ((List (Int × (Int × (Int × (Int × (Int × (Int × Unit))))))) × ((List Int) × ((List (Int × (Int × (Int × (Int × (Int × (Int × Unit))))))) × ((List (List (Int × (Int × (Int × (Int × (Int × (Int × ((Int × (Int × Unit)) × Unit))))))))) × Unit)))))) ⊕ (Bool × (Int × ((List Bool) × ((List (Int × (Int × (Int × (Int × (Int × (Int × Unit))))))) × ((List Int) × ((List (Int × (Int × (Int × (Int × (Int × (Int × Unit))))))) × ((List (List (Int × (Int × (Int × (Int × (Int × (Int × ((Int × (Int × Unit)) × Unit))))))))) × Unit))))))))
  | 0, _ => none
  | n + 1, v =>
    bif decide (v.2.2.2.2.1 < v.2.2.2.1) then
     bif decide (0 ≤ v.2.2.2.2.1) then
     bif decide (v.2.2.2.2.1.toNat < v.2.2.1.length) then
     let y1 := v.2.2.1.getD v.2.2.2.2.1.toNat ((0 : Int), (0 : Int), (0 : Int), (0 : Int), (0 : Int), (0 : Int), ())
     Option.bind (
      bif decide (0 ≤ v.2.2.2.2.1) then
      bif decide (v.2.2.2.2.1.toNat < v.2.2.2.2.2.2.1.length) then
      let y2 := v.2.2.2.2.2.2.1.getD v.2.2.2.2.1.toNat false
      bif y2 then
       some (.inl (v.1, v.2.1, v.2.2.1, v.2.2.2.1, v.2.2.2.2.1, v.2.2.2.2.2.1, v.2.2.2.2.2.2.1, v.2.2.2.2.2.2.2.1, v.2.2.2.2.2.2.2.2.1, v.2.2.2.2.2.2.2.2.2.1, v.2.2.2.2.2.2.2.2.2.2.1, ()))
      else
      (FiHistFits_1 N (v.2.2.2.2.1, v.2.2.2.2.2.2.2.1, v.2.2.2.2.2.2.1, ())).bind fun r3 =>
      bif !r3.1 then
       some (.inl (v.1, v.2.1, v.2.2.1, v.2.2.2.1, v.2.2.2.2.1, v.2.2.2.2.2.1, v.2.2.2.2.2.2.1, v.2.2.2.2.2.2.2.1, v.2.2.2.2.2.2.2.2.1, v.2.2.2.2.2.2.2.2.2.1, v.2.2.2.2.2.2.2.2.2.2.1, ()))
      else
      some (.inr ((v.1, v.2.1, v.2.2.2.2.1, v.2.2.1, v.2.2.2.1, v.2.2.2.2.1, v.2.2.2.2.2.1, v.2.2.2.2.2.2.1, v.2.2.2.2.2.2.2.1, v.2.2.2.2.2.2.2.2.1, v.2.2.2.2.2.2.2.2.2.1, v.2.2.2.2.2.2.2.2.2.2.1, y1.1, y1.2.1, y1.2.2.1, y1.2.2.2.1, y1.2.2.2.2.1, y1.2.2.2.2.2.1, ())))
      else none
      else none) fun o4 =>
     Sum.elim (fun o5 =>
      liHistFits_2_iHistFits_1_iHistFits_2_0 N f_ n (o5.1, o5.2.1, o5.2.2.1, o5.2.2.2.1, w64 (o5.2.2.2.2.1 + (1 : Int)), o5.2.2.2.2.2.1, o5.2.2.2.2.2.2.1, o5.2.2.2.2.2.2.2.1, o5.2.2.2.2.2.2.2.2.1, o5.2.2.2.2.2.2.2.2.2.1, o5.2.2.2.2.2.2.2.2.2.2.1, ())) (fun o6 =>
      Option.bind (
       let y7 := o6.2.2.2.2.2.2.2.2.2.2.2.2.2.2.2.1 == (-1 : Int)
       bif y7 then
        bif decide (0 ≤ o6.2.2.2.2.2.2.2.2.2.2.2.2.1) then
        bif decide (o6.2.2.2.2.2.2.2.2.2.2.2.2.1.toNat < o6.1.length) then
        let y8 := o6.1.getD o6.2.2.2.2.2.2.2.2.2.2.2.2.1.toNat ([] : (List (Int × (Int × (Int × (Int × (Int × (Int × ((Int × (Int × Unit)) × Unit)))))))))
        bif decide (0 ≤ o6.2.2.2.2.2.2.2.2.2.2.2.2.2.1) then
        bif decide (o6.2.2.2.2.2.2.2.2.2.2.2.2.2.1.toNat < y8.length) then
        let y9 := y8.getD o6.2.2.2.2.2.2.2.2.2.2.2.2.2.1.toNat ((0 : Int), (0 : Int), (0 : Int), (0 : Int), (0 : Int), (0 : Int), ((0 : Int), (0 : Int), ()), ())
        (FiGraphDo N (o6.2.1, o6.2.2.2.2.2.2.2.2.2.2.2.2.1, y9, ())).bind fun r10 =>
        let y11 := o6.2.2.2.2.2.2.2.2.2.2.2.2.2.2.2.1 != (-1 : Int)
        bif y11 then
         let y12 := r10.1 != o6.2.2.2.2.2.2.2.2.2.2.2.2.2.2.2.2.1
         bif y12 then
          some (.inl (o6.1, o6.2.1, o6.2.2.2.1, o6.2.2.2.2.1, o6.2.2.2.2.2.1, o6.2.2.2.2.2.2.1, o6.2.2.2.2.2.2.2.1, o6.2.2.2.2.2.2.2.2.1, o6.2.2.2.2.2.2.2.2.2.1, o6.2.2.2.2.2.2.2.2.2.2.1, o6.2.2.2.2.2.2.2.2.2.2.2.1, ()))
         else
         let y13 := o6.2.2.2.2.2.2.2.2.2.2.2.2.2.2.2.2.2.1
         bif r10.2.1 != y13 then
          some (.inl (o6.1, o6.2.1, o6.2.2.2.1, o6.2.2.2.2.1, o6.2.2.2.2.2.1, o6.2.2.2.2.2.2.1, o6.2.2.2.2.2.2.2.1, o6.2.2.2.2.2.2.2.2.1, o6.2.2.2.2.2.2.2.2.2.1, o6.2.2.2.2.2.2.2.2.2.2.1, o6.2.2.2.2.2.2.2.2.2.2.2.1, ()))
         else
         bif r10.2.1 != (1 : Int) then
          some (.inr ((o6.1, o6.2.1, o6.2.2.1, o6.2.2.2.1, o6.2.2.2.2.1, o6.2.2.2.2.2.1, o6.2.2.2.2.2.2.1, o6.2.2.2.2.2.2.2.1, o6.2.2.2.2.2.2.2.2.1, o6.2.2.2.2.2.2.2.2.2.1, o6.2.2.2.2.2.2.2.2.2.2.1, o6.2.2.2.2.2.2.2.2.2.2.2.1, o6.2.2.2.2.2.2.2.2.2.2.2.2.1, o6.2.2.2.2.2.2.2.2.2.2.2.2.2.1, o6.2.2.2.2.2.2.2.2.2.2.2.2.2.2.1, o6.2.2.2.2.2.2.2.2.2.2.2.2.2.2.2.1, o6.2.2.2.2.2.2.2.2.2.2.2.2.2.2.2.2.1, o6.2.2.2.2.2.2.2.2.2.2.2.2.2.2.2.2.2.1, r10.2.2.1, r10.2.2.2.1, r10.2.2.2.2.1, ())))
         else
         some (.inr ((o6.1, o6.2.1, o6.2.2.1, o6.2.2.2.1, o6.2.2.2.2.1, o6.2.2.2.2.2.1, o6.2.2.2.2.2.2.1, o6.2.2.2.2.2.2.2.1, o6.2.2.2.2.2.2.2.2.1, o6.2.2.2.2.2.2.2.2.2.1, o6.2.2.2.2.2.2.2.2.2.2.1, o6.2.2.2.2.2.2.2.2.2.2.2.1, o6.2.2.2.2.2.2.2.2.2.2.2.2.1, o6.2.2.2.2.2.2.2.2.2.2.2.2.2.1, o6.2.2.2.2.2.2.2.2.2.2.2.2.2.2.1, o6.2.2.2.2.2.2.2.2.2.2.2.2.2.2.2.1, o6.2.2.2.2.2.2.2.2.2.2.2.2.2.2.2.2.1, o6.2.2.2.2.2.2.2.2.2.2.2.2.2.2.2.2.2.1, o6.2.1.1, o6.2.1.2.1, o6.2.1.2.2.1, ())))
        else
        bif r10.2.1 != (1 : Int) then
         some (.inr ((o6.1, o6.2.1, o6.2.2.1, o6.2.2.2.1, o6.2.2.2.2.1, o6.2.2.2.2.2.1, o6.2.2.2.2.2.2.1, o6.2.2.2.2.2.2.2.1, o6.2.2.2.2.2.2.2.2.1, o6.2.2.2.2.2.2.2.2.2.1, o6.2.2.2.2.2.2.2.2.2.2.1, o6.2.2.2.2.2.2.2.2.2.2.2.1, o6.2.2.2.2.2.2.2.2.2.2.2.2.1, o6.2.2.2.2.2.2.2.2.2.2.2.2.2.1, o6.2.2.2.2.2.2.2.2.2.2.2.2.2.2.1, o6.2.2.2.2.2.2.2.2.2.2.2.2.2.2.2.1, o6.2.2.2.2.2.2.2.2.2.2.2.2.2.2.2.2.1, o6.2.2.2.2.2.2.2.2.2.2.2.2.2.2.2.2.2.1, r10.2.2.1, r10.2.2.2.1, r10.2.2.2.2.1, ())))
        else
        some (.inr ((o6.1, o6.2.1, o6.2.2.1, o6.2.2.2.1, o6.2.2.2.2.1, o6.2.2.2.2.2.1, o6.2.2.2.2.2.2.1, o6.2.2.2.2.2.2.2.1, o6.2.2.2.2.2.2.2.2.1, o6.2.2.2.2.2.2.2.2.2.1, o6.2.2.2.2.2.2.2.2.2.2.1, o6.2.2.2.2.2.2.2.2.2.2.2.1, o6.2.2.2.2.2.2.2.2.2.2.2.2.1, o6.2.2.2.2.2.2.2.2.2.2.2.2.2.1, o6.2.2.2.2.2.2.2.2.2.2.2.2.2.2.1, o6.2.2.2.2.2.2.2.2.2.2.2.2.2.2.2.1, o6.2.2.2.2.2.2.2.2.2.2.2.2.2.2.2.2.1, o6.2.2.2.2.2.2.2.2.2.2.2.2.2.2.2.2.2.1, o6.2.1.1, o6.2.1.2.1, o6.2.1.2.2.1, ())))
        else none
        else none
        else none
        else none
       else
       let y14 := o6.2.2.2.2.2.2.2.2.2.2.2.2.2.2.2.2.2.1
       bif y14 != (6 : Int) then
        bif decide (0 ≤ o6.2.2.2.2.2.2.2.2.2.2.2.2.1) then
        bif decide (o6.2.2.2.2.2.2.2.2.2.2.2.2.1.toNat < o6.1.length) then
        let y15 := o6.1.getD o6.2.2.2.2.2.2.2.2.2.2.2.2.1.toNat ([] : (List (Int × (Int × (Int × (Int × (Int × (Int × ((Int × (Int × Unit)) × Unit)))))))))
        bif decide (0 ≤ o6.2.2.2.2.2.2.2.2.2.2.2.2.2.1) then
        bif decide (o6.2.2.2.2.2.2.2.2.2.2.2.2.2.1.toNat < y15.length) then
        let y16 := y15.getD o6.2.2.2.2.2.2.2.2.2.2.2.2.2.1.toNat ((0 : Int), (0 : Int), (0 : Int), (0 : Int), (0 : Int), (0 : Int), ((0 : Int), (0 : Int), ()), ())
        (FiGraphDo N (o6.2.1, o6.2.2.2.2.2.2.2.2.2.2.2.2.1, y16, ())).bind fun r17 =>
        let y18 := o6.2.2.2.2.2.2.2.2.2.2.2.2.2.2.2.1 != (-1 : Int)
        bif y18 then
         let y19 := r17.1 != o6.2.2.2.2.2.2.2.2.2.2.2.2.2.2.2.2.1
         bif y19 then
          some (.inl (o6.1, o6.2.1, o6.2.2.2.1, o6.2.2.2.2.1, o6.2.2.2.2.2.1, o6.2.2.2.2.2.2.1, o6.2.2.2.2.2.2.2.1, o6.2.2.2.2.2.2.2.2.1, o6.2.2.2.2.2.2.2.2.2.1, o6.2.2.2.2.2.2.2.2.2.2.1, o6.2.2.2.2.2.2.2.2.2.2.2.1, ()))
         else
         let y20 := o6.2.2.2.2.2.2.2.2.2.2.2.2.2.2.2.2.2.1
         bif r17.2.1 != y20 then
          some (.inl (o6.1, o6.2.1, o6.2.2.2.1, o6.2.2.2.2.1, o6.2.2.2.2.2.1, o6.2.2.2.2.2.2.1, o6.2.2.2.2.2.2.2.1, o6.2.2.2.2.2.2.2.2.1, o6.2.2.2.2.2.2.2.2.2.1, o6.2.2.2.2.2.2.2.2.2.2.1, o6.2.2.2.2.2.2.2.2.2.2.2.1, ()))
         else
         bif r17.2.1 != (1 : Int) then
          some (.inr ((o6.1, o6.2.1, o6.2.2.1, o6.2.2.2.1, o6.2.2.2.2.1, o6.2.2.2.2.2.1, o6.2.2.2.2.2.2.1, o6.2.2.2.2.2.2.2.1, o6.2.2.2.2.2.2.2.2.1, o6.2.2.2.2.2.2.2.2.2.1, o6.2.2.2.2.2.2.2.2.2.2.1, o6.2.2.2.2.2.2.2.2.2.2.2.1, o6.2.2.2.2.2.2.2.2.2.2.2.2.1, o6.2.2.2.2.2.2.2.2.2.2.2.2.2.1, o6.2.2.2.2.2.2.2.2.2.2.2.2.2.2.1, o6.2.2.2.2.2.2.2.2.2.2.2.2.2.2.2.1, o6.2.2.2.2.2.2.2.2.2.2.2.2.2.2.2.2.1, o6.2.2.2.2.2.2.2.2.2.2.2.2.2.2.2.2.2.1, r17.2.2.1, r17.2.2.2.1, r17.2.2.2.2.1, ())))
         else
         some (.inr ((o6.1, o6.2.1, o6.2.2.1, o6.2.2.2.1, o6.2.2.2.2.1, o6.2.2.2.2.2.1, o6.2.2.2.2.2.2.1, o6.2.2.2.2.2.2.2.1, o6.2.2.2.2.2.2.2.2.1, o6.2.2.2.2.2.2.2.2.2.1, o6.2.2.2.2.2.2.2.2.2.2.1, o6.2.2.2.2.2.2.2.2.2.2.2.1, o6.2.2.2.2.2.2.2.2.2.2.2.2.1, o6.2.2.2.2.2.2.2.2.2.2.2.2.2.1, o6.2.2.2.2.2.2.2.2.2.2.2.2.2.2.1, o6.2.2.2.2.2.2.2.2.2.2.2.2.2.2.2.1, o6.2.2.2.2.2.2.2.2.2.2.2.2.2.2.2.2.1, o6.2.2.2.2.2.2.2.2.2.2.2.2.2.2.2.2.2.1, o6.2.1.1, o6.2.1.2.1, o6.2.1.2.2.1, ())))
        else
        bif r17.2.1 != (1 : Int) then
         some (.inr ((o6.1, o6.2.1, o6.2.2.1, o6.2.2.2.1, o6.2.2.2.2.1, o6.2.2.2.2.2.1, o6.2.2.2.2.2.2.1, o6.2.2.2.2.2.2.2.1, o6.2.2.2.2.2.2.2.2.1, o6.2.2.2.2.2.2.2.2.2.1, o6.2.2.2.2.2.2.2.2.2.2.1, o6.2.2.2.2.2.2.2.2.2.2.2.1, o6.2.2.2.2.2.2.2.2.2.2.2.2.1, o6.2.2.2.2.2.2.2.2.2.2.2.2.2.1, o6.2.2.2.2.2.2.2.2.2.2.2.2.2.2.1, o6.2.2.2.2.2.2.2.2.2.2.2.2.2.2.2.1, o6.2.2.2.2.2.2.2.2.2.2.2.2.2.2.2.2.1, o6.2.2.2.2.2.2.2.2.2.2.2.2.2.2.2.2.2.1, r17.2.2.1, r17.2.2.2.1, r17.2.2.2.2.1, ())))
        else
        some (.inr ((o6.1, o6.2.1, o6.2.2.1, o6.2.2.2.1, o6.2.2.2.2.1, o6.2.2.2.2.2.1, o6.2.2.2.2.2.2.1, o6.2.2.2.2.2.2.2.1, o6.2.2.2.2.2.2.2.2.1, o6.2.2.2.2.2.2.2.2.2.1, o6.2.2.2.2.2.2.2.2.2.2.1, o6.2.2.2.2.2.2.2.2.2.2.2.1, o6.2.2.2.2.2.2.2.2.2.2.2.2.1, o6.2.2.2.2.2.2.2.2.2.2.2.2.2.1, o6.2.2.2.2.2.2.2.2.2.2.2.2.2.2.1, o6.2.2.2.2.2.2.2.2.2.2.2.2.2.2.2.1, o6.2.2.2.2.2.2.2.2.2.2.2.2.2.2.2.2.1, o6.2.2.2.2.2.2.2.2.2.2.2.2.2.2.2.2.2.1, o6.2.1.1, o6.2.1.2.1, o6.2.1.2.2.1, ())))
        else none
        else none
        else none
        else none
       else
       some (.inr ((o6.1, o6.2.1, o6.2.2.1, o6.2.2.2.1, o6.2.2.2.2.1, o6.2.2.2.2.2.1, o6.2.2.2.2.2.2.1, o6.2.2.2.2.2.2.2.1, o6.2.2.2.2.2.2.2.2.1, o6.2.2.2.2.2.2.2.2.2.1, o6.2.2.2.2.2.2.2.2.2.2.1, o6.2.2.2.2.2.2.2.2.2.2.2.1, o6.2.2.2.2.2.2.2.2.2.2.2.2.1, o6.2.2.2.2.2.2.2.2.2.2.2.2.2.1, o6.2.2.2.2.2.2.2.2.2.2.2.2.2.2.1, o6.2.2.2.2.2.2.2.2.2.2.2.2.2.2.2.1, o6.2.2.2.2.2.2.2.2.2.2.2.2.2.2.2.2.1, o6.2.2.2.2.2.2.2.2.2.2.2.2.2.2.2.2.2.1, o6.2.1.1, o6.2.1.2.1, o6.2.1.2.2.1, ())))) fun o21 =>
      Sum.elim (fun o22 =>
       liHistFits_2_iHistFits_1_iHistFits_2_0 N f_ n (o22.1, o22.2.1, o22.2.2.1, o22.2.2.2.1, w64 (o22.2.2.2.2.1 + (1 : Int)), o22.2.2.2.2.2.1, o22.2.2.2.2.2.2.1, o22.2.2.2.2.2.2.2.1, o22.2.2.2.2.2.2.2.2.1, o22.2.2.2.2.2.2.2.2.2.1, o22.2.2.2.2.2.2.2.2.2.2.1, ())) (fun o23 =>
       bif decide (0 ≤ o23.2.2.1) then
       bif decide (o23.2.2.1.toNat < o23.2.2.2.2.2.2.2.1.length) then
       let y24 := o23.2.2.2.2.2.2.2.1.set o23.2.2.1.toNat true
       bif decide (o23.2.2.2.2.2.2.2.2.2.1.length + [o23.2.2.1].length ≤ lim) then
       let y25 := o23.2.2.2.2.2.2.2.2.2.1 ++ [o23.2.2.1]
       let y26 := o23.2.2.2.2.2.2.2.2.2.2.2.2.2.2.2.1 != (-1 : Int)
       (Fitruth N (y26, ())).bind fun r27 =>
       let y28 := o23.2.2.2.2.2.2.2.2.2.2.2.2.2.2.2.2.2.2.1
       let y29 := o23.2.2.2.2.2.2.2.2.2.2.2.2.2.2.2.2.2.2.2.1
       let y30 := o23.2.2.2.2.2.2.2.2.2.2.2.2.2.2.2.2.2.2.2.2.1
       (f_ ((y28, y29, y30, ()), o23.2.2.2.2.2.2.2.2.2.2.1, o23.2.2.2.2.2.2.2.2.2.2.2.1, w64 (o23.2.2.2.2.2.2.1 - r27.1), y24, o23.2.2.2.2.2.2.2.2.1, y25, o23.2.2.2.2.2.2.2.2.2.2.1, o23.2.2.2.2.2.2.2.2.2.2.2.1, ())).bind fun r31 =>
       bif r31.1 then
        some (.inr ((true, r31.2.1, r31.2.2.1, r31.2.2.2.1, r31.2.2.2.2.1, r31.2.2.2.2.2.1, r31.2.2.2.2.2.2.1, ())))
       else
       let y32 := o23.2.2.2.2.2.2.2.2.2.2.2.2.2.2.2.1 != (-1 : Int)
       (Fitruth N (y32, ())).bind fun r33 =>
       let y34 := w64 ((r31.2.2.2.2.1.length : Int) - (1 : Int))
       bif decide (0 ≤ y34) then
       bif decide (y34 ≤ (r31.2.2.2.2.1.length : Int)) then
       bif decide (0 ≤ (0 : Int)) then
       bif decide ((0 : Int) ≤ y34) then
       let y35 := (r31.2.2.2.2.1.drop (0 : Int).toNat).take (y34.toNat - (0 : Int).toNat)
       bif decide (0 ≤ o23.2.2.1) then
       bif decide (o23.2.2.1.toNat < r31.2.2.1.length) then
       liHistFits_2_iHistFits_1_iHistFits_2_0 N f_ n (o23.1, o23.2.1, o23.2.2.2.1, o23.2.2.2.2.1, w64 (o23.2.2.2.2.2.1 + (1 : Int)), w64 (r31.2.1 + r33.1), r31.2.2.1.set o23.2.2.1.toNat false, r31.2.2.2.1, y35, r31.2.2.2.2.2.1, r31.2.2.2.2.2.2.1, ())
       else none
       else none
       else none
       else none
       else none
       else none
       else none
       else none
       else none) o21) o4
     else none
     else none
    else
    some (.inl (v.2.2.2.2.2.1, v.2.2.2.2.2.2.1, v.2.2.2.2.2.2.2.1, v.2.2.2.2.2.2.2.2.1, v.2.2.2.2.2.2.2.2.2.1, v.2.2.2.2.2.2.2.2.2.2.1, ()))
noncomputable def FiHistFits_2_iHistFits_1_iHistFits_2 (N : Nat) : Nat → (((List ((List Int) × ((List Int) × Unit))) × ((List (List Int)) × ((List Int) × Unit))) × ((List (Int × (Int × (Int × (Int × (Int × (Int × Unit))))))) × ((List (List (Int × (Int × (Int × (Int × (Int × (Int × ((Int × (Int × Unit)) × Unit))))))))) × (Int × ((List Bool) × ((List (Int × (Int × (Int × (Int × (Int × (Int × Unit))))))) × ((List Int) × ((List (Int × (Int × (Int × (Int × (Int × (Int × Unit))))))) × ((List (List (Int × (Int × (Int × (Int × (Int × (Int × ((Int × (Int × Unit)) × Unit))))))))) × Unit))))))))) → Option (Bool × (Int × ((List Bool) × ((List (Int × (Int × (Int × (Int × (Int × (Int × Unit))))))) × ((List Int) × ((List (Int × (Int × (Int × (Int × (Int × (Int × Unit))))))) × ((List (List (Int × (Int × (Int × (Int × (Int × (Int × ((Int × (Int × Unit)) × Unit))))))))) × Unit)))))))
  | 0, _ => none
  | m_ + 1, x =>
  bif x.2.2.2.1 == (0 : Int) then
   some (true, x.2.2.2.1, x.2.2.2.2.1, x.2.2.2.2.2.1, x.2.2.2.2.2.2.1, x.2.2.2.2.2.2.2.1, x.2.2.2.2.2.2.2.2.1, ())
  else
  (liHistFits_2_iHistFits_1_iHistFits_2_0 N (fun x_ => FiHistFits_2_iHistFits_1_iHistFits_2 N m_ x_) N (x.2.2.1, x.1, x.2.1, (x.2.1.length : Int), (0 : Int), x.2.2.2.1, x.2.2.2.2.1, x.2.2.2.2.2.1, x.2.2.2.2.2.2.1, x.2.2.2.2.2.2.2.1, x.2.2.2.2.2.2.2.2.1, ())).bind fun o36 =>
  Sum.elim (fun o37 =>
   some (false, o37.1, o37.2.1, o37.2.2.1, o37.2.2.2.1, o37.2.2.2.2.1, o37.2.2.2.2.2.1, ())) (fun o38 =>
   some (o38.1, o38.2.1, o38.2.2.1, o38.2.2.2.1, o38.2.2.2.2.1, o38.2.2.2.2.2.1, o38.2.2.2.2.2.2.1, ())) o36
noncomputable def coniHistFits_2_iHistFits_1_iHistFits_2 (N : Nat) (m_ : Nat) : Con := { f := 120, din := diniHistFits_2_iHistFits_1_iHistFits_2, outs := outiHistFits_2_iHistFits_1_iHistFits_2, F := FiHistFits_2_iHistFits_1_iHistFits_2 N m_ }
noncomputable def EiHistFits_2_iHistFits_1_iHistFits_2 (N : Nat) (m_ : Nat) : Env := { te := TE, cs := [coniHistFits_1 N, coniGraphDo N, conitruth N, coniHistFits_2_iHistFits_1_iHistFits_2 N m_] }
noncomputable def XiHistFits_2_iHistFits_1_iHistFits_2 (N : Nat) (m_ : Nat) : Ctx := { E := EiHistFits_2_iHistFits_1_iHistFits_2 N m_, H := HiHistFits_2_iHistFits_1_iHistFits_2, lp := [(0, { hd := diHistFits_2_iHistFits_1_iHistFits_2_0, outs := oiHistFits_2_iHistFits_1_iHistFits_2_0, run := fun v => liHistFits_2_iHistFits_1_iHistFits_2_0 N (fun x_ => FiHistFits_2_iHistFits_1_iHistFits_2 N m_ x_) N v })], jn := [(7, jiHistFits_2_iHistFits_1_iHistFits_2_7), (13, jiHistFits_2_iHistFits_1_iHistFits_2_13)] }
noncomputable def biHistFits_2_iHistFits_1_iHistFits_2_0 : Code := loopBody (codeOf Try.f120) 0
theorem FiHistFits_2_iHistFits_1_iHistFits_2_eq (N m_ : Nat) (x : (((List ((List Int) × ((List Int) × Unit))) × ((List (List Int)) × ((List Int) × Unit))) × ((List (Int × (Int × (Int × (Int × (Int × (Int × Unit))))))) × ((List (List (Int × (Int × (Int × (Int × (Int × (Int × ((Int × (Int × Unit)) × Unit))))))))) × (Int × ((List Bool) × ((List (Int × (Int × (Int × (Int × (Int × (Int × Unit))))))) × ((List Int) × ((List (Int × (Int × (Int × (Int × (Int × (Int × Unit))))))) × ((List (List (Int × (Int × (Int × (Int × (Int × (Int × ((Int × (Int × Unit)) × Unit))))))))) × Unit)))))))))) : evFn (XiHistFits_2_iHistFits_1_iHistFits_2 N m_) Try.f120 diniHistFits_2_iHistFits_1_iHistFits_2 outiHistFits_2_iHistFits_1_iHistFits_2 x = FiHistFits_2_iHistFits_1_iHistFits_2 N (m_ + 1) x := by kernel_rfl
theorem liHistFits_2_iHistFits_1_iHistFits_2_0_eq (N m_ n : Nat) (v : ((List (List (Int × (Int × (Int × (Int × (Int × (Int × ((Int × (Int × Unit)) × Unit))))))))) × (((List ((List Int) × ((List Int) × Unit))) × ((List (List Int)) × ((List Int) × Unit))) × ((List (Int × (Int × (Int × (Int × (Int × (Int × Unit))))))) × (Int × (Int × (Int × ((List Bool) × ((List (Int × (Int × (Int × (Int × (Int × (Int × Unit))))))) × ((List Int) × ((List (Int × (Int × (Int × (Int × (Int × (Int × Unit))))))) × ((List (List (Int × (Int × (Int × (Int × (Int × (Int × ((Int × (Int × Unit)) × Unit))))))))) × Unit)))))))))))) : liHistFits_2_iHistFits_1_iHistFits_2_0 N (fun x_ => FiHistFits_2_iHistFits_1_iHistFits_2 N m_ x_) (n + 1) v = ev (XiHistFits_2_iHistFits_1_iHistFits_2 N m_) biHistFits_2_iHistFits_1_iHistFits_2_0 (roundK diHistFits_2_iHistFits_1_iHistFits_2_0 oiHistFits_2_iHistFits_1_iHistFits_2_0 (liHistFits_2_iHistFits_1_iHistFits_2_0 N (fun x_ => FiHistFits_2_iHistFits_1_iHistFits_2 N m_ x_) n)) (diHistFits_2_iHistFits_1_iHistFits_2_0.mk' v) := by kernel_rfl
theorem cxiHistFits_2_iHistFits_1_iHistFits_2 (N : Nat) (m_ : Nat) (hs : Spec Try.prog (coniHistFits_2_iHistFits_1_iHistFits_2 N m_)) : CtxOk Try.prog (XiHistFits_2_iHistFits_1_iHistFits_2 N m_) := ⟨⟨TE_ok, List.forall_mem_cons.2 ⟨(speciHistFits_1 N), List.forall_mem_cons.2 ⟨(speciGraphDo N), List.forall_mem_cons.2 ⟨(specitruth N), List.forall_mem_cons.2 ⟨hs, fun k hk => absurd hk List.not_mem_nil⟩⟩⟩⟩⟩, mixed⟩
theorem lpiHistFits_2_iHistFits_1_iHistFits_2_0 (N : Nat) (m_ : Nat) (hs : Spec Try.prog (coniHistFits_2_iHistFits_1_iHistFits_2 N m_)) : LoopOk Try.prog { hd := diHistFits_2_iHistFits_1_iHistFits_2_0, outs := oiHistFits_2_iHistFits_1_iHistFits_2_0, run := fun v => liHistFits_2_iHistFits_1_iHistFits_2_0 N (fun x_ => FiHistFits_2_iHistFits_1_iHistFits_2 N m_ x_) N v } biHistFits_2_iHistFits_1_iHistFits_2_0 :=
  loop_fuel (d := diHistFits_2_iHistFits_1_iHistFits_2_0) (os := oiHistFits_2_iHistFits_1_iHistFits_2_0) (cxiHistFits_2_iHistFits_1_iHistFits_2 N m_ hs) (loops_at (ids := []) (by kernel_rfl) (trivial)) (liHistFits_2_iHistFits_1_iHistFits_2_0 N (fun x_ => FiHistFits_2_iHistFits_1_iHistFits_2 N m_ x_)) (fun _ => rfl) (fun n v => liHistFits_2_iHistFits_1_iHistFits_2_0_eq N m_ n v) (fun _ => N)
theorem cziHistFits_2_iHistFits_1_iHistFits_2 : CtxOk Try.prog { E := { te := TE, cs := [] }, H := [], lp := [], jn := [] } := ⟨⟨TE_ok, fun k hk => absurd hk List.not_mem_nil⟩, mixed⟩
theorem speciHistFits_2_iHistFits_1_iHistFits_2 (N : Nat) : ∀ m_ : Nat, Spec Try.prog (coniHistFits_2_iHistFits_1_iHistFits_2 N m_)
  | 0 => Spec.of_eq (fn_spec (cziHistFits_2_iHistFits_1_iHistFits_2) (f := 120) (fn := Try.f120) (din := diniHistFits_2_iHistFits_1_iHistFits_2) (os := outiHistFits_2_iHistFits_1_iHistFits_2) (c := codeOf Try.f120) (by kernel_rfl) (by kernel_rfl) (by kernel_rfl) (loops_at (ids := [0]) (by kernel_rfl) ⟨lp_none, trivial⟩) (by kernel_rfl)) (fun x r h => nomatch (show (none : Option _) = some r from h))
  | m_ + 1 => Spec.of_eq (fn_spec (cxiHistFits_2_iHistFits_1_iHistFits_2 N m_ (speciHistFits_2_iHistFits_1_iHistFits_2 N m_)) (f := 120) (fn := Try.f120) (c := codeOf Try.f120) (by kernel_rfl) (by kernel_rfl) (by kernel_rfl) (loops_at (ids := [0]) (by kernel_rfl) ⟨lp_of (lpiHistFits_2_iHistFits_1_iHistFits_2_0 N m_ (speciHistFits_2_iHistFits_1_iHistFits_2 N m_)), trivial⟩) (by kernel_rfl)) (fun x r h => (FiHistFits_2_iHistFits_1_iHistFits_2_eq N m_ x).trans h)

/-! ### 55: impl.HistFits -/

noncomputable def diniHistFits : Desc := { n := 3, regs := [.one (.val (.pair (.int .i64) (.pair (.int .i64) (.pair (.int .i64) .unit)))), .one (.val (.sl (.sl (.pair (.int .i64) (.pair (.int .i64) (.pair (.int .i64) (.pair (.int .i64) (.pair (.int .i64) (.pair (.int .i64) (.pair (.pair (.int .i64) (.pair (.int .i64) .unit)) .unit)))))))))), .one (.val (.sl (.pair (.int .i64) (.pair (.int .i64) (.pair (.int .i64) (.pair (.int .i64) (.pair (.int .i64) (.pair (.int .i64) .unit))))))))], bx := [], pins := [] }
noncomputable def outiHistFits : Outs := [(.ret, { n := 2, regs := [.one (.lit (.row 1204800)), .one (.val .bool)], bx := [(1204800, .row (.int .i64))], pins := [] })]
noncomputable def HiHistFits : Hints := [(0, [(0, { fz := true }), (1, { fz := true }), (2, { fz := true })]),
  (2, [(0, { nl := [(0, (.int .i64))] })]),
  (8, [(4, { con := 1 })]),
  (11, [(0, { nl := [(0, (.int .i64))] })]),
  (14, [(2, { con := 2 })]),
  (15, [(2, { con := 3, sg := [(64, 1051200), (192, 1038592), (193, 1038528), (256, 1128064), (384, 1140800), (385, 1140801), (448, 1153600)], pre := [.freeze 1179329, .freeze 1179330] })]),
  (16, [(0, { nl := [(0, (.int .i64))] })])]
noncomputable def EiHistFits (N : Nat) : Env := { te := TE, cs := [coniHistOk N, conitruth N, coniGraphNew N, coniHistFits_2_iHistFits_1_iHistFits_2 N N] }
noncomputable def diHistFits_0 : Desc := { n := 56, regs := [u, u, u, .one (.fpt (.pair (.int .i64) (.pair (.int .i64) (.pair (.int .i64) .unit)))), .one (.fpt (.sl (.sl (.pair (.int .i64) (.pair (.int .i64) (.pair (.int .i64) (.pair (.int .i64) (.pair (.int .i64) (.pair (.int .i64) (.pair (.pair (.int .i64) (.pair (.int .i64) .unit)) .unit)))))))))), .one (.fpt (.sl (.pair (.int .i64) (.pair (.int .i64) (.pair (.int .i64) (.pair (.int .i64) (.pair (.int .i64) (.pair (.int .i64) .unit)))))))), u, u, .one (.lit (.ptr 1038592 0)), .one (.lit (.ptr 1051200 0)), u, u, u, u, u, u, u, u, u, u, u, u, u, u, u, u, u, u, u, u, .one (.val (.sl (.pair (.int .i64) (.pair (.int .i64) (.pair (.int .i64) (.pair (.int .i64) (.pair (.int .i64) (.pair (.int .i64) .unit)))))))), .one (.val (.int .i64)), .one (.val (.int .i64))], bx := [(1038592, .var [.lit (.row 1038528)]), (1038528, .row .bool), (1051200, .var [.val (.int .i64)])], pins := [] }
noncomputable def oiHistFits_0 : Outs := [(.exit 0, { n := 56, regs := [u, u, u, .one (.fpt (.pair (.int .i64) (.pair (.int .i64) (.pair (.int .i64) .unit)))), .one (.fpt (.sl (.sl (.pair (.int .i64) (.pair (.int .i64) (.pair (.int .i64) (.pair (.int .i64) (.pair (.int .i64) (.pair (.int .i64) (.pair (.pair (.int .i64) (.pair (.int .i64) .unit)) .unit)))))))))), .one (.fpt (.sl (.pair (.int .i64) (.pair (.int .i64) (.pair (.int .i64) (.pair (.int .i64) (.pair (.int .i64) (.pair (.int .i64) .unit)))))))), u, u, .one (.lit (.ptr 1038592 0)), .one (.lit (.ptr 1051200 0))], bx := [(1038592, .var [.lit (.row 1038528)]), (1038528, .row .bool), (1051200, .var [.val (.int .i64)])], pins := [] })]
noncomputable def jiHistFits_3 : Outs := [(.normal, { n := 56, regs := [u, u, u, .one (.fpt (.pair (.int .i64) (.pair (.int .i64) (.pair (.int .i64) .unit)))), .one (.fpt (.sl (.sl (.pair (.int .i64) (.pair (.int .i64) (.pair (.int .i64) (.pair (.int .i64) (.pair (.int .i64) (.pair (.int .i64) (.pair (.pair (.int .i64) (.pair (.int .i64) .unit)) .unit)))))))))), .one (.fpt (.sl (.pair (.int .i64) (.pair (.int .i64) (.pair (.int .i64) (.pair (.int .i64) (.pair (.int .i64) (.pair (.int .i64) .unit))))))))], bx := [], pins := [] }), (.ret, { n := 56, regs := [u, u, u, u, u, u, .one (.lit (.row 1025600)), .one (.val .bool)], bx := [(1025600, .row (.int .i64))], pins := [] })]
noncomputable def liHistFits_0 (N : Nat) : Nat → ((Int × (Int × (Int × Unit))) × ((List (List (Int × (Int × (Int × (Int × (Int × (Int × ((Int × (Int × Unit)) × Unit))))))))) × ((List (Int × (Int × (Int × (Int × (Int × (Int × Unit))))))) × ((List (Int × (Int × (Int × (Int × (Int × (Int × Unit))))))) × (Int × (Int × ((List Bool) × (Int × Unit)))))))) → Option ((Int × (Int × (Int × Unit))) × ((List (List (Int × (Int × (Int × (Int × (Int × (Int × ((Int × (Int × Unit)) × Unit))))))))) × ((List (Int × (Int × (Int × (Int × (Int × (Int × Unit))))))) × ((List Bool) × (Int × Unit)))))
  | 0, _ => none
  | n + 1, v =>
    bif decide (v.2.2.2.2.2.1 < v.2.2.2.2.1) then
     bif decide (0 ≤ v.2.2.2.2.2.1) then
     bif decide (v.2.2.2.2.2.1.toNat < v.2.2.2.1.length) then
     let y6 := v.2.2.2.1.getD v.2.2.2.2.2.1.toNat ((0 : Int), (0 : Int), (0 : Int), (0 : Int), (0 : Int), (0 : Int), ())
     (Fitruth N (y6.2.2.2.1 != (-1 : Int), ())).bind fun r7 =>
     liHistFits_0 N n (v.1, v.2.1, v.2.2.1, v.2.2.2.1, v.2.2.2.2.1, w64 (v.2.2.2.2.2.1 + (1 : Int)), v.2.2.2.2.2.2.1, w64 (v.2.2.2.2.2.2.2.1 + r7.1), ())
     else none
     else none
    else
    some (v.1, v.2.1, v.2.2.1, v.2.2.2.2.2.2.1, v.2.2.2.2.2.2.2.1, ())
noncomputable def FiHistFits (N : Nat) (x : ((Int × (Int × (Int × Unit))) × ((List (List (Int × (Int × (Int × (Int × (Int × (Int × ((Int × (Int × Unit)) × Unit))))))))) × ((List (Int × (Int × (Int × (Int × (Int × (Int × Unit))))))) × Unit)))) : Option (Bool × ((List Int) × Unit)) :=
  Option.bind (
   (FiHistOk N (x.1, x.2.1, x.2.2.1, ())).bind fun r1 =>
   bif !r1.1 then
    some (.inr ((false, ([] : (List Int)), ())))
   else
   let y2 := decide ((x.2.2.1.length : Int) > (10 : Int))
   bif y2 then
    some (.inr ((false, ([] : (List Int)), ())))
   else
   some (.inl (x.1, x.2.1, x.2.2.1, ()))) fun o3 =>
  Sum.elim (fun o4 =>
   bif decide (0 ≤ (o4.2.2.1.length : Int)) then
   bif decide ((o4.2.2.1.length : Int).toNat ≤ lim) then
   let y5 := List.replicate (o4.2.2.1.length : Int).toNat false
   (liHistFits_0 N N (o4.1, o4.2.1, o4.2.2.1, o4.2.2.1, (o4.2.2.1.length : Int), (0 : Int), y5, (0 : Int), ())).bind fun o8 =>
   (FiGraphNew N (o8.1.2.1, ())).bind fun r9 =>
   (FiHistFits_2_iHistFits_1_iHistFits_2 N N ((r9.2.1, r9.2.2.1, ([] : (List Int)), ()), o8.2.2.1, o8.2.1, o8.2.2.2.2.1, o8.2.2.2.1, o8.2.2.1, ([] : (List Int)), o8.2.2.1, o8.2.1, ())).bind fun r10 =>
   bif !r10.1 then
    some (false, ([] : (List Int)), ())
   else
   some (true, r10.2.2.2.2.1, ())
   else none
   else none) (fun o11 =>
   some (o11.1, o11.2.1, ())) o3
noncomputable def coniHistFits (N : Nat) : Con := { f := 55, din := diniHistFits, outs := outiHistFits, F := FiHistFits N }
noncomputable def XiHistFits (N : Nat) : Ctx := { E := EiHistFits N, H := HiHistFits, lp := [(0, { hd := diHistFits_0, outs := oiHistFits_0, run := fun v => liHistFits_0 N N v })], jn := [(3, jiHistFits_3)] }
noncomputable def biHistFits_0 : Code := loopBody (codeOf Try.f55) 0
theorem FiHistFits_eq (N : Nat) (x : ((Int × (Int × (Int × Unit))) × ((List (List (Int × (Int × (Int × (Int × (Int × (Int × ((Int × (Int × Unit)) × Unit))))))))) × ((List (Int × (Int × (Int × (Int × (Int × (Int × Unit))))))) × Unit)))) : evFn (XiHistFits N) Try.f55 diniHistFits outiHistFits x = FiHistFits N x := by kernel_rfl
theorem liHistFits_0_eq (N n : Nat) (v : ((Int × (Int × (Int × Unit))) × ((List (List (Int × (Int × (Int × (Int × (Int × (Int × ((Int × (Int × Unit)) × Unit))))))))) × ((List (Int × (Int × (Int × (Int × (Int × (Int × Unit))))))) × ((List (Int × (Int × (Int × (Int × (Int × (Int × Unit))))))) × (Int × (Int × ((List Bool) × (Int × Unit))))))))) : liHistFits_0 N (n + 1) v = ev (XiHistFits N) biHistFits_0 (roundK diHistFits_0 oiHistFits_0 (liHistFits_0 N n)) (diHistFits_0.mk' v) := by kernel_rfl
theorem cxiHistFits (N : Nat) : CtxOk Try.prog (XiHistFits N) := ⟨⟨TE_ok, List.forall_mem_cons.2 ⟨(speciHistOk N), List.forall_mem_cons.2 ⟨(specitruth N), List.forall_mem_cons.2 ⟨(speciGraphNew N), List.forall_mem_cons.2 ⟨(speciHistFits_2_iHistFits_1_iHistFits_2 N N), fun k hk => absurd hk List.not_mem_nil⟩⟩⟩⟩⟩, mixed⟩
theorem lpiHistFits_0 (N : Nat) : LoopOk Try.prog { hd := diHistFits_0, outs := oiHistFits_0, run := fun v => liHistFits_0 N N v } biHistFits_0 :=
  loop_fuel (d := diHistFits_0) (os := oiHistFits_0) (cxiHistFits N) (loops_at (ids := []) (by kernel_rfl) (trivial)) (liHistFits_0 N) (fun _ => rfl) (fun n v => liHistFits_0_eq N n v) (fun _ => N)
theorem speciHistFits (N : Nat) : Spec Try.prog (coniHistFits N) :=
  Spec.of_eq (fn_spec (cxiHistFits N) (f := 55) (fn := Try.f55) (c := codeOf Try.f55) (by kernel_rfl) (by kernel_rfl) (by kernel_rfl) (loops_at (ids := [0]) (by kernel_rfl) ⟨lp_of (lpiHistFits_0 N), trivial⟩) (by kernel_rfl)) (fun x r h => (FiHistFits_eq N x).trans h)

/-! ### 19: laws.eqIntS -/

noncomputable def dinveqIntS : Desc := { n := 2, regs := [.one (.val (.sl (.int .i64))), .one (.val (.sl (.int .i64)))], bx := [], pins := [] }
noncomputable def outveqIntS : Outs := [(.ret, { n := 1, regs := [.one (.val .bool)], bx := [], pins := [] })]
noncomputable def HveqIntS : Hints := []
noncomputable def EveqIntS (_N : Nat) : Env := { te := TE, cs := [] }
noncomputable def dveqIntS_0 : Desc := { n := 26, regs := [.one (.val (.sl (.int .i64))), .one (.val (.sl (.int .i64))), u, u, u, .one (.val (.int .i64))], bx := [], pins := [] }
noncomputable def oveqIntS_0 : Outs := [(.exit 0, { n := 26, regs := [], bx := [], pins := [] }), (.ret, { n := 26, regs := [u, u, u, u, .one (.val .bool)], bx := [], pins := [] })]
noncomputable def lveqIntS_0 (N : Nat) : Nat → ((List Int) × ((List Int) × (Int × Unit))) → Option (Unit ⊕ (Bool × Unit))
  | 0, _ => none
  | n + 1, v =>
    let y2 := decide (v.2.2.1 < (v.1.length : Int))
    bif y2 then
     bif decide (0 ≤ v.2.2.1) then
     bif decide (v.2.2.1.toNat < v.1.length) then
     bif decide (0 ≤ v.2.2.1) then
     bif decide (v.2.2.1.toNat < v.2.1.length) then
     let y3 := (v.1.getD v.2.2.1.toNat (0 : Int)) != (v.2.1.getD v.2.2.1.toNat (0 : Int))
     bif y3 then
      some (.inr ((false, ())))
     else
     lveqIntS_0 N n (v.1, v.2.1, w64 (v.2.2.1 + (1 : Int)), ())
     else none
     else none
     else none
     else none
    else
    some (.inl ())
noncomputable def FveqIntS (N : Nat) (x : ((List Int) × ((List Int) × Unit))) : Option (Bool × Unit) :=
  let y1 := (x.1.length : Int) != (x.2.1.length : Int)
  bif y1 then
   some (false, ())
  else
  (lveqIntS_0 N N (x.1, x.2.1, (0 : Int), ())).bind fun o4 =>
  Sum.elim (fun o5 =>
   some (true, ())) (fun o6 =>
   some (o6.1, ())) o4
noncomputable def conveqIntS (N : Nat) : Con := { f := 19, din := dinveqIntS, outs := outveqIntS, F := FveqIntS N }
noncomputable def XveqIntS (N : Nat) : Ctx := { E := EveqIntS N, H := HveqIntS, lp := [(0, { hd := dveqIntS_0, outs := oveqIntS_0, run := fun v => lveqIntS_0 N N v })], jn := [] }
noncomputable def bveqIntS_0 : Code := loopBody (codeOf Try.f19) 0
theorem FveqIntS_eq (N : Nat) (x : ((List Int) × ((List Int) × Unit))) : evFn (XveqIntS N) Try.f19 dinveqIntS outveqIntS x = FveqIntS N x := by kernel_rfl
theorem lveqIntS_0_eq (N n : Nat) (v : ((List Int) × ((List Int) × (Int × Unit)))) : lveqIntS_0 N (n + 1) v = ev (XveqIntS N) bveqIntS_0 (roundK dveqIntS_0 oveqIntS_0 (lveqIntS_0 N n)) (dveqIntS_0.mk' v) := by kernel_rfl
theorem cxveqIntS (N : Nat) : CtxOk Try.prog (XveqIntS N) := ⟨⟨TE_ok, fun k hk => absurd hk List.not_mem_nil⟩, mixed⟩
theorem lpveqIntS_0 (N : Nat) : LoopOk Try.prog { hd := dveqIntS_0, outs := oveqIntS_0, run := fun v => lveqIntS_0 N N v } bveqIntS_0 :=
  loop_fuel (d := dveqIntS_0) (os := oveqIntS_0) (cxveqIntS N) (loops_at (ids := []) (by kernel_rfl) (trivial)) (lveqIntS_0 N) (fun _ => rfl) (fun n v => lveqIntS_0_eq N n v) (fun _ => N)
theorem specveqIntS (N : Nat) : Spec Try.prog (conveqIntS N) :=
  Spec.of_eq (fn_spec (cxveqIntS N) (f := 19) (fn := Try.f19) (c := codeOf Try.f19) (by kernel_rfl) (by kernel_rfl) (by kernel_rfl) (loops_at (ids := [0]) (by kernel_rfl) ⟨lp_of (lpveqIntS_0 N), trivial⟩) (by kernel_rfl)) (fun x r h => (FveqIntS_eq N x).trans h)

/-! ### 155: laws.eqShape -/

noncomputable def dinveqShape : Desc := { n := 2, regs := [.one (.val (.pair (.int .i64) (.pair (.int .i64) .unit))), .one (.val (.pair (.int .i64) (.pair (.int .i64) .unit)))], bx := [], pins := [] }
noncomputable def outveqShape : Outs := [(.ret, { n := 1, regs := [.one (.val .bool)], bx := [], pins := [] })]
noncomputable def HveqShape : Hints := [(0, [(0, { fz := true }), (1, { fz := true })])]
noncomputable def EveqShape (_N : Nat) : Env := { te := TE, cs := [] }
noncomputable def FveqShape (N : Nat) (x : ((Int × (Int × Unit)) × ((Int × (Int × Unit)) × Unit))) : Option (Bool × Unit) :=
  bif x.1.1 != x.2.1.1 then
   some (false, ())
  else
  bif x.1.2.1 != x.2.1.2.1 then
   some (false, ())
  else
  some (true, ())
noncomputable def conveqShape (N : Nat) : Con := { f := 155, din := dinveqShape, outs := outveqShape, F := FveqShape N }
noncomputable def XveqShape (N : Nat) : Ctx := { E := EveqShape N, H := HveqShape, lp := [], jn := [] }
theorem FveqShape_eq (N : Nat) (x : ((Int × (Int × Unit)) × ((Int × (Int × Unit)) × Unit))) : evFn (XveqShape N) Try.f155 dinveqShape outveqShape x = FveqShape N x := by kernel_rfl
theorem cxveqShape (N : Nat) : CtxOk Try.prog (XveqShape N) := ⟨⟨TE_ok, fun k hk => absurd hk List.not_mem_nil⟩, mixed⟩
theorem specveqShape (N : Nat) : Spec Try.prog (conveqShape N) :=
  Spec.of_eq (fn_spec (cxveqShape N) (f := 155) (fn := Try.f155) (c := codeOf Try.f155) (by kernel_rfl) (by kernel_rfl) (by kernel_rfl) (loops_at (ids := []) (by kernel_rfl) (trivial)) (by kernel_rfl)) (fun x r h => (FveqShape_eq N x).trans h)

/-! ### 141: laws.eqOp -/

noncomputable def dinveqOp : Desc := { n := 2, regs := [.one (.val (.pair (.int .i64) (.pair (.int .i64) (.pair (.int .i64) (.pair (.int .i64) (.pair (.int .i64) (.pair (.int .i64) (.pair (.pair (.int .i64) (.pair (.int .i64) .unit)) .unit)))))))), .one (.val (.pair (.int .i64) (.pair (.int .i64) (.pair (.int .i64) (.pair (.int .i64) (.pair (.int .i64) (.pair (.int .i64) (.pair (.pair (.int .i64) (.pair (.int .i64) .unit)) .unit))))))))], bx := [], pins := [] }
noncomputable def outveqOp : Outs := [(.ret, { n := 1, regs := [.one (.val .bool)], bx := [], pins := [] })]
noncomputable def HveqOp : Hints := [(0, [(0, { fz := true }), (1, { fz := true })])]
noncomputable def EveqOp (N : Nat) : Env := { te := TE, cs := [conveqShape N] }
noncomputable def FveqOp (N : Nat) (x : ((Int × (Int × (Int × (Int × (Int × (Int × ((Int × (Int × Unit)) × Unit))))))) × ((Int × (Int × (Int × (Int × (Int × (Int × ((Int × (Int × Unit)) × Unit))))))) × Unit))) : Option (Bool × Unit) :=
  bif x.1.1 != x.2.1.1 then
   some (false, ())
  else
  bif x.1.2.1 != x.2.1.2.1 then
   some (false, ())
  else
  bif x.1.2.2.1 != x.2.1.2.2.1 then
   some (false, ())
  else
  bif x.1.2.2.2.1 != x.2.1.2.2.2.1 then
   some (false, ())
  else
  bif x.1.2.2.2.2.1 != x.2.1.2.2.2.2.1 then
   some (false, ())
  else
  bif x.1.2.2.2.2.2.1 != x.2.1.2.2.2.2.2.1 then
   some (false, ())
  else
  (FveqShape N (x.1.2.2.2.2.2.2.1, x.2.1.2.2.2.2.2.2.1, ())).bind fun r1 =>
  bif !r1.1 then
   some (false, ())
  else
  some (true, ())
noncomputable def conveqOp (N : Nat) : Con := { f := 141, din := dinveqOp, outs := outveqOp, F := FveqOp N }
noncomputable def XveqOp (N : Nat) : Ctx := { E := EveqOp N, H := HveqOp, lp := [], jn := [] }
theorem FveqOp_eq (N : Nat) (x : ((Int × (Int × (Int × (Int × (Int × (Int × ((Int × (Int × Unit)) × Unit))))))) × ((Int × (Int × (Int × (Int × (Int × (Int × ((Int × (Int × Unit)) × Unit))))))) × Unit))) : evFn (XveqOp N) Try.f141 dinveqOp outveqOp x = FveqOp N x := by kernel_rfl
theorem cxveqOp (N : Nat) : CtxOk Try.prog (XveqOp N) := ⟨⟨TE_ok, List.forall_mem_cons.2 ⟨(specveqShape N), fun k hk => absurd hk List.not_mem_nil⟩⟩, mixed⟩
theorem specveqOp (N : Nat) : Spec Try.prog (conveqOp N) :=
  Spec.of_eq (fn_spec (cxveqOp N) (f := 141) (fn := Try.f141) (c := codeOf Try.f141) (by kernel_rfl) (by kernel_rfl) (by kernel_rfl) (loops_at (ids := []) (by kernel_rfl) (trivial)) (by kernel_rfl)) (fun x r h => (FveqOp_eq N x).trans h)

/-! ### 98: laws.eqOpS -/

noncomputable def dinveqOpS : Desc := { n := 2, regs := [.one (.val (.sl (.pair (.int .i64) (.pair (.int .i64) (.pair (.int .i64) (.pair (.int .i64) (.pair (.int .i64) (.pair (.int .i64) (.pair (.pair (.int .i64) (.pair (.int .i64) .unit)) .unit))))))))), .one (.val (.sl (.pair (.int .i64) (.pair (.int .i64) (.pair (.int .i64) (.pair (.int .i64) (.pair (.int .i64) (.pair (.int .i64) (.pair (.pair (.int .i64) (.pair (.int .i64) .unit)) .unit)))))))))], bx := [], pins := [] }
noncomputable def outveqOpS : Outs := [(.ret, { n := 1, regs := [.one (.val .bool)], bx := [], pins := [] })]
noncomputable def HveqOpS : Hints := []
noncomputable def EveqOpS (N : Nat) : Env := { te := TE, cs := [conveqOp N] }
noncomputable def dveqOpS_0 : Desc := { n := 27, regs := [.one (.val (.sl (.pair (.int .i64) (.pair (.int .i64) (.pair (.int .i64) (.pair (.int .i64) (.pair (.int .i64) (.pair (.int .i64) (.pair (.pair (.int .i64) (.pair (.int .i64) .unit)) .unit))))))))), .one (.val (.sl (.pair (.int .i64) (.pair (.int .i64) (.pair (.int .i64) (.pair (.int .i64) (.pair (.int .i64) (.pair (.int .i64) (.pair (.pair (.int .i64) (.pair (.int .i64) .unit)) .unit))))))))), u, u, u, .one (.val (.int .i64))], bx := [], pins := [] }
noncomputable def oveqOpS_0 : Outs := [(.exit 0, { n := 27, regs := [], bx := [], pins := [] }), (.ret, { n := 27, regs := [u, u, u, u, .one (.val .bool)], bx := [], pins := [] })]
noncomputable def lveqOpS_0 (N : Nat) : Nat → ((List (Int × (Int × (Int × (Int × (Int × (Int × ((Int × (Int × Unit)) × Unit)))))))) × ((List (Int × (Int × (Int × (Int × (Int × (Int × ((Int × (Int × Unit)) × Unit)))))))) × (Int × Unit))) → Option (Unit ⊕ (Bool × Unit))
  | 0, _ => none
  | n + 1, v =>
    let y2 := decide (v.2.2.1 < (v.1.length : Int))
    bif y2 then
     bif decide (0 ≤ v.2.2.1) then
     bif decide (v.2.2.1.toNat < v.1.length) then
     let y3 := v.1.getD v.2.2.1.toNat ((0 : Int), (0 : Int), (0 : Int), (0 : Int), (0 : Int), (0 : Int), ((0 : Int), (0 : Int), ()), ())
     bif decide (0 ≤ v.2.2.1) then
     bif decide (v.2.2.1.toNat < v.2.1.length) then
     let y4 := v.2.1.getD v.2.2.1.toNat ((0 : Int), (0 : Int), (0 : Int), (0 : Int), (0 : Int), (0 : Int), ((0 : Int), (0 : Int), ()), ())
     (FveqOp N (y3, y4, ())).bind fun r5 =>
     bif !r5.1 then
      some (.inr ((false, ())))
     else
     lveqOpS_0 N n (v.1, v.2.1, w64 (v.2.2.1 + (1 : Int)), ())
     else none
     else none
     else none
     else none
    else
    some (.inl ())
noncomputable def FveqOpS (N : Nat) (x : ((List (Int × (Int × (Int × (Int × (Int × (Int × ((Int × (Int × Unit)) × Unit)))))))) × ((List (Int × (Int × (Int × (Int × (Int × (Int × ((Int × (Int × Unit)) × Unit)))))))) × Unit))) : Option (Bool × Unit) :=
  let y1 := (x.1.length : Int) != (x.2.1.length : Int)
  bif y1 then
   some (false, ())
  else
  (lveqOpS_0 N N (x.1, x.2.1, (0 : Int), ())).bind fun o6 =>
  Sum.elim (fun o7 =>
   some (true, ())) (fun o8 =>
   some (o8.1, ())) o6
noncomputable def conveqOpS (N : Nat) : Con := { f := 98, din := dinveqOpS, outs := outveqOpS, F := FveqOpS N }
noncomputable def XveqOpS (N : Nat) : Ctx := { E := EveqOpS N, H := HveqOpS, lp := [(0, { hd := dveqOpS_0, outs := oveqOpS_0, run := fun v => lveqOpS_0 N N v })], jn := [] }
noncomputable def bveqOpS_0 : Code := loopBody (codeOf Try.f98) 0
theorem FveqOpS_eq (N : Nat) (x : ((List (Int × (Int × (Int × (Int × (Int × (Int × ((Int × (Int × Unit)) × Unit)))))))) × ((List (Int × (Int × (Int × (Int × (Int × (Int × ((Int × (Int × Unit)) × Unit)))))))) × Unit))) : evFn (XveqOpS N) Try.f98 dinveqOpS outveqOpS x = FveqOpS N x := by kernel_rfl
theorem lveqOpS_0_eq (N n : Nat) (v : ((List (Int × (Int × (Int × (Int × (Int × (Int × ((Int × (Int × Unit)) × Unit)))))))) × ((List (Int × (Int × (Int × (Int × (Int × (Int × ((Int × (Int × Unit)) × Unit)))))))) × (Int × Unit)))) : lveqOpS_0 N (n + 1) v = ev (XveqOpS N) bveqOpS_0 (roundK dveqOpS_0 oveqOpS_0 (lveqOpS_0 N n)) (dveqOpS_0.mk' v) := by kernel_rfl
theorem cxveqOpS (N : Nat) : CtxOk Try.prog (XveqOpS N) := ⟨⟨TE_ok, List.forall_mem_cons.2 ⟨(specveqOp N), fun k hk => absurd hk List.not_mem_nil⟩⟩, mixed⟩
theorem lpveqOpS_0 (N : Nat) : LoopOk Try.prog { hd := dveqOpS_0, outs := oveqOpS_0, run := fun v => lveqOpS_0 N N v } bveqOpS_0 :=
  loop_fuel (d := dveqOpS_0) (os := oveqOpS_0) (cxveqOpS N) (loops_at (ids := []) (by kernel_rfl) (trivial)) (lveqOpS_0 N) (fun _ => rfl) (fun n v => lveqOpS_0_eq N n v) (fun _ => N)
theorem specveqOpS (N : Nat) : Spec Try.prog (conveqOpS N) :=
  Spec.of_eq (fn_spec (cxveqOpS N) (f := 98) (fn := Try.f98) (c := codeOf Try.f98) (by kernel_rfl) (by kernel_rfl) (by kernel_rfl) (loops_at (ids := [0]) (by kernel_rfl) ⟨lp_of (lpveqOpS_0 N), trivial⟩) (by kernel_rfl)) (fun x r h => (FveqOpS_eq N x).trans h)

/-! ### 48: laws.eqOpSS -/

noncomputable def dinveqOpSS : Desc := { n := 2, regs := [.one (.val (.sl (.sl (.pair (.int .i64) (.pair (.int .i64) (.pair (.int .i64) (.pair (.int .i64) (.pair (.int .i64) (.pair (.int .i64) (.pair (.pair (.int .i64) (.pair (.int .i64) .unit)) .unit)))))))))), .one (.val (.sl (.sl (.pair (.int .i64) (.pair (.int .i64) (.pair (.int .i64) (.pair (.int .i64) (.pair (.int .i64) (.pair (.int .i64) (.pair (.pair (.int .i64) (.pair (.int .i64) .unit)) .unit))))))))))], bx := [], pins := [] }
noncomputable def outveqOpSS : Outs := [(.ret, { n := 1, regs := [.one (.val .bool)], bx := [], pins := [] })]
noncomputable def HveqOpSS : Hints := []
noncomputable def EveqOpSS (N : Nat) : Env := { te := TE, cs := [conveqOpS N] }
noncomputable def dveqOpSS_0 : Desc := { n := 27, regs := [.one (.val (.sl (.sl (.pair (.int .i64) (.pair (.int .i64) (.pair (.int .i64) (.pair (.int .i64) (.pair (.int .i64) (.pair (.int .i64) (.pair (.pair (.int .i64) (.pair (.int .i64) .unit)) .unit)))))))))), .one (.val (.sl (.sl (.pair (.int .i64) (.pair (.int .i64) (.pair (.int .i64) (.pair (.int .i64) (.pair (.int .i64) (.pair (.int .i64) (.pair (.pair (.int .i64) (.pair (.int .i64) .unit)) .unit)))))))))), u, u, u, .one (.val (.int .i64))], bx := [], pins := [] }
noncomputable def oveqOpSS_0 : Outs := [(.exit 0, { n := 27, regs := [], bx := [], pins := [] }), (.ret, { n := 27, regs := [u, u, u, u, .one (.val .bool)], bx := [], pins := [] })]
noncomputable def lveqOpSS_0 (N : Nat) : Nat → ((List (List (Int × (Int × (Int × (Int × (Int × (Int × ((Int × (Int × Unit)) × Unit))))))))) × ((List (List (Int × (Int × (Int × (Int × (Int × (Int × ((Int × (Int × Unit)) × Unit))))))))) × (Int × Unit))) → Option (Unit ⊕ (Bool × Unit))
  | 0, _ => none
  | n + 1, v =>
    let y2 := decide (v.2.2.1 < (v.1.length : Int))
    bif y2 then
     bif decide (0 ≤ v.2.2.1) then
     bif decide (v.2.2.1.toNat < v.1.length) then
     let y3 := v.1.getD v.2.2.1.toNat ([] : (List (Int × (Int × (Int × (Int × (Int × (Int × ((Int × (Int × Unit)) × Unit)))))))))
     bif decide (0 ≤ v.2.2.1) then
     bif decide (v.2.2.1.toNat < v.2.1.length) then
     let y4 := v.2.1.getD v.2.2.1.toNat ([] : (List (Int × (Int × (Int × (Int × (Int × (Int × ((Int × (Int × Unit)) × Unit)))))))))
     (FveqOpS N (y3, y4, ())).bind fun r5 =>
     bif !r5.1 then
      some (.inr ((false, ())))
     else
     lveqOpSS_0 N n (v.1, v.2.1, w64 (v.2.2.1 + (1 : Int)), ())
     else none
     else none
     else none
     else none
    else
    some (.inl ())
noncomputable def FveqOpSS (N : Nat) (x : ((List (List (Int × (Int × (Int × (Int × (Int × (Int × ((Int × (Int × Unit)) × Unit))))))))) × ((List (List (Int × (Int × (Int × (Int × (Int × (Int × ((Int × (Int × Unit)) × Unit))))))))) × Unit))) : Option (Bool × Unit) :=
  let y1 := (x.1.length : Int) != (x.2.1.length : Int)
  bif y1 then
   some (false, ())
  else
  (lveqOpSS_0 N N (x.1, x.2.1, (0 : Int), ())).bind fun o6 =>
  Sum.elim (fun o7 =>
   some (true, ())) (fun o8 =>
   some (o8.1, ())) o6
noncomputable def conveqOpSS (N : Nat) : Con := { f := 48, din := dinveqOpSS, outs := outveqOpSS, F := FveqOpSS N }
noncomputable def XveqOpSS (N : Nat) : Ctx := { E := EveqOpSS N, H := HveqOpSS, lp := [(0, { hd := dveqOpSS_0, outs := oveqOpSS_0, run := fun v => lveqOpSS_0 N N v })], jn := [] }
noncomputable def bveqOpSS_0 : Code := loopBody (codeOf Try.f48) 0
theorem FveqOpSS_eq (N : Nat) (x : ((List (List (Int × (Int × (Int × (Int × (Int × (Int × ((Int × (Int × Unit)) × Unit))))))))) × ((List (List (Int × (Int × (Int × (Int × (Int × (Int × ((Int × (Int × Unit)) × Unit))))))))) × Unit))) : evFn (XveqOpSS N) Try.f48 dinveqOpSS outveqOpSS x = FveqOpSS N x := by kernel_rfl
theorem lveqOpSS_0_eq (N n : Nat) (v : ((List (List (Int × (Int × (Int × (Int × (Int × (Int × ((Int × (Int × Unit)) × Unit))))))))) × ((List (List (Int × (Int × (Int × (Int × (Int × (Int × ((Int × (Int × Unit)) × Unit))))))))) × (Int × Unit)))) : lveqOpSS_0 N (n + 1) v = ev (XveqOpSS N) bveqOpSS_0 (roundK dveqOpSS_0 oveqOpSS_0 (lveqOpSS_0 N n)) (dveqOpSS_0.mk' v) := by kernel_rfl
theorem cxveqOpSS (N : Nat) : CtxOk Try.prog (XveqOpSS N) := ⟨⟨TE_ok, List.forall_mem_cons.2 ⟨(specveqOpS N), fun k hk => absurd hk List.not_mem_nil⟩⟩, mixed⟩
theorem lpveqOpSS_0 (N : Nat) : LoopOk Try.prog { hd := dveqOpSS_0, outs := oveqOpSS_0, run := fun v => lveqOpSS_0 N N v } bveqOpSS_0 :=
  loop_fuel (d := dveqOpSS_0) (os := oveqOpSS_0) (cxveqOpSS N) (loops_at (ids := []) (by kernel_rfl) (trivial)) (lveqOpSS_0 N) (fun _ => rfl) (fun n v => lveqOpSS_0_eq N n v) (fun _ => N)
theorem specveqOpSS (N : Nat) : Spec Try.prog (conveqOpSS N) :=
  Spec.of_eq (fn_spec (cxveqOpSS N) (f := 48) (fn := Try.f48) (c := codeOf Try.f48) (by kernel_rfl) (by kernel_rfl) (by kernel_rfl) (loops_at (ids := [0]) (by kernel_rfl) ⟨lp_of (lpveqOpSS_0 N), trivial⟩) (by kernel_rfl)) (fun x r h => (FveqOpSS_eq N x).trans h)

/-! ### 122: laws.eqCall -/

noncomputable def dinveqCall : Desc := { n := 2, regs := [.one (.val (.pair (.int .i64) (.pair (.int .i64) (.pair (.int .i64) (.pair (.int .i64) (.pair (.int .i64) (.pair (.int .i64) .unit))))))), .one (.val (.pair (.int .i64) (.pair (.int .i64) (.pair (.int .i64) (.pair (.int .i64) (.pair (.int .i64) (.pair (.int .i64) .unit)))))))], bx := [], pins := [] }
noncomputable def outveqCall : Outs := [(.ret, { n := 1, regs := [.one (.val .bool)], bx := [], pins := [] })]
noncomputable def HveqCall : Hints := [(0, [(0, { fz := true }), (1, { fz := true })])]
noncomputable def EveqCall (_N : Nat) : Env := { te := TE, cs := [] }
noncomputable def FveqCall (N : Nat) (x : ((Int × (Int × (Int × (Int × (Int × (Int × Unit)))))) × ((Int × (Int × (Int × (Int × (Int × (Int × Unit)))))) × Unit))) : Option (Bool × Unit) :=
  bif x.1.1 != x.2.1.1 then
   some (false, ())
  else
  bif x.1.2.1 != x.2.1.2.1 then
   some (false, ())
  else
  bif x.1.2.2.1 != x.2.1.2.2.1 then
   some (false, ())
  else
  bif x.1.2.2.2.1 != x.2.1.2.2.2.1 then
   some (false, ())
  else
  bif x.1.2.2.2.2.1 != x.2.1.2.2.2.2.1 then
   some (false, ())
  else
  bif x.1.2.2.2.2.2.1 != x.2.1.2.2.2.2.2.1 then
   some (false, ())
  else
  some (true, ())
noncomputable def conveqCall (N : Nat) : Con := { f := 122, din := dinveqCall, outs := outveqCall, F := FveqCall N }
noncomputable def XveqCall (N : Nat) : Ctx := { E := EveqCall N, H := HveqCall, lp := [], jn := [] }
theorem FveqCall_eq (N : Nat) (x : ((Int × (Int × (Int × (Int × (Int × (Int × Unit)))))) × ((Int × (Int × (Int × (Int × (Int × (Int × Unit)))))) × Unit))) : evFn (XveqCall N) Try.f122 dinveqCall outveqCall x = FveqCall N x := by kernel_rfl
theorem cxveqCall (N : Nat) : CtxOk Try.prog (XveqCall N) := ⟨⟨TE_ok, fun k hk => absurd hk List.not_mem_nil⟩, mixed⟩
theorem specveqCall (N : Nat) : Spec Try.prog (conveqCall N) :=
  Spec.of_eq (fn_spec (cxveqCall N) (f := 122) (fn := Try.f122) (c := codeOf Try.f122) (by kernel_rfl) (by kernel_rfl) (by kernel_rfl) (loops_at (ids := []) (by kernel_rfl) (trivial)) (by kernel_rfl)) (fun x r h => (FveqCall_eq N x).trans h)

/-! ### 56: laws.eqCallS -/

noncomputable def dinveqCallS : Desc := { n := 2, regs := [.one (.val (.sl (.pair (.int .i64) (.pair (.int .i64) (.pair (.int .i64) (.pair (.int .i64) (.pair (.int .i64) (.pair (.int .i64) .unit)))))))), .one (.val (.sl (.pair (.int .i64) (.pair (.int .i64) (.pair (.int .i64) (.pair (.int .i64) (.pair (.int .i64) (.pair (.int .i64) .unit))))))))], bx := [], pins := [] }
noncomputable def outveqCallS : Outs := [(.ret, { n := 1, regs := [.one (.val .bool)], bx := [], pins := [] })]
noncomputable def HveqCallS : Hints := []
noncomputable def EveqCallS (N : Nat) : Env := { te := TE, cs := [conveqCall N] }
noncomputable def dveqCallS_0 : Desc := { n := 27, regs := [.one (.val (.sl (.pair (.int .i64) (.pair (.int .i64) (.pair (.int .i64) (.pair (.int .i64) (.pair (.int .i64) (.pair (.int .i64) .unit)))))))), .one (.val (.sl (.pair (.int .i64) (.pair (.int .i64) (.pair (.int .i64) (.pair (.int .i64) (.pair (.int .i64) (.pair (.int .i64) .unit)))))))), u, u, u, .one (.val (.int .i64))], bx := [], pins := [] }
noncomputable def oveqCallS_0 : Outs := [(.exit 0, { n := 27, regs := [], bx := [], pins := [] }), (.ret, { n := 27, regs := [u, u, u, u, .one (.val .bool)], bx := [], pins := [] })]
noncomputable def lveqCallS_0 (N : Nat) : Nat → ((List (Int × (Int × (Int × (Int × (Int × (Int × Unit))))))) × ((List (Int × (Int × (Int × (Int × (Int × (Int × Unit))))))) × (Int × Unit))) → Option (Unit ⊕ (Bool × Unit))
  | 0, _ => none
  | n + 1, v =>
    let y2 := decide (v.2.2.1 < (v.1.length : Int))
    bif y2 then
     bif decide (0 ≤ v.2.2.1) then
     bif decide (v.2.2.1.toNat < v.1.length) then
     let y3 := v.1.getD v.2.2.1.toNat ((0 : Int), (0 : Int), (0 : Int), (0 : Int), (0 : Int), (0 : Int), ())
     bif decide (0 ≤ v.2.2.1) then
     bif decide (v.2.2.1.toNat < v.2.1.length) then
     let y4 := v.2.1.getD v.2.2.1.toNat ((0 : Int), (0 : Int), (0 : Int), (0 : Int), (0 : Int), (0 : Int), ())
     (FveqCall N (y3, y4, ())).bind fun r5 =>
     bif !r5.1 then
      some (.inr ((false, ())))
     else
     lveqCallS_0 N n (v.1, v.2.1, w64 (v.2.2.1 + (1 : Int)), ())
     else none
     else none
     else none
     else none
    else
    some (.inl ())
noncomputable def FveqCallS (N : Nat) (x : ((List (Int × (Int × (Int × (Int × (Int × (Int × Unit))))))) × ((List (Int × (Int × (Int × (Int × (Int × (Int × Unit))))))) × Unit))) : Option (Bool × Unit) :=
  let y1 := (x.1.length : Int) != (x.2.1.length : Int)
  bif y1 then
   some (false, ())
  else
  (lveqCallS_0 N N (x.1, x.2.1, (0 : Int), ())).bind fun o6 =>
  Sum.elim (fun o7 =>
   some (true, ())) (fun o8 =>
   some (o8.1, ())) o6
noncomputable def conveqCallS (N : Nat) : Con := { f := 56, din := dinveqCallS, outs := outveqCallS, F := FveqCallS N }
noncomputable def XveqCallS (N : Nat) : Ctx := { E := EveqCallS N, H := HveqCallS, lp := [(0, { hd := dveqCallS_0, outs := oveqCallS_0, run := fun v => lveqCallS_0 N N v })], jn := [] }
noncomputable def bveqCallS_0 : Code := loopBody (codeOf Try.f56) 0
theorem FveqCallS_eq (N : Nat) (x : ((List (Int × (Int × (Int × (Int × (Int × (Int × Unit))))))) × ((List (Int × (Int × (Int × (Int × (Int × (Int × Unit))))))) × Unit))) : evFn (XveqCallS N) Try.f56 dinveqCallS outveqCallS x = FveqCallS N x := by kernel_rfl
theorem lveqCallS_0_eq (N n : Nat) (v : ((List (Int × (Int × (Int × (Int × (Int × (Int × Unit))))))) × ((List (Int × (Int × (Int × (Int × (Int × (Int × Unit))))))) × (Int × Unit)))) : lveqCallS_0 N (n + 1) v = ev (XveqCallS N) bveqCallS_0 (roundK dveqCallS_0 oveqCallS_0 (lveqCallS_0 N n)) (dveqCallS_0.mk' v) := by kernel_rfl
theorem cxveqCallS (N : Nat) : CtxOk Try.prog (XveqCallS N) := ⟨⟨TE_ok, List.forall_mem_cons.2 ⟨(specveqCall N), fun k hk => absurd hk List.not_mem_nil⟩⟩, mixed⟩
theorem lpveqCallS_0 (N : Nat) : LoopOk Try.prog { hd := dveqCallS_0, outs := oveqCallS_0, run := fun v => lveqCallS_0 N N v } bveqCallS_0 :=
  loop_fuel (d := dveqCallS_0) (os := oveqCallS_0) (cxveqCallS N) (loops_at (ids := []) (by kernel_rfl) (trivial)) (lveqCallS_0 N) (fun _ => rfl) (fun n v => lveqCallS_0_eq N n v) (fun _ => N)
theorem specveqCallS (N : Nat) : Spec Try.prog (conveqCallS N) :=
  Spec.of_eq (fn_spec (cxveqCallS N) (f := 56) (fn := Try.f56) (c := codeOf Try.f56) (by kernel_rfl) (by kernel_rfl) (by kernel_rfl) (loops_at (ids := [0]) (by kernel_rfl) ⟨lp_of (lpveqCallS_0 N), trivial⟩) (by kernel_rfl)) (fun x r h => (FveqCallS_eq N x).trans h)

/-! ### 123: laws.markOpS -/

noncomputable def dinvmarkOpS : Desc := { n := 2, regs := [.one (.lit (.row 0)), .one (.val (.int .i64))], bx := [(0, .row (.pair (.int .i64) (.pair (.int .i64) (.pair (.int .i64) (.pair (.int .i64) (.pair (.int .i64) (.pair (.int .i64) (.pair (.pair (.int .i64) (.pair (.int .i64) .unit)) .unit))))))))], pins := [] }
noncomputable def outvmarkOpS : Outs := [(.ret, { n := 1, regs := [.one (.val (.int .i64))], bx := [(0, .row (.pair (.int .i64) (.pair (.int .i64) (.pair (.int .i64) (.pair (.int .i64) (.pair (.int .i64) (.pair (.int .i64) (.pair (.pair (.int .i64) (.pair (.int .i64) .unit)) .unit))))))))], pins := [.one (.lit (.row 0))] })]
noncomputable def HvmarkOpS : Hints := []
noncomputable def EvmarkOpS (_N : Nat) : Env := { te := TE, cs := [] }
noncomputable def dvmarkOpS_0 : Desc := { n := 71, regs := [.one (.lit (.row 0)), .one (.val (.int .i64)), u, u, u, .one (.val (.int .i64))], bx := [(0, .row (.pair (.int .i64) (.pair (.int .i64) (.pair (.int .i64) (.pair (.int .i64) (.pair (.int .i64) (.pair (.int .i64) (.pair (.pair (.int .i64) (.pair (.int .i64) .unit)) .unit))))))))], pins := [.one (.lit (.row 0))] }
noncomputable def ovmarkOpS_0 : Outs := [(.exit 0, { n := 71, regs := [u, .one (.val (.int .i64))], bx := [(0, .row (.pair (.int .i64) (.pair (.int .i64) (.pair (.int .i64) (.pair (.int .i64) (.pair (.int .i64) (.pair (.int .i64) (.pair (.pair (.int .i64) (.pair (.int .i64) .unit)) .unit))))))))], pins := [.one (.lit (.row 0))] })]
noncomputable def lvmarkOpS_0 (N : Nat) : Nat → (Int × (Int × ((List (Int × (Int × (Int × (Int × (Int × (Int × ((Int × (Int × Unit)) × Unit)))))))) × Unit))) → Option (Int × ((List (Int × (Int × (Int × (Int × (Int × (Int × ((Int × (Int × Unit)) × Unit)))))))) × Unit))
  | 0, _ => none
  | n + 1, v =>
    let y1 := decide (v.2.1 < (v.2.2.1.length : Int))
    bif y1 then
     bif decide (0 ≤ v.2.1) then
     bif decide (v.2.1.toNat < v.2.2.1.length) then
     let y2 := v.2.2.1.set v.2.1.toNat (v.1, (v.2.2.1.getD v.2.1.toNat ((0 : Int), (0 : Int), (0 : Int), (0 : Int), (0 : Int), (0 : Int), ((0 : Int), (0 : Int), ()), ())).2)
     bif decide (0 ≤ v.2.1) then
     bif decide (v.2.1.toNat < y2.length) then
     let y3 := y2.set v.2.1.toNat ((y2.getD v.2.1.toNat ((0 : Int), (0 : Int), (0 : Int), (0 : Int), (0 : Int), (0 : Int), ((0 : Int), (0 : Int), ()), ())).1, w64 (v.1 + (1 : Int)), ((y2.getD v.2.1.toNat ((0 : Int), (0 : Int), (0 : Int), (0 : Int), (0 : Int), (0 : Int), ((0 : Int), (0 : Int), ()), ())).2).2)
     let y4 := w64 ((w64 (v.1 + (1 : Int))) + (1 : Int))
     bif decide (0 ≤ v.2.1) then
     bif decide (v.2.1.toNat < y3.length) then
     let y5 := y3.set v.2.1.toNat ((y3.getD v.2.1.toNat ((0 : Int), (0 : Int), (0 : Int), (0 : Int), (0 : Int), (0 : Int), ((0 : Int), (0 : Int), ()), ())).1, ((y3.getD v.2.1.toNat ((0 : Int), (0 : Int), (0 : Int), (0 : Int), (0 : Int), (0 : Int), ((0 : Int), (0 : Int), ()), ())).2).1, y4, (((y3.getD v.2.1.toNat ((0 : Int), (0 : Int), (0 : Int), (0 : Int), (0 : Int), (0 : Int), ((0 : Int), (0 : Int), ()), ())).2).2).2)
     bif decide (0 ≤ v.2.1) then
     bif decide (v.2.1.toNat < y5.length) then
     let y6 := y5.set v.2.1.toNat ((y5.getD v.2.1.toNat ((0 : Int), (0 : Int), (0 : Int), (0 : Int), (0 : Int), (0 : Int), ((0 : Int), (0 : Int), ()), ())).1, ((y5.getD v.2.1.toNat ((0 : Int), (0 : Int), (0 : Int), (0 : Int), (0 : Int), (0 : Int), ((0 : Int), (0 : Int), ()), ())).2).1, (((y5.getD v.2.1.toNat ((0 : Int), (0 : Int), (0 : Int), (0 : Int), (0 : Int), (0 : Int), ((0 : Int), (0 : Int), ()), ())).2).2).1, w64 (y4 + (1 : Int)), ((((y5.getD v.2.1.toNat ((0 : Int), (0 : Int), (0 : Int), (0 : Int), (0 : Int), (0 : Int), ((0 : Int), (0 : Int), ()), ())).2).2).2).2)
     let y7 := w64 ((w64 (y4 + (1 : Int))) + (1 : Int))
     bif decide (0 ≤ v.2.1) then
     bif decide (v.2.1.toNat < y6.length) then
     let y8 := y6.set v.2.1.toNat ((y6.getD v.2.1.toNat ((0 : Int), (0 : Int), (0 : Int), (0 : Int), (0 : Int), (0 : Int), ((0 : Int), (0 : Int), ()), ())).1, ((y6.getD v.2.1.toNat ((0 : Int), (0 : Int), (0 : Int), (0 : Int), (0 : Int), (0 : Int), ((0 : Int), (0 : Int), ()), ())).2).1, (((y6.getD v.2.1.toNat ((0 : Int), (0 : Int), (0 : Int), (0 : Int), (0 : Int), (0 : Int), ((0 : Int), (0 : Int), ()), ())).2).2).1, ((((y6.getD v.2.1.toNat ((0 : Int), (0 : Int), (0 : Int), (0 : Int), (0 : Int), (0 : Int), ((0 : Int), (0 : Int), ()), ())).2).2).2).1, y7, (((((y6.getD v.2.1.toNat ((0 : Int), (0 : Int), (0 : Int), (0 : Int), (0 : Int), (0 : Int), ((0 : Int), (0 : Int), ()), ())).2).2).2).2).2)
     bif decide (0 ≤ v.2.1) then
     bif decide (v.2.1.toNat < y8.length) then
     let y9 := y8.set v.2.1.toNat ((y8.getD v.2.1.toNat ((0 : Int), (0 : Int), (0 : Int), (0 : Int), (0 : Int), (0 : Int), ((0 : Int), (0 : Int), ()), ())).1, ((y8.getD v.2.1.toNat ((0 : Int), (0 : Int), (0 : Int), (0 : Int), (0 : Int), (0 : Int), ((0 : Int), (0 : Int), ()), ())).2).1, (((y8.getD v.2.1.toNat ((0 : Int), (0 : Int), (0 : Int), (0 : Int), (0 : Int), (0 : Int), ((0 : Int), (0 : Int), ()), ())).2).2).1, ((((y8.getD v.2.1.toNat ((0 : Int), (0 : Int), (0 : Int), (0 : Int), (0 : Int), (0 : Int), ((0 : Int), (0 : Int), ()), ())).2).2).2).1, (((((y8.getD v.2.1.toNat ((0 : Int), (0 : Int), (0 : Int), (0 : Int), (0 : Int), (0 : Int), ((0 : Int), (0 : Int), ()), ())).2).2).2).2).1, w64 (y7 + (1 : Int)), ((((((y8.getD v.2.1.toNat ((0 : Int), (0 : Int), (0 : Int), (0 : Int), (0 : Int), (0 : Int), ((0 : Int), (0 : Int), ()), ())).2).2).2).2).2).2)
     let y10 := w64 ((w64 (y7 + (1 : Int))) + (1 : Int))
     bif decide (0 ≤ v.2.1) then
     bif decide (v.2.1.toNat < y9.length) then
     let y11 := y9.set v.2.1.toNat ((y9.getD v.2.1.toNat ((0 : Int), (0 : Int), (0 : Int), (0 : Int), (0 : Int), (0 : Int), ((0 : Int), (0 : Int), ()), ())).1, ((y9.getD v.2.1.toNat ((0 : Int), (0 : Int), (0 : Int), (0 : Int), (0 : Int), (0 : Int), ((0 : Int), (0 : Int), ()), ())).2).1, (((y9.getD v.2.1.toNat ((0 : Int), (0 : Int), (0 : Int), (0 : Int), (0 : Int), (0 : Int), ((0 : Int), (0 : Int), ()), ())).2).2).1, ((((y9.getD v.2.1.toNat ((0 : Int), (0 : Int), (0 : Int), (0 : Int), (0 : Int), (0 : Int), ((0 : Int), (0 : Int), ()), ())).2).2).2).1, (((((y9.getD v.2.1.toNat ((0 : Int), (0 : Int), (0 : Int), (0 : Int), (0 : Int), (0 : Int), ((0 : Int), (0 : Int), ()), ())).2).2).2).2).1, ((((((y9.getD v.2.1.toNat ((0 : Int), (0 : Int), (0 : Int), (0 : Int), (0 : Int), (0 : Int), ((0 : Int), (0 : Int), ()), ())).2).2).2).2).2).1, (y10, ((((((((y9.getD v.2.1.toNat ((0 : Int), (0 : Int), (0 : Int), (0 : Int), (0 : Int), (0 : Int), ((0 : Int), (0 : Int), ()), ())).2).2).2).2).2).2).1).2), (((((((y9.getD v.2.1.toNat ((0 : Int), (0 : Int), (0 : Int), (0 : Int), (0 : Int), (0 : Int), ((0 : Int), (0 : Int), ()), ())).2).2).2).2).2).2).2)
     bif decide (0 ≤ v.2.1) then
     bif decide (v.2.1.toNat < y11.length) then
     let y12 := y11.set v.2.1.toNat ((y11.getD v.2.1.toNat ((0 : Int), (0 : Int), (0 : Int), (0 : Int), (0 : Int), (0 : Int), ((0 : Int), (0 : Int), ()), ())).1, ((y11.getD v.2.1.toNat ((0 : Int), (0 : Int), (0 : Int), (0 : Int), (0 : Int), (0 : Int), ((0 : Int), (0 : Int), ()), ())).2).1, (((y11.getD v.2.1.toNat ((0 : Int), (0 : Int), (0 : Int), (0 : Int), (0 : Int), (0 : Int), ((0 : Int), (0 : Int), ()), ())).2).2).1, ((((y11.getD v.2.1.toNat ((0 : Int), (0 : Int), (0 : Int), (0 : Int), (0 : Int), (0 : Int), ((0 : Int), (0 : Int), ()), ())).2).2).2).1, (((((y11.getD v.2.1.toNat ((0 : Int), (0 : Int), (0 : Int), (0 : Int), (0 : Int), (0 : Int), ((0 : Int), (0 : Int), ()), ())).2).2).2).2).1, ((((((y11.getD v.2.1.toNat ((0 : Int), (0 : Int), (0 : Int), (0 : Int), (0 : Int), (0 : Int), ((0 : Int), (0 : Int), ()), ())).2).2).2).2).2).1, (((((((((y11.getD v.2.1.toNat ((0 : Int), (0 : Int), (0 : Int), (0 : Int), (0 : Int), (0 : Int), ((0 : Int), (0 : Int), ()), ())).2).2).2).2).2).2).1).1, w64 (y10 + (1 : Int)), (((((((((y11.getD v.2.1.toNat ((0 : Int), (0 : Int), (0 : Int), (0 : Int), (0 : Int), (0 : Int), ((0 : Int), (0 : Int), ()), ())).2).2).2).2).2).2).1).2).2), (((((((y11.getD v.2.1.toNat ((0 : Int), (0 : Int), (0 : Int), (0 : Int), (0 : Int), (0 : Int), ((0 : Int), (0 : Int), ()), ())).2).2).2).2).2).2).2)
     let y13 := w64 ((w64 (y10 + (1 : Int))) + (1 : Int))
     lvmarkOpS_0 N n (y13, w64 (v.2.1 + (1 : Int)), y12, ())
     else none
     else none
     else none
     else none
     else none
     else none
     else none
     else none
     else none
     else none
     else none
     else none
     else none
     else none
     else none
     else none
    else
    some (v.1, v.2.2.1, ())
noncomputable def FvmarkOpS (N : Nat) (x : (Int × ((List (Int × (Int × (Int × (Int × (Int × (Int × ((Int × (Int × Unit)) × Unit)))))))) × Unit))) : Option (Int × ((List (Int × (Int × (Int × (Int × (Int × (Int × ((Int × (Int × Unit)) × Unit)))))))) × Unit)) :=
  (lvmarkOpS_0 N N (x.1, (0 : Int), x.2.1, ())).bind fun o14 =>
  some (o14.1, o14.2.1, ())
noncomputable def convmarkOpS (N : Nat) : Con := { f := 123, din := dinvmarkOpS, outs := outvmarkOpS, F := FvmarkOpS N }
noncomputable def XvmarkOpS (N : Nat) : Ctx := { E := EvmarkOpS N, H := HvmarkOpS, lp := [(0, { hd := dvmarkOpS_0, outs := ovmarkOpS_0, run := fun v => lvmarkOpS_0 N N v })], jn := [] }
noncomputable def bvmarkOpS_0 : Code := loopBody (codeOf Try.f123) 0
theorem FvmarkOpS_eq (N : Nat) (x : (Int × ((List (Int × (Int × (Int × (Int × (Int × (Int × ((Int × (Int × Unit)) × Unit)))))))) × Unit))) : evFn (XvmarkOpS N) Try.f123 dinvmarkOpS outvmarkOpS x = FvmarkOpS N x := by kernel_rfl
theorem lvmarkOpS_0_eq (N n : Nat) (v : (Int × (Int × ((List (Int × (Int × (Int × (Int × (Int × (Int × ((Int × (Int × Unit)) × Unit)))))))) × Unit)))) : lvmarkOpS_0 N (n + 1) v = ev (XvmarkOpS N) bvmarkOpS_0 (roundK dvmarkOpS_0 ovmarkOpS_0 (lvmarkOpS_0 N n)) (dvmarkOpS_0.mk' v) := by kernel_rfl
theorem cxvmarkOpS (N : Nat) : CtxOk Try.prog (XvmarkOpS N) := ⟨⟨TE_ok, fun k hk => absurd hk List.not_mem_nil⟩, mixed⟩
theorem lpvmarkOpS_0 (N : Nat) : LoopOk Try.prog { hd := dvmarkOpS_0, outs := ovmarkOpS_0, run := fun v => lvmarkOpS_0 N N v } bvmarkOpS_0 :=
  loop_fuel (d := dvmarkOpS_0) (os := ovmarkOpS_0) (cxvmarkOpS N) (loops_at (ids := []) (by kernel_rfl) (trivial)) (lvmarkOpS_0 N) (fun _ => rfl) (fun n v => lvmarkOpS_0_eq N n v) (fun _ => N)
theorem specvmarkOpS (N : Nat) : Spec Try.prog (convmarkOpS N) :=
  Spec.of_eq (fn_spec (cxvmarkOpS N) (f := 123) (fn := Try.f123) (c := codeOf Try.f123) (by kernel_rfl) (by kernel_rfl) (by kernel_rfl) (loops_at (ids := [0]) (by kernel_rfl) ⟨lp_of (lpvmarkOpS_0 N), trivial⟩) (by kernel_rfl)) (fun x r h => (FvmarkOpS_eq N x).trans h)

/-! ### 57: laws.markOpSS -/

noncomputable def dinvmarkOpSS : Desc := { n := 2, regs := [.one (.lit (.row 0)), .one (.val (.int .i64))], bx := [(0, .row (.sl (.pair (.int .i64) (.pair (.int .i64) (.pair (.int .i64) (.pair (.int .i64) (.pair (.int .i64) (.pair (.int .i64) (.pair (.pair (.int .i64) (.pair (.int .i64) .unit)) .unit)))))))))], pins := [] }
noncomputable def outvmarkOpSS : Outs := [(.ret, { n := 1, regs := [.one (.val (.int .i64))], bx := [(0, .row (.sl (.pair (.int .i64) (.pair (.int .i64) (.pair (.int .i64) (.pair (.int .i64) (.pair (.int .i64) (.pair (.int .i64) (.pair (.pair (.int .i64) (.pair (.int .i64) .unit)) .unit)))))))))], pins := [.one (.lit (.row 0))] })]
noncomputable def HvmarkOpSS : Hints := [(4, [(5, { sg := [(0, 1051560)], pre := [.take 15 1051560], post := [.give 1051560 0] })])]
noncomputable def EvmarkOpSS (N : Nat) : Env := { te := TE, cs := [convmarkOpS N] }
noncomputable def dvmarkOpSS_0 : Desc := { n := 19, regs := [.one (.lit (.row 0)), .one (.val (.int .i64)), u, u, u, .one (.val (.int .i64))], bx := [(0, .row (.sl (.pair (.int .i64) (.pair (.int .i64) (.pair (.int .i64) (.pair (.int .i64) (.pair (.int .i64) (.pair (.int .i64) (.pair (.pair (.int .i64) (.pair (.int .i64) .unit)) .unit)))))))))], pins := [.one (.lit (.row 0))] }
noncomputable def ovmarkOpSS_0 : Outs := [(.exit 0, { n := 19, regs := [u, .one (.val (.int .i64))], bx := [(0, .row (.sl (.pair (.int .i64) (.pair (.int .i64) (.pair (.int .i64) (.pair (.int .i64) (.pair (.int .i64) (.pair (.int .i64) (.pair (.pair (.int .i64) (.pair (.int .i64) .unit)) .unit)))))))))], pins := [.one (.lit (.row 0))] })]
noncomputable def lvmarkOpSS_0 (N : Nat) : Nat → (Int × (Int × ((List (List (Int × (Int × (Int × (Int × (Int × (Int × ((Int × (Int × Unit)) × Unit))))))))) × Unit))) → Option (Int × ((List (List (Int × (Int × (Int × (Int × (Int × (Int × ((Int × (Int × Unit)) × Unit))))))))) × Unit))
  | 0, _ => none
  | n + 1, v =>
    let y1 := decide (v.2.1 < (v.2.2.1.length : Int))
    bif y1 then
     bif decide (0 ≤ v.2.1) then
     bif decide (v.2.1.toNat < v.2.2.1.length) then
     (FvmarkOpS N (v.1, v.2.2.1.getD v.2.1.toNat ([] : (List (Int × (Int × (Int × (Int × (Int × (Int × ((Int × (Int × Unit)) × Unit))))))))), ())).bind fun r2 =>
     lvmarkOpSS_0 N n (r2.1, w64 (v.2.1 + (1 : Int)), v.2.2.1.set v.2.1.toNat r2.2.1, ())
     else none
     else none
    else
    some (v.1, v.2.2.1, ())
noncomputable def FvmarkOpSS (N : Nat) (x : (Int × ((List (List (Int × (Int × (Int × (Int × (Int × (Int × ((Int × (Int × Unit)) × Unit))))))))) × Unit))) : Option (Int × ((List (List (Int × (Int × (Int × (Int × (Int × (Int × ((Int × (Int × Unit)) × Unit))))))))) × Unit)) :=
  (lvmarkOpSS_0 N N (x.1, (0 : Int), x.2.1, ())).bind fun o3 =>
  some (o3.1, o3.2.1, ())
noncomputable def convmarkOpSS (N : Nat) : Con := { f := 57, din := dinvmarkOpSS, outs := outvmarkOpSS, F := FvmarkOpSS N }
noncomputable def XvmarkOpSS (N : Nat) : Ctx := { E := EvmarkOpSS N, H := HvmarkOpSS, lp := [(0, { hd := dvmarkOpSS_0, outs := ovmarkOpSS_0, run := fun v => lvmarkOpSS_0 N N v })], jn := [] }
noncomputable def bvmarkOpSS_0 : Code := loopBody (codeOf Try.f57) 0
theorem FvmarkOpSS_eq (N : Nat) (x : (Int × ((List (List (Int × (Int × (Int × (Int × (Int × (Int × ((Int × (Int × Unit)) × Unit))))))))) × Unit))) : evFn (XvmarkOpSS N) Try.f57 dinvmarkOpSS outvmarkOpSS x = FvmarkOpSS N x := by kernel_rfl
theorem lvmarkOpSS_0_eq (N n : Nat) (v : (Int × (Int × ((List (List (Int × (Int × (Int × (Int × (Int × (Int × ((Int × (Int × Unit)) × Unit))))))))) × Unit)))) : lvmarkOpSS_0 N (n + 1) v = ev (XvmarkOpSS N) bvmarkOpSS_0 (roundK dvmarkOpSS_0 ovmarkOpSS_0 (lvmarkOpSS_0 N n)) (dvmarkOpSS_0.mk' v) := by kernel_rfl
theorem cxvmarkOpSS (N : Nat) : CtxOk Try.prog (XvmarkOpSS N) := ⟨⟨TE_ok, List.forall_mem_cons.2 ⟨(specvmarkOpS N), fun k hk => absurd hk List.not_mem_nil⟩⟩, mixed⟩
theorem lpvmarkOpSS_0 (N : Nat) : LoopOk Try.prog { hd := dvmarkOpSS_0, outs := ovmarkOpSS_0, run := fun v => lvmarkOpSS_0 N N v } bvmarkOpSS_0 :=
  loop_fuel (d := dvmarkOpSS_0) (os := ovmarkOpSS_0) (cxvmarkOpSS N) (loops_at (ids := []) (by kernel_rfl) (trivial)) (lvmarkOpSS_0 N) (fun _ => rfl) (fun n v => lvmarkOpSS_0_eq N n v) (fun _ => N)
theorem specvmarkOpSS (N : Nat) : Spec Try.prog (convmarkOpSS N) :=
  Spec.of_eq (fn_spec (cxvmarkOpSS N) (f := 57) (fn := Try.f57) (c := codeOf Try.f57) (by kernel_rfl) (by kernel_rfl) (by kernel_rfl) (loops_at (ids := [0]) (by kernel_rfl) ⟨lp_of (lpvmarkOpSS_0 N), trivial⟩) (by kernel_rfl)) (fun x r h => (FvmarkOpSS_eq N x).trans h)

end Go.Fl
-- FUNCS vszOpS vszOpSS vszCallS vtoConfig vtoShape vtoOp vtoOpS vtoOpSS vtoCall vtoCallS sConfigOk sStoryOk sHistOk sGraphNew sl14May sl5Refs sGraphOk sShapeOk sOpOk sl5Ints sl5Copy sl5Fields sl5Begin sl5Field sl5Pins sl5One sGraphDo sl14Search_r_ sl14Search sHistFits iConfigOk iprogsOk_1 kIndexFunc_SSOp_SOp_iprogsOk_1 kContainsFunc_SSOp_SOp_iprogsOk_1 iprogsOk iHistOk itruth math_bits_Mul64 math_bits_Mul kRepeat_Sint_int inone iGraphNew iHistFits_1 iGraph_leads_1 kIndexFunc_Sint_int_iGraph_leads_1 kContainsFunc_Sint_int_iGraph_leads_1 iGraph_leads iGraphOk iShapeOk iOpOk kClone_Sint_int iGraph_copy iOp_handles iOp_early iOp_field ilastOf kDelete_Sint_int iGraphDo iHistFits_2_iHistFits_1_iHistFits_2 iHistFits veqIntS veqShape veqOp veqOpS veqOpSS veqCall veqCallS vmarkOpS vmarkOpSS vmarkCallS vmarkIntS vheldIntS vFnExactHistFits
set_option maxRecDepth 100000
set_option linter.all false
namespace Go.Fl
open Go Go.Proofs
/-! ### 58: laws.markCallS -/

noncomputable def dinvmarkCallS : Desc := { n := 2, regs := [.one (.lit (.row 0)), .one (.val (.int .i64))], bx := [(0, .row (.pair (.int .i64) (.pair (.int .i64) (.pair (.int .i64) (.pair (.int .i64) (.pair (.int .i64) (.pair (.int .i64) .unit)))))))], pins := [] }
noncomputable def outvmarkCallS : Outs := [(.ret, { n := 1, regs := [.one (.val (.int .i64))], bx := [(0, .row (.pair (.int .i64) (.pair (.int .i64) (.pair (.int .i64) (.pair (.int .i64) (.pair (.int .i64) (.pair (.int .i64) .unit)))))))], pins := [.one (.lit (.row 0))] })]
noncomputable def HvmarkCallS : Hints := []
noncomputable def EvmarkCallS (_N : Nat) : Env := { te := TE, cs := [] }
noncomputable def dvmarkCallS_0 : Desc := { n := 55, regs := [.one (.lit (.row 0)), .one (.val (.int .i64)), u, u, u, .one (.val (.int .i64))], bx := [(0, .row (.pair (.int .i64) (.pair (.int .i64) (.pair (.int .i64) (.pair (.int .i64) (.pair (.int .i64) (.pair (.int .i64) .unit)))))))], pins := [.one (.lit (.row 0))] }
noncomputable def ovmarkCallS_0 : Outs := [(.exit 0, { n := 55, regs := [u, .one (.val (.int .i64))], bx := [(0, .row (.pair (.int .i64) (.pair (.int .i64) (.pair (.int .i64) (.pair (.int .i64) (.pair (.int .i64) (.pair (.int .i64) .unit)))))))], pins := [.one (.lit (.row 0))] })]
noncomputable def lvmarkCallS_0 (N : Nat) : Nat → (Int × (Int × ((List (Int × (Int × (Int × (Int × (Int × (Int × Unit))))))) × Unit))) → Option (Int × ((List (Int × (Int × (Int × (Int × (Int × (Int × Unit))))))) × Unit))
  | 0, _ => none
  | n + 1, v =>
    let y1 := decide (v.2.1 < (v.2.2.1.length : Int))
    bif y1 then
     bif decide (0 ≤ v.2.1) then
     bif decide (v.2.1.toNat < v.2.2.1.length) then
     let y2 := v.2.2.1.set v.2.1.toNat (v.1, (v.2.2.1.getD v.2.1.toNat ((0 : Int), (0 : Int), (0 : Int), (0 : Int), (0 : Int), (0 : Int), ())).2)
     bif decide (0 ≤ v.2.1) then
     bif decide (v.2.1.toNat < y2.length) then
     let y3 := y2.set v.2.1.toNat ((y2.getD v.2.1.toNat ((0 : Int), (0 : Int), (0 : Int), (0 : Int), (0 : Int), (0 : Int), ())).1, w64 (v.1 + (1 : Int)), ((y2.getD v.2.1.toNat ((0 : Int), (0 : Int), (0 : Int), (0 : Int), (0 : Int), (0 : Int), ())).2).2)
     let y4 := w64 ((w64 (v.1 + (1 : Int))) + (1 : Int))
     bif decide (0 ≤ v.2.1) then
     bif decide (v.2.1.toNat < y3.length) then
     let y5 := y3.set v.2.1.toNat ((y3.getD v.2.1.toNat ((0 : Int), (0 : Int), (0 : Int), (0 : Int), (0 : Int), (0 : Int), ())).1, ((y3.getD v.2.1.toNat ((0 : Int), (0 : Int), (0 : Int), (0 : Int), (0 : Int), (0 : Int), ())).2).1, y4, (((y3.getD v.2.1.toNat ((0 : Int), (0 : Int), (0 : Int), (0 : Int), (0 : Int), (0 : Int), ())).2).2).2)
     bif decide (0 ≤ v.2.1) then
     bif decide (v.2.1.toNat < y5.length) then
     let y6 := y5.set v.2.1.toNat ((y5.getD v.2.1.toNat ((0 : Int), (0 : Int), (0 : Int), (0 : Int), (0 : Int), (0 : Int), ())).1, ((y5.getD v.2.1.toNat ((0 : Int), (0 : Int), (0 : Int), (0 : Int), (0 : Int), (0 : Int), ())).2).1, (((y5.getD v.2.1.toNat ((0 : Int), (0 : Int), (0 : Int), (0 : Int), (0 : Int), (0 : Int), ())).2).2).1, w64 (y4 + (1 : Int)), ((((y5.getD v.2.1.toNat ((0 : Int), (0 : Int), (0 : Int), (0 : Int), (0 : Int), (0 : Int), ())).2).2).2).2)
     let y7 := w64 ((w64 (y4 + (1 : Int))) + (1 : Int))
     bif decide (0 ≤ v.2.1) then
     bif decide (v.2.1.toNat < y6.length) then
     let y8 := y6.set v.2.1.toNat ((y6.getD v.2.1.toNat ((0 : Int), (0 : Int), (0 : Int), (0 : Int), (0 : Int), (0 : Int), ())).1, ((y6.getD v.2.1.toNat ((0 : Int), (0 : Int), (0 : Int), (0 : Int), (0 : Int), (0 : Int), ())).2).1, (((y6.getD v.2.1.toNat ((0 : Int), (0 : Int), (0 : Int), (0 : Int), (0 : Int), (0 : Int), ())).2).2).1, ((((y6.getD v.2.1.toNat ((0 : Int), (0 : Int), (0 : Int), (0 : Int), (0 : Int), (0 : Int), ())).2).2).2).1, y7, (((((y6.getD v.2.1.toNat ((0 : Int), (0 : Int), (0 : Int), (0 : Int), (0 : Int), (0 : Int), ())).2).2).2).2).2)
     bif decide (0 ≤ v.2.1) then
     bif decide (v.2.1.toNat < y8.length) then
     let y9 := y8.set v.2.1.toNat ((y8.getD v.2.1.toNat ((0 : Int), (0 : Int), (0 : Int), (0 : Int), (0 : Int), (0 : Int), ())).1, ((y8.getD v.2.1.toNat ((0 : Int), (0 : Int), (0 : Int), (0 : Int), (0 : Int), (0 : Int), ())).2).1, (((y8.getD v.2.1.toNat ((0 : Int), (0 : Int), (0 : Int), (0 : Int), (0 : Int), (0 : Int), ())).2).2).1, ((((y8.getD v.2.1.toNat ((0 : Int), (0 : Int), (0 : Int), (0 : Int), (0 : Int), (0 : Int), ())).2).2).2).1, (((((y8.getD v.2.1.toNat ((0 : Int), (0 : Int), (0 : Int), (0 : Int), (0 : Int), (0 : Int), ())).2).2).2).2).1, w64 (y7 + (1 : Int)), ((((((y8.getD v.2.1.toNat ((0 : Int), (0 : Int), (0 : Int), (0 : Int), (0 : Int), (0 : Int), ())).2).2).2).2).2).2)
     let y10 := w64 ((w64 (y7 + (1 : Int))) + (1 : Int))
     lvmarkCallS_0 N n (y10, w64 (v.2.1 + (1 : Int)), y9, ())
     else none
     else none
     else none
     else none
     else none
     else none
     else none
     else none
     else none
     else none
     else none
     else none
    else
    some (v.1, v.2.2.1, ())
noncomputable def FvmarkCallS (N : Nat) (x : (Int × ((List (Int × (Int × (Int × (Int × (Int × (Int × Unit))))))) × Unit))) : Option (Int × ((List (Int × (Int × (Int × (Int × (Int × (Int × Unit))))))) × Unit)) :=
  (lvmarkCallS_0 N N (x.1, (0 : Int), x.2.1, ())).bind fun o11 =>
  some (o11.1, o11.2.1, ())
noncomputable def convmarkCallS (N : Nat) : Con := { f := 58, din := dinvmarkCallS, outs := outvmarkCallS, F := FvmarkCallS N }
noncomputable def XvmarkCallS (N : Nat) : Ctx := { E := EvmarkCallS N, H := HvmarkCallS, lp := [(0, { hd := dvmarkCallS_0, outs := ovmarkCallS_0, run := fun v => lvmarkCallS_0 N N v })], jn := [] }
noncomputable def bvmarkCallS_0 : Code := loopBody (codeOf Try.f58) 0
theorem FvmarkCallS_eq (N : Nat) (x : (Int × ((List (Int × (Int × (Int × (Int × (Int × (Int × Unit))))))) × Unit))) : evFn (XvmarkCallS N) Try.f58 dinvmarkCallS outvmarkCallS x = FvmarkCallS N x := by kernel_rfl
theorem lvmarkCallS_0_eq (N n : Nat) (v : (Int × (Int × ((List (Int × (Int × (Int × (Int × (Int × (Int × Unit))))))) × Unit)))) : lvmarkCallS_0 N (n + 1) v = ev (XvmarkCallS N) bvmarkCallS_0 (roundK dvmarkCallS_0 ovmarkCallS_0 (lvmarkCallS_0 N n)) (dvmarkCallS_0.mk' v) := by kernel_rfl
theorem cxvmarkCallS (N : Nat) : CtxOk Try.prog (XvmarkCallS N) := ⟨⟨TE_ok, fun k hk => absurd hk List.not_mem_nil⟩, mixed⟩
theorem lpvmarkCallS_0 (N : Nat) : LoopOk Try.prog { hd := dvmarkCallS_0, outs := ovmarkCallS_0, run := fun v => lvmarkCallS_0 N N v } bvmarkCallS_0 :=
  loop_fuel (d := dvmarkCallS_0) (os := ovmarkCallS_0) (cxvmarkCallS N) (loops_at (ids := []) (by kernel_rfl) (trivial)) (lvmarkCallS_0 N) (fun _ => rfl) (fun n v => lvmarkCallS_0_eq N n v) (fun _ => N)
theorem specvmarkCallS (N : Nat) : Spec Try.prog (convmarkCallS N) :=
  Spec.of_eq (fn_spec (cxvmarkCallS N) (f := 58) (fn := Try.f58) (c := codeOf Try.f58) (by kernel_rfl) (by kernel_rfl) (by kernel_rfl) (loops_at (ids := [0]) (by kernel_rfl) ⟨lp_of (lpvmarkCallS_0 N), trivial⟩) (by kernel_rfl)) (fun x r h => (FvmarkCallS_eq N x).trans h)

/-! ### 22: laws.markIntS -/

noncomputable def dinvmarkIntS : Desc := { n := 2, regs := [.one (.lit (.row 0)), .one (.val (.int .i64))], bx := [(0, .row (.int .i64))], pins := [] }
noncomputable def outvmarkIntS : Outs := [(.ret, { n := 1, regs := [.one (.val (.int .i64))], bx := [(0, .row (.int .i64))], pins := [.one (.lit (.row 0))] })]
noncomputable def HvmarkIntS : Hints := []
noncomputable def EvmarkIntS (_N : Nat) : Env := { te := TE, cs := [] }
noncomputable def dvmarkIntS_0 : Desc := { n := 19, regs := [.one (.lit (.row 0)), .one (.val (.int .i64)), u, u, u, .one (.val (.int .i64))], bx := [(0, .row (.int .i64))], pins := [.one (.lit (.row 0))] }
noncomputable def ovmarkIntS_0 : Outs := [(.exit 0, { n := 19, regs := [u, .one (.val (.int .i64))], bx := [(0, .row (.int .i64))], pins := [.one (.lit (.row 0))] })]
noncomputable def lvmarkIntS_0 (N : Nat) : Nat → (Int × (Int × ((List Int) × Unit))) → Option (Int × ((List Int) × Unit))
  | 0, _ => none
  | n + 1, v =>
    let y1 := decide (v.2.1 < (v.2.2.1.length : Int))
    bif y1 then
     bif decide (0 ≤ v.2.1) then
     bif decide (v.2.1.toNat < v.2.2.1.length) then
     lvmarkIntS_0 N n (w64 (v.1 + (1 : Int)), w64 (v.2.1 + (1 : Int)), v.2.2.1.set v.2.1.toNat v.1, ())
     else none
     else none
    else
    some (v.1, v.2.2.1, ())
noncomputable def FvmarkIntS (N : Nat) (x : (Int × ((List Int) × Unit))) : Option (Int × ((List Int) × Unit)) :=
  (lvmarkIntS_0 N N (x.1, (0 : Int), x.2.1, ())).bind fun o2 =>
  some (o2.1, o2.2.1, ())
noncomputable def convmarkIntS (N : Nat) : Con := { f := 22, din := dinvmarkIntS, outs := outvmarkIntS, F := FvmarkIntS N }
noncomputable def XvmarkIntS (N : Nat) : Ctx := { E := EvmarkIntS N, H := HvmarkIntS, lp := [(0, { hd := dvmarkIntS_0, outs := ovmarkIntS_0, run := fun v => lvmarkIntS_0 N N v })], jn := [] }
noncomputable def bvmarkIntS_0 : Code := loopBody (codeOf Try.f22) 0
theorem FvmarkIntS_eq (N : Nat) (x : (Int × ((List Int) × Unit))) : evFn (XvmarkIntS N) Try.f22 dinvmarkIntS outvmarkIntS x = FvmarkIntS N x := by kernel_rfl
theorem lvmarkIntS_0_eq (N n : Nat) (v : (Int × (Int × ((List Int) × Unit)))) : lvmarkIntS_0 N (n + 1) v = ev (XvmarkIntS N) bvmarkIntS_0 (roundK dvmarkIntS_0 ovmarkIntS_0 (lvmarkIntS_0 N n)) (dvmarkIntS_0.mk' v) := by kernel_rfl
theorem cxvmarkIntS (N : Nat) : CtxOk Try.prog (XvmarkIntS N) := ⟨⟨TE_ok, fun k hk => absurd hk List.not_mem_nil⟩, mixed⟩
theorem lpvmarkIntS_0 (N : Nat) : LoopOk Try.prog { hd := dvmarkIntS_0, outs := ovmarkIntS_0, run := fun v => lvmarkIntS_0 N N v } bvmarkIntS_0 :=
  loop_fuel (d := dvmarkIntS_0) (os := ovmarkIntS_0) (cxvmarkIntS N) (loops_at (ids := []) (by kernel_rfl) (trivial)) (lvmarkIntS_0 N) (fun _ => rfl) (fun n v => lvmarkIntS_0_eq N n v) (fun _ => N)
theorem specvmarkIntS (N : Nat) : Spec Try.prog (convmarkIntS N) :=
  Spec.of_eq (fn_spec (cxvmarkIntS N) (f := 22) (fn := Try.f22) (c := codeOf Try.f22) (by kernel_rfl) (by kernel_rfl) (by kernel_rfl) (loops_at (ids := [0]) (by kernel_rfl) ⟨lp_of (lpvmarkIntS_0 N), trivial⟩) (by kernel_rfl)) (fun x r h => (FvmarkIntS_eq N x).trans h)

/-! ### 23: laws.heldIntS -/

noncomputable def dinvheldIntS : Desc := { n := 2, regs := [.one (.val (.sl (.int .i64))), .one (.val (.int .i64))], bx := [], pins := [] }
noncomputable def outvheldIntS : Outs := [(.ret, { n := 1, regs := [.one (.val (.int .i64))], bx := [], pins := [] })]
noncomputable def HvheldIntS : Hints := []
noncomputable def EvheldIntS (_N : Nat) : Env := { te := TE, cs := [] }
noncomputable def dvheldIntS_0 : Desc := { n := 21, regs := [.one (.val (.sl (.int .i64))), .one (.val (.int .i64)), u, u, u, .one (.val (.int .i64))], bx := [], pins := [] }
noncomputable def ovheldIntS_0 : Outs := [(.exit 0, { n := 21, regs := [u, .one (.val (.int .i64))], bx := [], pins := [] }), (.ret, { n := 21, regs := [u, u, u, u, .one (.val (.int .i64))], bx := [], pins := [] })]
noncomputable def lvheldIntS_0 (N : Nat) : Nat → ((List Int) × (Int × (Int × Unit))) → Option ((Int × Unit) ⊕ (Int × Unit))
  | 0, _ => none
  | n + 1, v =>
    let y1 := decide (v.2.2.1 < (v.1.length : Int))
    bif y1 then
     bif decide (0 ≤ v.2.2.1) then
     bif decide (v.2.2.1.toNat < v.1.length) then
     let y2 := (v.1.getD v.2.2.1.toNat (0 : Int)) != v.2.1
     bif y2 then
      some (.inr (((-1 : Int), ())))
     else
     lvheldIntS_0 N n (v.1, w64 (v.2.1 + (1 : Int)), w64 (v.2.2.1 + (1 : Int)), ())
     else none
     else none
    else
    some (.inl (v.2.1, ()))
noncomputable def FvheldIntS (N : Nat) (x : ((List Int) × (Int × Unit))) : Option (Int × Unit) :=
  (lvheldIntS_0 N N (x.1, x.2.1, (0 : Int), ())).bind fun o3 =>
  Sum.elim (fun o4 =>
   some (o4.1, ())) (fun o5 =>
   some (o5.1, ())) o3
noncomputable def convheldIntS (N : Nat) : Con := { f := 23, din := dinvheldIntS, outs := outvheldIntS, F := FvheldIntS N }
noncomputable def XvheldIntS (N : Nat) : Ctx := { E := EvheldIntS N, H := HvheldIntS, lp := [(0, { hd := dvheldIntS_0, outs := ovheldIntS_0, run := fun v => lvheldIntS_0 N N v })], jn := [] }
noncomputable def bvheldIntS_0 : Code := loopBody (codeOf Try.f23) 0
theorem FvheldIntS_eq (N : Nat) (x : ((List Int) × (Int × Unit))) : evFn (XvheldIntS N) Try.f23 dinvheldIntS outvheldIntS x = FvheldIntS N x := by kernel_rfl
theorem lvheldIntS_0_eq (N n : Nat) (v : ((List Int) × (Int × (Int × Unit)))) : lvheldIntS_0 N (n + 1) v = ev (XvheldIntS N) bvheldIntS_0 (roundK dvheldIntS_0 ovheldIntS_0 (lvheldIntS_0 N n)) (dvheldIntS_0.mk' v) := by kernel_rfl
theorem cxvheldIntS (N : Nat) : CtxOk Try.prog (XvheldIntS N) := ⟨⟨TE_ok, fun k hk => absurd hk List.not_mem_nil⟩, mixed⟩
theorem lpvheldIntS_0 (N : Nat) : LoopOk Try.prog { hd := dvheldIntS_0, outs := ovheldIntS_0, run := fun v => lvheldIntS_0 N N v } bvheldIntS_0 :=
  loop_fuel (d := dvheldIntS_0) (os := ovheldIntS_0) (cxvheldIntS N) (loops_at (ids := []) (by kernel_rfl) (trivial)) (lvheldIntS_0 N) (fun _ => rfl) (fun n v => lvheldIntS_0_eq N n v) (fun _ => N)
theorem specvheldIntS (N : Nat) : Spec Try.prog (convheldIntS N) :=
  Spec.of_eq (fn_spec (cxvheldIntS N) (f := 23) (fn := Try.f23) (c := codeOf Try.f23) (by kernel_rfl) (by kernel_rfl) (by kernel_rfl) (loops_at (ids := [0]) (by kernel_rfl) ⟨lp_of (lpvheldIntS_0 N), trivial⟩) (by kernel_rfl)) (fun x r h => (FvheldIntS_eq N x).trans h)

/-! ### 14: laws.FnExactHistFits -/

noncomputable def dinvFnExactHistFits : Desc := { n := 3, regs := [.one (.val (.pair (.int .i64) (.pair (.int .i64) (.pair (.int .i64) .unit)))), .one (.val (.sl (.sl (.pair (.int .i64) (.pair (.int .i64) (.pair (.int .i64) (.pair (.int .i64) (.pair (.int .i64) (.pair (.int .i64) (.pair (.pair (.int .i64) (.pair (.int .i64) .unit)) .unit)))))))))), .one (.val (.sl (.pair (.int .i64) (.pair (.int .i64) (.pair (.int .i64) (.pair (.int .i64) (.pair (.int .i64) (.pair (.int .i64) .unit))))))))], bx := [], pins := [] }
noncomputable def outvFnExactHistFits : Outs := [(.ret, { n := 1, regs := [.one (.val .bool)], bx := [], pins := [] })]
noncomputable def HvFnExactHistFits : Hints := [(0, [(0, { fz := true })]),
  (5, [(2, { con := 1 })]),
  (8, [(1, { con := 2 }), (3, { con := 3 }), (5, { con := 4 }), (6, { con := 5, pre := [.freeze 1102593, .freeze 1102721] })]),
  (9, [(1, { con := 3 })]),
  (10, [(1, { con := 4 })]),
  (11, [(1, { con := 2 }), (4, { con := 6 })]),
  (12, [(2, { con := 7 })]),
  (14, [(2, { con := 3 }), (3, { con := 8 })]),
  (16, [(2, { con := 4 }), (3, { con := 9 })]),
  (19, [(2, { con := 10, sg := [(0, 1115265)] })]),
  (20, [(2, { con := 11, sg := [(0, 1128065)] })]),
  (21, [(5, { con := 7 })]),
  (24, [(2, { con := 12, sg := [(0, 1141057)] })]),
  (26, [(2, { con := 13 })]),
  (31, [(1, { con := 2 }), (3, { con := 3 }), (5, { con := 4 }), (6, { con := 6 })]),
  (32, [(2, { con := 7 })]),
  (35, [(2, { con := 13 })])]
noncomputable def EvFnExactHistFits (N : Nat) : Env := { te := TE, cs := [convszOpSS N, convszCallS N, convtoConfig N, convtoOpSS N, convtoCallS N, consHistFits N, coniHistFits N, conveqIntS N, conveqOpSS N, conveqCallS N, convmarkOpSS N, convmarkCallS N, convmarkIntS N, convheldIntS N] }
noncomputable def jvFnExactHistFits_14 : Outs := [(.normal, { n := 127, regs := [u, .one (.val (.sl (.sl (.pair (.int .i64) (.pair (.int .i64) (.pair (.int .i64) (.pair (.int .i64) (.pair (.int .i64) (.pair (.int .i64) (.pair (.pair (.int .i64) (.pair (.int .i64) .unit)) .unit)))))))))), .one (.val (.sl (.pair (.int .i64) (.pair (.int .i64) (.pair (.int .i64) (.pair (.int .i64) (.pair (.int .i64) (.pair (.int .i64) .unit)))))))), .one (.fpt (.pair (.int .i64) (.pair (.int .i64) (.pair (.int .i64) .unit)))), u, u, u, u, .one (.val (.sl (.int .i64))), .one (.val .bool), .one (.lit (.row 1115265)), .one (.lit (.row 1128065)), .one (.lit (.row 1141057)), .one (.val .bool)], bx := [(1115265, .row (.sl (.pair (.int .i64) (.pair (.int .i64) (.pair (.int .i64) (.pair (.int .i64) (.pair (.int .i64) (.pair (.int .i64) (.pair (.pair (.int .i64) (.pair (.int .i64) .unit)) .unit))))))))), (1128065, .row (.pair (.int .i64) (.pair (.int .i64) (.pair (.int .i64) (.pair (.int .i64) (.pair (.int .i64) (.pair (.int .i64) .unit))))))), (1141057, .row (.int .i64))], pins := [] }), (.ret, { n := 127, regs := [u, u, u, u, u, u, .one (.val .bool)], bx := [], pins := [] })]
noncomputable def jvFnExactHistFits_23 : Outs := [(.normal, { n := 127, regs := [u, .one (.val (.sl (.sl (.pair (.int .i64) (.pair (.int .i64) (.pair (.int .i64) (.pair (.int .i64) (.pair (.int .i64) (.pair (.int .i64) (.pair (.pair (.int .i64) (.pair (.int .i64) .unit)) .unit)))))))))), .one (.val (.sl (.pair (.int .i64) (.pair (.int .i64) (.pair (.int .i64) (.pair (.int .i64) (.pair (.int .i64) (.pair (.int .i64) .unit)))))))), .one (.fpt (.pair (.int .i64) (.pair (.int .i64) (.pair (.int .i64) .unit)))), u, u, u, u, .one (.val (.sl (.int .i64))), .one (.val .bool), u, u, .one (.lit (.row 1141057))], bx := [(1141057, .row (.int .i64))], pins := [] }), (.ret, { n := 127, regs := [u, u, u, u, u, u, .one (.val .bool)], bx := [], pins := [] })]
noncomputable def jvFnExactHistFits_34 : Outs := [(.normal, { n := 127, regs := [u, u, u, u, u, u, u, u, u, u, u, u, .one (.lit (.row 1141057)), u, u, .one (.val (.int .i64))], bx := [(1141057, .row (.int .i64))], pins := [] }), (.ret, { n := 127, regs := [u, u, u, u, u, u, .one (.val .bool)], bx := [], pins := [] })]
noncomputable def FvFnExactHistFits (N : Nat) (x : ((Int × (Int × (Int × Unit))) × ((List (List (Int × (Int × (Int × (Int × (Int × (Int × ((Int × (Int × Unit)) × Unit))))))))) × ((List (Int × (Int × (Int × (Int × (Int × (Int × Unit))))))) × Unit)))) : Option (Bool × Unit) :=
  (FvszOpSS N (x.2.1, (1048576 : Int), ())).bind fun r1 =>
  bif decide (r1.1 < (0 : Int)) then
   some (true, ())
  else
  (FvszCallS N (x.2.2.1, r1.1, ())).bind fun r2 =>
  bif decide (r2.1 < (0 : Int)) then
   some (true, ())
  else
  (FvtoConfig N (x.1, ())).bind fun r3 =>
  (FvtoOpSS N (x.2.1, ())).bind fun r4 =>
  (FvtoCallS N (x.2.2.1, ())).bind fun r5 =>
  (FsHistFits N ((r3.1, r3.2.1, r3.2.2.1, ()), r4.1, r5.1, ())).bind fun r6 =>
  (FvtoOpSS N (x.2.1, ())).bind fun r7 =>
  (FvtoCallS N (x.2.2.1, ())).bind fun r8 =>
  (FvtoConfig N (x.1, ())).bind fun r9 =>
  (FiHistFits N ((r9.1, r9.2.1, r9.2.2.1, ()), r7.1, r8.1, ())).bind fun r10 =>
  Option.bind (
   (FveqIntS N (r10.2.1, r6.1, ())).bind fun r11 =>
   bif !r11.1 then
    some (.inr ((false, ())))
   else
   bif !(r10.1 == r6.2.1) then
    some (.inr ((false, ())))
   else
   some (.inl (x.2.1, x.2.2.1, x.1, r6.1, r6.2.1, r10.1, r7.1, r8.1, r10.2.1, ()))) fun o12 =>
  Sum.elim (fun o13 =>
   (FvtoOpSS N (o13.1, ())).bind fun r14 =>
   (FveqOpSS N (o13.2.2.2.2.2.2.1, r14.1, ())).bind fun r15 =>
   bif !r15.1 then
    some (false, ())
   else
   (FvtoCallS N (o13.2.1, ())).bind fun r16 =>
   (FveqCallS N (o13.2.2.2.2.2.2.2.1, r16.1, ())).bind fun r17 =>
   bif !r17.1 then
    some (false, ())
   else
   (FvmarkOpSS N ((1 : Int), o13.2.2.2.2.2.2.1, ())).bind fun r18 =>
   (FvmarkCallS N (r18.1, o13.2.2.2.2.2.2.2.1, ())).bind fun r19 =>
   Option.bind (
    bif decide (r19.1 < (0 : Int)) then
     some (.inr ((false, ())))
    else
    (FveqIntS N (o13.2.2.2.2.2.2.2.2.1, o13.2.2.2.1, ())).bind fun r20 =>
    bif !r20.1 then
     some (.inr ((false, ())))
    else
    bif !(o13.2.2.2.2.2.1 == o13.2.2.2.2.1) then
     some (.inr ((false, ())))
    else
    some (.inl (o13.1, o13.2.1, o13.2.2.1, o13.2.2.2.1, o13.2.2.2.2.1, o13.2.2.2.2.2.2.2.2.1, ()))) fun o21 =>
   Sum.elim (fun o22 =>
    (FvmarkIntS N ((1 : Int), o22.2.2.2.2.2.1, ())).bind fun r23 =>
    (FvheldIntS N (r23.2.1, (1 : Int), ())).bind fun r24 =>
    bif decide (r24.1 < (0 : Int)) then
     some (false, ())
    else
    bif r24.1 != r23.1 then
     some (false, ())
    else
    (FvtoConfig N (o22.2.2.1, ())).bind fun r25 =>
    (FvtoOpSS N (o22.1, ())).bind fun r26 =>
    (FvtoCallS N (o22.2.1, ())).bind fun r27 =>
    (FiHistFits N ((r25.1, r25.2.1, r25.2.2.1, ()), r26.1, r27.1, ())).bind fun r28 =>
    Option.bind (
     (FveqIntS N (r28.2.1, o22.2.2.2.1, ())).bind fun r29 =>
     bif !r29.1 then
      some (.inr ((false, ())))
     else
     bif !(r28.1 == o22.2.2.2.2.1) then
      some (.inr ((false, ())))
     else
     some (.inl (r23.1, r23.2.1, ()))) fun o30 =>
    Sum.elim (fun o31 =>
     (FvheldIntS N (o31.2.1, (1 : Int), ())).bind fun r32 =>
     bif decide (r32.1 < (0 : Int)) then
      some (false, ())
     else
     bif r32.1 != o31.1 then
      some (false, ())
     else
     some (true, ())) (fun o33 =>
     some (o33.1, ())) o30) (fun o34 =>
    some (o34.1, ())) o21) (fun o35 =>
   some (o35.1, ())) o12
noncomputable def convFnExactHistFits (N : Nat) : Con := { f := 14, din := dinvFnExactHistFits, outs := outvFnExactHistFits, F := FvFnExactHistFits N }
noncomputable def XvFnExactHistFits (N : Nat) : Ctx := { E := EvFnExactHistFits N, H := HvFnExactHistFits, lp := [], jn := [(14, jvFnExactHistFits_14), (23, jvFnExactHistFits_23), (34, jvFnExactHistFits_34)] }
theorem FvFnExactHistFits_eq (N : Nat) (x : ((Int × (Int × (Int × Unit))) × ((List (List (Int × (Int × (Int × (Int × (Int × (Int × ((Int × (Int × Unit)) × Unit))))))))) × ((List (Int × (Int × (Int × (Int × (Int × (Int × Unit))))))) × Unit)))) : evFn (XvFnExactHistFits N) Try.f14 dinvFnExactHistFits outvFnExactHistFits x = FvFnExactHistFits N x := by kernel_rfl
theorem cxvFnExactHistFits (N : Nat) : CtxOk Try.prog (XvFnExactHistFits N) := ⟨⟨TE_ok, List.forall_mem_cons.2 ⟨(specvszOpSS N), List.forall_mem_cons.2 ⟨(specvszCallS N), List.forall_mem_cons.2 ⟨(specvtoConfig N), List.forall_mem_cons.2 ⟨(specvtoOpSS N), List.forall_mem_cons.2 ⟨(specvtoCallS N), List.forall_mem_cons.2 ⟨(specsHistFits N), List.forall_mem_cons.2 ⟨(speciHistFits N), List.forall_mem_cons.2 ⟨(specveqIntS N), List.forall_mem_cons.2 ⟨(specveqOpSS N), List.forall_mem_cons.2 ⟨(specveqCallS N), List.forall_mem_cons.2 ⟨(specvmarkOpSS N), List.forall_mem_cons.2 ⟨(specvmarkCallS N), List.forall_mem_cons.2 ⟨(specvmarkIntS N), List.forall_mem_cons.2 ⟨(specvheldIntS N), fun k hk => absurd hk List.not_mem_nil⟩⟩⟩⟩⟩⟩⟩⟩⟩⟩⟩⟩⟩⟩⟩, mixed⟩
theorem specvFnExactHistFits (N : Nat) : Spec Try.prog (convFnExactHistFits N) :=
  Spec.of_eq (fn_spec (cxvFnExactHistFits N) (f := 14) (fn := Try.f14) (c := codeOf Try.f14) (by kernel_rfl) (by kernel_rfl) (by kernel_rfl) (loops_at (ids := []) (by kernel_rfl) (trivial)) (by kernel_rfl)) (fun x r h => (FvFnExactHistFits_eq N x).trans h)

end Go.Fl

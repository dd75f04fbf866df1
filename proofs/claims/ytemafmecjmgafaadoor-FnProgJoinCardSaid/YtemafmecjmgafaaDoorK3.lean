/- An evaluator of loaded functions, and that it is sound (part 3); no conditions. -/
import Derived.Test.YtemafmecjmgafaaDoorK2
import Derived.ProofKit
import Derived.Handed
import Derived.Carry
import Derived.Shelf.Lay
import Derived.Shelf.LaySoft
import Derived.Shelf.LaysM
import Derived.Shelf.LaysC
import Derived.Shelf.Strconv.Itoa3
import Derived.Shelf.Strconv.AtoiAll
import Derived.Test.YtemafmecjmgafaaDoorProg
import Derived.WalkKit
import Derived.BigCall
import Derived.Below
import Derived.Shelf.Strings.OnBuilder
import Derived.RegionTactic
import Derived.ChangeAlike
import Derived.BigRegion
import Derived.LoopTactic
import Derived.BigFrame
set_option linter.all false
/- Calls. -/
namespace Go.Fl
open Go

theorem ren_hd (ρ : Nat → Nat) (x : Box) : x.like (x.ren ρ) := by cases x <;> simp [Box.like, Box.ren, Box.hd]

theorem reb_owned {s : S} {nb : Bxs} {D dead : Nat → Bool} {g : Nat → Gh} {γ : Gam} (hnew : ∀ p ∈ nb, D p.1 = true ∨ find s.bx p.1 = none) :
    owned (s.reb nb D dead).bx (over nb g γ) = owned nb g ++ owned (s.bx.filter fun p => !D p.1) γ := by
  have h1 : owned nb (over nb g γ) = owned nb g := owned_congr fun p hp => by
    obtain ⟨x, hx⟩ := find_isSome hp
    exact over_new hx
  have h2 : owned (s.bx.filter fun p => !D p.1) (over nb g γ) = owned (s.bx.filter fun p => !D p.1) γ := owned_congr fun p hp => over_old (by
    obtain ⟨hp, hD⟩ := List.mem_filter.1 hp
    have hD' : D p.1 = false := by simpa using hD
    cases hf : find nb p.1 with
    | none => rfl
    | some x =>
      rcases hnew _ (find_mem hf) with h1 | h1
      · simp [hD'] at h1
      · obtain ⟨y, hy⟩ := find_isSome hp
        simp only at h1
        rw [h1] at hy; cases hy)
  show owned (nb ++ (s.bx.filter fun p => !D p.1).map fun p => (p.1, p.2.kill dead)) (over nb g γ) = _
  rw [owned_append, owned_map (fun x => x.kill dead), h1, h2]

/-- Handles that are as they were: the value is the same. -/
theorem inls_rel {w w' : World} {ok ok' : Nat → Prop} {bx bx' : Bxs} {γ γ' : Nat → Gh} {b : Nat} : ∀ {cs : List (Nat ⊕ Ty)} {y z : Dyn} {cvs : List Value} {l : List Nat}, inls cs = some l → b ∈ l →
    All2 (CapRel w ok bx γ) (mkCaps cs y).1 cvs → All2 (CapRel w' ok' bx' γ') (mkCaps cs z).1 cvs → ∃ cv, PtrAt bx γ b 0 cv ∧ PtrAt bx' γ' b 0 cv := by
  intro cs
  induction cs with
  | nil => intro y z cvs l hl hb; simp [inls] at hl; subst hl; simp at hb
  | cons c cs ih =>
    intro y z cvs l hl hb h1 h2
    cases c with
    | inr t => simp [inls] at hl
    | inl c =>
      simp only [inls, Option.map_eq_some_iff] at hl
      obtain ⟨l', hl', rfl⟩ := hl
      simp only [mkCaps] at h1 h2
      cases h1 with
      | cons q1 t1 =>
        cases h2 with
        | cons q2 t2 =>
          rcases List.mem_cons.1 hb with rfl | hb
          · exact ⟨_, q1, q2⟩
          · exact ih hl' hb t1 t2

theorem pin_rel {w w' : World} {ok ok' : Nat → Prop} {bx bx' : Bxs} {γ γ' : Nat → Gh} {l m : LD} {b : Nat} (hb : b ∈ l.pin m) {y z : Dyn} {cv : Value} (h1 : LRel w ok bx γ (l.mk y).1 cv) (h2 : LRel w' ok' bx' γ' (m.mk z).1 cv) :
    ∃ (h : L) (cv : Value), (h = .row b ∨ (∃ o, h = .ptr b o) ∨ h = .mrow b ∨ h = .it b) ∧ LRel w ok bx γ h cv ∧ LRel w' ok' bx' γ' h cv := by
  unfold LD.pin at hb
  split at hb
  · rename_i f cs g ds
    split at hb
    · rename_i hs
      obtain ⟨rfl, rfl⟩ := hs
      cases hl : inls cs with
      | none => rw [hl] at hb; simp at hb
      | some l =>
        rw [hl] at hb
        obtain ⟨cvs, e1, r1⟩ := h1
        obtain ⟨cvs', e2, r2⟩ := h2
        rw [e1] at e2
        simp at e2
        subst e2
        obtain ⟨cv', p1, p2⟩ := inls_rel hl (by simpa using hb) r1 r2
        exact ⟨.ptr b 0, cv', .inr (.inl ⟨0, rfl⟩), p1, p2⟩
    · simp at hb
  · rename_i l' m'
    split at hb
    · rename_i hs
      have := L.same_eq hs
      subst this
      refine ⟨l', cv, ?_, h1, h2⟩
      cases l' <;> simp_all
    · simp at hb
  · simp at hb

/-- A box, the same before and behind: it lies where it lay. -/
theorem pin_box {w w' : World} {ok ok' : Nat → Prop} {bx bx' : Bxs} {γ γ' : Nat → Gh} {h : L} {b : Nat} {cv : Value} (hh : h = .row b ∨ (∃ o, h = .ptr b o) ∨ h = .mrow b ∨ h = .it b) (h1 : LRel w ok bx γ h cv) (h2 : LRel w' ok' bx' γ' h cv)
    {d d' : BD} {x y : Box} (hx : find bx b = some x) (hy : find bx' b = some y) (hd : d.box x) (hd' : d'.box y) (hs : d.same d' = true) :
    x.like y ∧ (γ' b).A = (γ b).A ∧ (x.hd.isSome = true → (γ' b).c = (γ b).c) := by
  rcases hh with rfl | ⟨o, rfl⟩ | rfl | rfl
  · obtain ⟨x1, t1, n1, e1, e2, e3⟩ := h1
    obtain ⟨x2, t2, n2, f1, f2, f3⟩ := h2
    rw [hx] at e1
    rw [hy] at f1
    cases e1
    cases f1
    rw [e3] at f3
    simp at f3
    obtain ⟨g1, g2, g3⟩ := f3
    refine ⟨?_, g1.symm, fun _ => g3.symm⟩
    cases d <;> cases d' <;> simp [BD.same] at hs <;> simp only [BD.box] at hd hd'
    · obtain ⟨xs, rfl⟩ := hd
      obtain ⟨ys, rfl⟩ := hd'
      subst hs
      simp [Box.hd] at e2 f2
      obtain ⟨rfl, rfl⟩ := e2
      obtain ⟨_, rfl⟩ := f2
      simp [Box.like, Box.hd, g2]
    · obtain ⟨ls, rfl, _⟩ := hd; simp [Box.hd] at e2
    · obtain ⟨ls, rfl⟩ := hd; simp [Box.hd] at e2
    · obtain ⟨ls, rfl⟩ := hd; simp [Box.hd] at e2
  · obtain ⟨ls, bl, e1, e2, e3⟩ := h1
    obtain ⟨ms, bl', f1, f2, f3⟩ := h2
    rw [hx] at e1
    rw [hy] at f1
    cases e1
    cases f1
    rw [e3] at f3
    simp at f3
    subst f3
    refine ⟨?_, by rw [e2, f2], fun h => by simp [Box.hd] at h⟩
    cases d <;> cases d' <;> simp [BD.same] at hs <;> simp only [BD.box] at hd hd'
    · obtain ⟨xs, h⟩ := hd; cases h
    · obtain ⟨ls', h, hl⟩ := hd
      obtain ⟨ms', h', hl'⟩ := hd'
      cases h
      cases h'
      exact ⟨ms, rfl, by omega⟩
    · obtain ⟨xs, h⟩ := hd; cases h
    · obtain ⟨xs, h⟩ := hd; cases h
  · obtain ⟨t, m, r, e1, e2, e3⟩ := h1
    obtain ⟨t', m', r', f1, f2, f3⟩ := h2
    rw [hx] at e1
    rw [hy] at f1
    cases e1
    cases f1
    rw [e3] at f3
    simp at f3
    subst f3
    refine ⟨?_, by rw [e2, f2], fun h => by simp [Box.hd] at h⟩
    cases d <;> cases d' <;> simp [BD.same] at hs <;> simp only [BD.box] at hd hd'
    · obtain ⟨xs, h⟩ := hd; cases h
    · obtain ⟨ls', h, hl⟩ := hd; cases h
    · obtain ⟨xs, h⟩ := hd
      obtain ⟨ys, h'⟩ := hd'
      cases h
      cases h'
      subst hs
      exact ⟨_, rfl⟩
    · obtain ⟨xs, h⟩ := hd; cases h
  · obtain ⟨t, m, c, r, e1, e2, e3⟩ := h1
    obtain ⟨t', m', c', r', f1, f2, f3⟩ := h2
    rw [hx] at e1
    rw [hy] at f1
    cases e1
    cases f1
    rw [e3] at f3
    simp at f3
    subst f3
    refine ⟨?_, by rw [e2, f2], fun h => by simp [Box.hd] at h⟩
    cases d <;> cases d' <;> simp [BD.same] at hs <;> simp only [BD.box] at hd hd'
    · obtain ⟨xs, h⟩ := hd; cases h
    · obtain ⟨ls', h, hl⟩ := hd; cases h
    · obtain ⟨xs, h⟩ := hd; cases h
    · obtain ⟨xs, h⟩ := hd
      obtain ⟨ys, h'⟩ := hd'
      cases h
      cases h'
      subst hs
      exact ⟨_, _, rfl⟩

/-- The slots of a description, made. -/
theorem mkRegs_append : ∀ {a b : List VD} {y : Dyn}, (mkRegs (a ++ b) y).1 = (mkRegs a y).1 ++ (mkRegs b (mkRegs a y).2).1 := by
  intro a
  induction a with
  | nil => intro b y; rfl
  | cons d a ih => intro b y; simp only [List.cons_append, mkRegs, ih]

theorem hold_rel {w : World} {ok : Nat → Prop} {bx : Bxs} {γ : Nat → Gh} {d : LD} {y y' : Dyn} {cv : Value} (h : LRel w ok bx γ (d.mk y).1 cv) : LRel w ok bx γ (d.hold.mk y').1 cv := by
  unfold LD.hold
  split
  · exact h
  · rename_i f cs
    split
    · rename_i hs
      obtain ⟨l, hl⟩ := Option.isSome_iff_exists.1 hs
      have e : ∀ {cs : List (Nat ⊕ Ty)} {l : List Nat}, inls cs = some l → (mkCaps cs y').1 = (mkCaps cs y).1 := by
        intro cs
        induction cs with
        | nil => intro l _; rfl
        | cons c cs ih =>
          intro l hl
          cases c with
          | inr t => simp [inls] at hl
          | inl c =>
            simp only [inls, Option.map_eq_some_iff] at hl
            obtain ⟨l', hl', _⟩ := hl
            simp only [mkCaps, ih hl']
      show LRel w ok bx γ (.clo f (mkCaps cs y').1) cv
      rw [e hl]
      exact h
    · trivial
  · trivial

theorem holdLs_rel {w : World} {ok : Nat → Prop} {bx : Bxs} {γ : Nat → Gh} : ∀ {ds : List LD} {y y' : Dyn} {cvs : List Value}, LsRel w ok bx γ (mkLs ds y).1 cvs → All2 (VRel w ok bx γ) (mkRegs (ds.map fun d => VD.one d.hold) y').1 cvs := by
  intro ds
  induction ds with
  | nil => intro y y' cvs h; cases h; exact .nil
  | cons d ds ih =>
    intro y y' cvs h
    cases h with
    | cons h1 h2 => exact .cons (hold_rel h1) (ih h2)

theorem cellsAt_eq {w : World} {bl : Nat} {cs : Array Value} {e : TypeId} {q : Nat × Nat} (h : w.heap[bl]? = some (.cells cs e q)) : cellsAt w (some ⟨bl, 0, none⟩) = cs.toList := by
  simp only [cellsAt, h]

theorem bxVDs_rel {w : World} {ok : Nat → Prop} {bx : Bxs} {γ : Nat → Gh} : ∀ {dbx : List (Nat × BD)} {y y' : Dyn}, (mkBx dbx y).map (·.1) = dbx.map (·.1) → (∀ p ∈ mkBx dbx y, BoxRel w ok bx γ p.1 p.2) → All2 (VRel w ok bx γ) (mkRegs (bxVDs dbx) y').1 (cvals w γ (mkBx dbx y)) := by
  intro dbx
  induction dbx with
  | nil => intro y y' _ _; exact .nil
  | cons p dbx ih =>
    intro y y' hm hr
    obtain ⟨b, bd⟩ := p
    cases bd with
    | row t =>
      simp only [mkBx] at hm hr ⊢
      split at hm <;> simp at hm
      simp only at hr ⊢
      exact ih hm fun p hp => hr p (List.mem_cons_of_mem _ hp)
    | mp t =>
      simp only [mkBx] at hm hr ⊢
      split at hm <;> simp at hm
      simp only at hr ⊢
      exact ih hm fun p hp => hr p (List.mem_cons_of_mem _ hp)
    | it t =>
      simp only [mkBx] at hm hr ⊢
      split at hm <;> simp at hm
      simp only at hr ⊢
      exact ih hm fun p hp => hr p (List.mem_cons_of_mem _ hp)
    | var ds =>
      simp only [mkBx, List.map_cons, List.cons.injEq, true_and] at hm
      simp only [mkBx] at hr ⊢
      obtain ⟨bl, cs, e, hA, _, hh, _, _, hl⟩ := hr _ List.mem_cons_self
      simp only [bxVDs, cvals]
      rw [mkRegs_append, hA, cellsAt_eq hh]
      exact (holdLs_rel hl).append (ih hm fun p hp => hr p (List.mem_cons_of_mem _ hp))

theorem holdL_rel {w : World} {ok : Nat → Prop} {bx : Bxs} {γ : Nat → Gh} {l : L} {cv : Value} (h : LRel w ok bx γ l cv) : LRel w ok bx γ l.hold cv := by
  unfold L.hold
  split
  · exact h
  · split
    · exact h
    · trivial
  · trivial

theorem holdL_all {w : World} {ok : Nat → Prop} {bx : Bxs} {γ : Nat → Gh} : ∀ {ls : List L} {cvs : List Value}, LsRel w ok bx γ ls cvs → All2 (VRel w ok bx γ) (ls.map fun l => V.w (.one l.hold)) cvs := by
  intro ls
  induction ls with
  | nil => intro cvs h; cases h; exact .nil
  | cons l ls ih => intro cvs h; cases h with
    | cons h1 h2 => exact .cons (holdL_rel h1) (ih h2)

theorem mkRegs_len : ∀ {ds : List VD} {y : Dyn}, (mkRegs ds y).1.length = ds.length := by
  intro ds
  induction ds with
  | nil => intro y; rfl
  | cons d ds ih => intro y; simp only [mkRegs, List.length_cons, ih]

theorem bxPins_rel {w : World} {ok : Nat → Prop} {bx : Bxs} {γ : Nat → Gh} : ∀ {bs : Bxs}, (∀ p ∈ bs, BoxRel w ok bx γ p.1 p.2) → All2 (VRel w ok bx γ) (bxPins bs) (cvals w γ bs) := by
  intro bs
  induction bs with
  | nil => intro _; exact .nil
  | cons p bs ih =>
    intro hr
    have ih := ih fun p hp => hr p (List.mem_cons_of_mem _ hp)
    obtain ⟨b, x⟩ := p
    cases x with
    | var ls =>
      obtain ⟨bl, cs, e, hA, _, hh, _, _, hl⟩ := hr _ List.mem_cons_self
      simp only [bxPins, cvals]
      rw [hA, cellsAt_eq hh]
      exact All2.append (holdL_all hl) ih
    | row t xs => exact ih
    | mp t m => exact ih
    | it t r c => exact ih
    | hole t xs i off l => exact ih

theorem mkRegs_pin {w w' : World} {ok ok' : Nat → Prop} {bx bx' : Bxs} {γ γ' : Nat → Gh} : ∀ {ds ps : List VD} {y z : Dyn} {vals : List Value} {b : Nat}, b ∈ pinVs ds ps →
    (∀ (i : Nat) (v : V), (mkRegs ds y).1[i]? = some v → VRel w ok bx γ v (vals.getD i undef)) → (∀ (i : Nat) (v : V), (mkRegs ps z).1[i]? = some v → VRel w' ok' bx' γ' v (vals.getD i undef)) →
    ∃ (h : L) (cv : Value), (h = .row b ∨ (∃ o, h = .ptr b o) ∨ h = .mrow b ∨ h = .it b) ∧ LRel w ok bx γ h cv ∧ LRel w' ok' bx' γ' h cv := by
  intro ds
  induction ds with
  | nil => intro ps y z vals b hb; simp [pinVs] at hb
  | cons d ds ih =>
    intro ps y z vals b hb h1 h2
    cases ps with
    | nil => cases d <;> simp [pinVs] at hb
    | cons p ps =>
      have a1 := h1 0 (d.mk y).1 rfl
      have a2 := h2 0 (p.mk z).1 rfl
      have rest : b ∈ pinVs ds ps → ∃ (h : L) (cv : Value), (h = .row b ∨ (∃ o, h = .ptr b o) ∨ h = .mrow b ∨ h = .it b) ∧ LRel w ok bx γ h cv ∧ LRel w' ok' bx' γ' h cv := fun hb =>
        ih (y := (d.mk y).2) (z := (p.mk z).2) (vals := vals.tail) hb (fun i v hv => by have := h1 (i + 1) v hv; cases vals <;> simpa using this) (fun i v hv => by have := h2 (i + 1) v hv; cases vals <;> simpa using this)
      cases d with
      | one l =>
        cases p with
        | one m =>
          simp only [pinVs, List.mem_append] at hb
          rcases hb with hb | hb
          · exact pin_rel hb a1 a2
          · exact rest hb
        | agg ms => simp only [pinVs] at hb; exact rest hb
      | agg ls =>
        cases p with
        | one m => simp only [pinVs] at hb; exact rest hb
        | agg ms =>
          simp only [pinVs, List.mem_append] at hb
          rcases hb with hb | hb
          · obtain ⟨_, cvs, e1, _, e2⟩ := a1
            obtain ⟨_, cvs', f1, _, f2⟩ := a2
            rw [e1] at f1
            simp at f1
            subst f1
            have go : ∀ {ls ms : List LD} {y z : Dyn} {cvs : List Value}, b ∈ pinLs ls ms → LsRel w ok bx γ (mkLs ls y).1 cvs → LsRel w' ok' bx' γ' (mkLs ms z).1 cvs →
                ∃ (h : L) (cv : Value), (h = .row b ∨ (∃ o, h = .ptr b o) ∨ h = .mrow b ∨ h = .it b) ∧ LRel w ok bx γ h cv ∧ LRel w' ok' bx' γ' h cv := by
              intro ls
              induction ls with
              | nil => intro ms y z cvs hb; simp [pinLs] at hb
              | cons l ls ihl =>
                intro ms y z cvs hb r1 r2
                cases ms with
                | nil => simp [pinLs] at hb
                | cons m ms =>
                  cases r1 with
                  | cons q1 t1 =>
                    cases r2 with
                    | cons q2 t2 =>
                      simp only [pinLs, List.mem_append] at hb
                      rcases hb with hb | hb
                      · exact pin_rel hb q1 q2
                      · exact ihl hb t1 t2
            exact go hb e2 f2
          · exact rest hb

end Go.Fl
/- A call, as a step. -/
namespace Go.Fl
open Go

theorem Box.like.trans {x y z : Box} (h : x.like y) (k : y.like z) : x.like z := by
  cases x with
  | var ls =>
    obtain ⟨ms, rfl, h1⟩ := h
    obtain ⟨ns, rfl, h2⟩ := k
    exact ⟨ns, rfl, by omega⟩
  | mp t m => obtain ⟨m', rfl⟩ := h; exact k
  | it t r c => obtain ⟨r', c', rfl⟩ := h; exact k
  | row t xs =>
    have h1 : y.hd = some (t, xs.length) := like_hd h rfl
    have h2 := like_hd k h1
    simp [Box.like, Box.hd] at *
    exact h2
  | hole t xs i o l =>
    have h1 : y.hd = some (t, xs.length) := like_hd h rfl
    have h2 := like_hd k h1
    simp [Box.like, Box.hd] at *
    exact h2

section
variable {P : Program} {w : World}

theorem run_callFunc {f : Nat} (h : Callable P f) (args : Array Value) : (callFunc f args).run P w = .ok (.enter f args) w := by
  obtain ⟨fn, h1, h2, h3⟩ := h
  have h3' : fn.body.isNone = false := h3
  unfold callFunc
  rw [Sem.run_bind]
  show (Result.ok P w : Result Program).andThen _ = _
  simp only [Result.andThen_ok, h1]
  rw [if_neg (by simp [h2]), if_neg (by simp [h3'])]
  rfl

theorem ex_call {o : Oper} {c : Call} {f : Operand} {g : Nat} {ρ : Operand → Value} {cvs : List Value} (ho : o.op = .call c) (hc : c.callee = .value f) (hf : ρ f = .func (.func g) #[] cvs.toArray) (hg : Callable P g) :
    (execOp ρ o).run P w = .ok (.enter g ((c.args.toList.map ρ) ++ cvs).toArray) w := by
  have h := run_callFunc (w := w) hg ((c.args.toList.map ρ) ++ cvs).toArray
  simp only [execOp, ho, resolve, hc, hf, Deferred.ofValue, Sem.run_bind, Sem.run_pure, Result.andThen_ok, invoke]
  have he : (#[] ++ Array.map ρ c.args ++ cvs.toArray : Array Value) = ((c.args.toList.map ρ) ++ cvs).toArray := by
    apply Array.ext'
    simp
  rw [he]
  exact h

theorem caps_vals {ok : Nat → Prop} {bx : Bxs} {γ : Nat → Gh} : ∀ {cs : List Cap} {cvs : List Value}, All2 (CapRel w ok bx γ) cs cvs → All2 (VRel w ok bx γ) (cs.map capV) cvs := by
  intro cs cvs h
  induction h with
  | nil => exact .nil
  | @cons c cv cs cvs h0 _ ih =>
    refine .cons ?_ ih
    cases c with
    | ptr b => exact h0
    | fpt t x => exact h0

theorem opvs_rel {w0 : World} {own0 : Ow} {s : S} {γ : Gam} {a : Act} (hst : StG w0 own0 s γ a w) : ∀ (xs : List Operand), All2 (VRel w (okOf w s.bx γ) s.bx γ) (xs.map s.opv) (xs.map a.eval) := by
  intro xs
  induction xs with
  | nil => exact .nil
  | cons x r ih => exact .cons (hst.opv x) ih

theorem vres {ok : Nat → Prop} {bx : Bxs} {γ : Nat → Gh} {v : V} {cv : Value} (h : VRel w ok bx γ v cv) : WRel w ok bx γ ((fun v : V => match v with | .w x => x | .tup _ => .one .un) v) cv := by
  cases v with
  | w x => exact h
  | tup xs => trivial

theorem resV_rel {ok : Nat → Prop} {bx : Bxs} {γ : Nat → Gh} {xs : List V} {vals : List Value} (h : All2 (VRel w ok bx γ) xs vals) : VRel w ok bx γ (resV xs) (retV vals) := by
  have gen : ∀ {xs : List V} {vals : List Value}, All2 (VRel w ok bx γ) xs vals → All2 (WRel w ok bx γ) (xs.map fun v => match v with | .w x => x | .tup _ => .one .un) vals := by
    intro xs vals h
    induction h with
    | nil => exact .nil
    | cons h0 _ ih => exact .cons (vres h0) ih
  cases h with
  | nil => exact ⟨[], rfl, .nil⟩
  | cons h0 ht =>
    cases ht with
    | nil => exact h0
    | cons h1 h2 => exact ⟨_, rfl, gen (.cons h0 (.cons h1 h2))⟩

theorem owned_filter_or {bx : Bxs} {γ : Nat → Gh} {io : List Nat} {n : Nat} (h : n ∈ owned bx γ) : n ∈ FsOf γ io ∨ n ∈ owned (bx.filter fun p => !io.contains p.1) γ := by
  obtain ⟨p, hp, hn⟩ := mem_owned_iff.1 h
  by_cases hm : p.1 ∈ io
  · exact .inl (mem_FsOf.2 ⟨p.1, hm, hn⟩)
  · exact .inr (mem_owned_iff.2 ⟨p, List.mem_filter.2 ⟨hp, by simpa using hm⟩, hn⟩)

/-- Boxes under other names. -/
theorem ren_find {bx : Bxs} {ρ : Nat → Nat} (h : ((bx.map (·.1)).map ρ).Nodup) {b : Nat} {x : Box} (hb : find bx b = some x) : find (bx.map fun p => (ρ p.1, p.2.ren ρ)) (ρ b) = some (x.ren ρ) := by
  refine find_of_mem ?_ (List.mem_map.2 ⟨(b, x), find_mem hb, rfl⟩)
  rw [List.map_map]
  rw [List.map_map] at h
  exact h

theorem sim_call {E : Env} {h : Hint} {o : Oper} {s : S} {c : Call} {f : Operand} {k : Con} {vs : List V} {site : Nat} {e : Ef} (ho : o.op = .call c) (hc : c.callee = .value f) (hk : callee E h s f c.args.toList = some (k, vs))
    (hspec : Spec P k) (hcan : (callE k h site s vs).can e) (heok : e.okB s.bx = true) : OpSim P o s (s.app o.dst e) := by
  intro w0 own0 a w ⟨γ, hst⟩ next Q hn
  unfold callee at hk
  split at hk
  case h_2 => cases hk
  rename_i g caps k' hf hcon
  split at hk
  case isFalse => cases hk
  rename_i hg
  cases hk
  subst hg
  have rf := hst.opv f
  rw [hf] at rf
  obtain ⟨cvs, hfv, hcv⟩ := rf
  have hvs : All2 (VRel w (okOf w s.bx γ) s.bx γ) (c.args.toList.map s.opv ++ caps.map capV) (c.args.toList.map a.eval ++ cvs) := (opvs_rel hst _).append (caps_vals hcv)
  generalize hvse : c.args.toList.map s.opv ++ caps.map capV = vs at *
  generalize hvale : c.args.toList.map a.eval ++ cvs = vals at *
  have hio0 : (k.din.bx.map fun p => sgOf h.sg p.1) = (k.din.bx.map (·.1)).map (sgOf h.sg) := by rw [List.map_map]; rfl
  simp only [callE, hio0] at hcan
  generalize hσ : sgOf h.sg = σ at *
  split at hcan
  case isFalse => exact hcan.elim
  rename_i hchk
  simp only [Bool.and_eq_true, beq_iff_eq] at hchk
  obtain ⟨hnd, hlen⟩ := hchk
  have hinj := nodupB_spec hnd
  obtain ⟨x, hx, hcan⟩ := hcan
  obtain ⟨out, hout, hcan⟩ := hcan
  obtain ⟨d, s1, hois, ⟨ex, hmem⟩, ⟨xo, hxo⟩, hcan⟩ := outTr_can hcan
  split at hcan
  case isFalse => exact hcan.elim
  rename_i hnd2
  simp only [Tr.can] at hcan
  -- the contract
  obtain ⟨hcall, hkok, hlaw⟩ := hspec
  have hkok0 := hkok
  simp only [Con.okB, Bool.and_eq_true, beq_iff_eq, List.all_eq_true] at hkok0
  obtain ⟨⟨⟨hdok, hdn⟩, hdp⟩, hall⟩ := hkok0
  obtain ⟨⟨hook, hon⟩, hpin⟩ := hall _ hmem
  have hks : (k.din.bx.map (·.1)).Nodup := by
    have := hdok
    simp only [Desc.okB, Bool.and_eq_true] at this
    exact nodupB_spec this.1.1.1
  have hids : (d.bx.map (·.1)).Nodup := by
    have := hook
    simp only [Desc.okB, Bool.and_eq_true] at this
    exact nodupB_spec this.1.1.1
  -- what it is handed
  have hm := argD_made hx hdok hinj
  let io := (k.din.bx.map (·.1)).map σ
  let hid0 := (if k.deep then owned (s.bx.filter fun p => !io.contains p.1) γ else []) ++ γ.hid
  have hhid0 : ∀ n ∈ hid0, n ∈ γ.hid ∨ (k.deep = true ∧ n ∈ owned (s.bx.filter fun p => !io.contains p.1) γ) := by
    intro n hn
    rcases List.mem_append.1 hn with hn | hn
    · split at hn
      · rename_i hd; exact .inr ⟨hd, hn⟩
      · simp at hn
    · exact .inl hn
  have hfound0 : ∀ c ∈ io, ∃ x, find s.bx c = some x := by
    intro c hc
    obtain ⟨b, hb, rfl⟩ := List.mem_map.1 hc
    have hb' : b ∈ (k.din.mk' x).bx.map (·.1) := by rw [hm.bxs]; exact hb
    obtain ⟨p, hp, rfl⟩ := List.mem_map.1 hb'
    obtain ⟨x, hx, _⟩ := hm.box p.1 p.2 hp
    exact ⟨x, hx⟩
  have hcase : ((if k.deep then [] else frOf s.bx io) = [] ∧ ∀ n ∈ hid0, n ∈ γ.hid ∨ (n ∈ owned s.bx γ ∧ n ∉ FsOf γ io)) ∨ ((if k.deep then [] else frOf s.bx io) = frOf s.bx io ∧ ∀ n ∈ hid0, n ∈ γ.hid) := by
    cases hd : k.deep with
    | true =>
      refine .inl ⟨rfl, fun n hn => (hhid0 n hn).imp id fun h => ⟨owned_filter_mem h.2, fun hm => ?_⟩⟩
      exact owned_split (q := fun p => io.contains p.1) hst.inv.apart (owned_contains hfound0 hm) h.2
    | false =>
      refine .inr ⟨rfl, fun n hn => (hhid0 n hn).resolve_right fun h => ?_⟩
      rw [hd] at h; cases h.1
  obtain ⟨hcut, hinv0, hown0, hfound⟩ := made_cut (hid0 := hid0) hst.inv (fun n hn => hst.hid_own hn) hm hks hinj hcase
  have hGo : ∀ n ∈ FsOf γ io, n ∈ owned s.bx γ := by
    intro n hn
    obtain ⟨d, hd, hnd⟩ := mem_FsOf.1 hn
    obtain ⟨y, hy⟩ := hfound d hd
    exact mem_owned hy hnd
  have hat : At w ⟨fun b => γ (σ b), hid0⟩ (k.din.mk' x) vals := by
    refine ⟨hinv0, ?_, fun n hn => ?_, hst.gk.1, fun n hn => ⟨(hst.gk.2 n hn).1, ?_⟩⟩
    · obtain ⟨rs, e1, e2, e3⟩ := hm.regs
      have hpad : k.din.n - rs.length = 0 := by omega
      rw [hpad, List.replicate_zero, List.append_nil] at e1
      rw [e1]
      refine all2_of_get (by rw [e2, hdn, ← hlen]; exact hvs.length) fun i hi hi' => ?_
      obtain ⟨v0, hv0, hwk⟩ := e3 i rs[i] (List.getElem?_eq_getElem hi')
      obtain ⟨cv, hcv, hrel⟩ := hvs.get i v0 hv0
      rw [List.getElem?_eq_getElem hi] at hcv
      cases hcv
      exact hwk.rel hcut hrel
    · show n < w.heap.size ∧ n ∉ owned (k.din.mk' x).bx (fun b => γ (σ b))
      rw [hown0]
      rcases hhid0 n hn with hn | ⟨_, hn⟩
      · exact ⟨hst.hid_lt hn, fun hm => hst.hid_own hn (hGo n hm)⟩
      · exact ⟨hst.inv.below n (owned_filter_mem hn), fun hm => owned_split (q := fun p => io.contains p.1) hst.inv.apart (owned_contains hfound hm) hn⟩
    · show n ∉ owned (k.din.mk' x).bx (fun b => γ (σ b))
      rw [hown0]
      exact fun hm => (hst.gk.2 n hn).2 (hGo n hm)
  have hcalls := hlaw x out hout w _ vals hat
  have hexec := ex_call (P := P) (w := w) ho hc hfv hcall
  rw [hvale] at hexec
  simp only [Oper.wp, hexec, Oper.upon]
  refine Calls.mono hcalls fun e' w' he => ?_
  cases e' with
  | panicked _ => exact he.elim
  | outgrown => exact he.elim
  | returned v =>
    simp only at he ⊢
    obtain ⟨γ1, vals', rfl, haft⟩ := he d s1 hois
    have hshape := mk_shape d xo
    rw [← hxo] at hshape
    have hfr1 : Fr (FsOf γ io) w w' := by have := haft.fr; rw [hown0] at this; exact this
    have hsub1 : ∀ n ∈ owned s1.bx γ1, n ∈ FsOf γ io ∨ w.heap.size ≤ n := by intro n hn; have := haft.sub n hn; rw [hown0] at this; exact this
    have hhid1 : γ1.hid = hid0 := haft.hid
    -- names
    let ρ := outN σ (k.din.bx.map (·.1)) site (d.bx.map (·.1))
    have hρn : ((s1.bx.map (·.1)).map ρ).Nodup := by
      rw [hshape.bxs, List.map_map]
      exact nodupB_spec hnd2
    let gg : Nat → Gh := fun c => γ1 (inv ρ (s1.bx.map (·.1)) c)
    have hgg : ∀ b x, find s1.bx b = some x → gg (ρ b) = γ1 b := by
      intro b x hb
      show γ1 (inv ρ (s1.bx.map (·.1)) (ρ b)) = _
      rw [inv_eq hρn b (List.mem_map.2 ⟨_, find_mem hb, rfl⟩)]
    let nb : Bxs := s1.bx.map fun p => (ρ p.1, p.2.ren ρ)
    have hnbf : ∀ c y, find nb c = some y → ∃ b x, c = ρ b ∧ find s1.bx b = some x ∧ y = x.ren ρ := by
      intro c y hcy
      obtain ⟨p, hp, he⟩ := List.mem_map.1 (find_mem hcy)
      cases he
      exact ⟨p.1, p.2, rfl, find_of_mem haft.inv.sites hp, rfl⟩
    have hnbo : owned nb gg = owned s1.bx γ1 := by
      unfold owned
      congr 1
      rw [List.map_map]
      refine List.map_congr_left fun p hp => ?_
      obtain ⟨x, hx⟩ := find_isSome hp
      show (gg (ρ p.1)).F = _
      rw [hgg _ x hx]
    let pn := (pinVs (k.din.regs ++ bxVDs k.din.bx) d.pins).map σ
    let dead := io.filter (fun b => !pn.contains b) ++ io.map nid
    have hev : e = { v := (resV s1.regs).ren ρ, nb := nb, D := io, dead := dead } := by
      rw [← hcan]
      simp only [backE, hio0]
      rfl
    subst hev
    obtain ⟨hsites, hnew⟩ := nodup_of_okB heok
    have hnew' : ∀ p ∈ nb, io.contains p.1 = true ∨ find s.bx p.1 = none := hnew
    have hokw : okOf w' (s.reb nb (io.contains ·) (dead.contains ·)).bx (over nb gg γ) = fun n => n < w'.heap.size ∧ n ∉ owned s1.bx γ1 ++ owned (s.bx.filter fun p => !io.contains p.1) γ ∧ n ∉ γ.hid := by
      funext n
      unfold okOf
      rw [reb_owned hnew', hnbo]
      rfl
    -- what is seen
    have hsee : (k.deep = true ∧ ∀ n, okOf w' s1.bx γ1 n → okOf w' (s.reb nb (io.contains ·) (dead.contains ·)).bx (over nb gg γ) n) ∨ d.deep = false := by
      cases hd : k.deep with
      | true =>
        refine .inl ⟨rfl, fun n hn => ?_⟩
        rw [hokw]
        have h3 : n ∉ owned (s.bx.filter fun p => !io.contains p.1) γ ++ γ.hid := by
          have := hn.2.2
          rw [hhid1] at this
          simpa only [hid0, hd, if_true] using this
        rw [List.mem_append, not_or] at h3
        exact ⟨hn.1, fun hm => (List.mem_append.1 hm).elim hn.2.1 h3.1, h3.2⟩
      | false =>
        refine .inr ?_
        simp only [Con.deep, List.any_eq_false] at hd
        simpa using hd _ hmem
    have hregs2 : All2 (VRel w' (okOf w' (s.reb nb (io.contains ·) (dead.contains ·)).bx (over nb gg γ)) s1.bx γ1) s1.regs vals' := by
      rcases hsee with ⟨_, h1⟩ | h1
      · exact haft.regs.imp fun v _ cv hr => VRel.mono (dead := noB) (fun _ _ => rfl) h1 (Pres.refl _ _ _ _) (fun _ _ => rfl) hr
      · exact haft.regs.imp fun v hv cv hr => VRel.okAny (List.all_eq_true.1 (hshape.sh h1).1 v hv) hr
    have hbox2 : ∀ b x, find s1.bx b = some x → BoxRel w' (okOf w' (s.reb nb (io.contains ·) (dead.contains ·)).bx (over nb gg γ)) s1.bx γ1 b x := by
      intro b x hb
      have hr := haft.inv.boxes b x hb
      rcases hsee with ⟨_, h1⟩ | h1
      · have := BoxRel.keepR (ρ := id) (dead := noB) (bx' := s1.bx) (γ' := γ1) (w' := w') (fun _ _ => rfl) h1 (Pres.refl _ _ _ _) (b := b) rfl (fun _ _ => rfl) (fun _ _ _ _ _ _ => rfl) (fun _ _ _ _ _ _ _ _ => rfl) hr
        have hid : x.ren id = x := by
          cases x <;> simp [Box.ren, L.ren_id, map_ren_id]
        rwa [hid] at this
      · exact BoxRel.okAny (List.all_eq_true.1 (hshape.sh h1).2.2 _ (find_mem hb)) hr
    have hpres : Pres ρ w' s1.bx γ1 w' (s.reb nb (io.contains ·) (dead.contains ·)).bx (over nb gg γ) noB := by
      intro b x _ hb
      have hf := ren_find hρn hb
      have hg : (over nb gg γ) (ρ b) = γ1 b := (over_new hf).trans (hgg b x hb)
      refine ⟨x.ren ρ, ?_, ren_hd ρ x, by rw [hg], fun _ => by rw [hg], fun _ => Hs.refl _ _ _⟩
      show find (nb ++ _) (ρ b) = _
      rw [find_append, hf]
      rfl
    have hreb := hst.reb (w' := w') (nb := nb) (D := (io.contains ·)) (dead := (dead.contains ·)) (g := gg)
      hfr1.os hfr1.tape hfr1.output hfr1.size (fun n hn hno => hfr1.block n hn fun hm => hno (owned_contains hfound hm)) hsites hnew' (by rw [hnbo]; exact haft.inv.apart)
      (fun n hn => by
        rw [hnbo] at hn
        exact ⟨haft.inv.below n hn, (hsub1 n hn).symm.imp id fun h => owned_contains hfound h⟩)
      (fun b z0 hb hD hz0 => by
        have hbi : b ∈ io := by simpa using hD
        have hbd : b ∉ dead := by simpa using hb
        have hbp : b ∈ pn := by
          cases hp : pn.contains b with
          | true => simpa using hp
          | false => exact absurd (List.mem_append_left _ (List.mem_filter.2 ⟨hbi, by rw [hp]; rfl⟩)) hbd
        obtain ⟨b0, hb0, rfl⟩ := List.mem_map.1 hbp
        have hpb := hpin b0 hb0
        split at hpb
        case h_2 => cases hpb
        rename_i bd bd' hbd1 hbd2
        obtain ⟨x0, hx0', hbx0⟩ := (mk_shape k.din x).box b0 bd hbd1
        obtain ⟨y0, hy0, hby0⟩ := hshape.box b0 bd' hbd2
        have hr1 : ∀ (i : Nat) (v : V), (mkRegs (k.din.regs ++ bxVDs k.din.bx) (ofTup k.din.ts x)).1[i]? = some v → VRel w (okOf w (k.din.mk' x).bx ⟨fun b => γ (σ b), hid0⟩) (k.din.mk' x).bx (fun b => γ (σ b)) v ((vals ++ cvals w (fun b => γ (σ b)) (k.din.mk' x).bx).getD i undef) := by
          intro i v hv
          have hrl : (mkRegs k.din.regs (ofTup k.din.ts x)).1.length = vals.length := by
            have h1 := hat.regs.length
            have h2 := (mk_shape k.din x).regs hdn
            rw [mkRegs_len, hdn, ← h2, h1]
          rw [mkRegs_append] at hv
          rcases Nat.lt_or_ge i (mkRegs k.din.regs (ofTup k.din.ts x)).1.length with hi | hi
          · rw [List.getElem?_append_left hi] at hv
            have : (k.din.mk' x).regs[i]? = some v := by
              show ((mkRegs k.din.regs (ofTup k.din.ts x)).1 ++ _)[i]? = _
              rw [List.getElem?_append_left hi]; exact hv
            obtain ⟨cv, hcv, hrel⟩ := hat.regs.get i v this
            have hcv' : (vals ++ cvals w (fun b => γ (σ b)) (k.din.mk' x).bx).getD i undef = cv := by
              rw [List.getD, List.getElem?_append_left (by omega), hcv]; rfl
            rw [hcv']
            exact hrel
          · rw [List.getElem?_append_right hi] at hv
            have hall2 := bxVDs_rel (w := w) (ok := okOf w (k.din.mk' x).bx ⟨fun b => γ (σ b), hid0⟩) (bx := (k.din.mk' x).bx) (γ := fun b => γ (σ b)) (dbx := k.din.bx)
              (y := (mkRegs k.din.pins (mkRegs k.din.regs (ofTup k.din.ts x)).2).2) (y' := (mkRegs k.din.regs (ofTup k.din.ts x)).2) (mk_shape k.din x).bxs
              (fun p hp => hat.inv.boxes p.1 p.2 (find_of_mem hat.inv.sites hp))
            obtain ⟨cv, hcv, hrel⟩ := hall2.get _ v hv
            have hcv' : (vals ++ cvals w (fun b => γ (σ b)) (k.din.mk' x).bx).getD i undef = cv := by
              rw [List.getD, List.getElem?_append_right (by omega), ← hrl]
              show (cvals w (fun b => γ (σ b)) (mkBx k.din.bx _))[_]?.getD undef = cv
              rw [hcv]; rfl
            rw [hcv']
            exact hrel
        have hr2 : ∀ (i : Nat) (v : V), (mkRegs d.pins (mkRegs d.regs (ofTup d.ts xo)).2).1[i]? = some v → VRel w' (okOf w' s1.bx γ1) s1.bx γ1 v ((vals ++ cvals w (fun b => γ (σ b)) (k.din.mk' x).bx).getD i undef) := by
          intro i v hv
          refine haft.pins i v ?_
          rw [hxo]
          exact hv
        obtain ⟨hh, cv, hcase, q1, q2⟩ := mkRegs_pin hb0 hr1 hr2
        obtain ⟨p1, p2, p3⟩ := pin_box hcase q1 q2 hx0' hy0 hbx0 hby0 hpb
        obtain ⟨z, hz, hwb⟩ := hm.box b0 x0 (find_mem hx0')
        rw [hz0] at hz
        cases hz
        have hρb : ρ b0 = σ b0 := by
          show outN σ (k.din.bx.map (·.1)) site (d.bx.map (·.1)) b0 = _
          have hb0m : b0 ∈ k.din.bx.map (·.1) := List.mem_map.2 ⟨(b0, bd), find_mem hbd1, rfl⟩
          have : (k.din.bx.map (·.1)).contains b0 = true := List.elem_eq_true_of_mem hb0m
          unfold outN
          rw [this]
          rfl
        have hf := ren_find hρn hy0
        rw [hρb] at hf
        have hg : gg (σ b0) = γ1 b0 := by rw [← hρb]; exact hgg b0 y0 hy0
        refine ⟨y0.ren ρ, hf, ?_, by rw [hg]; exact p2, fun hd => ?_, fun hnd => ?_⟩
        · exact (hwb.like.trans p1).trans (ren_hd ρ y0)
        · rw [hg]
          refine p3 ?_
          obtain ⟨q, hq⟩ := Option.isSome_iff_exists.1 hd
          have := like_hd (t := q.1) (n := q.2) hwb.like hq
          rw [this]
          rfl
        · have hdm : nid (σ b0) ∈ dead := List.mem_append_right (io.filter fun b => !pn.contains b) (List.mem_map.2 ⟨σ b0, hbi, rfl⟩)
          have hdc : dead.contains (nid (σ b0)) = true := by simpa using hdm
          change dead.contains (nid (σ b0)) = false at hnd
          rw [hdc] at hnd
          cases hnd)
      (fun _ _ _ c y hcy => by
        obtain ⟨b, x, rfl, hb, rfl⟩ := hnbf c y hcy
        have hg : (over nb gg γ) (ρ b) = γ1 b := (over_new hcy).trans (hgg b x hb)
        exact BoxRel.keepR (w' := w') (fun _ _ => rfl) (fun _ h => h) hpres hg (fun _ _ => rfl) (fun _ _ _ _ _ _ => rfl) (fun _ _ _ _ _ _ _ _ => rfl) (hbox2 b x hb))
    have hv : VRel w' (okOf w' (s.reb nb (io.contains ·) (dead.contains ·)).bx (over nb gg γ)) (s.reb nb (io.contains ·) (dead.contains ·)).bx (over nb gg γ) ((resV s1.regs).ren ρ) (retV vals') :=
      VRel.monoR (fun _ _ => rfl) (fun _ h => h) hpres (fun _ _ => rfl) (resV_rel hregs2)
    rw [app_eq] at hn
    exact hn _ _ ⟨_, hreb.1.put o.dst hv⟩
end
end Go.Fl
/- Every operation. -/
namespace Go.Fl
open Go

structure EnvOk (P : Program) (E : Env) : Prop where
  te : TyOk P E.te
  cs : ∀ k ∈ E.cs, Spec P k

/-! ### Pointers, held against nil -/

theorem run_equal_ptr {P : Program} {w : World} {T : TypeId} {a b : Option Addr} {E : Nat} (hu : P.underlying T = some (.pointer E)) (h : a = none ∨ b = none) : (Op.equal T (.pointer a) (.pointer b)).run P w = .ok (a.isNone && b.isNone) w := by
  have : ∀ d, (Op.equalIn (d + 1) T (.pointer a) (.pointer b)).run P w = .ok (a.isNone && b.isNone) w := by
    intro d
    rcases h with rfl | rfl
    · cases b <;> (simp only [Op.equalIn, Sem.run_bind, run_underlying hu, Result.andThen_ok]; rfl)
    · cases a <;> (simp only [Op.equalIn, Sem.run_bind, run_underlying hu, Result.andThen_ok]; rfl)
  exact this 9999

/-- What a pointer's handle looks like. -/
def L.ptrB : L → Option Bool
  | .pnil => some true
  | .ptr .. | .ept .. | .nept .. | .fpt .. => some false
  | _ => none

theorem LRel.ptrB {w : World} {ok : Nat → Prop} {bx : Bxs} {γ : Gam} {l : L} {cv : Value} {b : Bool} (h : LRel w ok bx γ l cv) (hb : l.ptrB = some b) : ∃ a : Option Addr, cv = .pointer a ∧ a.isNone = b := by
  cases l with
  | pnil => cases hb; exact ⟨none, h, rfl⟩
  | ptr b off => cases hb; obtain ⟨_, _, _, _, h⟩ := h; exact ⟨_, h, rfl⟩
  | ept b i off => cases hb; obtain ⟨_, _, _, _, _, _, _, _, h⟩ := h; exact ⟨_, h, rfl⟩
  | nept b i off j o => cases hb; obtain ⟨_, _, _, _, _, _, _, _, _, _, _, _, _, h⟩ := h; exact ⟨_, h, rfl⟩
  | fpt t x => cases hb; obtain ⟨_, _, h, _⟩ := h; exact ⟨_, h, rfl⟩
  | _ => cases hb

theorem ptrNil_some {op : BinOp} {l m : L} {v : V} (h : ptrNil op l m = some v) : ∃ p q, l.ptrB = some p ∧ m.ptrB = some q ∧ (p = true ∨ q = true) ∧ ((op = .eql ∧ v = vB (p && q)) ∨ (op = .neq ∧ v = vB (!(p && q)))) := by
  unfold ptrNil at h
  simp only [Option.bind_eq_some_iff] at h
  obtain ⟨c, hc, h⟩ := h
  have hop : (op = .eql ∧ v = vB c) ∨ (op = .neq ∧ v = vB (!c)) := by
    cases op <;> simp at h
    · exact .inl ⟨rfl, h.symm⟩
    · exact .inr ⟨rfl, h.symm⟩
  have key : ∃ p q, l.ptrB = some p ∧ m.ptrB = some q ∧ (p = true ∨ q = true) ∧ c = (p && q) := by
    cases l <;> cases m <;> simp at hc <;> subst hc <;> exact ⟨_, _, rfl, rfl, by simp, rfl⟩
  obtain ⟨p, q, h1, h2, h3, rfl⟩ := key
  exact ⟨p, q, h1, h2, h3, hop⟩

theorem sim_ptrNil {P : Program} {te : List (Nat × Ty)} {o : Oper} {s : S} {op : BinOp} {T T2 : Nat} {x y : Operand} {l m : L} {v : V} (hte : TyOk P te) (ho : o.op = .binOp op T x y T2) (ht : find te T = some (.hnd false))
    (hx : s.opv x = .w (.one l)) (hy : s.opv y = .w (.one m)) (h : ptrNil op l m = some v) : OpSim P o s (s.put o.dst v) := by
  refine OpSim.pureV fun w0 own0 γ a w hst => ?_
  have rx := hst.opv x
  have ry := hst.opv y
  rw [hx] at rx
  rw [hy] at ry
  obtain ⟨E, hu⟩ := (hte T _ ht).desc
  obtain ⟨p, q, h1, h2, h3, h4⟩ := ptrNil_some h
  obtain ⟨ax, ex, nx⟩ := LRel.ptrB rx h1
  obtain ⟨ay, ey, ny⟩ := LRel.ptrB ry h2
  have hn : ax = none ∨ ay = none := by
    rcases h3 with h3 | h3
    · left; cases ax with | none => rfl | some _ => subst nx; cases h3
    · right; cases ay with | none => rfl | some _ => subst ny; cases h3
  have he := run_equal_ptr (P := P) (w := w) (T := T) hu hn
  rw [nx, ny] at he
  rcases h4 with ⟨rfl, rfl⟩ | ⟨rfl, rfl⟩
  · exact ⟨_, run_bin ho ex ey (by rfl) (by simp only [binOp, Sem.run_bind, he, Result.andThen_ok]; rfl), rel_bool _⟩
  · exact ⟨_, run_bin ho ex ey (by rfl) (by simp only [binOp, Sem.run_bind, he, Result.andThen_ok]; rfl), rel_bool _⟩


theorem ba_eq {c : Call} {b : Builtin} {args : List Operand} {Ts : List Nat} (h1 : c.callee = .builtin b) (h2 : c.args.toList = args) (h3 : c.argTypes.toList = Ts) : c = { callee := .builtin b, args := args.toArray, argTypes := Ts.toArray } := by
  obtain ⟨cl, ar, ts⟩ := c
  simp only at h1 h2 h3
  subst h1 h2 h3
  simp

section
variable {P : Program}

theorem callee_mem {E : Env} {h : Hint} {s : S} {f : Operand} {args : List Operand} {k : Con} {vs : List V} (hk : callee E h s f args = some (k, vs)) : k ∈ E.cs := by
  unfold callee at hk
  split at hk
  · rename_i g caps k' hf hcon
    split at hk
    · cases hk; exact List.mem_of_getElem? hcon
    · cases hk
  · cases hk

theorem nvw_of {v : W} {p : Nat × Nat × Nat × Nat} (h : v.nvw? = some p) : ∃ lo, v = .one (.nvw p.1 p.2.1 p.2.2.1 lo p.2.2.2) := by
  unfold W.nvw? at h
  split at h
  · cases h; exact ⟨_, rfl⟩
  · cases h

theorem cutE_sim {E : Env} {o : Oper} {s : S} {T : Nat} {x y : Operand} {t te : Ty} {b i : Nat} {xs : List te.den} {v : W} {e : Ef} {p : Nat × Nat × Nat × Nat} (hE : EnvOk P E) (ho : o.op = .store T x y) (ht : find E.te T = some t)
    (hx : s.opv x = .w (.one (.ept b i 0))) (hy : s.opv y = .w v) (hb : find s.bx b = some (.row te xs)) (hv : v.nvw? = some p) (hc : (cutE te t b i xs p).can e) : OpSim P o s (s.app o.dst e) := by
  obtain ⟨lo, rfl⟩ := nvw_of hv
  obtain ⟨c, k, off', n⟩ := p
  unfold cutE at hc
  split at hc
  · split at hc
    · rename_i hcond
      obtain ⟨h1, h2, hsl⟩ := hcond
      simp only at h1 h2
      subst h1 h2
      split at hc
      · rename_i ys hget
        split at hc
        · rename_i z hset
          obtain ⟨hki, hc⟩ := tr_tst hc
          have hki' : k = i := by simpa using hki
          subst hki'
          cases hc
          exact sim_store_cut hE.te ho ht hx hy hb hsl hget hset
        · exact hc.elim
      · exact hc.elim
    · exact hc.elim
  · exact hc.elim

theorem store_sim {E : Env} {h : Hint} {site : Nat} {o : Oper} {s : S} {T : Nat} {x y : Operand} {t : Ty} {l : L} {v : W} {e : Ef} (hE : EnvOk P E) (ho : o.op = .store T x y) (ht : find E.te T = some t) (hx : s.opv x = .w (.one l)) (hy : s.opv y = .w v)
    (hc : (storeP h site s t v l).can e) (hok : e.okB s.bx = true) : OpSim P o s (s.app o.dst e) := by
  unfold storeP at hc
  split at hc
  · rename_i b off
    split at hc
    · rename_i ls hb
      simp only at hc
      split at hc
      · rename_i hl
        exact sim_store_ptr hE.te ho ht hx hy hb hl.1 hl.2.1 hl.2.2 hc.symm hok
      · exact hc.elim
    · exact hc.elim
  · rename_i b i off
    split at hc
    · rename_i te' xs hb
      split at hc
      · rename_i hte
        split at hc
        · rename_i ho0
          subst ho0
          split at hc
          · rename_i hv
            exact cutE_sim hE ho ht hx hy hb hv hc
          · split at hc
            · rename_i z ds hp
              split at hc
              · rename_i hnd
                cases hc
                exact sim_store_elem hte hE.te ho ht hx hy hb hp hnd
              · exact hc.elim
            · exact hc.elim
        · exact hc.elim
      · split at hc
        · rename_i h1
          split at hc
          · rename_i l
            split at hc
            · rename_i z hz
              cases hc
              exact sim_store_leaf hE.te ho ht hx hy hb h1 hz
            · split at hc
              · rename_i t' r _ _
                split at hc
                · rename_i tr ys hr
                  split at hc
                  · rename_i hcond
                    obtain ⟨rfl, hsl, hrb⟩ := hcond
                    split at hc
                    · rename_i z hset
                      cases hc
                      exact sim_store_row hE.te ho ht hx hy hb hr hsl hrb hset
                    · exact hc.elim
                  · exact hc.elim
                · exact hc.elim
              · rename_i t' _ _
                split at hc
                · rename_i hsl
                  split at hc
                  · rename_i z hset
                    cases hc
                    exact sim_store_nil hE.te ho ht hx hy hb hsl hset
                  · exact hc.elim
                · exact hc.elim
              · rename_i t' c k off' lo n _ _
                split at hc
                · rename_i hcond
                  obtain ⟨rfl, rfl, hsl⟩ := hcond
                  split at hc
                  · rename_i ys hget
                    split at hc
                    · rename_i z hset
                      obtain ⟨hki, hc⟩ := tr_tst hc
                      have hki' : k = i := by simpa using hki
                      subst hki'
                      cases hc
                      exact sim_store_cut hE.te ho ht hx hy hb hsl hget hset
                    · exact hc.elim
                  · exact hc.elim
                · exact hc.elim
              · exact hc.elim
          · exact hc.elim
        · exact hc.elim
    · rename_i te' xs k off' l' hb
      split at hc
      · rename_i t' r
        split at hc
        · rename_i tr ys hr
          split at hc
          · rename_i hcond
            obtain ⟨rfl, hsl, hrb, rfl⟩ := hcond
            split at hc
            · rename_i z hset
              obtain ⟨hki, hc⟩ := tr_tst hc
              have hki' : k = i := by simpa using hki
              subst hki'
              cases hc
              exact sim_store_hole hE.te ho ht hx hy hb hr hsl hrb hset
            · exact hc.elim
          · exact hc.elim
        · exact hc.elim
      · exact hc.elim
    · exact hc.elim
  · rename_i b i off j q
    split at hc
    · rename_i tb xs hb
      split at hc
      · rename_i te' hsl
        split at hc
        · rename_i ys hget
          split at hc
          · rename_i hno
            split at hc
            · rename_i u hu
              split at hc
              · rename_i z hset
                cases hc
                refine sim_store_nept hE.te ho ht hx hy hb hsl hget hno ?_ hset
                split at hu
                · rename_i hcond
                  simp only [Option.bind_eq_some_iff] at hu
                  obtain ⟨p, hp, hu⟩ := hu
                  split at hu
                  · rename_i hp2
                    cases hu
                    exact .inl ⟨hcond.1, hcond.2, by rw [hp]; obtain ⟨p1, p2⟩ := p; simp at hp2; subst hp2; rfl⟩
                  · cases hu
                · split at hu
                  · rename_i h1
                    split at hu
                    · rename_i l
                      exact .inr ⟨h1, l, rfl, hu⟩
                    · cases hu
                  · cases hu
              · exact hc.elim
            · exact hc.elim
          · exact hc.elim
        · exact hc.elim
      · exact hc.elim
    · exact hc.elim
  · exact hc.elim

theorem callB_sim {E : Env} {h : Hint} {site : Nat} {o : Oper} {s : S} {c : Call} {b : Builtin} {e : Ef} (hE : EnvOk P E) (ho : o.op = .call c) (hcal : c.callee = .builtin b)
    (hc : (callB E h site s b c.args.toList c.argTypes.toList).can e) (hok : e.okB s.bx = true) : OpSim P o s (s.app o.dst e) := by
  unfold callB at hc
  split at hc
  · rename_i x T r hx hT
    have ho' := ho
    rw [ba_eq hcal hx hT] at ho'
    split at hc
    · rename_i l hl
      split at hc
      · rename_i t ht
        split at hc
        · exact hc.elim
        · rename_i hlo
          have := Tr.ofOpt_can hc
          simp only [Option.map_eq_some_iff] at this
          obtain ⟨n, hn, rfl⟩ := this
          rw [app_put]
          exact sim_len ho' hE.te (by simp) ht (by simpa using hlo) hl hn
      · exact hc.elim
    · exact hc.elim
  · rename_i x T r hx hT
    have ho' := ho
    rw [ba_eq hcal hx hT] at ho'
    split at hc
    · rename_i t hl ht
      cases hc
      rw [app_put]
      exact sim_cap hE.te ho' (by simp) ht hl
    · exact hc.elim
  · rename_i x y T U hx hT
    have ho' := ho
    rw [ba_eq hcal hx hT] at ho'
    split at hc
    · rename_i t' hU
      split at hc
      · rename_i p hp
        exact sim_appendV hE.te ho' hU (vw_of hp) hc
      · exact sim_append hE.te ho' hU hc hok
    · rename_i hU
      exact sim_makeApp hE.te ho' hU hc hok
    · exact hc.elim
  · rename_i x y T U hx hT
    have ho' := ho
    rw [ba_eq hcal hx hT] at ho'
    split at hc
    · rename_i t' hU
      exact sim_copy hE.te ho' hU hc
    · exact hc.elim
  · rename_i x T hx hT
    have ho' := ho
    rw [ba_eq hcal hx hT] at ho'
    exact sim_clear hE.te ho' hc
  · rename_i x y hx
    have ho' := ho
    rw [ba_eq hcal hx rfl] at ho'
    split at hc
    · rename_i k p k' q hl hm
      split at hc
      · rename_i hk
        subst hk
        cases hc
        rw [app_put]
        exact sim_minmax (.inl rfl) ho' hl hm
      · exact hc.elim
    · exact hc.elim
  · rename_i x y hx
    have ho' := ho
    rw [ba_eq hcal hx rfl] at ho'
    split at hc
    · rename_i k p k' q hl hm
      split at hc
      · rename_i hk
        subst hk
        cases hc
        rw [app_put]
        exact sim_minmax (.inr rfl) ho' hl hm
      · exact hc.elim
    · exact hc.elim
  · exact hc.elim

theorem eOp_sim {E : Env} {h : Hint} {site : Nat} {o : Oper} {s : S} {e : Ef} (hE : EnvOk P E) (hc : (eOp E h site o s).can e) (hok : e.okB s.bx = true) : OpSim P o s (s.app o.dst e) := by
  obtain ⟨hnd, hfr⟩ := nodup_of_okB hok
  have fr1 : ∀ {x : Box} {r : Bxs}, e.nb = (site, x) :: r → e.D = [] → find s.bx site = none := fun {x _} he hD => by
    have := hfr (site, x) (by rw [he]; exact List.mem_cons_self ..)
    rw [hD] at this
    simpa using this
  unfold eOp at hc
  split at hc
  case h_1 x ho =>
    split at hc
    · exact sim_cutV (.inl ho) hc
    · cases hc; exact OpSim.pureN (fun w0 own0 γ a w hst => ⟨a.eval x, by simp [execOp, ho], hst.opv x⟩) hok
  case h_2 x ho =>
    split at hc
    · exact sim_cutV (.inr ho) hc
    · cases hc; exact OpSim.pureN (fun w0 own0 γ a w hst => ⟨a.eval x, by simp [execOp, ho], hst.opv x⟩) hok
  case h_3 c x y ho =>
    split at hc
    · rename_i v hv
      rcases hc with ⟨hb, hc⟩ | ⟨hb, hc⟩
      · cases hc; subst hb; rw [app_put]; have := sim_pick (P := P) ho hv; simpa using this
      · cases hc; subst hb; rw [app_put]; have := sim_pick (P := P) ho hv; simpa using this
    · exact hc.elim
  case h_4 T ho =>
    split at hc
    · rename_i t ht
      cases hc
      exact sim_alloc hE.te ho ht rfl hok
    · exact hc.elim
  case h_5 T x ho =>
    split at hc
    · rename_i t v ht hx
      split at hc
      · obtain ⟨y, hy, hc⟩ := hc
        cases hc
        rw [app_put]
        exact sim_box_fz ho hx hy
      · split at hc
        · rename_i hl
          cases hc
          exact sim_box_var ho hx (by intro e; rw [e] at hl; exact hl.2 hl.1.symm) rfl hok
        · exact hc.elim
    · exact hc.elim
  case h_6 T ps ho =>
    split at hc
    · rename_i t ht
      split at hc
      · exact hc.elim
      · rename_i h1
        have := Tr.ofOpt_can hc
        simp only [Option.map_eq_some_iff] at this
        obtain ⟨ls, hls, rfl⟩ := this
        exact sim_build hE.te ho ht (by simpa using h1) hls hok
    · exact hc.elim
  case h_7 T n ps ho =>
    split at hc
    · rename_i t ht
      split at hc
      · rename_i xs ds hxs
        split at hc
        · rename_i hn
          simp only [Bool.and_eq_true, beq_iff_eq, decide_eq_true_eq, Bool.not_eq_true'] at hn
          obtain ⟨⟨⟨n1, n2⟩, n3⟩, n4⟩ := hn
          cases hc
          refine sim_buildSlice (elT_or h _) hE.te ho ht hxs ?_ n1 n3 n4
          have := hfr (site, .row (elT h t) xs) (by simp)
          rcases this with h | h
          · rw [n2] at h; cases h
          · exact h
        · exact hc.elim
      · exact hc.elim
    · exact hc.elim
  case h_8 T x ho =>
    split at hc
    · rename_i t l ht hx
      have := Tr.ofOpt_can hc
      simp only [Option.map_eq_some_iff] at this
      obtain ⟨v, hv, rfl⟩ := this
      rw [app_put]
      exact sim_load hE.te ho ht hx hv
    · exact hc.elim
  case h_9 x ho =>
    split at hc
    · rename_i l hx
      split at hc
      · cases hc; rw [app_put]; exact sim_nil ho hx (.inl ⟨_, _, rfl⟩)
      · cases hc; rw [app_put]; exact sim_nil ho hx (.inr (.inl ⟨_, _, rfl⟩))
      · cases hc; rw [app_put]; exact sim_nil ho hx (.inr (.inr (.inl ⟨_, _, _, rfl⟩)))
      · cases hc; rw [app_put]; exact sim_nil ho hx (.inr (.inr (.inr ⟨_, _, _, _, _, rfl⟩)))
      · exact hc.elim
    · exact hc.elim
  case h_10 op T x y T2 ho =>
    split at hc
    · rename_i v hv
      cases hc
      rw [app_put]
      exact sim_eqW hE.te ho hv
    · split at hc
      · rename_i l m hx hy
        split at hc
        · rename_i ht
          have := Tr.ofOpt_can hc
          simp only [Option.map_eq_some_iff] at this
          obtain ⟨v, hv, rfl⟩ := this
          rw [app_put]
          exact sim_ptrNil hE.te ho ht hx hy hv
        · obtain ⟨v, hv, hc⟩ := Tr.bind_can hc
          cases hc
          rw [app_put]
          exact sim_bin ho hE.te hx hy hv
      · exact hc.elim
  case h_11 op T x ho =>
    split at hc
    · rename_i l hx
      have := Tr.ofOpt_can hc
      simp only [Option.map_eq_some_iff] at this
      obtain ⟨v, hv, rfl⟩ := this
      rw [app_put]
      exact sim_un ho hx hv
    · exact hc.elim
  case h_12 f first caps ho =>
    split at hc
    · rename_i hfi
      have := Tr.ofOpt_can hc
      simp only [Option.map_eq_some_iff] at this
      obtain ⟨cs, hcs, rfl⟩ := this
      rw [app_put]
      have hfe : first = #[] := by simpa using hfi
      subst hfe
      exact sim_makeFunc ho hcs
    · exact hc.elim
  case h_13 T l c ho =>
    split at hc
    · rename_i t k n ht hl
      split at hc
      · exact hc.elim
      · rename_i hb
        simp only [Bool.or_eq_true, Bool.not_eq_true', not_or, Bool.not_eq_false] at hb
        obtain ⟨h1, hc⟩ := tr_tst hc
        obtain ⟨h2, hc⟩ := tr_tst hc
        cases hc
        rw [re0_app]
        exact sim_makeSlice (elT_or h _) hE.te ho ht hl hb.1 hb.2 (fr1 rfl rfl) (by simpa using h1) (by simpa using h2)
    · exact hc.elim
  case h_14 T x k ho =>
    split at hc
    · rename_i t l ht hx
      have := Tr.ofOpt_can hc
      simp only [Option.map_eq_some_iff] at this
      obtain ⟨v, hv, rfl⟩ := this
      rw [app_put]
      exact sim_fieldAddr hE.te ho ht hx hv
    · exact hc.elim
  case h_15 T x k ho =>
    split at hc
    · rename_i t v ht hx
      have := Tr.ofOpt_can hc
      simp only [Option.map_eq_some_iff] at this
      obtain ⟨v', hv, rfl⟩ := this
      rw [app_put]
      exact sim_field hE.te ho ht hx hv
    · exact hc.elim
  case h_16 T x i ho =>
    split at hc
    · rename_i t l k n ht hx hi
      obtain ⟨l', hl', hc⟩ := Tr.bind_can hc
      cases hc
      rw [app_put]
      exact sim_indexAddr hE.te ho ht hx hi hl'
    · exact hc.elim
  case h_17 T x i ho =>
    split at hc
    · rename_i z k n ht hx hi
      obtain ⟨h1, hc⟩ := tr_tst hc
      obtain ⟨h2, hc⟩ := tr_tst hc
      cases hc
      rw [app_put]
      exact sim_index ho (hE.te T _ ht).desc hx hi (by simpa using h1) (by simpa using h2)
    · exact hc.elim
  case h_18 x k ho =>
    split at hc
    · rename_i xs hx
      have := Tr.ofOpt_can hc
      simp only [Option.map_eq_some_iff] at this
      obtain ⟨v, hv, rfl⟩ := this
      refine OpSim.pureN (fun w0 own0 γ a w hst => ?_) hok
      have rx := hst.opv x
      rw [hx] at rx
      obtain ⟨cvs, h1, h2⟩ := rx
      obtain ⟨c, hc, hr⟩ := All2.get h2 k v hv
      exact ⟨c, by simp [execOp, ho, h1, Instr.extract, hc], hr⟩
    · exact hc.elim
  case h_19 T x y ho =>
    split at hc
    · rename_i t l v ht hx hy
      exact store_sim hE ho ht hx hy hc hok
    · exact hc.elim
  case h_20 T x lo hi ho =>
    split at hc
    · rename_i p hp
      exact sim_sliceV hE.te ho (vw_of hp) hc
    · exact sim_slice hE.te ho hc
  case h_21 T x lo hi mx ho => exact sim_slice3 hE.te ho hc
  case h_22 T U x ho =>
    split at hc
    · rename_i k0 k k1 n ht hu hx
      cases hc
      rw [app_put]
      exact sim_convert hE.te ho ht hu hx
    · split at hc
      · rename_i ys ds hsrc
        cases hc
        rw [app_put]
        exact sim_bstr hE.te ho (by assumption) (by assumption) hsrc
      · exact hc.elim
    · exact hc.elim
  case h_23 T ho =>
    split at hc
    · rename_i t ht
      cases hc
      exact sim_makeMap ho (fr1 rfl rfl)
    · exact hc.elim
  case h_24 T x k c ho =>
    split at hc
    · rename_i t l n ht hx hk
      split at hc
      · rename_i m hm
        cases hc
        rw [app_put]
        exact sim_lookup hE.te ho ht hx hk hm
      · exact hc.elim
    · exact hc.elim
  case h_25 T x k y ho =>
    split at hc
    · rename_i t b n v ht hx hk hy
      split at hc
      · rename_i t' m z hb hz
        split at hc
        · rename_i z' hz'
          obtain ⟨rfl, rfl⟩ := castT_some hz'
          cases hc
          exact sim_mapUpdate hE.te ho ht hx hk hy hb hz
        · exact hc.elim
      · exact hc.elim
    · exact hc.elim
  case h_26 T x ho =>
    split at hc
    · rename_i t t' m ht hx
      split at hc
      · rename_i htt
        subst htt
        cases hc
        exact sim_range hE.te ho ht hx (fr1 rfl rfl)
      · exact hc.elim
    · exact hc.elim
  case h_27 x ho =>
    split at hc
    · rename_i b hx
      split at hc
      · rename_i t rest k y hb
        cases hc
        rw [app_put]
        exact sim_entry ho hx hb
      · exact hc.elim
    · exact hc.elim
  case h_28 c ho =>
    split at hc
    · rename_i b hcal
      exact callB_sim hE ho hcal hc hok
    · rename_i f hcal
      split at hc
      · rename_i k vs hk
        exact sim_call ho hcal hk (hE.cs k (callee_mem hk)) hc hok
      · exact hc.elim
    · exact hc.elim
  case h_29 => exact hc.elim

end
end Go.Fl
/- Ghost steps; every step. -/
namespace Go.Fl
open Go

theorem StG.setReg {w0 w : World} {own0 : Ow} {s : S} {γ : Gam} {a : Act} (h : StG w0 own0 s γ a w) {r : Nat} {v : V} (hv : VRel w (okOf w s.bx γ) s.bx γ v (a.tmps.getD r undef)) : StG w0 own0 (s.put (some r) v) γ a w := by
  refine ⟨h.inv, fun k u hk => ?_, by simp only [S.put, List.length_set]; exact h.len, h.pins, h.hid, h.hidb, h.fr, h.sub, h.defers⟩
  simp only [S.put, List.getElem?_set] at hk
  split at hk
  · rename_i he
    subst he
    split at hk
    · cases hk; exact hv
    · cases hk
  · exact h.regs k u hk

def Box.frz (fr : Bxs) : Box → Box
  | .var ls => .var (ls.map (·.frz fr))
  | x => x

section
variable {w w' : World} {ok ok' : Nat → Prop} {bx bx' fr : Bxs} {γ γ' : Gam} {dead : Nat → Bool}

theorem L.frz_cases (fr : Bxs) (l : L) : l.frz fr = l ∨ (∃ b te xs, l = .row b ∧ find fr b = some (.row te xs) ∧ ((∃ t, ∃ h : te = .fz t, l.frz fr = .val (.sl t) (show List (Ty.fz t).den from h ▸ xs)) ∨ l.frz fr = .val (.sl te) xs)) ∨
    ∃ b t m, l = .mrow b ∧ find fr b = some (.mp t m) ∧ l.frz fr = .val (.mp t) m := by
  cases l with
  | row b =>
    cases hb : find fr b with
    | none => exact .inl (by simp [L.frz, hb])
    | some x =>
      cases x with
      | row te xs =>
        refine .inr (.inl ⟨b, te, xs, rfl, hb, ?_⟩)
        cases te with
        | fz t => exact .inl ⟨t, rfl, by simp only [L.frz, hb]⟩
        | _ => exact .inr (by simp only [L.frz, hb])
      | _ => exact .inl (by simp [L.frz, hb])
  | mrow b =>
    cases hb : find fr b with
    | none => exact .inl (by simp [L.frz, hb])
    | some x =>
      cases x with
      | mp t m => exact .inr (.inr ⟨b, t, m, rfl, hb, by simp only [L.frz, hb]⟩)
      | _ => exact .inl (by simp [L.frz, hb])
  | _ => exact .inl rfl

/-- What a handle to a box that is let go becomes. -/
theorem LRel.frz (hok : ∀ n, ok n → ok' n) (hfr : Rdb w ok ok' fr bx γ) (hp : Pres id w bx γ w bx' γ dead) {l : L} {cv : Value} (h : LRel w ok bx γ l cv) : LRel w ok' bx' γ ((l.frz fr).kill dead) cv := by
  rcases L.frz_cases fr l with he | ⟨b, te, xs, rfl, hb, he⟩ | ⟨b, t, m, rfl, hb, he⟩
  · rw [he]
    exact LRel.kill (fun _ _ => rfl) hok hp h
  · have hrow : ∃ cs, Rdf w ok' (.sl te) xs cs ∧ cv = pack (.sl te) cs := by
      have hrd : rdL fr (.sl te) (.row b) = some (show (Ty.sl te).den from xs) := by simp [rdL, hb, castRow]
      exact rdL_rel hfr hok h hrd
    rcases he with ⟨t, hte, he⟩ | he
    · subst hte
      rw [he]
      exact hrow
    · rw [he]
      exact hrow
  · rw [he]
    have hrd : rdL fr (.mp t) (.mrow b) = some (show (Ty.mp t).den from m) := by simp [rdL, hb, castT]
    exact rdL_rel (t := .mp t) hfr hok h hrd

theorem L.frz_one (fr : Bxs) (l : L) (h : l.one = true) : (l.frz fr).one = true := by
  rcases L.frz_cases fr l with he | ⟨b, te, xs, rfl, hb, ⟨t, _, he⟩ | he⟩ | ⟨b, t, m, rfl, hb, he⟩ <;> rw [he]
  · exact h
  · rfl
  · rfl
  · rfl

theorem LsRel.frz (hok : ∀ n, ok n → ok' n) (hfr : Rdb w ok ok' fr bx γ) (hp : Pres id w bx γ w bx' γ dead) {ls : List L} {cvs : List Value} (h : LsRel w ok bx γ ls cvs) : LsRel w ok' bx' γ (ls.map fun l => (l.frz fr).kill dead) cvs := by
  unfold LsRel at *
  induction h with
  | nil => exact .nil
  | cons hc _ ih => exact .cons (LRel.frz hok hfr hp hc) ih

theorem WRel.frz (hok : ∀ n, ok n → ok' n) (hfr : Rdb w ok ok' fr bx γ) (hp : Pres id w bx γ w bx' γ dead) {x : W} {cv : Value} (h : WRel w ok bx γ x cv) : WRel w ok' bx' γ ((x.frz fr).kill dead) cv := by
  cases x with
  | one l => exact LRel.frz hok hfr hp h
  | agg ls =>
    obtain ⟨h0, cvs, h1, h2, h3⟩ := h
    refine ⟨fun l hl => ?_, cvs, h1, h2, ?_⟩
    · simp only [List.map_map, List.mem_map, Function.comp_apply] at hl
      obtain ⟨m, hm, rfl⟩ := hl
      exact L.kill_one _ _ (L.frz_one _ _ (h0 m hm))
    · have := LsRel.frz hok hfr hp h3
      show LsRel w ok' bx' γ ((ls.map (·.frz fr)).map (·.kill dead)) cvs
      rw [List.map_map]
      exact this

theorem VRel.frz (hok : ∀ n, ok n → ok' n) (hfr : Rdb w ok ok' fr bx γ) (hp : Pres id w bx γ w bx' γ dead) {v : V} {cv : Value} (h : VRel w ok bx γ v cv) : VRel w ok' bx' γ ((v.frz fr).kill dead) cv := by
  cases v with
  | w x => exact WRel.frz hok hfr hp h
  | tup xs =>
    obtain ⟨cvs, h1, h2⟩ := h
    refine ⟨cvs, h1, ?_⟩
    clear h1
    show All2 _ ((xs.map (·.frz fr)).map (·.kill dead)) cvs
    induction h2 with
    | nil => exact .nil
    | cons hc _ ih => exact .cons (WRel.frz hok hfr hp hc) ih

theorem BoxRel.frz (hok : ∀ n, ok n → ok' n) (hfr : Rdb w ok ok' fr bx γ) (hp : Pres id w bx γ w bx' γ dead) {b : Nat} {x : Box} (h : BoxRel w ok bx γ b x) : BoxRel w ok' bx' γ b ((x.frz fr).kill dead) := by
  cases x with
  | var ls =>
    obtain ⟨bl, cs, e, h1, h2, h3, h4, h5, h6⟩ := h
    refine ⟨bl, cs, e, h1, h2, h3, fun l hl => ?_, h5, ?_⟩
    · simp only [List.mem_map] at hl
      obtain ⟨m, ⟨k, hk, rfl⟩, rfl⟩ := hl
      exact L.kill_one _ _ (L.frz_one _ _ (h4 k hk))
    · have := LsRel.frz hok hfr hp h6
      show LsRel w ok' bx' γ ((ls.map (·.frz fr)).map (·.kill dead)) _
      rw [List.map_map]
      exact this
  | _ => exact BoxRel.kill (fun _ _ => rfl) hok hp rfl (fun _ _ => rfl) h
end

theorem frz_sim {s : S} {b : Nat} {x : Box} (hb : find s.bx b = some x) {w0 w : World} {own0 : Ow} {a : Act} (h : St w0 own0 s a w) : St w0 own0 (s.frz b) a w := by
  obtain ⟨γ, hst⟩ := h
  let fr := s.bx.filter fun p => p.1 == b
  let dead : Nat → Bool := fun k => k == b || k == nid b
  have hbx : (s.frz b).bx = ((s.bx.map fun p => (p.1, p.2.frz fr)).filter fun p => !(p.1 == b)).map fun p => (p.1, p.2.kill dead) := by
    show [] ++ ((s.bx.map _).filter _).map _ = _
    rw [List.nil_append]
    congr 2
  have hfind : ∀ k, find (s.frz b).bx k = if k == b then none else (find s.bx k).map fun x => (x.frz fr).kill dead := by
    intro k
    rw [hbx, find_filter_map (· == b) (fun x : Box => x.kill dead)]
    have : find (s.bx.map fun p => (p.1, p.2.frz fr)) k = (find s.bx k).map (·.frz fr) := by
      have := find_filter_map (fun _ => false) (fun x : Box => x.frz fr) s.bx k
      have hft : s.bx.filter (fun _ => !false) = s.bx := List.filter_eq_self.2 fun _ _ => rfl
      rw [hft] at this
      exact this
    rw [this]
    split
    · rfl
    · rw [Option.map_map]; rfl
  have hown : owned (s.frz b).bx γ = owned (s.bx.filter fun p => !(p.1 == b)) γ := by
    rw [hbx, owned_map (fun x : Box => x.kill dead)]
    have : (s.bx.map fun p => (p.1, p.2.frz fr)).filter (fun p => !(p.1 == b)) = (s.bx.filter fun p => !(p.1 == b)).map fun p => (p.1, p.2.frz fr) := by
      rw [List.filter_map]; rfl
    rw [this, owned_map (fun x : Box => x.frz fr)]
  have hsub : ∀ n ∈ owned (s.frz b).bx γ, n ∈ owned s.bx γ := fun n hn => by rw [hown] at hn; exact owned_filter_mem hn
  have hok : ∀ n, okOf w s.bx γ n → okOf w (s.frz b).bx γ n := fun n hn => ⟨hn.1, fun hm => hn.2.1 (hsub n hm), hn.2.2⟩
  have hlike : ∀ x : Box, x.like ((x.frz fr).kill dead) := by
    intro x
    refine Box.like.trans (y := x.frz fr) ?_ (Box.like_kill dead _)
    cases x <;> simp [Box.like, Box.frz, Box.hd]
  have hp : Pres id w s.bx γ w (s.frz b).bx γ dead := by
    intro k x hd hx
    have hkb : (k == b) = false := by simp only [dead, Bool.or_eq_false_iff] at hd; exact hd.1
    refine ⟨_, ?_, hlike x, rfl, fun _ => rfl, fun _ => Hs.refl _ _ _⟩
    show find (s.frz b).bx k = _
    rw [hfind, hkb, hx]
    rfl
  have hfrb : ∀ k x, find fr k = some x → k = b ∧ find s.bx k = some x := by
    intro k x hk
    have hm := find_mem hk
    obtain ⟨h1, h2⟩ := List.mem_filter.1 hm
    exact ⟨by simpa using h2, find_of_mem hst.inv.sites h1⟩
  have hrdb : Rdb w (okOf w s.bx γ) (okOf w (s.frz b).bx γ) fr s.bx γ := by
    refine ⟨fun k x h => (hfrb k x h).2, fun k x h => hst.inv.boxes k x (hfrb k x h).2, fun k x h n hn => ?_⟩
    obtain ⟨rfl, h2⟩ := hfrb k x h
    have hno := mem_owned h2 hn
    refine ⟨hst.inv.below n hno, fun hm => ?_, fun hm => hst.hid_own hm hno⟩
    rw [hown] at hm
    exact owned_split (q := fun p => p.1 == k) hst.inv.apart (mem_owned_iff.2 ⟨(k, x), List.mem_filter.2 ⟨find_mem h2, by simp⟩, hn⟩) hm
  have hregs : ∀ (vs : List V) (r : Nat) (v : V), ((vs.map (·.frz fr)).map (·.kill dead))[r]? = some v → ∃ u, vs[r]? = some u ∧ v = (u.frz fr).kill dead := by
    intro vs r v h
    rw [List.map_map, List.getElem?_map] at h
    obtain ⟨u, hu, rfl⟩ := Option.map_eq_some_iff.1 h
    exact ⟨u, hu, rfl⟩
  refine ⟨γ, ⟨?_, ?_, ?_, fun k y hk => ?_⟩, fun r v hr => ?_, ?_, fun r v hr => ?_, hst.hid, hst.hidb, hst.fr, fun n hn => hst.sub n (hsub n hn), hst.defers⟩
  · have e1 : (s.frz b).bx.map (·.1) = (s.bx.filter fun p => !(p.1 == b)).map (·.1) := by
      rw [hbx, List.map_map, List.filter_map, List.map_map]; rfl
    rw [e1]
    exact List.Sublist.nodup (List.filter_sublist.map _) hst.inv.sites
  · rw [hown]; exact owned_filter_nodup _ hst.inv.apart
  · intro n hn; exact hst.inv.below n (hsub n hn)
  · rw [hfind] at hk
    split at hk
    · cases hk
    · obtain ⟨x, hx, rfl⟩ := Option.map_eq_some_iff.1 hk
      exact BoxRel.frz hok hrdb hp (hst.inv.boxes k x hx)
  · obtain ⟨u, hu, rfl⟩ := hregs s.regs r v hr
    exact VRel.frz hok hrdb hp (hst.regs r u hu)
  · show ((s.regs.map _).map _).length ≤ _
    rw [List.length_map, List.length_map]
    exact hst.len
  · obtain ⟨u, hu, rfl⟩ := hregs s.pins r v hr
    exact VRel.frz hok hrdb hp (hst.pins r u hu)

section
variable {P : Program}

theorem gs_sim {s s' : S} {g : Gs} (hg : gs1 s g = some s') {w0 w : World} {own0 : Ow} {a : Act} (h : St w0 own0 s a w) : St w0 own0 s' a w := by
  cases g with
  | drop b =>
    obtain ⟨γ, hst⟩ := h
    cases hg
    exact ⟨_, (hst.reb (w' := w) (nb := []) (D := (· == b)) (dead := fun k => k == b || k == nid b) (g := γ) rfl rfl rfl (Nat.le_refl _) (fun _ _ _ => rfl) (by simp) (fun p hp => by simp at hp) (by simp [owned]) (fun n hn => by simp [owned] at hn)
      (fun k x hd hD _ => by simp only [Bool.or_eq_false_iff] at hd; rw [hd.1] at hD; cases hD) (fun _ _ _ k x hk => by simp [find] at hk)).1⟩
  | freeze b =>
    simp only [gs1] at hg
    split at hg
    · rename_i hb; cases hg; exact frz_sim hb h
    · rename_i hb; cases hg; exact frz_sim hb h
    · cases hg
  | take r site =>
    obtain ⟨γ, hst⟩ := h
    simp only [gs1] at hg
    split at hg
    · rename_i b i off hr
      split at hg
      · rename_i tb xs hb
        split at hg
        · rename_i te hsl
          split at hg
          · rename_i ys hget
            split at hg
            · cases hg
            · rename_i hs
              cases hg
              simp only [Bool.or_eq_true, not_or, Bool.not_eq_true, Option.isSome_eq_false_iff, Option.isNone_iff_eq_none, beq_eq_false_iff_ne] at hs
              obtain ⟨⟨hsn, hsb⟩, hsnid⟩ := hs
              have hrel := hst.get r
              rw [hr] at hrel
              have hbox : OwnG w tb.sz (Rdo w (okOf w s.bx γ) tb) xs (γ b).A (γ b).c (γ b).F := hst.inv.boxes b _ hb
              have hnest : NestAt w s.bx γ b i off (a.tmps.getD r undef) := hrel
              have hone : (a.tmps.getD r undef).oneCell' = true := by
                obtain ⟨_, _, _, _, _, _, _, _, _, _, _, h7⟩ := hnest; exact h7
              obtain ⟨hi', A1, c1, F1, G, hval, hole, hown, hperm, _, _⟩ := nest_row hbox hnest hb hget
              have hndF := hperm.nodup_iff.1 (box_nodup hst.inv.apart hb)
              have hndF' := List.nodup_append.1 hndF
              have hmem : ∀ n, n ∈ F1 ++ G → n ∈ (γ b).F := fun n hn => hperm.mem_iff.2 hn
              let nb : Bxs := [(b, .hole tb xs i off (.row site)), (site, .row te ys)]
              let g : Nat → Gh := fun k => if k = b then { γ b with F := G } else ⟨A1, c1, F1⟩
              have hf1 : find nb b = some (.hole tb xs i off (.row site)) := by simp [nb, find]
              have hf2 : find nb site = some (.row te ys) := by show find (_ :: _) site = _; rw [find_cons, if_neg (Ne.symm hsb), find_cons, if_pos rfl]
              have hg1 : g b = { γ b with F := G } := by simp [g]
              have hg2 : g site = ⟨A1, c1, F1⟩ := by simp [g, hsb]
              have hownN : owned nb g = G ++ F1 := by simp [nb, owned, hg1, hg2]
              have hown0 : ∀ n, n ∈ (γ b).F → n ∈ owned (s.bx.filter fun p => p.1 == b) γ := fun n hn => mem_owned_iff.2 ⟨(b, _), List.mem_filter.2 ⟨find_mem hb, by simp⟩, hn⟩
              have hst' := hst.reb (w' := w) (nb := nb) (D := (· == b)) (dead := (· == nid b)) (g := g) rfl rfl rfl (Nat.le_refl _) (fun _ _ _ => rfl) (by simpa [nb] using Ne.symm hsb) (fun p hp => by
                  simp [nb] at hp
                  rcases hp with rfl | rfl
                  · exact .inl (by simp)
                  · exact .inr hsn) (by
                  rw [hownN]
                  exact List.nodup_append.2 ⟨hndF'.2.1, hndF'.1, fun n hn m hm e => hndF'.2.2 m hm n hn e.symm⟩) (by
                  rw [hownN]
                  intro n hn
                  have hn' : n ∈ F1 ++ G := by rcases List.mem_append.1 hn with h | h <;> simp [h]
                  exact ⟨hst.inv.below n (mem_owned hb (hmem n hn')), .inr (hown0 n (hmem n hn'))⟩)
                (fun k x0 _ hk hx0 => by
                  have hkr : k = b := by simpa using hk
                  subst hkr
                  rw [hb] at hx0
                  cases hx0
                  refine ⟨_, hf1, by simp [Box.like, Box.hd], by rw [hg1], fun _ => by rw [hg1], fun hd => by simp at hd⟩)
                (fun hok' hwk hp k x0 hk => by
                  by_cases hkr : k = b
                  · subst hkr
                    rw [hf1] at hk
                    cases hk
                    have hgs : over nb g γ k = { γ k with F := G } := by rw [over_new hf1]; exact hg1
                    refine ⟨a.tmps.getD r undef, ?_, ⟨.row te ys, te, ys.length, ?_, rfl, ?_⟩, hone, rfl⟩
                    · rw [hgs]
                      exact hole.mono (fun n hn => ⟨hok' n hn, hwk n hn⟩) (fun _ _ => rfl)
                    · show find (nb ++ _) site = _
                      rw [find_append, hf2]; rfl
                    · have : (over nb g γ) site = ⟨A1, c1, F1⟩ := by rw [over_new hf2]; exact hg2
                      rw [this]
                      exact hval
                  · have hks : k = site := by
                      have := find_mem hk
                      simp [nb] at this
                      rcases this with ⟨h, _⟩ | ⟨h, _⟩
                      · exact absurd h hkr
                      · exact h
                    subst hks
                    rw [hf2] at hk
                    cases hk
                    have hgs : over nb g γ k = ⟨A1, c1, F1⟩ := by rw [over_new hf2]; exact hg2
                    simp only [BoxRel, hgs]
                    exact OwnG.mono (fun n hn => ⟨hok' n hn, hwk n hn⟩) (fun _ _ => rfl) hown)
              refine ⟨_, hst'.1.setReg ⟨.row te ys, te, ys.length, ?_, rfl, ?_⟩⟩
              · show find (nb ++ _) site = _
                rw [find_append, hf2]; rfl
              · have : (over nb g γ) site = ⟨A1, c1, F1⟩ := by rw [over_new hf2]; exact hg2
                rw [this]
                exact hval
          · cases hg
        · cases hg
      · cases hg
    · cases hg
  | give site b =>
    obtain ⟨γ, hst⟩ := h
    simp only [gs1] at hg
    split at hg
    · rename_i tb xs i off c te ys hb hsite
      split at hg
      · rename_i hcond
        obtain ⟨rfl, hsl, hsb⟩ := hcond
        split at hg
        · rename_i y hset
          cases hg
          obtain ⟨cv, hole, ⟨x2, t2, n2, hb2, hd2, hcv⟩, hone, _⟩ := hst.inv.boxes b _ hb
          rw [hsite] at hb2
          cases hb2
          simp [Box.hd] at hd2
          obtain ⟨rfl, rfl⟩ := hd2
          have hrow : OwnG w te.sz (Rdo w (okOf w s.bx γ) te) ys (γ c).A (γ c).c (γ c).F := hst.inv.boxes c _ hsite
          rw [hcv] at hole
          obtain ⟨hi, y', F2, e1, e2, e3⟩ := hole.give hsl hrow
          have hgd : xs.getD i tb.zero = xs[i] := by simp [List.getD, hi]
          rw [hgd, e1] at hset
          cases hset
          have hFs : FsOf γ [c] = (γ c).F := by simp [FsOf]
          obtain ⟨γ', hst'⟩ := hst.turn (w' := w) (b := b) (y := .row tb (xs.set i y)) (ds := [c]) (dead := [c, nid c, nid b]) (F' := F2) hb (by simp [Box.like, Box.hd]) (by simpa using ⟨_, hsite⟩) (by simp) rfl rfl rfl rfl (fun _ _ _ => rfl)
            (e3.nodup_iff.2 (List.nodup_append.2 ⟨box_nodup hst.inv.apart hsite, box_nodup hst.inv.apart hb, fun n hn m hm e => by subst e; exact apart_two hst.inv.apart hsite hb hsb hn hm⟩))
            (fun n hn => by rw [hFs]; rcases List.mem_append.1 (e3.mem_iff.1 hn) with h | h; exact .inr h; exact .inl h)
            (fun hd => by simp at hd)
            (fun ok' bx' γ' h1 _ _ hg => by
              simp only [BoxRel, hg]
              exact OwnG.mono (OkTo.of (fun _ _ => rfl) h1) (fun _ _ => rfl) e2)
          have e4 : (fun k => (b :: [c]).contains k) = fun k => k == b || k == c := by
            funext k
            exact Bool.eq_iff_iff.2 (by simp)
          have e5 : (fun k => [c, nid c, nid b].contains k) = fun k => k == c || k == nid c || k == nid b := by
            funext k
            exact Bool.eq_iff_iff.2 (by simp [or_assoc])
          rw [e4, e5] at hst'
          exact ⟨γ', hst'⟩
        · cases hg
      · cases hg
    · cases hg

theorem gsAll_sim : ∀ {gs : List Gs} {s s' : S}, gsAll gs s = some s' → ∀ {w0 w : World} {own0 : Ow} {a : Act}, St w0 own0 s a w → St w0 own0 s' a w := by
  intro gs
  induction gs with
  | nil => intro s s' h; simp [gsAll] at h; subst h; exact fun h => h
  | cons g r ih =>
    intro s s' h w0 w own0 a hst
    simp only [gsAll, Option.bind_eq_some_iff] at h
    obtain ⟨s1, h1, h2⟩ := h
    exact ih h2 (gs_sim h1 hst)

theorem stepE_sim {E : Env} {h : Hint} {site : Nat} {o : Oper} {s s' : S} (hE : EnvOk P E) (hc : (stepE E h site o s).can s') : OpSim P o s s' := by
  unfold stepE at hc
  split at hc
  · rename_i c x y ho
    split at hc
    · rename_i v hv
      rcases hc with ⟨hb, hc⟩ | ⟨hb, hc⟩
      · cases hc
        subst hb
        rw [setB_eq hv]
        have := sim_pick (P := P) ho hv
        simpa using this
      · cases hc
        subst hb
        rw [setB_eq hv]
        have := sim_pick (P := P) ho hv
        simpa using this
    · exact hc.elim
  · obtain ⟨e, he, hc⟩ := Tr.bind_can hc
    split at hc
    · rename_i hok
      cases hc
      exact eOp_sim hE he hok
    · exact hc.elim

theorem stepG_sim {E : Env} {h : Hint} {site : Nat} {o : Oper} {s s' : S} (hE : EnvOk P E) (hc : (stepG E h site o s).can s') : OpSim P o s s' := by
  unfold stepG at hc
  split at hc
  · exact stepE_sim hE hc
  · obtain ⟨s1, h1, hc⟩ := Tr.bind_can hc
    obtain ⟨s2, h2, hc⟩ := Tr.bind_can hc
    have h1' := Tr.ofOpt_can h1
    have h3' := Tr.ofOpt_can hc
    intro w0 own0 a w hst next Q hn
    exact stepE_sim hE h2 w0 own0 a w (gsAll_sim h1' hst) next Q fun a' w' h' => hn a' w' (gsAll_sim h3' h')

end
end Go.Fl
/- Regions whose order is drawn: effects, in whatever order. -/
namespace Go.Fl
open Go

/-! ### The order of boxes does not matter -/

theorem find_perm {α : Type} {xs ys : List (Nat × α)} (hp : xs.Perm ys) (hn : (xs.map (·.1)).Nodup) (b : Nat) : find ys b = find xs b := by
  have hn' : (ys.map (·.1)).Nodup := (hp.map _).nodup_iff.1 hn
  cases h : find xs b with
  | some x => exact find_of_mem hn' (hp.mem_iff.1 (find_mem h))
  | none =>
    cases h' : find ys b with
    | none => rfl
    | some y =>
      exact absurd rfl (find_none h _ (hp.mem_iff.2 (find_mem h')))

def Eqv (s s' : S) : Prop := s.regs = s'.regs ∧ s.bx.Perm s'.bx ∧ s.pins = s'.pins

theorem Eqv.refl (s : S) : Eqv s s := ⟨rfl, .refl _, rfl⟩
theorem Eqv.trans {a b c : S} (h : Eqv a b) (k : Eqv b c) : Eqv a c := ⟨h.1.trans k.1, h.2.1.trans k.2.1, h.2.2.trans k.2.2⟩
theorem Eqv.symm {a b : S} (h : Eqv a b) : Eqv b a := ⟨h.1.symm, h.2.1.symm, h.2.2.symm⟩

theorem owned_perm {xs ys : Bxs} {γ : Nat → Gh} (h : xs.Perm ys) : (owned xs γ).Perm (owned ys γ) := (h.map _).flatten

theorem ren_idB (x : Box) : x.ren id = x := by
  cases x <;> simp [Box.ren, L.ren_id, map_ren_id]

theorem StG.perm {w0 w : World} {own0 : Ow} {s s' : S} {γ : Gam} {a : Act} (h : StG w0 own0 s γ a w) (he : Eqv s s') : StG w0 own0 s' γ a w := by
  obtain ⟨hr, hb, hpn⟩ := he
  have hf : ∀ b, find s'.bx b = find s.bx b := find_perm hb h.inv.sites
  have ho : ∀ n, n ∈ owned s'.bx γ ↔ n ∈ owned s.bx γ := fun n => (owned_perm hb).mem_iff.symm
  have hok : ∀ n, okOf w s.bx γ n → okOf w s'.bx γ n := fun n hn => ⟨hn.1, fun hm => hn.2.1 ((ho n).1 hm), hn.2.2⟩
  have hp : Pres id w s.bx γ w s'.bx γ noB := fun b x _ hx => ⟨x, (hf b).trans hx, Box.like.refl x, rfl, fun _ => rfl, fun _ => Hs.refl _ _ _⟩
  have := h.step (γ' := γ) (w' := w) (bx' := s'.bx) (dead := noB) (regs' := s.regs) rfl rfl rfl rfl (Nat.le_refl _) (fun n _ hn => ⟨rfl, fun hm => hn ((ho n).1 hm)⟩)
    ⟨(hb.map _).nodup_iff.1 h.inv.sites, (owned_perm hb).nodup_iff.1 h.inv.apart, fun n hn => h.inv.below n ((ho n).1 hn), fun b x hx => by
      rw [hf] at hx
      have := BoxRel.keepR (fun _ _ => rfl) hok hp (b := b) rfl (fun _ _ => rfl) (fun _ _ _ _ _ _ => rfl) (fun _ _ _ _ _ _ _ _ => rfl) (h.inv.boxes b x hx)
      rwa [ren_idB] at this⟩
    (fun n hn => .inl ((ho n).1 hn)) hp (fun r v hv => .inr (.inl ⟨hv, fun _ _ => rfl⟩)) (Nat.le_refl _) (pins' := s.pins) (fun r v hv => .inr (.inl ⟨hv, fun _ _ => rfl⟩))
  rw [hr, hpn] at this
  exact this

theorem St.perm {w0 w : World} {own0 : Ow} {s s' : S} {a : Act} (h : St w0 own0 s a w) (he : Eqv s s') : St w0 own0 s' a w := let ⟨γ, h⟩ := h; ⟨γ, h.perm he⟩

theorem St.drawn {w0 w : World} {own0 : Ow} {s : S} {a : Act} (k : Nat) (h : St w0 own0 s a w) : St w0 own0 s a { w with drawn := k } := by
  obtain ⟨γ, h⟩ := h
  have hok : ∀ n, okOf w s.bx γ n → okOf { w with drawn := k } s.bx γ n := fun n hn => hn
  have hp : Pres id w s.bx γ { w with drawn := k } s.bx γ noB := fun b x _ hx => ⟨x, hx, Box.like.refl x, rfl, fun _ => rfl, fun _ _ _ _ _ _ _ _ _ _ _ => rfl⟩
  exact ⟨γ, h.step (γ' := γ) (w' := { w with drawn := k }) (bx' := s.bx) (dead := noB) (regs' := s.regs) rfl rfl rfl rfl (Nat.le_refl _) (fun n _ hn => ⟨rfl, hn⟩)
    ⟨h.inv.sites, h.inv.apart, h.inv.below, fun b x hx => by
      have := BoxRel.keepR (w := w) (w' := { w with drawn := k }) (fun _ _ => rfl) hok hp (b := b) rfl (fun _ _ => rfl) (fun _ _ _ _ _ _ => rfl) (fun _ _ _ _ _ _ _ _ => rfl) (h.inv.boxes b x hx)
      rwa [ren_idB] at this⟩
    (fun n hn => .inl hn) hp (fun r v hv => .inr (.inl ⟨hv, fun _ _ => rfl⟩)) (Nat.le_refl _) (pins' := s.pins) (fun r v hv => .inr (.inl ⟨hv, fun _ _ => rfl⟩))⟩

/-! ### Handles that die -/

theorem Cap.dead_or (d e : Nat → Bool) (c : Cap) : c.dead (fun k => d k || e k) = (c.dead d || c.dead e) := by cases c <;> rfl

theorem L.dead_or (d e : Nat → Bool) (l : L) : l.dead (fun k => d k || e k) = (l.dead d || l.dead e) := by
  cases l with
  | clo f cs =>
    show cs.any _ = (cs.any _ || cs.any _)
    induction cs with
    | nil => rfl
    | cons c r ih => simp only [List.any_cons, ih, Cap.dead_or]; cases c.dead d <;> cases c.dead e <;> simp
  | nrow b i o => simp only [L.dead]; cases d b <;> cases e b <;> cases d (nid b) <;> cases e (nid b) <;> rfl
  | nept b i o j q => simp only [L.dead]; cases d b <;> cases e b <;> cases d (nid b) <;> cases e (nid b) <;> rfl
  | nvw b i o j q => simp only [L.dead]; cases d b <;> cases e b <;> cases d (nid b) <;> cases e (nid b) <;> rfl
  | _ => rfl

theorem L.kill_kill (d e : Nat → Bool) (l : L) : (l.kill d).kill e = l.kill fun k => d k || e k := by
  unfold L.kill
  rw [L.dead_or]
  cases h : l.dead d with
  | true => simp [L.dead]
  | false => simp

theorem W.kill_kill (d e : Nat → Bool) (x : W) : (x.kill d).kill e = x.kill fun k => d k || e k := by
  cases x <;> simp [W.kill, L.kill_kill]

theorem V.kill_kill (d e : Nat → Bool) (v : V) : (v.kill d).kill e = v.kill fun k => d k || e k := by
  cases v <;> simp [V.kill, W.kill_kill]

theorem Box.kill_kill (d e : Nat → Bool) (x : Box) : (x.kill d).kill e = x.kill fun k => d k || e k := by
  cases x <;> simp [Box.kill, L.kill_kill]

theorem or_comm_fun (d e : Nat → Bool) : (fun k => d k || e k) = fun k => e k || d k := by funext k; exact Bool.or_comm _ _

theorem V.kill_comm (d e : Nat → Bool) (v : V) : (v.kill d).kill e = (v.kill e).kill d := by rw [V.kill_kill, V.kill_kill, or_comm_fun]
theorem Box.kill_comm (d e : Nat → Bool) (x : Box) : (x.kill d).kill e = (x.kill e).kill d := by rw [Box.kill_kill, Box.kill_kill, or_comm_fun]

theorem Cap.dead_ids {d : Nat → Bool} {c : Cap} (h : ∀ b ∈ c.ids, d b = false) : c.dead d = false := by
  cases c with
  | ptr b => exact h b (by simp [Cap.ids])
  | fpt t x => rfl

theorem L.dead_ids {d : Nat → Bool} {l : L} (h : ∀ b ∈ l.ids, d b = false) : l.dead d = false := by
  cases l with
  | clo f cs =>
    show cs.any _ = false
    rw [List.any_eq_false]
    intro c hc
    rw [Cap.dead_ids fun b hb => h b (List.mem_flatMap.2 ⟨c, hc, hb⟩)]
    simp
  | nrow b i o => simp only [L.dead, h b (by simp [L.ids]), h (nid b) (by simp [L.ids]), Bool.or_self]
  | nept b i o j q => simp only [L.dead, h b (by simp [L.ids]), h (nid b) (by simp [L.ids]), Bool.or_self]
  | nvw b i o j q => simp only [L.dead, h b (by simp [L.ids]), h (nid b) (by simp [L.ids]), Bool.or_self]
  | row b => exact h b (by simp [L.ids])
  | ptr b o => exact h b (by simp [L.ids])
  | ept b i o => exact h b (by simp [L.ids])
  | vw b i o => exact h b (by simp [L.ids])
  | mrow b => exact h b (by simp [L.ids])
  | it b => exact h b (by simp [L.ids])
  | _ => rfl

theorem L.kill_ids {d : Nat → Bool} {l : L} (h : ∀ b ∈ l.ids, d b = false) : l.kill d = l := by simp [L.kill, L.dead_ids h]

theorem Ls.kill_ids {d : Nat → Bool} {ls : List L} (h : ∀ b ∈ ls.flatMap (·.ids), d b = false) : ls.map (·.kill d) = ls := by
  conv => rhs; rw [← List.map_id ls]
  exact List.map_congr_left fun l hl => L.kill_ids fun b hb => h b (List.mem_flatMap.2 ⟨l, hl, hb⟩)

theorem W.kill_ids {d : Nat → Bool} {x : W} (h : ∀ b ∈ x.ids, d b = false) : x.kill d = x := by
  cases x with
  | one l => simp only [W.kill]; rw [L.kill_ids h]
  | agg ls => simp only [W.kill]; rw [Ls.kill_ids h]

theorem V.kill_ids {d : Nat → Bool} {v : V} (h : ∀ b ∈ v.ids, d b = false) : v.kill d = v := by
  cases v with
  | w x => simp only [V.kill]; rw [W.kill_ids h]
  | tup xs =>
    simp only [V.kill]
    congr 1
    conv => rhs; rw [← List.map_id xs]
    exact List.map_congr_left fun l hl => W.kill_ids fun b hb => h b (List.mem_flatMap.2 ⟨l, hl, hb⟩)

theorem Box.kill_ids {d : Nat → Bool} {x : Box} (h : ∀ b ∈ x.ids, d b = false) : x.kill d = x := by
  cases x with
  | var ls => simp only [Box.kill]; rw [Ls.kill_ids h]
  | hole t xs i o l => simp only [Box.kill]; rw [L.kill_ids h]
  | _ => rfl

/-! ### Effects -/

/-- What an effect leaves, in full. -/
def Ef.regs (e : Ef) (d : Option Nat) (rs : List V) : List V := match d with
  | some d => (rs.map (·.kill (e.dead.contains ·))).set d e.v
  | none => rs.map (·.kill (e.dead.contains ·))

def Ef.bxs (e : Ef) (bx : Bxs) : Bxs := e.nb ++ (bx.filter fun p => !e.D.contains p.1).map fun p => (p.1, p.2.kill (e.dead.contains ·))

theorem app_full (s : S) (d : Option Nat) (e : Ef) : s.app d e = { regs := e.regs d s.regs, bx := e.bxs s.bx, pins := s.pins.map (·.kill (e.dead.contains ·)) } := by
  rw [app_eq]
  cases d <;> rfl

/-- What an effect harms, what it leans on. -/
structure Free (e : Ef) (fd fh : List Nat) : Prop where
  freeD : ∀ b ∈ fd, b ∉ e.D
  freeH : ∀ b ∈ fh, b ∉ e.dead

theorem Free.D {e : Ef} {fd fh : List Nat} (h : Free e fd fh) {b : Nat} (hb : b ∈ fd) : e.D.contains b = false := by
  simpa using h.freeD b hb

theorem Free.dead {e : Ef} {fd fh : List Nat} (h : Free e fd fh) {b : Nat} (hb : b ∈ fh) : e.dead.contains b = false := by
  simpa using h.freeH b hb

/-- What an effect has in it. -/
def Ef.idsD (e : Ef) : List Nat := e.nb.map (·.1)
def Ef.idsH (e : Ef) : List Nat := e.v.ids ++ e.nb.flatMap (·.2.ids)

theorem nb_kept {e f : Ef} (h : Free f e.idsD e.idsH) : (e.nb.filter fun p => !f.D.contains p.1).map (fun p => (p.1, p.2.kill (f.dead.contains ·))) = e.nb := by
  have h1 : e.nb.filter (fun p => !f.D.contains p.1) = e.nb := List.filter_eq_self.2 fun p hp => by
    have := h.D (b := p.1) (List.mem_map.2 ⟨p, hp, rfl⟩)
    rw [this]; rfl
  rw [h1]
  conv => rhs; rw [← List.map_id e.nb]
  refine List.map_congr_left fun p hp => ?_
  rw [Box.kill_ids fun b hb => h.dead (by simp only [Ef.idsH, List.mem_append]; exact .inr (List.mem_flatMap.2 ⟨p, hp, hb⟩))]
  rfl

theorem v_kept {e f : Ef} (h : Free f e.idsD e.idsH) : e.v.kill (f.dead.contains ·) = e.v :=
  V.kill_ids fun b hb => h.dead (by simp only [Ef.idsH, List.mem_append]; exact .inl hb)

theorem map_kill_comm (e f : Ef) (vs : List V) : (vs.map (·.kill (e.dead.contains ·))).map (·.kill (f.dead.contains ·)) = (vs.map (·.kill (f.dead.contains ·))).map (·.kill (e.dead.contains ·)) := by
  rw [List.map_map, List.map_map]
  exact List.map_congr_left fun v _ => V.kill_comm _ _ v

theorem app_comm (s : S) {d d' : Option Nat} {e f : Ef} (hd : ∀ k, d = some k → d' ≠ some k) (h1 : Free f e.idsD e.idsH) (h2 : Free e f.idsD f.idsH) : Eqv ((s.app d e).app d' f) ((s.app d' f).app d e) := by
  rw [app_full, app_full, app_full, app_full]
  refine ⟨?_, ?_, ?_⟩
  · simp only [Ef.regs]
    cases d with
    | none =>
      cases d' with
      | none => exact map_kill_comm _ _ _
      | some k' => simp only [List.map_set, v_kept h2, map_kill_comm e f]
    | some k =>
      cases d' with
      | none => simp only [List.map_set, v_kept h1, map_kill_comm e f]
      | some k' =>
        have hk : k ≠ k' := fun e => hd k rfl (e ▸ rfl)
        simp only [List.map_set, v_kept h1, v_kept h2, map_kill_comm e f]
        exact List.set_comm _ _ hk
  · simp only [Ef.bxs, List.filter_append, List.map_append, nb_kept h1, nb_kept h2]
    rw [← List.append_assoc, ← List.append_assoc]
    refine (List.perm_append_comm).append ?_
    refine List.Perm.of_eq ?_
    rw [List.filter_map, List.filter_map, List.filter_filter, List.filter_filter, List.map_map, List.map_map]
    have hfe : (fun a : Nat × Box => ((fun p : Nat × Box => !f.D.contains p.1) ∘ fun p : Nat × Box => (p.1, p.2.kill (e.dead.contains ·))) a && !e.D.contains a.1) =
        fun a : Nat × Box => ((fun p : Nat × Box => !e.D.contains p.1) ∘ fun p : Nat × Box => (p.1, p.2.kill (f.dead.contains ·))) a && !f.D.contains a.1 := by
      funext a
      show (!f.D.contains a.1 && !e.D.contains a.1) = (!e.D.contains a.1 && !f.D.contains a.1)
      exact Bool.and_comm _ _
    rw [hfe]
    refine List.map_congr_left fun p _ => ?_
    show (p.1, (p.2.kill _).kill _) = (p.1, (p.2.kill _).kill _)
    rw [Box.kill_comm]
  · exact map_kill_comm _ _ _

theorem Eqv.app {s s' : S} (h : Eqv s s') (d : Option Nat) (e : Ef) : Eqv (s.app d e) (s'.app d e) := by
  rw [app_full, app_full]
  refine ⟨?_, ?_, ?_⟩
  · simp only [h.1]
  · exact ((h.2.1.filter _).map _).append_left _
  · simp only [h.2.2]

/-! ### Some of the effects -/

/-- Two effects that may go either way. -/
structure ApartR (x y : Rec) : Prop where
  dst : ∀ k, x.dst = some k → y.dst ≠ some k
  a : Free y.e x.e.idsD x.e.idsH
  b : Free x.e y.e.idsD y.e.idsH

theorem ApartR.symm {x y : Rec} (h : ApartR x y) : ApartR y x := ⟨fun k hk hx => h.dst k hx hk, h.b, h.a⟩

theorem inS_congr {L : Nat → Bool} : ∀ (es : List Rec) (i : Nat) {s s' : S}, Eqv s s' → Eqv (inS L s es i) (inS L s' es i) := by
  intro es
  induction es with
  | nil => intro i s s' h; exact h
  | cons e r ih =>
    intro i s s' h
    simp only [inS]
    cases L i with
    | true => exact ih _ (h.app _ _)
    | false => exact ih _ h

theorem inS_same {L M : Nat → Bool} : ∀ (es : List Rec) (i : Nat) (s : S), (∀ k, i ≤ k → k < i + es.length → L k = M k) → inS L s es i = inS M s es i := by
  intro es
  induction es with
  | nil => intro i s _; rfl
  | cons e r ih =>
    intro i s h
    simp only [inS, h i (Nat.le_refl _) (by simp)]
    exact ih _ _ fun k h1 h2 => h k (by omega) (by simp; omega)

/-- An effect, behind all others. -/
theorem inS_last {L : Nat → Bool} (x : Rec) : ∀ (es : List Rec) (i : Nat) (s : S), (∀ k y, L (i + k) = true → es[k]? = some y → ApartR x y) → Eqv (inS L (s.app x.dst x.e) es i) ((inS L s es i).app x.dst x.e) := by
  intro es
  induction es with
  | nil => intro i s _; exact .refl _
  | cons y r ih =>
    intro i s h
    simp only [inS]
    have h' : ∀ k z, L (i + 1 + k) = true → r[k]? = some z → ApartR x z := fun k z hk hz => h (k + 1) z (by rw [show i + (k + 1) = i + 1 + k by omega]; exact hk) (by simpa using hz)
    cases hL : L i with
    | true =>
      simp only [cond_true]
      have hxy := h 0 y (by simpa using hL) rfl
      exact (inS_congr r (i + 1) (app_comm s hxy.dst hxy.a hxy.b)).trans (ih _ _ h')
    | false => exact ih _ _ h'

def add (L : Nat → Bool) (j : Nat) : Nat → Bool := fun i => i == j || L i

/-- One more effect among the others. -/
theorem inS_add {L : Nat → Bool} {j : Nat} {x : Rec} : ∀ (es : List Rec) (i k : Nat) (s : S), j = i + k → es[k]? = some x → L j = false → (∀ m y, k < m → L (i + m) = true → es[m]? = some y → ApartR x y) →
    Eqv (inS (add L j) s es i) ((inS L s es i).app x.dst x.e) := by
  intro es
  induction es with
  | nil => intro i k s _ h; simp at h
  | cons e r ih =>
    intro i k s hj hx hL h
    cases k with
    | zero =>
      simp at hx
      subst hx
      have hij : j = i := by omega
      subst hij
      have h1 : add L j j = true := by simp [add]
      simp only [inS, h1, hL, cond_true, cond_false]
      rw [inS_same (L := add L j) (M := L) r (j + 1) _ fun k h1 h2 => by simp [add, show k ≠ j by omega]]
      exact inS_last e r (j + 1) s fun m y hm hy => h (m + 1) y (by omega) (by rw [show j + (m + 1) = j + 1 + m by omega]; exact hm) (by simpa using hy)
    | succ k =>
      have hne : add L j i = L i := by simp [add, show i ≠ j by omega]
      simp only [inS, hne]
      exact ih (i + 1) k _ (by omega) (by simpa using hx) hL fun m y hm hLm hy => h (m + 1) y (by omega) (by rw [show i + (m + 1) = i + 1 + m by omega]; exact hLm) (by simpa using hy)

def appAll : List Rec → S → S
  | [], s => s
  | x :: xs, s => appAll xs (s.app x.dst x.e)

theorem appAll_congr : ∀ (xs : List Rec) {s s' : S}, Eqv s s' → Eqv (appAll xs s) (appAll xs s') := by
  intro xs
  induction xs with
  | nil => intro s s' h; exact h
  | cons x r ih => intro s s' h; exact ih (h.app _ _)

/-- Those that must go before, then the others. -/
theorem inS_split {L M : Nat → Bool} : ∀ (es : List Rec) (i : Nat) (s : S), (∀ k, k < es.length → M (i + k) = true → L (i + k) = true) →
    (∀ k k' x y, k < k' → L (i + k) = true → M (i + k) = false → M (i + k') = true → es[k]? = some x → es[k']? = some y → ApartR x y) →
    ∃ xs, Eqv (inS L s es i) (appAll xs (inS M s es i)) ∧ ∀ x ∈ xs, ∃ k, es[k]? = some x ∧ L (i + k) = true ∧ M (i + k) = false := by
  intro es
  induction es with
  | nil => intro i s _ _; exact ⟨[], .refl _, by simp⟩
  | cons e r ih =>
    intro i s h1 h2
    have h1' : ∀ k, k < r.length → M (i + 1 + k) = true → L (i + 1 + k) = true := fun k hk hm => by
      rw [show i + 1 + k = i + (k + 1) by omega] at hm ⊢
      exact h1 (k + 1) (by simpa using hk) hm
    have h2' : ∀ k k' x y, k < k' → L (i + 1 + k) = true → M (i + 1 + k) = false → M (i + 1 + k') = true → r[k]? = some x → r[k']? = some y → ApartR x y := fun k k' x y hk hl hm hm' hx hy => by
      rw [show i + 1 + k = i + (k + 1) by omega] at hl hm
      rw [show i + 1 + k' = i + (k' + 1) by omega] at hm'
      exact h2 (k + 1) (k' + 1) x y (by omega) hl hm hm' (by simpa using hx) (by simpa using hy)
    have lift : ∀ {xs : List Rec}, (∀ x ∈ xs, ∃ k, r[k]? = some x ∧ L (i + 1 + k) = true ∧ M (i + 1 + k) = false) → ∀ x ∈ xs, ∃ k, (e :: r)[k]? = some x ∧ L (i + k) = true ∧ M (i + k) = false := by
      intro xs h x hx
      obtain ⟨k, a, b, c⟩ := h x hx
      exact ⟨k + 1, by simpa using a, by rw [show i + (k + 1) = i + 1 + k by omega]; exact b, by rw [show i + (k + 1) = i + 1 + k by omega]; exact c⟩
    simp only [inS]
    cases hM : M i with
    | true =>
      have hL : L i = true := h1 0 (by simp) hM
      rw [hL]
      simp only [cond_true]
      obtain ⟨xs, a, b⟩ := ih (i + 1) (s.app e.dst e.e) h1' h2'
      exact ⟨xs, a, lift b⟩
    | false =>
      cases hL : L i with
      | false =>
        obtain ⟨xs, a, b⟩ := ih (i + 1) s h1' h2'
        exact ⟨xs, a, lift b⟩
      | true =>
        simp only [cond_true, cond_false]
        obtain ⟨xs, a, b⟩ := ih (i + 1) (s.app e.dst e.e) h1' h2'
        refine ⟨e :: xs, a.trans ?_, fun x hx => ?_⟩
        · exact appAll_congr xs (inS_last e r (i + 1) s fun k y hk hy => h2 0 (k + 1) e y (by omega) (by simpa using hL) (by simpa using hM) (by rw [show i + (k + 1) = i + 1 + k by omega]; exact hk) rfl (by simpa using hy))
        · rcases List.mem_cons.1 hx with rfl | hx
          · exact ⟨0, rfl, by simpa using hL, by simpa using hM⟩
          · exact lift b x hx

/-- What is looked at is the same. -/
structure Sub (R B : List Nat) (s s' : S) : Prop where
  get : ∀ t ∈ R, s'.regs[t]? = s.regs[t]?
  bx : ∀ b ∈ B, ∀ x, find s.bx b = some x → find s'.bx b = some x

theorem Sub.refl (R B : List Nat) (s : S) : Sub R B s s := ⟨fun _ _ => rfl, fun _ _ _ h => h⟩

theorem Sub.app {R B : List Nat} {s s' : S} (h : Sub R B s s') {x : Rec} (hd : ∀ k, x.dst = some k → k ∉ R) (hr : ∀ t ∈ R, ∀ v, s.regs[t]? = some v → ∀ b ∈ v.ids, b ∉ x.e.dead)
    (hb : ∀ b ∈ B, b ∉ x.e.D) (hbi : ∀ b ∈ B, ∀ y, find s.bx b = some y → ∀ k ∈ y.ids, k ∉ x.e.dead) (hn : ∀ b ∈ B, ∀ y, find s.bx b = some y → b ∉ x.e.nb.map (·.1)) : Sub R B s (s'.app x.dst x.e) := by
  have hkD : ∀ {b : Nat}, b ∉ x.e.D → x.e.D.contains b = false := by
    intro b hb
    simpa using hb
  have hkH : ∀ {b : Nat}, b ∉ x.e.dead → x.e.dead.contains b = false := by
    intro b hb
    simpa using hb
  rw [app_full]
  refine ⟨fun t ht => ?_, fun b hbB y hy => ?_⟩
  · have hkill : (s'.regs.map (·.kill (x.e.dead.contains ·)))[t]? = s.regs[t]? := by
      rw [List.getElem?_map, h.get t ht]
      cases hv : s.regs[t]? with
      | none => rfl
      | some v =>
        simp only [Option.map_some]
        rw [V.kill_ids fun b hb' => hkH (hr t ht v hv b hb')]
    show (x.e.regs x.dst s'.regs)[t]? = _
    unfold Ef.regs
    cases hdst : x.dst with
    | none => exact hkill
    | some d =>
      have : d ≠ t := fun e => hd d hdst (e ▸ ht)
      simp only
      rw [List.getElem?_set, if_neg this]
      exact hkill
  · show find (x.e.bxs s'.bx) b = _
    unfold Ef.bxs
    rw [find_append, find_filter_map (x.e.D.contains ·) (fun z : Box => z.kill (x.e.dead.contains ·)), hkD (hb b hbB), h.bx b hbB y hy]
    have : find x.e.nb b = none := by
      cases hf : find x.e.nb b with
      | none => rfl
      | some z => exact absurd (List.mem_map.2 ⟨_, find_mem hf, rfl⟩) (hn b hbB y hy)
    rw [this]
    simp only [Bool.false_eq_true, if_false, Option.map_some, Option.none_or]
    rw [Box.kill_ids fun k hk' => hkH (hbi b hbB y hy k hk')]

theorem inS_mem {L : Nat → Bool} : ∀ (es : List Rec) (i : Nat) (s : S) (b : Nat), b ∈ (inS L s es i).bx.map (·.1) → b ∈ s.bx.map (·.1) ∨ ∃ k x, L (i + k) = true ∧ es[k]? = some x ∧ b ∈ x.e.nb.map (·.1) := by
  intro es
  induction es with
  | nil => intro i s b hp; exact .inl hp
  | cons e r ih =>
    intro i s b hp
    simp only [inS] at hp
    rcases ih (i + 1) _ b hp with h | ⟨k, x, h1, h2, h3⟩
    · cases hL : L i with
      | true =>
        rw [hL, cond_true, app_full] at h
        simp only [Ef.bxs, List.map_append, List.mem_append, List.map_map] at h
        rcases h with h | h
        · exact .inr ⟨0, e, hL, rfl, h⟩
        · obtain ⟨p, hp', rfl⟩ := List.mem_map.1 h
          exact .inl (List.mem_map.2 ⟨p, (List.mem_filter.1 hp').1, rfl⟩)
      | false => rw [hL] at h; exact .inl h
    · exact .inr ⟨k + 1, x, by rw [show i + (k + 1) = i + 1 + k by omega]; exact h1, by simpa using h2, h3⟩

end Go.Fl
/- Regions whose order is drawn: what is looked at, no more. -/
namespace Go.Fl
open Go

/-- The same operands, and the boxes are there. -/
structure Sees (o : Oper) (s s' : S) : Prop where
  opv : ∀ x ∈ o.op.operands.toList, s'.opv x = s.opv x
  bx : ∀ b x, find s.bx b = some x → find s'.bx b = some x

theorem Tr.bind_can' {α β : Type} {K : α → Tr β} {b : β} {a : α} : ∀ {t : Tr α}, t.can a → (K a).can b → (t.bind K).can b := by
  intro t
  induction t with
  | ret a' => intro h1 h2; cases h1; exact h2
  | fail => intro h1; exact h1.elim
  | tst c t e iht ihe =>
    intro h1 h2
    rcases h1 with ⟨hc, h1⟩ | ⟨hc, h1⟩
    · exact .inl ⟨hc, iht h1 h2⟩
    · exact .inr ⟨hc, ihe h1 h2⟩
  | bnd t o k ih =>
    intro h1 h2
    obtain ⟨x, hx, h1⟩ := h1
    exact ⟨x, hx, ih x h1 h2⟩
  | alt s t v k m ihk ihm =>
    intro h1 h2
    rcases h1 with ⟨x, hx, h1⟩ | ⟨y, hy, h1⟩
    · exact .inl ⟨x, hx, ihk x h1 h2⟩
    · exact .inr ⟨y, hy, ihm y h1 h2⟩

theorem Tr.ofOpt_can' {α : Type} {o : Option α} {a : α} (h : o = some a) : (Tr.ofOpt o).can a := by subst h; rfl

theorem tst_mono {α : Type} {b : Bool} {t t' : Tr α} {x : α} (h : t.can x → t'.can x) (hc : (Tr.tst b t .fail).can x) : (Tr.tst b t' .fail).can x := by
  obtain ⟨h1, h2⟩ := tr_tst hc
  exact .inl ⟨h1, h h2⟩

section
variable {bx bx' : Bxs} (hb : ∀ b x, find bx b = some x → find bx' b = some x)
include hb

theorem nrowOf_mono {b i off : Nat} {t : Ty} {y : List t.den} (h : nrowOf bx b i off t = some y) : nrowOf bx' b i off t = some y := by
  unfold nrowOf at h ⊢
  split at h
  · rename_i hf; rw [hb _ _ hf]; exact h
  · cases h

theorem loadP_mono {t : Ty} {l : L} {v : W} (h : loadP bx t l = some v) : loadP bx' t l = some v := by
  cases l with
  | ptr b off =>
    simp only [loadP] at h ⊢
    split at h
    · rename_i hf; rw [hb _ _ hf]; exact h
    · cases h
  | ept b i off =>
    simp only [loadP] at h ⊢
    split at h
    · rename_i hf; rw [hb _ _ hf]; exact h
    · cases h
  | nept b i off j q =>
    simp only [loadP] at h ⊢
    split at h
    · rename_i hf; rw [hb _ _ hf]; exact h
    · cases h
  | _ => exact h

theorem lenL_mono {t : Ty} {l : L} {n : Int} (h : lenL bx t l = some n) : lenL bx' t l = some n := by
  cases l with
  | val t x => cases t <;> exact h
  | row b =>
    simp only [lenL] at h ⊢
    split at h
    · rename_i hf; rw [hb _ _ hf]; exact h
    · cases h
  | nrow b i off =>
    cases t with
    | sl te =>
      simp only [lenL, Option.map_eq_some_iff] at h ⊢
      obtain ⟨y, hy, he⟩ := h
      exact ⟨y, nrowOf_mono hb hy, he⟩
    | _ => exact h
  | _ => exact h

theorem indexP_mono {t : Ty} {i : Int} {l m : L} (h : (indexP bx t i l).can m) : (indexP bx' t i l).can m := by
  cases l with
  | val t x => cases t <;> exact h
  | row b =>
    simp only [indexP] at h ⊢
    split at h
    · rename_i hf; rw [hb _ _ hf]; exact h
    · rename_i hf; rw [hb _ _ hf]; exact h
    · exact h.elim
  | vw b lo n =>
    simp only [indexP] at h ⊢
    split at h
    · rename_i hf; rw [hb _ _ hf]; exact h
    · exact h.elim
  | nrow b k off =>
    simp only [indexP] at h ⊢
    split at h
    · rename_i hf; rw [nrowOf_mono hb hf]; exact h
    · exact h.elim
  | _ => exact h

theorem rpRd_mono {t : Ty} {l : L} {y : t.den} (h : rpRd bx t l = some y) : rpRd bx' t l = some y := by
  cases l with
  | ptr b off =>
    simp only [rpRd] at h ⊢
    split at h
    · rename_i hf
      rw [hb _ _ hf]
      exact rdW_mono hb h
    · cases h
  | ept b i off =>
    simp only [rpRd] at h ⊢
    split at h
    · rename_i hf; rw [hb _ _ hf]; exact h
    · cases h
  | _ => exact h

theorem fppRd_mono {t : Ty} {l : L} {y : t.den} (h : fppRd bx t l = some y) : fppRd bx' t l = some y := by
  cases l with
  | ptr b off =>
    simp only [fppRd] at h ⊢
    split at h
    · rename_i hf
      rw [hb _ _ hf]
      dsimp only
      split at h
      · exact rpRd_mono hb h
      · cases h
    · cases h
  | _ => exact h

theorem mapOf_mono {t : Ty} {l : L} {m : List (Int × t.den)} (h : mapOf bx t l = some m) : mapOf bx' t l = some m := by
  cases l with
  | val t x => cases t <;> exact h
  | mrow b =>
    simp only [mapOf] at h ⊢
    split at h
    · rename_i hf; rw [hb _ _ hf]; exact h
    · cases h
  | _ => exact h

theorem capsDyn_mono {σ : Nat → Nat} : ∀ {cs : List (Nat ⊕ Ty)} {ds : List Cap} {xs : Dyn}, capsDyn σ bx cs ds = some xs → capsDyn σ bx' cs ds = some xs := by
  intro cs
  induction cs with
  | nil => intro ds xs h; cases ds <;> exact h
  | cons c cs ih =>
    intro ds xs h
    cases c with
    | inl b =>
      cases ds with
      | nil => exact h
      | cons d ds =>
        cases d with
        | ptr k =>
          simp only [capsDyn] at h ⊢
          split at h
          · rename_i hk; rw [if_pos hk]; exact ih h
          · cases h
        | fpt t x => exact h
    | inr t =>
      cases ds with
      | nil => exact h
      | cons d ds =>
        cases d with
        | ptr k =>
          simp only [capsDyn, Option.bind_eq_some_iff, Option.map_eq_some_iff] at h ⊢
          obtain ⟨y, hy, z, hz, he⟩ := h
          exact ⟨y, rpRd_mono hb hy, z, ih hz, he⟩
        | fpt t' x =>
          simp only [capsDyn, Option.bind_eq_some_iff, Option.map_eq_some_iff] at h ⊢
          obtain ⟨y, hy, z, hz, he⟩ := h
          exact ⟨y, hy, z, ih hz, he⟩

theorem LD.arg_mono {σ : Nat → Nat} {d : LD} {l : L} {xs : Dyn} (h : d.arg σ bx l = some xs) : d.arg σ bx' l = some xs := by
  cases d with
  | val t =>
    have h' : (rdL bx t l).map (fun y => ([⟨t, y⟩] : Dyn)) = some xs := by simpa only [LD.arg] using h
    show (rdL bx' t l).map (fun y => ([⟨t, y⟩] : Dyn)) = some xs
    obtain ⟨y, hy, he⟩ := Option.map_eq_some_iff.1 h'
    exact Option.map_eq_some_iff.2 ⟨y, rdL_mono hb hy, he⟩
  | fpt t =>
    have h' : (rpRd bx t l).map (fun y => ([⟨t, y⟩] : Dyn)) = some xs := by simpa only [LD.arg] using h
    show (rpRd bx' t l).map (fun y => ([⟨t, y⟩] : Dyn)) = some xs
    obtain ⟨y, hy, he⟩ := Option.map_eq_some_iff.1 h'
    exact Option.map_eq_some_iff.2 ⟨y, rpRd_mono hb hy, he⟩
  | fpp t =>
    have h' : (fppRd bx t l).map (fun y => ([⟨t, y⟩] : Dyn)) = some xs := by simpa only [LD.arg] using h
    show (fppRd bx' t l).map (fun y => ([⟨t, y⟩] : Dyn)) = some xs
    obtain ⟨y, hy, he⟩ := Option.map_eq_some_iff.1 h'
    exact Option.map_eq_some_iff.2 ⟨y, fppRd_mono hb hy, he⟩
  | clo f cs =>
    cases l with
    | clo g ds =>
      simp only [LD.arg] at h ⊢
      split at h
      · rename_i hk; rw [if_pos hk]; exact capsDyn_mono hb h
      · cases h
    | _ => simp [LD.arg] at h
  | un => exact h
  | lit m => exact h
  | ept b off => cases l <;> exact h
  | nrow b off => cases l <;> exact h

theorem argLs_mono {σ : Nat → Nat} : ∀ {ds : List LD} {ls : List L} {xs : Dyn}, argLs σ bx ds ls = some xs → argLs σ bx' ds ls = some xs := by
  intro ds
  induction ds with
  | nil => intro ls xs h; cases ls <;> exact h
  | cons d ds ih =>
    intro ls xs h
    cases ls with
    | nil => exact h
    | cons l ls =>
      simp only [argLs, Option.bind_eq_some_iff, Option.map_eq_some_iff] at h ⊢
      obtain ⟨x, hx, y, hy, he⟩ := h
      exact ⟨x, LD.arg_mono hb hx, y, ih hy, he⟩

theorem VD.arg_mono {σ : Nat → Nat} {d : VD} {v : V} {xs : Dyn} (h : d.arg σ bx v = some xs) : d.arg σ bx' v = some xs := by
  cases d with
  | one ld =>
    cases v with
    | tup _ => cases ld <;> exact h
    | w q => cases q with
      | one l => cases ld with
        | un => exact h
        | val t => exact LD.arg_mono (d := .val t) (l := l) (σ := σ) hb h
        | fpt t => exact LD.arg_mono (d := .fpt t) (l := l) (σ := σ) hb h
        | fpp t => exact LD.arg_mono (d := .fpp t) (l := l) (σ := σ) hb h
        | lit m => exact LD.arg_mono (d := .lit m) (l := l) (σ := σ) hb h
        | clo f cs => exact LD.arg_mono (d := .clo f cs) (l := l) (σ := σ) hb h
        | ept b o => exact LD.arg_mono (d := .ept b o) (l := l) (σ := σ) hb h
        | nrow b o => exact LD.arg_mono (d := .nrow b o) (l := l) (σ := σ) hb h
      | agg ls => cases ld with
        | val t =>
          obtain ⟨y, hy, he⟩ := Option.map_eq_some_iff.1 (show (rdW bx t (.agg ls)).map (fun y => ([⟨t, y⟩] : Dyn)) = some xs from h)
          exact Option.map_eq_some_iff.2 ⟨y, rdW_mono hb hy, he⟩
        | _ => exact h
  | agg ds =>
    cases v with
    | tup _ => exact h
    | w q => cases q with
      | agg ls => exact argLs_mono hb (show argLs σ bx ds ls = some xs from h)
      | one l => cases l with
        | val t x =>
          simp only [VD.arg] at h ⊢
          split at h
          · cases h
          · rename_i ho; rw [if_neg ho]; exact argLs_mono hb h
        | _ => exact h

theorem argVs_mono {σ : Nat → Nat} : ∀ {ds : List VD} {vs : List V} {xs : Dyn}, argVs σ bx ds vs = some xs → argVs σ bx' ds vs = some xs := by
  intro ds
  induction ds with
  | nil => intro vs xs h; exact h
  | cons d ds ih =>
    intro vs xs h
    cases vs with
    | nil => exact h
    | cons v vs =>
      simp only [argVs, Option.bind_eq_some_iff, Option.map_eq_some_iff] at h ⊢
      obtain ⟨x, hx, y, hy, he⟩ := h
      exact ⟨x, VD.arg_mono hb hx, y, ih hy, he⟩
end

theorem argBx_mono {σ : Nat → Nat} {fr fr' bx bx' : Bxs} (hr : ∀ b x, find fr b = some x → find fr' b = some x) (hb : ∀ b x, find bx b = some x → find bx' b = some x) : ∀ {ds : List (Nat × BD)} {xs : Dyn}, argBx σ fr bx ds = some xs → argBx σ fr' bx' ds = some xs := by
  intro ds
  induction ds with
  | nil => intro xs h; exact h
  | cons d ds ih =>
    obtain ⟨b, d⟩ := d
    intro xs h
    simp only [argBx, Option.bind_eq_some_iff, Option.map_eq_some_iff] at h ⊢
    obtain ⟨x, hx, y, hy, he⟩ := h
    refine ⟨x, ?_, y, ih hy, he⟩
    cases hf : find bx (σ b) with
    | none => rw [hf] at hx; cases d <;> cases hx
    | some z =>
      rw [hf] at hx
      rw [hb _ _ hf]
      cases d with
      | var ds' =>
        cases z with
        | var ls => exact argLs_mono hr hx
        | _ => cases hx
      | _ => cases z <;> exact hx

theorem frOf_mono {bx bx' : Bxs} (hb : ∀ b x, find bx b = some x → find bx' b = some x) (io : List Nat) : ∀ b x, find (frOf bx io) b = some x → find (frOf bx' io) b = some x := by
  intro b x h
  rw [frOf_eq, find_filter (io.contains ·)] at h ⊢
  split at h
  · cases h
  · rename_i hn; rw [if_neg hn]; exact hb _ _ h

theorem callE_mono {c : Con} {h : Hint} {site : Nat} {s s' : S} {vs : List V} {e : Ef} (hb : ∀ b x, find s.bx b = some x → find s'.bx b = some x) (hc : (callE c h site s vs).can e) : (callE c h site s' vs).can e := by
  unfold callE at hc ⊢
  simp only at hc ⊢
  split at hc
  · rename_i h1
    rw [if_pos h1]
    obtain ⟨x, hx, o, ho, hc⟩ := hc
    refine ⟨x, ?_, o, ho, hc⟩
    unfold callD argD at hx ⊢
    simp only [Option.bind_eq_some_iff] at hx ⊢
    obtain ⟨a, ha, p, hp, z, hz, ht⟩ := hx
    have hr : ∀ b x, find (if c.deep then [] else frOf s.bx (c.din.bx.map fun p => sgOf h.sg p.1)) b = some x → find (if c.deep then [] else frOf s'.bx (c.din.bx.map fun p => sgOf h.sg p.1)) b = some x := by
      intro b x hf
      cases hd : c.deep with
      | true => rw [hd] at hf; simp [find] at hf
      | false => rw [hd] at hf; exact frOf_mono hb _ b x hf
    exact ⟨a, argVs_mono hr ha, p, argVs_mono hr hp, z, argBx_mono hr hb hz, ht⟩
  · exact hc.elim

theorem mapM_cap {s s' : S} {xs : List Operand} {cs : List Cap} (ho : ∀ x ∈ xs, s'.opv x = s.opv x) (h : xs.mapM (capOf s) = some cs) : xs.mapM (capOf s') = some cs := by
  induction xs generalizing cs with
  | nil => exact h
  | cons x r ih =>
    simp only [List.mapM_cons, Option.bind_eq_bind, Option.bind_eq_some_iff, Option.pure_def, Option.some.injEq] at h ⊢
    obtain ⟨c, hc, ds, hds, he⟩ := h
    refine ⟨c, ?_, ds, ih (fun y hy => ho y (by simp [hy])) hds, he⟩
    unfold capOf at hc ⊢
    rw [ho x (by simp)]
    exact hc

theorem partsL_mono {E : Env} {s s' : S} {t : Ty} : ∀ {ps : List (Nat × Operand)} {ls ls' : List L}, (∀ p ∈ ps, s'.opv p.2 = s.opv p.2) → partsL E s t ps ls = some ls' → partsL E s' t ps ls = some ls' := by
  intro ps
  induction ps with
  | nil => intro ls ls' _ h; exact h
  | cons p r ih =>
    intro ls ls' ho h
    obtain ⟨k, x⟩ := p
    simp only [partsL] at h ⊢
    rw [ho (k, x) (by simp)]
    split at h
    · rename_i hx hf
      rw [hx, hf]
      split at h
      · rename_i hl
        simp only
        rw [if_pos hl]
        exact ih (fun p hp => ho p (by simp [hp])) h
      · cases h
    · cases h

theorem elemsL_mono {s s' : S} {t : Ty} (hb : ∀ b x, find s.bx b = some x → find s'.bx b = some x) : ∀ {ps : List (Nat × Operand)} {i : Nat} {r : List t.den × List Nat}, (∀ p ∈ ps, s'.opv p.2 = s.opv p.2) → elemsL s t i ps = some r → elemsL s' t i ps = some r := by
  intro ps
  induction ps with
  | nil => intro i r _ h; exact h
  | cons p ps ih =>
    intro i r ho h
    obtain ⟨k, x⟩ := p
    simp only [elemsL] at h ⊢
    rw [ho (k, x) (by simp)]
    split at h
    · rename_i hk
      rw [if_pos hk]
      split at h
      · rename_i hx
        rw [hx]
        simp only [Option.bind_eq_some_iff, Option.map_eq_some_iff] at h ⊢
        obtain ⟨q, hq, r', hr, he⟩ := h
        exact ⟨q, ownW_mono hb hq, r', ih (fun p hp => ho p (by simp [hp])) hr, he⟩
      · cases h
    · cases h

theorem callee_mono {E : Env} {h : Hint} {s s' : S} {f : Operand} {args : List Operand} {r : Con × List V} (hf : s'.opv f = s.opv f) (ha : ∀ x ∈ args, s'.opv x = s.opv x) (hc : callee E h s f args = some r) : callee E h s' f args = some r := by
  unfold callee at hc ⊢
  rw [hf, List.map_congr_left ha]
  exact hc

section
variable {s s' : S} (hb : ∀ b x, find s.bx b = some x → find s'.bx b = some x)
include hb

theorem srcOf_mono {te : Ty} {v : V} {r : List te.den × List Nat} (h : srcOf s te v = some r) : srcOf s' te v = some r := by
  unfold srcOf at h ⊢
  split at h
  · split at h
    · rename_i hf; rw [hb _ _ hf]; exact h
    · cases h
  · split at h
    · rename_i hf; rw [hb _ _ hf]; exact h
    · cases h
  · split at h
    · rename_i hn
      rw [if_pos hn]
      obtain ⟨y, hy, he⟩ := Option.map_eq_some_iff.1 h
      exact Option.map_eq_some_iff.2 ⟨y, nrowOf_mono hb hy, he⟩
    · cases h
  · exact h
  · exact h
  · cases h

theorem appendE_mono {E : Env} {h0 : Hint} {site T : Nat} {a b : V} {e : Ef} (h : (appendE E h0 site T s a b).can e) : (appendE E h0 site T s' a b).can e := by
  unfold appendE at h ⊢
  split at h
  · split at h
    · rename_i hf
      rw [hb _ _ hf]
      simp only
      split at h
      · rename_i hc
        rw [if_pos hc]
        split at h
        · exact h
        · split at h
          · rename_i hsrc
            rw [srcOf_mono hb hsrc]
            exact h
          · exact h.elim
      · exact h.elim
    · exact h.elim
  · split at h
    · rename_i hsrc
      rw [srcOf_mono hb hsrc]
      exact h
    · exact h.elim
  · split at h
    · rename_i hf
      rw [hb _ _ hf]
      simp only
      split at h
      · rename_i hc
        rw [if_pos hc]
        split at h
        · rename_i hg hsrc
          rw [hg, srcOf_mono hb hsrc]
          exact h
        · exact h.elim
      · exact h.elim
    · exact h.elim
  · exact h.elim

theorem storeP_mono {h0 : Hint} {site : Nat} {t : Ty} {v : W} {l : L} {e : Ef} (h : (storeP h0 site s t v l).can e) : (storeP h0 site s' t v l).can e := by
  unfold storeP at h ⊢
  split at h
  · split at h
    · rename_i hf; rw [hb _ _ hf]; exact h
    · exact h.elim
  · split at h
    · rename_i hf
      rw [hb _ _ hf]
      simp only
      split at h
      · rename_i hc
        rw [if_pos hc]
        split at h
        · rename_i ho
          rw [if_pos ho]
          split at h
          · exact h
          · split at h
            · rename_i hw
              rw [ownW_mono hb hw]
              exact h
            · exact h.elim
        · exact h.elim
      · rename_i hc
        rw [if_neg hc]
        split at h
        · rename_i h1
          rw [if_pos h1]
          split at h
          · split at h
            · exact h
            · split at h
              · split at h
                · rename_i hf2; rw [hb _ _ hf2]; exact h
                · exact h.elim
              · exact h
              · exact h
              · exact h.elim
          · exact h.elim
        · exact h.elim
    · rename_i hf
      rw [hb _ _ hf]
      simp only
      split at h
      · split at h
        · rename_i hf2; rw [hb _ _ hf2]; exact h
        · exact h.elim
      · exact h.elim
    · exact h.elim
  · split at h
    · rename_i hf; rw [hb _ _ hf]; exact h
    · exact h.elim
  · exact h.elim

end

theorem cutB_mono {s s' : S} {len : Int} {lo hi : Option Operand} {K : Nat → Nat → Tr Ef} {e : Ef} (hl : ∀ x, lo = some x → s'.opv x = s.opv x) (hh : ∀ x, hi = some x → s'.opv x = s.opv x) (h : (cutB s len lo hi K).can e) : (cutB s' len lo hi K).can e := by
  unfold cutB at h ⊢
  cases lo with
  | none => cases hi with
    | none => exact h
    | some y => simp only at h ⊢; rw [hh y rfl]; exact h
  | some x => cases hi with
    | none => simp only at h ⊢; rw [hl x rfl]; exact h
    | some y => simp only at h ⊢; rw [hl x rfl, hh y rfl]; exact h

theorem sliceE_mono {E : Env} {h0 : Hint} {T : Nat} {s s' : S} {v : V} {lo hi : Option Operand} {e : Ef} (hb : ∀ b x, find s.bx b = some x → find s'.bx b = some x) (hl : ∀ x, lo = some x → s'.opv x = s.opv x) (hh : ∀ x, hi = some x → s'.opv x = s.opv x)
    (h : (sliceE E h0 T s v lo hi).can e) : (sliceE E h0 T s' v lo hi).can e := by
  unfold sliceE at h ⊢
  split at h
  · split at h
    · rename_i hc; rw [if_pos hc]; exact cutB_mono hl hh h
    · exact h.elim
  · exact cutB_mono hl hh h
  · exact cutB_mono hl hh h
  · split at h
    · rename_i hf
      rw [hb _ _ hf]
      simp only
      split at h
      · rename_i hc; rw [if_pos hc]; exact cutB_mono hl hh h
      · exact h.elim
    · exact h.elim
  · split at h
    · rename_i hn
      rw [nrowOf_mono hb hn]
      exact cutB_mono hl hh h
    · exact h.elim
  · exact h.elim

end Go.Fl
/- Regions whose order is drawn: an operation, wherever it sees what it needs. -/
namespace Go.Fl
open Go

section
variable {s s' : S} (hb : ∀ b x, find s.bx b = some x → find s'.bx b = some x)
include hb

theorem partOf_mono {v : V} {p : Nat × Nat × Nat} (h : partOf s.bx v = some p) : partOf s'.bx v = some p := by
  unfold partOf at h ⊢
  split at h
  · split at h
    · rename_i hf; rw [hb _ _ hf]; exact h
    · cases h
  · exact h
  · cases h

theorem cutV_mono {v : V} {e : Ef} (h : (cutV s v).can e) : (cutV s' v).can e := by
  unfold cutV at h ⊢
  split at h
  · split at h
    · rename_i hf; rw [hb _ _ hf]; exact h
    · exact h.elim
  · exact h.elim

theorem copyE_mono {E : Env} {T : Nat} {a b : V} {e : Ef} (h : (copyE E T s a b).can e) : (copyE E T s' a b).can e := by
  unfold copyE at h ⊢
  split at h
  · rename_i hp ht
    rw [partOf_mono hb hp, ht]
    simp only
    split at h
    · rename_i hf
      rw [hb _ _ hf]
      simp only
      split at h
      · rename_i hc
        rw [if_pos hc]
        split at h
        · rename_i hsrc
          rw [srcOf_mono hb hsrc]
          exact h
        · exact h.elim
      · exact h.elim
    · exact h.elim
  · exact h.elim

theorem clearE_mono {E : Env} {T : Nat} {a : V} {e : Ef} (h : (clearE E T s a).can e) : (clearE E T s' a).can e := by
  unfold clearE at h ⊢
  split at h
  · rename_i hp ht
    rw [partOf_mono hb hp, ht]
    simp only
    split at h
    · rename_i hf
      rw [hb _ _ hf]
      exact h
    · exact h.elim
  · exact h.elim

theorem appendV_mono {E : Env} {T : Nat} {p : Nat × Nat × Nat} {b : V} {e : Ef} (h : (appendV E T s p b).can e) : (appendV E T s' p b).can e := by
  unfold appendV at h ⊢
  split at h
  · rename_i hf ht
    rw [hb _ _ hf, ht]
    simp only
    split at h
    · rename_i hc
      rw [if_pos hc]
      split at h
      · rename_i hsrc
        rw [srcOf_mono hb hsrc]
        exact h
      · exact h.elim
    · exact h.elim
  · exact h.elim

theorem sliceV_mono {E : Env} {T : Nat} {p : Nat × Nat × Nat} {lo hi : Option Operand} {e : Ef} (hl : ∀ x, lo = some x → s'.opv x = s.opv x) (hh : ∀ x, hi = some x → s'.opv x = s.opv x) (h : (sliceV E T s p lo hi).can e) :
    (sliceV E T s' p lo hi).can e := by
  have cut : ∀ (len : Int) (K : Nat → Nat → Tr Ef), cutB s' len lo hi K = cutB s len lo hi K := by
    intro len K
    unfold cutB
    cases lo <;> cases hi <;> simp [hl, hh]
  unfold sliceV at h ⊢
  split at h
  · rename_i hf ht
    rw [hb _ _ hf, ht]
    simp only
    split at h
    · rename_i hc
      rw [if_pos hc, cut]
      exact h
    · exact h.elim
  · exact h.elim

theorem slice3E_mono {E : Env} {T : Nat} {v l h m : V} {e : Ef} (hh : (slice3E E T s v l h m).can e) : (slice3E E T s' v l h m).can e := by
  unfold slice3E at hh ⊢
  split at hh
  · split at hh
    · rename_i hf
      rw [hb _ _ hf]
      exact hh
    · exact hh.elim
  · exact hh.elim
end

theorem callB_mono {E : Env} {h : Hint} {site : Nat} {s s' : S} {b : Builtin} {args : List Operand} {Ts : List Nat} {e : Ef} (hv : ∀ x ∈ args, s'.opv x = s.opv x) (hb : ∀ b x, find s.bx b = some x → find s'.bx b = some x)
    (hc : (callB E h site s b args Ts).can e) : (callB E h site s' b args Ts).can e := by
  unfold callB at hc ⊢
  split at hc
  · rename_i x T r
    rw [hv x (by simp)]
    split at hc
    · split at hc
      · split at hc
        · exact hc.elim
        · rename_i hlo
          rw [if_neg hlo]
          have := Tr.ofOpt_can hc
          simp only [Option.map_eq_some_iff] at this
          obtain ⟨n, hn, he⟩ := this
          exact Tr.ofOpt_can' (Option.map_eq_some_iff.2 ⟨n, lenL_mono hb hn, he⟩)
      · exact hc.elim
    · exact hc.elim
  · rename_i x T r
    rw [hv x (by simp)]
    exact hc
  · rename_i x y T U
    rw [hv x (by simp), hv y (by simp)]
    split at hc
    · split at hc
      · exact appendV_mono hb hc
      · exact appendE_mono hb hc
    · exact hc
    · exact hc.elim
  · rename_i x y T U
    rw [hv x (by simp), hv y (by simp)]
    split at hc
    · exact copyE_mono hb hc
    · exact hc.elim
  · rename_i x T
    rw [hv x (by simp)]
    exact clearE_mono hb hc
  · rename_i x y
    rw [hv x (by simp), hv y (by simp)]
    exact hc
  · rename_i x y
    rw [hv x (by simp), hv y (by simp)]
    exact hc
  · exact hc.elim

theorem eOp_mono {E : Env} {h : Hint} {site : Nat} {o : Oper} {s s' : S} {e : Ef} (hs : Sees o s s') (hc : (eOp E h site o s).can e) : (eOp E h site o s').can e := by
  have hv := hs.opv
  have hb := hs.bx
  unfold eOp at hc ⊢
  split at hc
  case h_1 x ho =>
    simp only [ho, Op.operands] at hv
    rw [hv x (by simp)]
    split at hc
    · rename_i hd; rw [if_pos hd]; exact cutV_mono hb hc
    · rename_i hd; rw [if_neg hd]; exact hc
  case h_2 x ho =>
    simp only [ho, Op.operands] at hv
    rw [hv x (by simp)]
    split at hc
    · rename_i hd; rw [if_pos hd]; exact cutV_mono hb hc
    · rename_i hd; rw [if_neg hd]; exact hc
  case h_3 c x y ho => simp only [ho, Op.operands] at hv; rw [hv c (by simp), hv x (by simp), hv y (by simp)]; exact hc
  case h_4 T ho => exact hc
  case h_5 T x ho => simp only [ho, Op.operands] at hv; rw [hv x (by simp)]; exact hc
  case h_6 T ps ho =>
    simp only [ho, Op.operands] at hv
    have hv' : ∀ p ∈ ps.toList, s'.opv p.2 = s.opv p.2 := fun p hp => hv p.2 (by simp; exact ⟨_, by simpa using hp⟩)
    split at hc
    · split at hc
      · exact hc.elim
      · rename_i h1
        rw [if_neg h1]
        have := Tr.ofOpt_can hc
        simp only [Option.map_eq_some_iff] at this
        obtain ⟨ls, hls, he⟩ := this
        exact Tr.ofOpt_can' (Option.map_eq_some_iff.2 ⟨ls, partsL_mono hv' hls, he⟩)
    · exact hc.elim
  case h_7 T n ps ho =>
    simp only [ho, Op.operands] at hv
    have hv' : ∀ p ∈ ps.toList, s'.opv p.2 = s.opv p.2 := fun p hp => hv p.2 (by simp; exact ⟨_, by simpa using hp⟩)
    split at hc
    · split at hc
      · rename_i hxs
        rw [elemsL_mono hb hv' hxs]
        exact hc
      · exact hc.elim
    · exact hc.elim
  case h_8 T x ho =>
    simp only [ho, Op.operands] at hv
    rw [hv x (by simp)]
    split at hc
    · have := Tr.ofOpt_can hc
      simp only [Option.map_eq_some_iff] at this
      obtain ⟨v, hv, he⟩ := this
      exact Tr.ofOpt_can' (Option.map_eq_some_iff.2 ⟨v, loadP_mono hb hv, he⟩)
    · exact hc.elim
  case h_9 x ho => simp only [ho, Op.operands] at hv; rw [hv x (by simp)]; exact hc
  case h_10 op T x y T2 ho => simp only [ho, Op.operands] at hv; rw [hv x (by simp), hv y (by simp)]; exact hc
  case h_11 op T x ho => simp only [ho, Op.operands] at hv; rw [hv x (by simp)]; exact hc
  case h_12 f first caps ho =>
    simp only [ho, Op.operands] at hv
    split at hc
    · rename_i hfi
      rw [if_pos hfi]
      have := Tr.ofOpt_can hc
      simp only [Option.map_eq_some_iff] at this
      obtain ⟨cs, hcs, he⟩ := this
      exact Tr.ofOpt_can' (Option.map_eq_some_iff.2 ⟨cs, mapM_cap (fun x hx => hv x (by simp at hx ⊢; exact .inr hx)) hcs, he⟩)
    · exact hc.elim
  case h_13 T l c ho => simp only [ho, Op.operands] at hv; rw [hv l (by simp)]; exact hc
  case h_14 T x k ho => simp only [ho, Op.operands] at hv; rw [hv x (by simp)]; exact hc
  case h_15 T x k ho => simp only [ho, Op.operands] at hv; rw [hv x (by simp)]; exact hc
  case h_16 T x i ho =>
    simp only [ho, Op.operands] at hv
    rw [hv x (by simp), hv i (by simp)]
    split at hc
    · obtain ⟨l', hl', hc⟩ := Tr.bind_can hc
      exact Tr.bind_can' (indexP_mono hb hl') hc
    · exact hc.elim
  case h_17 T x i ho => simp only [ho, Op.operands] at hv; rw [hv x (by simp), hv i (by simp)]; exact hc
  case h_18 x k ho => simp only [ho, Op.operands] at hv; rw [hv x (by simp)]; exact hc
  case h_19 T x y ho =>
    simp only [ho, Op.operands] at hv
    rw [hv x (by simp), hv y (by simp)]
    split at hc
    · exact storeP_mono hb hc
    · exact hc.elim
  case h_20 T x lo hi ho =>
    simp only [ho, Op.operands] at hv
    rw [hv x (by simp)]
    split at hc
    · exact sliceV_mono hb (fun y hy => hv y (by simp [hy])) (fun y hy => hv y (by simp [hy])) hc
    · exact sliceE_mono hb (fun y hy => hv y (by simp [hy])) (fun y hy => hv y (by simp [hy])) hc
  case h_21 T x lo hi mx ho =>
    simp only [ho, Op.operands] at hv
    rw [hv x (by simp), hv lo (by simp), hv hi (by simp), hv mx (by simp)]
    exact slice3E_mono hb hc
  case h_22 T U x ho =>
    simp only [ho, Op.operands] at hv
    rw [hv x (by simp)]
    split at hc
    · exact hc
    · split at hc
      · rename_i hsrc
        rw [srcOf_mono hb hsrc]
        exact hc
      · exact hc.elim
    · exact hc.elim
  case h_23 T ho => exact hc
  case h_24 T x k c ho =>
    simp only [ho, Op.operands] at hv
    rw [hv x (by simp), hv k (by simp)]
    split at hc
    · split at hc
      · rename_i hm
        rw [mapOf_mono hb hm]
        exact hc
      · exact hc.elim
    · exact hc.elim
  case h_25 T x k y ho =>
    simp only [ho, Op.operands] at hv
    rw [hv x (by simp), hv k (by simp), hv y (by simp)]
    split at hc
    · split at hc
      · rename_i hf hr
        rw [hb _ _ hf, hr]
        exact hc
      · exact hc.elim
    · exact hc.elim
  case h_26 T x ho => simp only [ho, Op.operands] at hv; rw [hv x (by simp)]; exact hc
  case h_27 x ho =>
    simp only [ho, Op.operands] at hv
    rw [hv x (by simp)]
    split at hc
    · split at hc
      · rename_i hf
        rw [hb _ _ hf]
        exact hc
      · exact hc.elim
    · exact hc.elim
  case h_28 c ho =>
    simp only [ho, Op.operands] at hv
    have hargs : ∀ x ∈ c.args.toList, s'.opv x = s.opv x := fun x hx => hv x (by
      simp only [Call.operands, Array.toList_append, List.mem_append]
      exact .inr (by simpa using hx))
    split at hc
    · exact callB_mono hargs hb hc
    · rename_i f hcal
      split at hc
      · rename_i k vs hk
        have := callee_mono (s' := s') (hv f (by simp [Call.operands, hcal])) hargs hk
        rw [this]
        exact callE_mono hb hc
      · exact hc.elim
    · exact hc.elim
  case h_29 => exact hc.elim

section
variable {P : Program} {ops : Array Oper}

/-- An operation, done or passed over. -/
def OpG (P : Program) (ops : Array Oper) (o : Oper) (s s' : S) : Prop :=
  ∀ (w0 : World) (own0 : Ow) (a : Act) (w : World), St w0 own0 s a w → ∀ (next : Act → World → Prop) (Q : Exit → Act → World → Prop),
    (∀ a' w', St w0 own0 s' a' w' → next a' w') → if Region.wanted o (yielded ops a.tmps) then o.wp P a w next Q else next (a.put o.dst undef) w

theorem OpG.wpOp {i : Nat} {o : Oper} {s s' : S} (hi : ops[i]? = some o) (h : OpG P ops o s s') {w0 w : World} {own0 : Ow} {a : Act} (hst : St w0 own0 s a w) {K : Act → World → Prop} {Q : Exit → Act → World → Prop}
    (hK : ∀ a' w', St w0 own0 s' a' w' → K a' w') : wpOp P ops Q i K a w := by
  have := h w0 own0 a w hst K Q hK
  unfold Go.wpOp
  simp only [hi]
  split
  · rename_i hw; rw [if_pos hw] at this; exact .inl this
  · rename_i hw; rw [if_neg hw] at this; exact this

theorem OpSim.g {o : Oper} {s s' : S} (hg : o.guard = none) (h : OpSim P o s s') : OpG P ops o s s' := by
  intro w0 own0 a w hst next Q hn
  rw [if_pos (by simp [Region.wanted, hg])]
  exact h w0 own0 a w hst next Q hn

theorem yielded_of {w0 w : World} {own0 : Ow} {s : S} {a : Act} (hst : St w0 own0 s a w) {g d : Nat} {v : Bool} (hd : (ops[g]?).bind (·.dst) = some d) (hv : s.get d = .w (.one (.val .bool v))) : yielded ops a.tmps g = some v := by
  obtain ⟨γ, hst⟩ := hst
  have h := hst.get d
  rw [hv] at h
  have hb := bool_of h
  unfold yielded
  rw [hd]
  have : a.tmps[d]? = some (.bool v) := by
    rw [Array.getD_eq_getD_getElem?] at hb
    cases ht : a.tmps[d]? with
    | none => rw [ht] at hb; cases hb
    | some x => rw [ht] at hb; simp at hb; rw [hb]
  simp [this]

theorem opG_guard {o : Oper} {s s1 s2 : S} {g d : Nat} {b v : Bool} (hg : o.guard = some (g, b)) (hd : (ops[g]?).bind (·.dst) = some d) (hv : s.get d = .w (.one (.val .bool v))) :
    (b = v → OpSim P o s s1) → (b ≠ v → ∀ w0 own0 a w, St w0 own0 s a w → St w0 own0 s2 (a.put o.dst undef) w) → OpG P ops o s (if b = v then s1 else s2) := by
  intro h1 h2 w0 own0 a w hst next Q hn
  have hy := yielded_of hst hd hv
  by_cases hbv : b = v
  · subst hbv
    rw [if_pos (by simp [Region.wanted, hg, hy])]
    rw [if_pos rfl] at hn
    exact h1 rfl w0 own0 a w hst next Q hn
  · rw [if_neg (by simp [Region.wanted, hg, hy]; exact fun e => hbv e.symm)]
    rw [if_neg hbv] at hn
    exact hn _ _ (h2 hbv w0 own0 a w hst)

theorem St.putUn {w0 w : World} {own0 : Ow} {s : S} {a : Act} (d : Option Nat) (h : St w0 own0 s a w) : St w0 own0 (s.put d (.w (.one .ud))) (a.put d undef) w := let ⟨γ, h⟩ := h; ⟨γ, h.put d (show VRel w (okOf w s.bx γ) s.bx γ (.w (.one .ud)) undef from rfl)⟩

/-- What hangs on something that was passed over is passed over. -/
theorem opG_ud {o : Oper} {s : S} {g d : Nat} {b : Bool} (hg : o.guard = some (g, b)) (hd : (ops[g]?).bind (·.dst) = some d) (hv : s.get d = .w (.one .ud)) : OpG P ops o s (s.put o.dst (.w (.one .ud))) := by
  intro w0 own0 a w hst next Q hn
  have hy : yielded ops a.tmps g = none := by
    obtain ⟨γ, hst⟩ := hst
    have h := hst.get d
    rw [hv] at h
    have h' : a.tmps.getD d undef = undef := h
    unfold yielded
    rw [hd]
    cases ht : a.tmps[d]? with
    | none => simp [ht]
    | some x =>
      rw [Array.getD_eq_getD_getElem?, ht] at h'
      simp at h'
      subst h'
      simp [ht, undef]
  rw [if_neg (by simp [Region.wanted, hg, hy])]
  exact hn _ _ (hst.putUn _)

theorem opTr_sim {E : Env} {h : Hint} {site : Nat} {o : Oper} {s s' : S} (hE : EnvOk P E) (hc : (opTr E h site ops o s).can s') : OpG P ops o s s' := by
  unfold opTr at hc
  split at hc
  · rename_i hg
    exact (stepG_sim hE hc).g hg
  · rename_i g b hg
    split at hc
    · rename_i d hd
      split at hc
      · rename_i v hv
        have hsb : ∀ x : Bool, v = x → s.setB (.tmp d) x = s := fun x hx => by subst hx; exact setB_eq (c := .tmp d) hv
        have key := fun s1 s2 => opG_guard (P := P) (ops := ops) (o := o) (s := s) (s1 := s1) (s2 := s2) hg hd hv
        rcases hc with ⟨hv', hc⟩ | ⟨hv', hc⟩ <;> subst hv'
        · cases b with
          | true =>
            rw [if_pos rfl, hsb true rfl] at hc
            have := key s' s' (fun _ => stepG_sim hE hc) (fun h => absurd rfl h)
            simpa using this
          | false =>
            rw [if_neg (by simp), hsb true rfl] at hc
            simp only [Tr.can] at hc
            subst hc
            have := key s (s.put o.dst (.w (.one .ud))) (fun h => by cases h) (fun _ _ _ _ _ h => h.putUn _)
            simpa using this
        · cases b with
          | true =>
            rw [if_pos rfl, hsb false rfl] at hc
            simp only [Tr.can] at hc
            subst hc
            have := key s (s.put o.dst (.w (.one .ud))) (fun h => by cases h) (fun _ _ _ _ _ h => h.putUn _)
            simpa using this
          | false =>
            rw [if_neg (by simp), hsb false rfl] at hc
            have := key s' s' (fun _ => stepG_sim hE hc) (fun h => absurd rfl h)
            simpa using this
      · rename_i hv
        cases hc
        exact opG_ud hg hd hv
      · exact hc.elim
    · exact hc.elim

theorem opE_sim {E : Env} {h : Hint} {site : Nat} {o : Oper} {s : S} {e : Ef} (hE : EnvOk P E) (hc : (opE E h site ops o s).can e) (hf : e.okB s.bx = true) : OpG P ops o s (s.app o.dst e) := by
  unfold opE at hc
  split at hc
  · rename_i hg
    exact (eOp_sim hE hc hf).g hg
  · rename_i g b hg
    split at hc
    · rename_i d hd
      split at hc
      · rename_i v hv
        have key := opG_guard (P := P) (ops := ops) (o := o) (s := s) (s1 := s.app o.dst e) (s2 := s.app o.dst e) hg hd hv
        rcases hc with ⟨hv', hc⟩ | ⟨hv', hc⟩ <;> subst hv'
        · cases b with
          | true =>
            rw [if_pos rfl] at hc
            have := key (fun _ => eOp_sim hE hc hf) (fun h => absurd rfl h)
            simpa using this
          | false =>
            rw [if_neg (by simp)] at hc
            simp only [Tr.can] at hc
            subst hc
            have := key (fun h => by cases h) (fun _ _ _ _ _ h => h.putUn _)
            simpa using this
        · cases b with
          | true =>
            rw [if_pos rfl] at hc
            simp only [Tr.can] at hc
            subst hc
            have := key (fun h => by cases h) (fun _ _ _ _ _ h => h.putUn _)
            simpa using this
          | false =>
            rw [if_neg (by simp)] at hc
            have := key (fun _ => eOp_sim hE hc hf) (fun h => absurd rfl h)
            simpa using this
      · rename_i hv
        cases hc
        rw [app_put]
        exact opG_ud hg hd hv
      · exact hc.elim
    · exact hc.elim

theorem opE_mono {E : Env} {h : Hint} {site : Nat} {o : Oper} {s s' : S} {e : Ef} (hs : ∀ t ∈ o.looksAt ops, s'.get t = s.get t) (hb : ∀ b x, find s.bx b = some x → find s'.bx b = some x) (hc : (opE E h site ops o s).can e) : (opE E h site ops o s').can e := by
  have hsee : Sees o s s' := by
    refine ⟨fun x hx => ?_, hb⟩
    cases x with
    | tmp t =>
      refine hs t (List.mem_append_left _ (List.mem_filterMap.2 ⟨.tmp t, hx, rfl⟩))
    | _ => rfl
  unfold opE at hc ⊢
  split at hc
  · rename_i hg
    exact eOp_mono hsee hc
  · rename_i g b hg
    split at hc
    · rename_i d hd
      have hget : s'.get d = s.get d := hs d (List.mem_append_right _ (by simp [hg, hd]))
      rw [hget]
      split at hc
      · rcases hc with ⟨hv', hc⟩ | ⟨hv', hc⟩
        · refine .inl ⟨hv', ?_⟩
          cases b with
          | true => exact eOp_mono hsee hc
          | false => exact hc
        · refine .inr ⟨hv', ?_⟩
          cases b with
          | true => exact hc
          | false => exact eOp_mono hsee hc
      · exact hc
      · exact hc.elim
    · exact hc.elim

/-! ### Masks -/

theorem maskOf_spec {ms : List Nat} : ∀ {es : List Edge} {i : Nat}, (maskOf ms es).testBit i = true → ∃ e ∈ es, Region.binds .any e = true ∧ (i = e.on ∨ (ms.getD e.on 0).testBit i = true) := by
  intro es
  induction es with
  | nil => intro i h; simp [maskOf] at h
  | cons e r ih =>
    intro i h
    simp only [maskOf] at h
    cases hb : Region.binds .any e with
    | true =>
      rw [hb, cond_true, Nat.testBit_or, Nat.testBit_or, Bool.or_eq_true, Bool.or_eq_true] at h
      rcases h with (h | h) | h
      · rw [Nat.testBit_two_pow] at h
        exact ⟨e, by simp, hb, .inl (Eq.symm (by simpa using h))⟩
      · exact ⟨e, by simp, hb, .inr h⟩
      · obtain ⟨e', h1, h2⟩ := ih h
        exact ⟨e', by simp [h1], h2⟩
    | false =>
      rw [hb, cond_false] at h
      obtain ⟨e', h1, h2⟩ := ih h
      exact ⟨e', by simp [h1], h2⟩

theorem masks_spec : ∀ (l : List Oper) (ms : List Nat), ∃ r, masks l ms = ms ++ r ∧ r.length = l.length ∧ ∀ j o, l[j]? = some o → (masks l ms)[ms.length + j]? = some (maskOf ((masks l ms).take (ms.length + j)) o.after.toList) := by
  intro l
  induction l with
  | nil => intro ms; exact ⟨[], by simp [masks], rfl, fun j o h => by simp at h⟩
  | cons o l ih =>
    intro ms
    obtain ⟨r, h1, h2, h3⟩ := ih (ms ++ [maskOf ms o.after.toList])
    refine ⟨maskOf ms o.after.toList :: r, by simp only [masks]; rw [h1]; simp, by simp [h2], fun j o' hj => ?_⟩
    cases j with
    | zero =>
      simp at hj
      subst hj
      simp only [masks, h1]
      simp
    | succ j =>
      have := h3 j o' (by simpa using hj)
      simp only [List.length_append, List.length_singleton] at this
      simp only [masks]
      rw [show ms.length + (j + 1) = ms.length + 1 + j by omega]
      exact this

/-- What a mask's bit means. -/
theorem mask_bit {j i : Nat} {o : Oper} (hj : ops[j]? = some o) (h : ((masks ops.toList []).getD j 0).testBit i = true) :
    ∃ e ∈ o.after.toList, Region.binds .any e = true ∧ (i = e.on ∨ ((masks ops.toList []).getD e.on 0).testBit i = true) := by
  obtain ⟨r, h1, h2, h3⟩ := masks_spec ops.toList []
  have := h3 j o (by simpa using hj)
  simp only [List.length_nil, Nat.zero_add] at this
  rw [List.getD_eq_getElem?_getD, this] at h
  obtain ⟨e, he, hb, hor⟩ := maskOf_spec h
  refine ⟨e, he, hb, hor.imp id fun h => ?_⟩
  rw [List.getD_eq_getElem?_getD, List.getElem?_take] at h
  split at h
  · rwa [List.getD_eq_getElem?_getD]
  · simp at h

theorem masks_len : (masks ops.toList []).length = ops.size := by
  obtain ⟨r, h1, h2, _⟩ := masks_spec ops.toList []
  rw [h1]; simpa using h2

end
end Go.Fl
/- Regions whose order is drawn: any order will do. -/
namespace Go.Fl
open Go

theorem count_set {l : Array Bool} {i : Nat} (hi : l.getD i true = false) : (l.setIfInBounds i true).toList.count false + 1 = l.toList.count false := by
  have hlt : i < l.size := by
    rcases Nat.lt_or_ge i l.size with h | h
    · exact h
    · simp [Array.getElem?_eq_none h] at hi
  have hv : l.toList[i]'(by simpa using hlt) = false := by
    simp [hlt] at hi
    simpa using hi
  have hmem : false ∈ l.toList := hv ▸ List.getElem_mem _
  have hpos := List.count_pos_iff.2 hmem
  rw [Array.toList_setIfInBounds, List.count_set (by simpa using hlt), hv]
  have h1 : (if (false == false) = true then 1 else 0) = 1 := rfl
  have h2 : (if (true == false) = true then 1 else 0) = 0 := rfl
  rw [h1, h2]
  omega

section
variable {P : Program} {ops : Array Oper}

abbrev msk (ops : Array Oper) (j : Nat) : Nat := (masks ops.toList []).getD j 0

def onL (l : Array Bool) (i : Nat) : Bool := l.getD i false

theorem onL_of {l : Array Bool} {i : Nat} (hi : i < l.size) : l.getD i true = onL l i := by simp [onL, hi]

/-- Edges go back. -/
def Back (ops : Array Oper) (j : Nat) : Prop := ∀ k, k < j → ∀ o, ops[k]? = some o → ∀ e ∈ o.after.toList, Region.binds .any e = true → e.on < k

theorem msk_out {k : Nat} (ho : ops[k]? = none) : msk ops k = 0 := by
  have hlen := masks_len (ops := ops)
  have : ops.size ≤ k := by
    rcases Nat.lt_or_ge k ops.size with h | h
    · simp [h] at ho
    · exact h
  rw [msk, List.getD_eq_getElem?_getD, List.getElem?_eq_none (by omega)]
  rfl

theorem Back.bit {j : Nat} (h : Back ops j) : ∀ k, k < j → ∀ i, (msk ops k).testBit i = true → i < k := by
  intro k
  induction k using Nat.strongRecOn with
  | _ k ih =>
    intro hk i hi
    cases ho : ops[k]? with
    | none => rw [msk_out ho] at hi; simp at hi
    | some o =>
      obtain ⟨e, he, hb, hor⟩ := mask_bit ho hi
      have h1 := h k hk o ho e he hb
      rcases hor with rfl | hor
      · exact h1
      · have := ih e.on h1 (by omega) i hor
        omega

theorem maskOf_sup {ms : List Nat} {i : Nat} {e : Edge} (hb : Region.binds .any e = true) (hi : (ms.getD e.on 0).testBit i = true) : ∀ {es : List Edge}, e ∈ es → (maskOf ms es).testBit i = true := by
  intro es
  induction es with
  | nil => intro h; simp at h
  | cons f r ih =>
    intro h
    simp only [maskOf]
    rcases List.mem_cons.1 h with rfl | h
    · rw [hb, cond_true, Nat.testBit_or, Nat.testBit_or, hi]; simp
    · cases Region.binds .any f with
      | true => rw [cond_true, Nat.testBit_or, ih h]; simp
      | false => rw [cond_false]; exact ih h

/-- What must go before goes before. -/
theorem Back.trans {n : Nat} (h : Back ops n) : ∀ j, j < n → ∀ k i, (msk ops j).testBit k = true → (msk ops k).testBit i = true → (msk ops j).testBit i = true := by
  intro j
  induction j using Nat.strongRecOn with
  | _ j ih =>
    intro hj k i h1 h2
    cases ho : ops[j]? with
    | none => rw [msk_out ho] at h1; simp at h1
    | some o =>
      obtain ⟨e, he, hb, hor⟩ := mask_bit ho h1
      have hlt := h j hj o ho e he hb
      have h3 : (msk ops e.on).testBit i = true := by
        rcases hor with rfl | hor
        · exact h2
        · exact ih e.on hlt (by omega) k i hor h2
      obtain ⟨r, q1, q2, q3⟩ := masks_spec ops.toList []
      have hm := q3 j o (by simpa using ho)
      simp only [List.length_nil, Nat.zero_add] at hm
      show ((masks ops.toList []).getD j 0).testBit i = true
      rw [List.getD_eq_getElem?_getD, hm]
      refine maskOf_sup hb ?_ he
      rw [List.getD_eq_getElem?_getD, List.getElem?_take, if_pos hlt, ← List.getD_eq_getElem?_getD]
      exact h3

/-- What has been done is closed. -/
def Closed (ops : Array Oper) (l : Array Bool) : Prop := ∀ k, onL l k = true → ∀ i, (msk ops k).testBit i = true → onL l i = true

theorem onL_set {l : Array Bool} {i k : Nat} (hi : i < l.size) : onL (l.setIfInBounds i true) k = add (onL l) i k := by
  unfold onL add
  by_cases h : i = k
  · subst h; simp [hi]
  · have : (k == i) = false := by simpa using Ne.symm h
    rw [getD_set_ne false h, this, Bool.false_or]

theorem ready_closed {l : Array Bool} (hc : Closed ops l) {j : Nat} (hj : j ∈ Region.ready .any ops l) : ∀ i, (msk ops j).testBit i = true → onL l i = true := by
  intro i hi
  obtain ⟨_, o, ho, hall⟩ := mem_ready.1 hj
  obtain ⟨e, he, hb, hor⟩ := mask_bit ho hi
  have h1 : onL l e.on = true := hall e (by simpa using he) hb
  rcases hor with rfl | hor
  · exact h1
  · exact hc _ h1 i hor

theorem Closed.set {l : Array Bool} (hc : Closed ops l) {j : Nat} (hj : j ∈ Region.ready .any ops l) (hlt : j < l.size) : Closed ops (l.setIfInBounds j true) := by
  intro k hk i hi
  rw [onL_set hlt] at hk ⊢
  simp only [add, Bool.or_eq_true, beq_iff_eq] at hk ⊢
  rcases hk with rfl | hk
  · exact .inr (ready_closed hc hj i hi)
  · exact .inr (hc k hk i hi)

theorem ready_lt {l : Array Bool} {j : Nat} (hj : j ∈ Region.ready .any ops l) : j < ops.size := by
  obtain ⟨_, o, ho, _⟩ := mem_ready.1 hj
  exact (Array.getElem?_eq_some_iff.1 ho).1

theorem ready_off {l : Array Bool} {j : Nat} (hj : j ∈ Region.ready .any ops l) : onL l j = false ∧ l.getD j true = false := by
  obtain ⟨h, _⟩ := mem_ready.1 hj
  refine ⟨?_, h⟩
  unfold onL
  rcases Nat.lt_or_ge j l.size with h' | h'
  · simp [h'] at h ⊢; exact h
  · simp [Array.getElem?_eq_none h'] at h

/-- The first one that is not done is ready. -/
theorem first_ready {l : Array Bool} {j : Nat} (hl : l.size = ops.size) (hj : j < ops.size) (hoff : onL l j = false) (hbelow : ∀ i, i < j → onL l i = true) (hback : Back ops (j + 1)) : j ∈ Region.ready .any ops l := by
  have ho : ops[j]? = some ops[j] := Array.getElem?_eq_getElem hj
  refine mem_ready.2 ⟨by rw [onL_of (by omega)]; exact hoff, _, ho, fun e he hb => ?_⟩
  exact hbelow _ (hback j (by omega) _ ho e (by simpa using he) hb)

theorem least {p : Nat → Prop} [DecidablePred p] : ∀ (n : Nat), p n → ∃ m, m ≤ n ∧ p m ∧ ∀ i, i < m → ¬ p i := by
  intro n
  induction n using Nat.strongRecOn with
  | _ n ih =>
    intro hn
    by_cases h : ∃ i, i < n ∧ p i
    · obtain ⟨i, hi, hp⟩ := h
      obtain ⟨m, h1, h2, h3⟩ := ih i hi hp
      exact ⟨m, by omega, h2, h3⟩
    · exact ⟨n, Nat.le_refl _, hn, fun i hi hp => h ⟨i, hi, hp⟩⟩

theorem inS_take {M : Nat → Bool} : ∀ (es : List Rec) (k i : Nat) (s : S), inS M s (es.take k) i = inS (fun j => M j && decide (j < i + k)) s es i := by
  intro es
  induction es with
  | nil => intro k i s; simp [inS]
  | cons e r ih =>
    intro k i s
    cases k with
    | zero =>
      simp only [List.take_zero, inS]
      have : ∀ (r : List Rec) (j : Nat) (s : S), i ≤ j → inS (fun j => M j && decide (j < i + 0)) s r j = s := by
        intro r
        induction r with
        | nil => intro j s _; rfl
        | cons e r ih =>
          intro j s hj
          have hn : (M j && decide (j < i + 0)) = false := by
            have : decide (j < i + 0) = false := decide_eq_false (by omega)
            rw [this, Bool.and_false]
          simp only [inS, hn, cond_false]
          exact ih (j + 1) s (by omega)
      have hn : (M i && decide (i < i + 0)) = false := by simp
      rw [hn, cond_false, this r (i + 1) s (by omega)]
    | succ k =>
      have hi : (M i && decide (i < i + (k + 1))) = M i := by
        have : i < i + (k + 1) := by omega
        simp [this]
      simp only [List.take_succ_cons, inS, hi]
      rw [ih k (i + 1)]
      congr 1
      funext j
      rw [show i + (k + 1) = i + 1 + k by omega]

theorem apartL_spec {x y : Oper} (h : apartL ops x y = true) : (∀ d, x.dst = some d → d ∉ y.looksAt ops ∧ y.dst ≠ some d) ∧ (∀ d, y.dst = some d → d ∉ x.looksAt ops) := by
  simp only [apartL, Bool.and_eq_true] at h
  refine ⟨fun d hd => ?_, fun d hd => ?_⟩
  · have := h.1
    rw [hd] at this
    simpa using this
  · have := h.2
    rw [hd] at this
    simpa using this

theorem disj_spec {a b : List Nat} (h : disj a b = true) : ∀ x ∈ a, x ∉ b := by
  intro x hx
  have := List.all_eq_true.1 h x hx
  simpa using this

/-- What has been reckoned of a region, up to here. -/
structure Seg (E : Env) (H : Hints) (r : Nat) (ops : Array Oper) (s : S) (es : List Rec) : Prop where
  le : es.length ≤ ops.size
  eff : ∀ k x, es[k]? = some x → ∃ o, ops[k]? = some o ∧ x.dst = o.dst ∧
    (opE E (hintAt H r k) (siteAt H r k) ops o ((inS (msk ops k).testBit s (es.take k) 0).only (lookIds (inS (msk ops k).testBit s (es.take k) 0) o))).can x.e ∧
    x.fd = footD (lookIds (inS (msk ops k).testBit s (es.take k) 0) o) x.e ∧ x.fh = footH (inS (msk ops k).testBit s (es.take k) 0) ops o (lookIds (inS (msk ops k).testBit s (es.take k) 0) o) x.e ∧ nodupB (x.e.nb.map (·.1)) = true ∧
    ∀ d ∈ x.e.D, ∃ z, find (inS (msk ops k).testBit s (es.take k) 0).bx d = some z
  apart : ∀ i j, i < j → ∀ x y p q, ops[i]? = some x → ops[j]? = some y → es[i]? = some p → es[j]? = some q → (msk ops j).testBit i = true ∨ (apartL ops x y = true ∧ disj p.fd q.e.D = true ∧ disj p.fh q.e.dead = true ∧ disj q.fd p.e.D = true ∧ disj q.fh p.e.dead = true)
  back : Back ops es.length

theorem foot_idsD {look : List Nat} {e : Ef} : ∀ b ∈ e.idsD, b ∈ footD look e := by
  intro b hb
  simp only [footD, List.mem_append]
  exact .inr hb

theorem foot_idsH {s : S} {o : Oper} {look : List Nat} {e : Ef} : ∀ b ∈ e.idsH, b ∈ footH s ops o look e := by
  intro b hb
  simp only [Ef.idsH, List.mem_append] at hb
  simp only [footH, List.mem_append]
  rcases hb with hb | hb
  · exact .inl (.inr hb)
  · exact .inr hb

theorem newIds_of {e : Ef} {b : Nat} (h : b ∈ e.nb.map (·.1)) : b ∈ newIds e ∨ b ∈ e.D := by
  unfold newIds
  by_cases hd : b ∈ e.D
  · exact .inr hd
  · exact .inl (List.mem_filter.2 ⟨h, by simpa using hd⟩)

section
variable {E : Env} {H : Hints} {r : Nat} {s : S} {es : List Rec} (h : Seg E H r ops s es)
include h

/-- Where a box's name comes from. -/
theorem Seg.names : ∀ (k : Nat) (x : Rec), es[k]? = some x → ∀ b ∈ x.e.nb.map (·.1), b ∈ s.bx.map (·.1) ∨ ∃ (i : Nat) (y : Rec), i ≤ k ∧ es[i]? = some y ∧ b ∈ newIds y.e := by
  intro k
  induction k using Nat.strongRecOn with
  | _ k ih =>
    intro x hx b hb
    rcases newIds_of hb with hn | hD
    · exact .inr ⟨k, x, Nat.le_refl _, hx, hn⟩
    · obtain ⟨o, _, _, _, _, _, _, hf⟩ := h.eff k x hx
      obtain ⟨z, hz⟩ := hf b hD
      rcases inS_mem _ _ _ b (List.mem_map.2 ⟨_, find_mem hz, rfl⟩) with h1 | ⟨i, y, _, h2, h3⟩
      · exact .inl h1
      · rw [List.getElem?_take] at h2
        split at h2
        · rename_i hik
          rcases ih i hik y h2 b h3 with h4 | ⟨m, q, h5, h6, h7⟩
          · exact .inl h4
          · exact .inr ⟨m, q, by omega, h6, h7⟩
        · cases h2

variable (hnews : newsOk s.bx es = true)
include hnews

omit h in
theorem news_out {k : Nat} {x : Rec} (hx : es[k]? = some x) {b : Nat} (hb : b ∈ newIds x.e) : b ∉ s.bx.map (·.1) := by
  intro hm
  simp only [newsOk, Bool.and_eq_true, List.all_eq_true] at hnews
  have := hnews.2 b (List.mem_flatMap.2 ⟨x, List.mem_of_getElem? hx, hb⟩)
  obtain ⟨p, hp, rfl⟩ := List.mem_map.1 hm
  obtain ⟨y, hy⟩ := find_isSome hp
  rw [hy] at this
  simp at this

omit h in
theorem news_one {i k : Nat} {x y : Rec} (hx : es[i]? = some x) (hy : es[k]? = some y) {b : Nat} (h1 : b ∈ newIds x.e) (h2 : b ∈ newIds y.e) : i = k := by
  simp only [newsOk, Bool.and_eq_true] at hnews
  have hn := nodupB_spec hnews.1
  have key : ∀ (es : List Rec) (i k : Nat) (x y : Rec), (es.flatMap fun r => newIds r.e).Nodup → es[i]? = some x → es[k]? = some y → b ∈ newIds x.e → b ∈ newIds y.e → i < k → False := by
    intro es
    induction es with
    | nil => intro i k x y _ hx; simp at hx
    | cons e r ih =>
      intro i k x y hn hx hy h1 h2 hik
      rw [List.flatMap_cons] at hn
      obtain ⟨_, n2, n3⟩ := List.nodup_append.1 hn
      cases k with
      | zero => omega
      | succ k =>
        have hy' : r[k]? = some y := by simpa using hy
        cases i with
        | zero =>
          simp at hx
          subst hx
          exact n3 b h1 b (List.mem_flatMap.2 ⟨y, List.mem_of_getElem? hy', h2⟩) rfl
        | succ i => exact ih i k x y n2 (by simpa using hx) hy' h1 h2 (by omega)
  rcases Nat.lt_trichotomy i k with hlt | heq | hgt
  · exact (key es i k x y hn hx hy h1 h2 hlt).elim
  · exact heq
  · exact (key es k i y x hn hy hx h2 h1 hgt).elim

/-- A new box that another effect has: it comes later, and stands for it. -/
theorem Seg.clash {i k : Nat} {x y : Rec} (hx : es[i]? = some x) (hy : es[k]? = some y) (hik : i ≠ k) {b : Nat} (h1 : b ∈ newIds x.e) (h2 : b ∈ y.e.nb.map (·.1)) : i < k ∧ b ∈ y.e.D := by
  have hD : b ∈ y.e.D := (newIds_of h2).resolve_left fun hn => hik (news_one hnews hx hy h1 hn)
  refine ⟨?_, hD⟩
  rcases h.names k y hy b h2 with h3 | ⟨m, q, h4, h5, h6⟩
  · exact absurd h3 (news_out hnews hx h1)
  · have := news_one hnews hx h5 h1 h6
    omega

end

/-- One operation of a region, whatever has been done before it. -/
theorem Seg.step {E : Env} {H : Hints} {r : Nat} {s : S} {es : List Rec} (hE : EnvOk P E) (h : Seg E H r ops s es) (hnews : newsOk s.bx es = true) {l : Array Bool} (hl : l.size = ops.size)
    (hc : Closed ops l) {j : Nat} (hj : j ∈ Region.ready .any ops l) (he : j < es.length) {w0 w : World} {own0 : Ow} {a : Act} (hst : St w0 own0 (inS (onL l) s es 0) a w)
    {K : Act → World → Prop} {Q : Exit → Act → World → Prop} (hK : ∀ a' w', St w0 own0 (inS (onL (l.setIfInBounds j true)) s es 0) a' w' → K a' w') : wpOp P ops Q j K a w := by
  have hx : es[j]? = some es[j] := List.getElem?_eq_getElem he
  obtain ⟨o, ho, hd, hcan, hfootD, hfootH, hndn, hDf⟩ := h.eff _ _ hx
  obtain ⟨hoff, _⟩ := ready_off hj
  have hjs : j < ops.size := ready_lt hj
  -- unordered ones are apart
  have hap : ∀ (k : Nat) (q : Rec), onL l k = true → es[k]? = some q → (msk ops j).testBit k = false → (∀ d, q.dst = some d → d ∉ o.looksAt ops ∧ es[j].dst ≠ some d) ∧ ((∀ b ∈ q.fd, b ∉ es[j].e.D) ∧ ∀ b ∈ q.fh, b ∉ es[j].e.dead) ∧ (∀ b ∈ es[j].fd, b ∉ q.e.D) ∧ (∀ b ∈ es[j].fh, b ∉ q.e.dead) := by
    intro k q hk hq hmk
    obtain ⟨y, hy, hyd, _⟩ := h.eff k q hq
    rcases Nat.lt_trichotomy k j with hkj | hkj | hkj
    · rcases h.apart k j hkj y o q es[j] hy ho hq hx with h1 | ⟨h1, h2, h2', h3, h3'⟩
      · rw [h1] at hmk; cases hmk
      · exact ⟨fun d hd' => by rw [hd]; exact (apartL_spec h1).1 d (hyd ▸ hd'), ⟨disj_spec h2, disj_spec h2'⟩, disj_spec h3, disj_spec h3'⟩
    · subst hkj; rw [hoff] at hk; cases hk
    · rcases h.apart j k hkj o y es[j] q ho hy hx hq with h1 | ⟨h1, h2, h2', h3, h3'⟩
      · have := hc k hk j h1
        rw [hoff] at this; cases this
      · obtain ⟨g1, g2⟩ := apartL_spec h1
        exact ⟨fun d hd' => ⟨g2 d (hyd ▸ hd'), fun hod => (g1 d (hd ▸ hod)).2 (hyd ▸ hd')⟩, ⟨disj_spec h3, disj_spec h3'⟩, disj_spec h2, disj_spec h2'⟩
  have hfD : ∀ (k : Nat) (q : Rec), es[k]? = some q → ∀ b ∈ q.e.idsD, b ∈ q.fd := by
    intro k q hq b hb
    obtain ⟨_, _, _, _, hf, _⟩ := h.eff k q hq
    rw [hf]
    exact foot_idsD b hb
  have hfH : ∀ (k : Nat) (q : Rec), es[k]? = some q → ∀ b ∈ q.e.idsH, b ∈ q.fh := by
    intro k q hq b hb
    obtain ⟨_, _, _, _, _, hf, _⟩ := h.eff k q hq
    rw [hf]
    exact foot_idsH b hb
  have hapR : ∀ (k : Nat) (q : Rec), onL l k = true → es[k]? = some q → (msk ops j).testBit k = false → ApartR es[j] q := by
    intro k q hk hq hmk
    obtain ⟨h1, ⟨h2, h2'⟩, h3, h3'⟩ := hap k q hk hq hmk
    exact ⟨fun d hd' hq' => (h1 d hq').2 hd', ⟨fun b hb => h3 b (hfD j _ hx b hb), fun b hb => h3' b (hfH j _ hx b hb)⟩, ⟨fun b hb => h2 b (hfD k q hq b hb), fun b hb => h2' b (hfH k q hq b hb)⟩⟩
  -- those that must go before
  have hMlt : ∀ k, (msk ops j).testBit k = true → k < j := h.back.bit j he
  have hsj : inS (msk ops j).testBit s (es.take j) 0 = inS (msk ops j).testBit s es 0 := by
    rw [inS_take]
    refine inS_same es 0 s fun k _ _ => ?_
    cases hm : (msk ops j).testBit k with
    | false => rfl
    | true =>
      have := hMlt k hm
      simp [this]
  rw [hsj] at hcan hfootD hfootH hDf
  obtain ⟨xs, heq, hxs⟩ := inS_split (L := onL l) (M := (msk ops j).testBit) es 0 s (fun k _ hm => by rw [Nat.zero_add] at hm ⊢; exact ready_closed hc hj k hm)
    (fun k k' x y hk hl hm hm' hx' hy => by
      rw [Nat.zero_add] at hl hm hm'
      obtain ⟨ox, hox, hdx, _⟩ := h.eff k x hx'
      obtain ⟨oy, hoy, hdy, _⟩ := h.eff k' y hy
      rcases h.apart k k' hk ox oy x y hox hoy hx' hy with h1 | ⟨h1, h2, h2', h3, h3'⟩
      · have := h.back.trans j he k' k hm' h1
        rw [hm] at this; cases this
      · obtain ⟨g1, g2⟩ := apartL_spec h1
        exact ⟨fun d hd' => by rw [hdy]; exact (g1 d (hdx ▸ hd')).2, ⟨fun b hb => disj_spec h2 b (hfD k x hx' b hb), fun b hb => disj_spec h2' b (hfH k x hx' b hb)⟩, ⟨fun b hb => disj_spec h3 b (hfD k' y hy b hb), fun b hb => disj_spec h3' b (hfH k' y hy b hb)⟩⟩)
  -- what it sees
  have hsub : Sub (o.looksAt ops) (lookIds (inS (msk ops j).testBit s es 0) o) (inS (msk ops j).testBit s es 0) (appAll xs (inS (msk ops j).testBit s es 0)) := by
    have hlookF : ∀ b ∈ lookIds (inS (msk ops j).testBit s es 0) o, b ∈ es[j].fd := fun b hb => by rw [hfootD]; simp only [footD, List.mem_append]; exact .inl hb
    have go : ∀ (xs : List Rec) (t : S), (∀ x ∈ xs, ∃ k, es[k]? = some x ∧ onL l (0 + k) = true ∧ (msk ops j).testBit (0 + k) = false) →
        Sub (o.looksAt ops) (lookIds (inS (msk ops j).testBit s es 0) o) (inS (msk ops j).testBit s es 0) t → Sub (o.looksAt ops) (lookIds (inS (msk ops j).testBit s es 0) o) (inS (msk ops j).testBit s es 0) (appAll xs t) := by
      intro xs
      induction xs with
      | nil => intro t _ ht; exact ht
      | cons x xs ih =>
        intro t hxs ht
        obtain ⟨k, hk, hkl, hkm⟩ := hxs x (by simp)
        rw [Nat.zero_add] at hkl hkm
        obtain ⟨g1, g2, g3, g3'⟩ := hap k x hkl hk hkm
        refine ih _ (fun y hy => hxs y (by simp [hy])) (ht.app (fun d hd' => (g1 d hd').1) (fun t ht v hv b hb => g3' b ?_) (fun b hb => g3 b (hlookF b hb)) (fun b hb y hy q hq => g3' q ?_) (fun b hb y hy hbn => ?_))
        · rw [hfootH]
          simp only [footH, List.mem_append]
          refine .inl (.inl (.inl (List.mem_flatten.2 ⟨v.ids, List.mem_map.2 ⟨t, ht, ?_⟩, hb⟩)))
          unfold S.get
          rw [List.getD_eq_getElem?_getD, hv]
          rfl
        · rw [hfootH]
          simp only [footH, List.mem_append]
          refine .inl (.inl (.inr (List.mem_flatMap.2 ⟨b, hb, ?_⟩)))
          rw [hy]
          exact hq
        · rcases newIds_of hbn with hnew | hD
          · rcases inS_mem _ _ _ b (List.mem_map.2 ⟨_, find_mem hy, rfl⟩) with h1 | ⟨k', z, h1, h2, h3⟩
            · exact news_out hnews hk hnew h1
            · rw [Nat.zero_add] at h1
              have hne : k ≠ k' := fun e => by rw [e, h1] at hkm; cases hkm
              obtain ⟨hlt, hzD⟩ := h.clash hnews hk h2 hne hnew h3
              obtain ⟨ox, hox, _⟩ := h.eff k x hk
              obtain ⟨oz, hoz, _⟩ := h.eff k' z h2
              rcases h.apart k k' hlt ox oz x z hox hoz hk h2 with q1 | ⟨_, q2, _⟩
              · have := h.back.trans j he k' k h1 q1
                rw [hkm] at this; cases this
              · exact disj_spec q2 b (hfD k x hk b hbn) hzD
          · exact g3 b (hlookF b hb) hD
    exact go xs _ hxs (Sub.refl _ _ _)
  have hst2 := hst.perm heq
  have hcan' : (opE E (hintAt H r j) (siteAt H r j) ops o (appAll xs (inS (msk ops j).testBit s es 0))).can es[j].e := by
    refine opE_mono (fun t ht => ?_) (fun b x hb => ?_) hcan
    · unfold S.get
      rw [List.getD_eq_getElem?_getD, List.getD_eq_getElem?_getD, hsub.get t ht]
      rfl
    · have hm := find_mem hb
      obtain ⟨h1, h2⟩ := List.mem_filter.1 hm
      have hb2 : b ∈ lookIds (inS (msk ops j).testBit s es 0) o := by simpa using h2
      refine hsub.bx b hb2 x ?_
      have hfe := find_filter (fun k => !(lookIds (inS (msk ops j).testBit s es 0) o).contains k) (inS (msk ops j).testBit s es 0).bx b
      have hcb : (lookIds (inS (msk ops j).testBit s es 0) o).contains b = true := by simpa using hb2
      rw [hcb] at hfe
      simp only [Bool.not_not, Bool.not_true, Bool.false_eq_true, if_false] at hfe
      rw [← hfe]
      exact hb
  -- new boxes are new
  have hf : es[j].e.okB (appAll xs (inS (msk ops j).testBit s es 0)).bx = true := by
    simp only [Ef.okB, Bool.and_eq_true, List.all_eq_true, Bool.or_eq_true]
    refine ⟨hndn, fun p hp => ?_⟩
    by_cases hpd : es[j].e.D.contains p.1 = true
    · exact .inl hpd
    · refine .inr ?_
      rw [Option.isNone_iff_eq_none]
      cases hfp : find (appAll xs (inS (msk ops j).testBit s es 0)).bx p.1 with
      | none => rfl
      | some z =>
        exfalso
        have hpm : p.1 ∈ es[j].e.nb.map (·.1) := List.mem_map.2 ⟨p, hp, rfl⟩
        have hnew : p.1 ∈ newIds es[j].e := (newIds_of hpm).resolve_right fun hD => hpd (by simpa using hD)
        have hin : p.1 ∈ (inS (onL l) s es 0).bx.map (·.1) := List.mem_map.2 ⟨_, heq.2.1.mem_iff.2 (find_mem hfp), rfl⟩
        rcases inS_mem _ _ _ p.1 hin with h1 | ⟨k, y, h1, h2, h3⟩
        · exact news_out hnews hx hnew h1
        · rw [Nat.zero_add] at h1
          have hne : j ≠ k := fun e => by rw [← e, hoff] at h1; cases h1
          obtain ⟨hlt, hyD⟩ := h.clash hnews hx h2 hne hnew h3
          obtain ⟨oy, hoy, _⟩ := h.eff k y h2
          rcases h.apart j k hlt o oy es[j] y ho hoy hx h2 with q1 | ⟨_, q2, _⟩
          · have := hc k h1 j q1
            rw [hoff] at this; cases this
          · exact disj_spec q2 p.1 (hfD j _ hx p.1 hpm) hyD
  have hsim := opE_sim hE hcan' hf
  refine hsim.wpOp ho hst2 fun a' w' hst' => hK a' w' (hst'.perm ?_)
  have hset : onL (l.setIfInBounds j true) = add (onL l) j := funext fun k => onL_set (by omega)
  rw [hset, ← hd]
  refine ((heq.symm.app _ _).trans ?_)
  refine (inS_add es 0 j s (by omega) hx hoff fun m y hm hLm hy => ?_).symm
  rw [Nat.zero_add] at hLm
  refine hapR m y hLm hy ?_
  cases hmb : (msk ops j).testBit m with
  | false => rfl
  | true =>
    have := hMlt m hmb
    omega

end
end Go.Fl
/- Regions. -/
namespace Go.Fl
open Go

section
variable {P : Program} {ops : Array Oper}

theorem inS_none {L : Nat → Bool} : ∀ (es : List Rec) (i : Nat) (s : S), (∀ k, i ≤ k → k < i + es.length → L k = false) → inS L s es i = s := by
  intro es
  induction es with
  | nil => intro i s _; rfl
  | cons e r ih =>
    intro i s h
    simp only [inS, h i (Nat.le_refl _) (by simp), cond_false]
    exact ih _ _ fun k h1 h2 => h k (by omega) (by simp; omega)

/-- A whole region. -/
theorem Seg.run {E : Env} {H : Hints} {r : Nat} {s : S} {es : List Rec} (hE : EnvOk P E) (h : Seg E H r ops s es) (hnews : newsOk s.bx es = true) (hlen : es.length = ops.size) {w0 : World} {own0 : Ow} {Q : Exit → Act → World → Prop}
    (cont : ∀ (a : Act) (w : World), St w0 own0 (inS allB s es 0) a w → Q .normal a w) :
    ∀ (fuel : Nat) (l : Array Bool) (a : Act) (w : World), l.size = ops.size → Closed ops l → fuel = l.toList.count false → St w0 own0 (inS (onL l) s es 0) a w → wpAny P .any ops Q fuel l a w := by
  intro fuel
  induction fuel with
  | zero =>
    intro l a w hl hc hf hst
    have hall : ∀ i, i < ops.size → onL l i = true := by
      intro i hi
      cases hoi : onL l i with
      | true => rfl
      | false =>
        have h3 := count_set (l := l) (i := i) (by rw [onL_of (by omega)]; exact hoi)
        omega
    refine wpAny_done ?_ (cont _ _ ?_) 0
    · apply List.eq_nil_iff_forall_not_mem.2
      intro k hk
      have h1 := (ready_off hk).1
      have h2 := ready_lt hk
      rw [hall k h2] at h1; cases h1
    · rw [inS_same (L := allB) (M := onL l) es 0 s fun k hk1 hk2 => by rw [hall k (by omega)]; rfl]
      exact hst
  | succ fuel ih =>
    intro l a w hl hc hf hst
    have hex : ∃ n, n < ops.size ∧ onL l n = false := by
      refine Classical.byContradiction fun hn => ?_
      have hz : l.toList.count false = 0 := by
        rw [List.count_eq_zero]
        intro hm
        obtain ⟨i, hi, hv⟩ := List.getElem_of_mem hm
        have hi' : i < l.size := by simpa using hi
        refine hn ⟨i, by omega, ?_⟩
        simp only [onL, Array.getD, hi', dif_pos]
        simpa using hv
      omega
    obtain ⟨n, hn1, hn2⟩ := hex
    obtain ⟨m, hm1, hm2, hm3⟩ := least (p := fun i => onL l i = false) n hn2
    have hmr : m ∈ Region.ready .any ops l := first_ready hl (by omega) hm2 (fun i hi => by
      cases hoi : onL l i with
      | true => rfl
      | false => exact absurd hoi (hm3 i hi)) (fun k hk o ho e he hb => h.back k (by omega) o ho e he hb)
    refine ⟨fun hnil => by rw [hnil] at hmr; simp at hmr, fun j hj => ?_⟩
    obtain ⟨hoff, hoff'⟩ := ready_off hj
    have hjs := ready_lt hj
    refine h.step hE hnews hl hc hj (by omega) hst fun a' w' hst' => ?_
    refine ih _ a' w' (by simpa using hl) (hc.set hj (by omega)) ?_ hst'
    have := count_set hoff'
    omega

theorem apartAll_spec {m : Nat} {o : Oper} {rc : Rec} : ∀ {seg : List Oper} {es : List Rec} {b : Nat}, apartAll ops m o rc seg es b = true → ∀ (i : Nat) (x : Oper) (q : Rec), seg[i]? = some x → es[i]? = some q →
    m.testBit (b + i) = true ∨ (apartL ops x o = true ∧ disj q.fd rc.e.D = true ∧ disj q.fh rc.e.dead = true ∧ disj rc.fd q.e.D = true ∧ disj rc.fh q.e.dead = true) := by
  intro seg
  induction seg with
  | nil => intro es b _ i x q h; simp at h
  | cons y r ih =>
    intro es b h i x q hx hq
    cases es with
    | nil => simp at hq
    | cons p es =>
      simp only [apartAll, Bool.and_eq_true, Bool.or_eq_true] at h
      cases i with
      | zero =>
        simp at hx hq
        subst hx hq
        rcases h.1 with h1 | ⟨⟨⟨⟨h1, h2⟩, h3⟩, h4⟩, h5⟩
        · exact .inl h1
        · exact .inr ⟨h1, h2, h3, h4, h5⟩
      | succ i => rw [show b + (i + 1) = b + 1 + i by omega]; exact ih h.2 i x q (by simpa using hx) (by simpa using hq)

theorem evD_sound {ρ : Type} {E : Env} {H : Hints} {r : Nat} {K : S → Option ρ} {res : ρ} (hE : EnvOk P E) {w0 : World} {own0 : Ow} {Q : Exit → Act → World → Prop}
    (hK : ∀ s' a' w', K s' = some res → St w0 own0 s' a' w' → Q .normal a' w') {s : S} :
    ∀ (rest : List Oper) (j : Nat) (seg : List Oper) (es : List Rec), evD E H r ops (masks ops.toList []) j rest seg es K s = some res → ops.toList.drop j = rest → es.length = j → seg = ops.toList.take j →
      Seg E H r ops s es → ∀ (l : Array Bool) (fuel : Nat) (a : Act) (w : World), l.size = ops.size → (∀ i, onL l i = false) → fuel = l.toList.count false → St w0 own0 s a w → wpAny P .any ops Q fuel l a w := by
  intro rest
  induction rest with
  | nil =>
    intro j seg es hev hdrop hel hseg hS l fuel a w hl hon hf hst
    simp only [evD] at hev
    cases hfr : newsOk s.bx es with
    | false => rw [hfr] at hev; cases hev
    | true =>
      rw [hfr, cond_true] at hev
      have hle := hS.le
      have hsz : ops.size ≤ j := by
        have := List.drop_eq_nil_iff.1 hdrop
        simpa using this
      refine hS.run (w0 := w0) (own0 := own0) hE hfr (by omega) (fun a' w' hst' => hK _ _ _ hev hst') fuel l a w hl (fun k hk => by rw [hon] at hk; cases hk) hf ?_
      rw [inS_none es 0 s fun k _ _ => hon k]
      exact hst
  | cons o rest ih =>
    intro j seg es hev hdrop hel hseg hS l fuel a w hl hon hf hst
    have hoj : ops[j]? = some o := by
      have : (ops.toList.drop j)[0]? = some o := by rw [hdrop]; rfl
      rw [List.getElem?_drop] at this
      simpa using this
    have hjs : j < ops.size := (Array.getElem?_eq_some_iff.1 hoj).1
    have hdrop' : ops.toList.drop (j + 1) = rest := by
      rw [← List.drop_drop, hdrop]; rfl
    simp only [evD] at hev
    rw [known_eq] at hev
    cases hedge : (o.after.toList.all fun e => !Region.binds .any e || decide (e.on < j)) with
    | false => rw [hedge] at hev; cases hev
    | true =>
      rw [hedge, cond_true] at hev
      have hback' : Back ops (j + 1) := by
        intro k hk o' ho' e he hb
        rcases Nat.lt_or_ge k j with h | h
        · exact hS.back k (by omega) o' ho' e he hb
        · have : k = j := by omega
          subst this
          rw [hoj] at ho'
          cases ho'
          have := List.all_eq_true.1 hedge e he
          rw [hb] at this
          simpa using this
      obtain ⟨e, hcan, hev⟩ := Tr.run_can hev
      cases hchk : (nodupB (e.nb.map (·.1)) && e.D.all (fun d => (find (inS ((masks ops.toList []).getD j 0).testBit s es 0).bx d).isSome) &&
          apartAll ops ((masks ops.toList []).getD j 0) o ⟨o.dst, e, footD (lookIds (inS ((masks ops.toList []).getD j 0).testBit s es 0) o) e, footH (inS ((masks ops.toList []).getD j 0).testBit s es 0) ops o (lookIds (inS ((masks ops.toList []).getD j 0).testBit s es 0) o) e⟩ seg es 0) with
      | false => rw [hchk] at hev; cases hev
      | true =>
        rw [hchk, cond_true] at hev
        simp only [Bool.and_eq_true] at hchk
        obtain ⟨⟨hc1, hc2⟩, hap⟩ := hchk
        refine ih (j + 1) (seg ++ [o]) (es ++ [⟨o.dst, e, footD (lookIds (inS ((masks ops.toList []).getD j 0).testBit s es 0) o) e, footH (inS ((masks ops.toList []).getD j 0).testBit s es 0) ops o (lookIds (inS ((masks ops.toList []).getD j 0).testBit s es 0) o) e⟩]) hev hdrop' (by simp [hel]) ?_ ?_ l fuel a w hl hon hf hst
        · rw [hseg, List.take_succ]
          have : ops.toList[j]? = some o := by simpa using hoj
          rw [this]; rfl
        · refine ⟨by simp; omega, fun k x hx => ?_, fun i k hik x y p q hx hy hp hq => ?_, by simp only [List.length_append, List.length_singleton]; rw [hel]; exact hback'⟩
          · rcases Nat.lt_or_ge k es.length with hk | hk
            · rw [List.getElem?_append_left hk] at hx
              obtain ⟨o', h1, h2, h3⟩ := hS.eff k x hx
              exact ⟨o', h1, h2, by rw [List.take_append_of_le_length (by omega)]; exact h3⟩
            · have hke : k = es.length := by
                have := getElem?_lt hx
                simp at this; omega
              subst hke
              rw [List.getElem?_append_right (Nat.le_refl _)] at hx
              simp at hx
              subst hx
              refine ⟨o, by rw [hel]; exact hoj, rfl, ?_⟩
              rw [List.take_append_of_le_length (Nat.le_refl _), List.take_length, hel]
              refine ⟨hcan, rfl, rfl, hc1, fun d hd => ?_⟩
              exact Option.isSome_iff_exists.1 (List.all_eq_true.1 hc2 d hd)
          · rcases Nat.lt_or_ge k es.length with hk | hk
            · rw [List.getElem?_append_left hk] at hq
              rw [List.getElem?_append_left (by omega)] at hp
              exact hS.apart i k hik x y p q hx hy hp hq
            · have hke : k = es.length := by
                have := getElem?_lt hq
                simp at this; omega
              subst hke
              rw [List.getElem?_append_right (Nat.le_refl _)] at hq
              simp at hq
              subst hq
              rw [List.getElem?_append_left hik] at hp
              rw [hel] at hy hik ⊢
              rw [hoj] at hy
              cases hy
              have hxs : seg[i]? = some x := by
                rw [hseg, List.getElem?_take, if_pos hik]
                simpa using hx
              have := apartAll_spec hap i x p hxs hp
              rw [Nat.zero_add] at this
              exact this

theorem evSp_sound {ρ : Type} {E : Env} {o : Oper} {s : S} {sp : Sp} {K : S → Option ρ} {res : ρ} (hE : EnvOk P E) (hsp : spOf E o s = some sp) (hev : evSp s o.dst K sp = some res)
    {w0 w : World} {own0 : Ow} {a : Act} (hst : St w0 own0 s a w) {next : Act → World → Prop} {Q : Exit → Act → World → Prop} (hK : ∀ s' a' w', K s' = some res → St w0 own0 s' a' w' → next a' w') :
    o.guard = none ∧ o.wp P a w next Q := by
  unfold spOf at hsp
  split at hsp
  · cases hsp
  · rename_i hg
    refine ⟨hg, ?_⟩
    split at hsp
    · rename_i x ho
      split at hsp
      · rename_i b hx
        cases hsp
        simp only [evSp] at hev
        split at hev
        · rename_i t rest cur hb
          refine sim_next ho hx hb hst (fun h0 a' w' hst' => ?_) (fun i hi a' w' hst' => ?_)
          · subst h0
            simp only [List.isEmpty_nil, cond_true] at hev
            exact hK _ _ _ hev hst'
          · have hne : rest.isEmpty = false := by cases rest with
              | nil => simp at hi
              | cons _ _ => rfl
            rw [hne, cond_false] at hev
            have hany := anyOf_some hev
            exact hK _ _ _ (hany.2 i hi) hst'
        · cases hev
      · cases hsp
    · rename_i op T x T2 ho
      split at hsp
      · rename_i l t hx ht
        have go : ∀ neq : Bool, op = (if neq then .neq else .eql) → evSp s o.dst K (.isNil l neq) = some res → o.wp P a w next Q := by
          intro neq hop hev
          simp only [evSp] at hev
          split at hev
          · rename_i c hn
            refine sim_isNil hE.te ho hop ht hx hn hst fun b _ hb a' w' hst' => ?_
            rw [hb rfl] at hst'
            refine hK _ _ _ hev ?_
            rw [Bool.xor_true] at hst'
            exact hst'
          · rename_i c hn
            refine sim_isNil hE.te ho hop ht hx hn hst fun b hb _ a' w' hst' => ?_
            cases c with
            | false =>
              rw [cond_false] at hev
              rw [hb rfl, Bool.xor_false] at hst'
              exact hK _ _ _ hev hst'
            | true =>
              rw [cond_true] at hev
              have hany := (anyOf_some hev).2
              cases b with
              | false =>
                have := hany 0 (by omega)
                rw [Bool.xor_false] at hst'
                exact hK _ _ _ this hst'
              | true =>
                have := hany 1 (by omega)
                rw [Bool.xor_true] at hst'
                exact hK _ _ _ this hst'
          · cases hev
        split at hsp
        · cases hsp; exact go false rfl hev
        · cases hsp; exact go true rfl hev
        · cases hsp
      · cases hsp
    · cases hsp

theorem evOps_sound {ρ : Type} {E : Env} {H : Hints} {r : Nat} {K : S → Option ρ} {res : ρ} (hE : EnvOk P E) {w0 : World} {own0 : Ow} {Q : Exit → Act → World → Prop}
    (hK : ∀ s' a' w', K s' = some res → St w0 own0 s' a' w' → Q .normal a' w') :
    ∀ (rest : List Oper) (i : Nat) (s : S), evOps E H r ops i rest K s = some res → ops.toList.drop i = rest → ∀ (a : Act) (w : World), St w0 own0 s a w → wpOps P ops Q (List.range' i rest.length) a w := by
  intro rest
  induction rest with
  | nil => intro i s h _ a w hst; exact hK _ _ _ h hst
  | cons o rest ih =>
    intro i s h hdrop a w hst
    have ho : ops[i]? = some o := by
      have : (ops.toList.drop i)[0]? = some o := by rw [hdrop]; rfl
      rw [List.getElem?_drop] at this
      simpa using this
    have hd1 : ops.toList.drop (i + 1) = rest := by rw [← List.drop_drop, hdrop]; rfl
    simp only [evOps] at h
    rw [List.length_cons, List.range'_succ, wpOps_cons]
    split at h
    · rename_i sp hsp
      obtain ⟨hg, hwp⟩ := evSp_sound (Q := Q) hE hsp h hst fun s' a' w' hs hst' => ih (i + 1) s' hs hd1 a' w' hst'
      unfold Go.wpOp
      simp only [ho]
      rw [if_pos (by simp [Region.wanted, hg])]
      exact .inl hwp
    · obtain ⟨s', hc, h⟩ := Tr.run_can h
      exact (opTr_sim hE hc).wpOp ho hst fun a' w' hst' => ih (i + 1) s' h hd1 a' w' hst'

theorem region_sound {ρ : Type} {E : Env} {H : Hints} {r : Nat} {draw : Bool} {K : S → Option ρ} {res : ρ} (hE : EnvOk P E) (hm : P.follows .mixedOrders = true) {w0 : World} {own0 : Ow} {Q : Exit → Act → World → Prop} {s : S}
    (hev : (bif draw then evD E H r ops (masks ops.toList []) 0 ops.toList [] [] K s else evOps E H r ops 0 ops.toList K s) = some res)
    (hK : ∀ s' a' w', K s' = some res → St w0 own0 s' a' w' → Q .normal a' w') {a : Act} {w : World} (hst : St w0 own0 s a w) : (Code.region r ops draw).wp P Q a w := by
  cases draw with
  | false =>
    refine wp_region ?_
    have := evOps_sound hE hK ops.toList 0 s hev rfl a w hst
    rw [List.range_eq_range']
    simpa using this
  | true =>
    refine wp_region_any hm ?_
    refine evD_sound hE hK ops.toList 0 [] [] hev rfl rfl (by simp) ⟨by simp, fun k x h => by simp at h, fun i j h1 x y p q _ _ h3 => by simp at h3, fun k hk => by simp at hk⟩ _ _ a _ (by simp) (fun i => ?_) ?_ (hst.drawn _)
    · unfold onL
      rw [Array.getD_eq_getD_getElem?, Array.getElem?_replicate]
      split <;> simp
    · simp
end
end Go.Fl
/- Code, loops. -/
namespace Go.Fl
open Go

/-- A loop's description is right. -/
def LoopOk (P : Program) (l : Lp) (body : Code) : Prop :=
  ∀ (v : (tupT l.hd.ts).den) (o : outT l.outs), l.run v = some o → ∀ (w0 : World) (own0 : Ow) (a : Act) (w : World), St w0 own0 (l.hd.mk' v) a w →
    ∀ (Q : Exit → Act → World → Prop) {ρ : Type} (K : Exit → S → Option ρ) (res : ρ), outK K l.outs o = some res → (∀ e s' a' w', K e s' = some res → St w0 own0 s' a' w' → Q e a' w') → (Code.loop body).wp P Q a w

def LoopsOk (P : Program) (X : Ctx) : Code → Prop
  | .seq x y => LoopsOk P X x ∧ LoopsOk P X y
  | .cond _ x y => LoopsOk P X x ∧ LoopsOk P X y
  | .block id (.loop body) => ∀ l, find X.lp id = some l → LoopOk P l body
  | .block _ c => LoopsOk P X c
  | _ => True

/-- What a function's code needs. -/
structure CtxOk (P : Program) (X : Ctx) : Prop where
  env : EnvOk P X.E
  mixed : P.follows .mixedOrders = true

section
variable {P : Program} {X : Ctx}

theorem is_spec {e e' : Exit} (h : e'.is e = true) : e' = e := by
  cases e <;> cases e' <;> simp_all [Exit.is]

theorem outOf_sound {w0 w : World} {own0 : Ow} {s : S} {a : Act} {e : Exit} (hst : St w0 own0 s a w) {ρ : Type} {K : Exit → S → Option ρ} {res : ρ} {Q : Exit → Act → World → Prop}
    (hQ : ∀ e s' a' w', K e s' = some res → St w0 own0 s' a' w' → Q e a' w') : ∀ {os : Outs} {o : outT os}, outOf e s os = some o → outK K os o = some res → Q e a w := by
  intro os
  induction os with
  | nil => intro o h; cases o
  | cons p r ih =>
    obtain ⟨e', d⟩ := p
    intro o h hk
    cases r with
    | nil =>
      simp only [outOf] at h
      cases hi : e'.is e with
      | false => rw [hi] at h; cases h
      | true =>
        rw [hi, cond_true] at h
        have := is_spec hi
        subst this
        exact hQ _ _ _ _ hk (ext_sound h hst)
    | cons q r =>
      simp only [outOf] at h
      cases hx : (bif e'.is e then ext d s else none) with
      | some v =>
        rw [hx] at h
        cases h
        cases hi : e'.is e with
        | false => rw [hi] at hx; cases hx
        | true =>
          rw [hi, cond_true] at hx
          have := is_spec hi
          subst this
          exact hQ _ _ _ _ hk (ext_sound hx hst)
      | none =>
        rw [hx] at h
        obtain ⟨o', ho, rfl⟩ := Option.map_eq_some_iff.1 h
        exact ih ho hk

theorem ev_sound (hX : CtxOk P X) {w0 : World} {own0 : Ow} : ∀ (c : Code), LoopsOk P X c → ∀ {ρ : Type} {res : ρ} {K : Exit → S → Option ρ} {s : S}, ev X c K s = some res → ∀ {a : Act} {w : World}, St w0 own0 s a w →
    ∀ {Q : Exit → Act → World → Prop}, (∀ e s' a' w', K e s' = some res → St w0 own0 s' a' w' → Q e a' w') → c.wp P Q a w := by
  intro c
  induction c with
  | skip => intro _ ρ res K s h a w hst Q hQ; exact wp_skip (hQ _ _ _ _ h hst)
  | region r ops draw =>
    intro _ ρ res K s h a w hst Q hQ
    simp only [ev, Option.bind_eq_some_iff] at h
    obtain ⟨s1, h1, h⟩ := h
    exact region_sound hX.env hX.mixed h (fun s' a' w' h' hst' => hQ _ _ _ _ h' hst') (gsAll_sim h1 hst)
  | seq x y ihx ihy =>
    intro hl ρ res K s h a w hst Q hQ
    have hafter : ∀ e s' a' w', evSeq (ev X y K) K e s' = some res → St w0 own0 s' a' w' → Exit.then (y.wp P Q) Q e a' w' := by
      intro e s' a' w' h' hst'
      cases e with
      | normal => exact ihy hl.2 h' hst' hQ
      | _ => exact hQ _ _ _ _ h' hst'
    simp only [ev] at h
    split at h
    · exact wp_seq (ihx hl.1 h hst hafter)
    · rename_i os hos
      simp only [Option.bind_eq_some_iff] at h
      obtain ⟨o, ho, h⟩ := h
      exact wp_seq (ihx hl.1 ho hst fun e s' a' w' h' hst' => outOf_sound hst' hafter h' h)
  | cond c x y ihx ihy =>
    intro hl ρ res K s h a w hst Q hQ
    simp only [ev] at h
    split at h
    · rename_i v hv
      have hb : a.eval c = .bool v := by
        obtain ⟨γ, hst⟩ := hst
        have := hst.opv c
        rw [hv] at this
        exact bool_of this
      cases v with
      | true => rw [cond_true, setB_eq hv] at h; exact wp_cond_true hb (ihx hl.1 h hst hQ)
      | false => rw [cond_false, setB_eq hv] at h; exact wp_cond_false hb (ihy hl.2 h hst hQ)
    · cases h
  | block id c ih =>
    intro hl ρ res K s h a w hst Q hQ
    refine wp_block ?_
    have hQ' : ∀ e s' a' w', evBlock id K e s' = some res → St w0 own0 s' a' w' → Exit.inBlock id Q e a' w' := by
      intro e s' a' w' h' hst'
      cases e with
      | exit j =>
        simp only [evBlock] at h'
        simp only [Exit.inBlock]
        by_cases hj : j = id
        · subst hj
          simp only [beq_self_eq_true, cond_true] at h'
          rw [if_pos rfl]
          exact hQ _ _ _ _ h' hst'
        · have hj' : (j == id) = false := by simpa using hj
          rw [hj', cond_false] at h'
          rw [if_neg hj]
          exact hQ _ _ _ _ h' hst'
      | _ => exact hQ _ _ _ _ h' hst'
    cases c with
    | loop body =>
      simp only [ev] at h
      split at h
      · rename_i l hf
        simp only [Option.bind_eq_some_iff] at h
        obtain ⟨v, hv, o, ho, h⟩ := h
        exact hl l hf v o ho w0 own0 a w (ext_sound hv hst) _ _ res h hQ'
      · cases h
    | skip => exact ih hl h hst hQ'
    | region _ _ _ => exact ih hl h hst hQ'
    | seq _ _ => exact ih hl h hst hQ'
    | cond _ _ _ => exact ih hl h hst hQ'
    | block _ _ => exact ih hl h hst hQ'
    | exit _ => exact ih hl h hst hQ'
    | ret => exact ih hl h hst hQ'
    | _ => simp [ev] at h
  | exit id => intro _ ρ res K s h a w hst Q hQ; exact wp_exit (hQ _ _ _ _ h hst)
  | ret => intro _ ρ res K s h a w hst Q hQ; exact wp_ret (hQ _ _ _ _ h hst)
  | _ => intro _ ρ res K s h; simp [ev] at h

/-! ### Loops, by fuel -/

open Classical in
noncomputable def leastOf (p : Nat → Prop) : Nat := if h : ∃ n, p n then Classical.choose (least (p := p) (Classical.choose h) (Classical.choose_spec h)) else 0

theorem leastOf_spec {p : Nat → Prop} {n : Nat} (h : p n) : p (leastOf p) ∧ ∀ i, p i → leastOf p ≤ i := by
  have hex : ∃ n, p n := ⟨n, h⟩
  have heq : leastOf p = Classical.choose (@least p (fun a => Classical.propDecidable (p a)) (Classical.choose hex) (Classical.choose_spec hex)) := by
    unfold leastOf
    rw [dif_pos hex]
  have hs := Classical.choose_spec (@least p (fun a => Classical.propDecidable (p a)) (Classical.choose hex) (Classical.choose_spec hex))
  rw [← heq] at hs
  refine ⟨hs.2.1, fun i hi => ?_⟩
  rcases Nat.lt_or_ge i (leastOf p) with h' | h'
  · exact absurd hi (hs.2.2 i h')
  · exact h'

/-- A loop that is told by rounds: 'go' with its fuel. -/
theorem loop_fuel (hX : CtxOk P X) {d : Desc} {os : Outs} {body : Code} (hb : LoopsOk P X body) (go : Nat → (tupT d.ts).den → Option (outT os))
    (h0 : ∀ (v : (tupT d.ts).den), go 0 v = none)
    (hs : ∀ (k : Nat) (v : (tupT d.ts).den), go (k + 1) v = ev X body (roundK d os (go k)) (d.mk' v))
    (fuel : (tupT d.ts).den → Nat) : LoopOk P { hd := d, outs := os, run := fun v => go (fuel v) v } body := by
  intro v o h w0 own0 a w hst Q ρ K res hko hQ
  let p : Act → World → Nat → Prop := fun a w n => ∃ v, go n v = some o ∧ St w0 own0 (d.mk' v) a w
  refine wp_loop (fun a w => ∃ n, p a w n) (fun a w => leastOf (p a w)) ⟨_, v, h, hst⟩ fun a w hI => ?_
  obtain ⟨n, hn⟩ := hI
  obtain ⟨⟨v1, h1, hst1⟩, hmin⟩ := leastOf_spec hn
  generalize hk : leastOf (p a w) = k at h1
  cases k with
  | zero => rw [h0] at h1; cases h1
  | succ k =>
    rw [hs] at h1
    refine ev_sound hX body hb h1 hst1 fun e s' a' w' h' hst' => ?_
    cases e with
    | normal =>
      simp only [roundK, Option.bind_eq_some_iff] at h'
      obtain ⟨v2, hv2, h2⟩ := h'
      have hp : p a' w' k := ⟨v2, h2, ext_sound hv2 hst'⟩
      refine ⟨⟨k, hp⟩, ?_⟩
      have := (leastOf_spec hp).2 k hp
      omega
    | _ => have := outOf_sound (Q := Q) hst' hQ h' hko; exact this
end
end Go.Fl
/- Functions. -/
namespace Go.Fl
open Go

/-! ### The end -/

section
variable {P : Program} {w w0 : World} {own0 : Ow} {s : S} {γ : Gam} {a : Act}

def resF (tmps : Array Value) : ResultVar → Sem Value
  | .tmp t => pure (tmps.getD t undef)
  | .cell c T => do loadVar T (← asAddr (tmps.getD c undef))

theorem results_run {E : Env} (hE : EnvOk P E) (hst : StG w0 own0 s γ a w) : ∀ {rvs : List ResultVar} {vs : List W}, resultsOf E s rvs = some vs →
    ∃ vals, (rvs.mapM (resF a.tmps)).run P w = .ok vals w ∧ All2 (WRel w (okOf w s.bx γ) s.bx γ) vs vals := by
  intro rvs
  induction rvs with
  | nil => intro vs h; simp [resultsOf] at h; subst h; exact ⟨[], by simp, .nil⟩
  | cons rv r ih =>
    intro vs h
    cases rv with
    | tmp t =>
      simp only [resultsOf] at h
      split at h
      · rename_i v hv
        simp only [Option.map_eq_some_iff] at h
        obtain ⟨us, hus, rfl⟩ := h
        obtain ⟨vals, h1, h2⟩ := ih hus
        have hrel := hst.get t
        rw [hv] at hrel
        refine ⟨a.tmps.getD t undef :: vals, ?_, .cons hrel h2⟩
        have hf : (resF a.tmps (.tmp t)).run P w = .ok (a.tmps.getD t undef) w := by simp [resF]
        rw [List.mapM_cons, Sem.run_bind, hf]
        simp only [Sem.run_pure, Result.andThen_ok, Sem.run_bind, h1]
      · cases h
    | cell c T =>
      simp only [resultsOf] at h
      split at h
      · rename_i t l ht hl
        simp only [Option.bind_eq_some_iff, Option.map_eq_some_iff] at h
        obtain ⟨v, hv, us, hus, rfl⟩ := h
        obtain ⟨vals, h1, h2⟩ := ih hus
        have hrel := hst.get c
        rw [hl] at hrel
        obtain ⟨q, hq, hw⟩ := loadP_rel (hE.te T _ ht) hst.inv hrel hv
        have hptr : ∃ ad, a.tmps.getD c undef = .pointer (some ad) := by
          cases l with
          | ptr b off => obtain ⟨ls, bl, _, _, h⟩ := hrel; exact ⟨_, h⟩
          | fpt t y => obtain ⟨ad, cs, h, _⟩ := hrel; exact ⟨_, h⟩
          | fpp t y => obtain ⟨ad, pv, h, _⟩ := hrel; exact ⟨_, h⟩
          | ept b i off => obtain ⟨x, t, n, ad, _, _, _, _, h⟩ := hrel; exact ⟨_, h⟩
          | nept b i off j q => obtain ⟨ad, m, c, te, x, t, n, _, _, _, _, _, _, h⟩ := hrel; exact ⟨_, h⟩
          | _ => simp [loadP] at hv
        obtain ⟨ad, had⟩ := hptr
        rw [had] at hq
        have hq' : (loadVar T ad).run P w = .ok q w := by simpa [Instr.loadAt, Instr.sureAddr] using hq
        refine ⟨q :: vals, ?_, .cons hw h2⟩
        have hf : (resF a.tmps (.cell c T)).run P w = .ok q w := by
          simp only [resF, had, asAddr, Sem.run_bind, Sem.run_pure, Result.andThen_ok, hq']
        rw [List.mapM_cons, Sem.run_bind, hf]
        simp only [Sem.run_pure, Result.andThen_ok, Sem.run_bind, h1]
      · cases h

theorem results_ret {fn : Func} {tmps : Array Value} {vals : List Value} (h : (fn.results.toList.mapM (resF tmps)).run P w = .ok vals w) : (results fn tmps).run P w = .ok (retV vals) w := by
  have he : results fn tmps = (do
      let vs ← fn.results.mapM (resF tmps)
      pure (if h : vs.size = 1 then vs[0] else .tuple vs)) := rfl
  rw [he, Sem.run_bind, Array.mapM_eq_mapM_toList]
  have h2 : (List.toArray <$> fn.results.toList.mapM (resF tmps)).run P w = .ok vals.toArray w := by
    simp [h]
  rw [h2]
  simp only [Result.andThen_ok, Sem.run_pure]
  match vals with
  | [] => rfl
  | [v] => rfl
  | u :: v :: r => simp [retV]
end
end Go.Fl
/- Functions: their contracts. -/
namespace Go.Fl
open Go

theorem resultsOf_len {E : Env} {s : S} : ∀ {rvs : List ResultVar} {vs : List W}, resultsOf E s rvs = some vs → vs.length = rvs.length := by
  intro rvs
  induction rvs with
  | nil => intro vs h; simp [resultsOf] at h; subst h; rfl
  | cons rv r ih =>
    intro vs h
    cases rv with
    | tmp t =>
      simp only [resultsOf] at h
      split at h
      · obtain ⟨us, hus, rfl⟩ := Option.map_eq_some_iff.1 h
        simp [ih hus]
      · cases h
    | cell c T =>
      simp only [resultsOf] at h
      split at h
      · simp only [Option.bind_eq_some_iff, Option.map_eq_some_iff] at h
        obtain ⟨v, _, us, hus, rfl⟩ := h
        simp [ih hus]
      · cases h

theorem outOf_is {e : Exit} {s : S} : ∀ {os : Outs} {o : outT os}, outOf e s os = some o → ∃ d v, outIs os o d (d.mk' v) ∧ ext d s = some v ∧ ∃ e', (e', d) ∈ os := by
  intro os
  induction os with
  | nil => intro o; cases o
  | cons p r ih =>
    obtain ⟨e', d⟩ := p
    intro o h
    cases r with
    | nil =>
      simp only [outOf] at h
      cases hi : e'.is e with
      | false => rw [hi] at h; cases h
      | true =>
        rw [hi, cond_true] at h
        exact ⟨d, o, ⟨rfl, rfl⟩, h, e', by simp⟩
    | cons q r =>
      simp only [outOf] at h
      cases hx : (bif e'.is e then ext d s else none) with
      | some v =>
        rw [hx] at h
        cases h
        cases hi : e'.is e with
        | false => rw [hi] at hx; cases hx
        | true =>
          rw [hi, cond_true] at hx
          exact ⟨d, v, ⟨rfl, rfl⟩, hx, e', by simp⟩
      | none =>
        rw [hx] at h
        obtain ⟨o', ho, rfl⟩ := Option.map_eq_some_iff.1 h
        obtain ⟨d', v, h1, h2, e2, h3⟩ := ih ho
        exact ⟨d', v, h1, h2, e2, List.mem_cons_of_mem _ h3⟩

section
variable {P : Program} {w : World}

theorem fn_spec {X : Ctx} (hX : CtxOk P X) {f : Nat} {fn : Func} {c : Code} {din : Desc} {os : Outs} (hf : P.funcs[f]? = some fn) (hname : (fn.name == "runtime.NumGoroutine") = false) (hb : fn.body = some c) (hl : LoopsOk P X c)
    (hok : ({ f, din, outs := os, F := evFn X fn din os } : Con).okB = true) : Spec P { f, din, outs := os, F := evFn X fn din os } := by
  refine ⟨⟨fn, hf, hname, by simp [hb]⟩, hok, fun x r hF w γ vals hat => ?_⟩
  simp only [evFn, hb] at hF
  cases hc : (Nat.ble din.n fn.ntmps && os.all (fun p => p.2.n == fn.results.toList.length)) with
  | false => rw [hc] at hF; cases hF
  | true =>
    rw [hc, cond_true] at hF
    simp only [Bool.and_eq_true, Nat.ble_eq] at hc
    obtain ⟨hnt, hres⟩ := hc
    have hok0 := hok
    simp only [Con.okB, Bool.and_eq_true, beq_iff_eq, List.all_eq_true] at hok0
    obtain ⟨⟨⟨_, hdn⟩, _⟩, hall⟩ := hok0
    have hlen0 : (din.mk' x).regs.length = din.n := (mk_shape din x).regs hdn
    have hvl : vals.length = din.n := by rw [← hat.regs.length, hlen0]
    refine calls_of_wp hf hb ?_
    have hst : StG w ⟨owned (din.mk' x).bx γ, γ.hid, vals ++ cvals w γ (din.mk' x).bx⟩ (entryS fn.ntmps (din.mk' x)) γ { tmps := vals.toArray ++ Array.replicate (fn.ntmps - vals.toArray.size) undef, defers := [] } w := by
      have hold : ∀ (i : Nat) (v : V), (din.mk' x).regs[i]? = some v → VRel w (okOf w (din.mk' x).bx γ) (din.mk' x).bx γ v (vals.getD i undef) := by
        intro i v hv
        obtain ⟨u, hu, hr⟩ := hat.regs.get i v hv
        have : vals.getD i undef = u := by simp [List.getD, hu]
        rw [this]
        exact hr
      have hpins : ∀ (i : Nat) (v : V), ((din.mk' x).regs ++ bxPins (din.mk' x).bx)[i]? = some v → VRel w (okOf w (din.mk' x).bx γ) (din.mk' x).bx γ v ((vals ++ cvals w γ (din.mk' x).bx).getD i undef) := by
        intro i v hv
        obtain ⟨cv, hcv, hr⟩ := (hat.regs.append (bxPins_rel fun p hp => hat.inv.boxes p.1 p.2 (find_of_mem hat.inv.sites hp))).get i v hv
        have : (vals ++ cvals w γ (din.mk' x).bx).getD i undef = cv := by rw [List.getD, hcv]; rfl
        rw [this]
        exact hr
      refine ⟨hat.inv, fun i v hv => ?_, ?_, fun i v hv => hpins i v hv, rfl, hat.hid, Fr.refl _ _, fun n hn => .inl hn, rfl⟩
      · simp only [entryS] at hv
        rcases Nat.lt_or_ge i (din.mk' x).regs.length with hi | hi
        · rw [List.getElem?_append_left hi] at hv
          have := hold i v hv
          have hge : (vals.toArray ++ Array.replicate (fn.ntmps - vals.toArray.size) undef).getD i undef = vals.getD i undef := by
            rw [Array.getD_eq_getD_getElem?, Array.getElem?_append_left (by simp; omega)]
            simp [List.getD]
          rw [hge]
          exact this
        · rw [List.getElem?_append_right hi, List.getElem?_replicate] at hv
          split at hv
          · cases hv; trivial
          · cases hv
      · simp only [entryS, List.length_append, List.length_replicate, Array.size_append, List.size_toArray, Array.size_replicate]
        omega
    refine ev_sound hX c hl hF ⟨_, hst⟩ fun e s' a' w' he hst' => ?_
    have key : ∀ (he : ((resultsOf X.E s' fn.results.toList).bind fun vs => outOf .ret { s' with regs := vs.map .w } os) = some r),
        a'.defers = [] ∧ ∃ v, (results fn a'.tmps).run P w' = .ok v w' ∧ (fun (e : Ending) (w' : World) => match e, w' with
          | .returned v, w' => ∀ d s1, outIs os r d s1 → ∃ γ1 vals', v = retV vals' ∧ After w γ (owned (din.mk' x).bx γ) (vals ++ cvals w γ (din.mk' x).bx) s1 γ1 vals' w'
          | _, _ => False) (.returned v) w' := by
      intro he
      simp only [Option.bind_eq_some_iff] at he
      obtain ⟨vs, hvs, ho⟩ := he
      obtain ⟨γ', hst'⟩ := hst'
      obtain ⟨vals', hrun, hrel⟩ := results_run hX.env hst' hvs
      refine ⟨hst'.defers, retV vals', results_ret hrun, fun d s1 hois => ?_⟩
      obtain ⟨d0, v0, h1, h2, e0, h3⟩ := outOf_is ho
      obtain ⟨rfl, rfl⟩ := outIs_eq h1 hois
      have hfake : St w ⟨owned (din.mk' x).bx γ, γ.hid, vals ++ cvals w γ (din.mk' x).bx⟩ { s' with regs := vs.map .w } { tmps := vals'.toArray, defers := [] } w' := by
        refine ⟨γ', hst'.inv, fun i v hv => ?_, ?_, hst'.pins, hst'.hid, hst'.hidb, hst'.fr, hst'.sub, rfl⟩
        · simp only [List.getElem?_map, Option.map_eq_some_iff] at hv
          obtain ⟨u, hu, rfl⟩ := hv
          obtain ⟨cv, hcv, hr⟩ := hrel.get i u hu
          have : vals'.toArray.getD i undef = cv := by
            rw [Array.getD_eq_getD_getElem?]
            simp [hcv]
          show VRel w' _ s'.bx γ' (.w u) (vals'.toArray.getD i undef)
          rw [this]
          exact hr
        · simp [hrel.length]
      obtain ⟨γ1, hst1⟩ := ext_sound h2 hfake
      have hok1 := hall _ h3
      have hreg1 : (d.mk' v0).regs.length = d.n := (mk_shape d v0).regs hok1.1.2.symm
      have hvl' : vals'.length = d.n := by
        have h4 := List.all_eq_true.1 hres _ h3
        simp only [beq_iff_eq] at h4
        rw [← hrel.length, resultsOf_len hvs, h4]
      refine ⟨γ1, vals', rfl, hst1.inv, ?_, hst1.pins, hst1.fr, hst1.sub, hst1.hid⟩
      refine all2_of_get (by rw [hreg1, hvl']) fun i hi hi' => ?_
      have := hst1.regs i _ (List.getElem?_eq_getElem hi')
      have hge : vals'.toArray.getD i undef = vals'[i] := by
        rw [Array.getD_eq_getD_getElem?]
        simp [hi]
      rw [hge] at this
      exact this
    cases e with
    | normal => exact key he
    | ret => exact key he
    | _ => simp [finish] at he
end
end Go.Fl
/- The table of types, by reckoning. -/
namespace Go.Fl
open Go

def zB : Ty → List Value → Option (List Value)
  | .int k, l => match l with
    | .int k' n :: r => if k = k' ∧ n = 0 then some r else none
    | _ => none
  | .bool, l => match l with
    | .bool false :: r => some r
    | _ => none
  | .str, l => match l with
    | .string s :: r => if s.size = 0 then some r else none
    | _ => none
  | .unit, l => some l
  | .pair a b, l => (zB a l).bind (zB b)
  | .sl _, l => match l with
    | .slice none 0 0 :: r => some r
    | _ => none
  | .mp _, l => match l with
    | .map none :: r => some r
    | _ => none
  | .fz _, _ => none
  | .hnd f, l => match l with
    | .pointer none :: r => if f = false then some r else none
    | .nilFunc :: r => if f = true then some r else none
    | _ => none

theorem zB_spec : ∀ {t : Ty} {l r : List Value}, zB t l = some r → l = zeroCells t ++ r := by
  intro t
  induction t with
  | int k =>
    intro l r h
    simp only [zB] at h
    split at h
    · split at h
      · rename_i hk; cases h; obtain ⟨rfl, rfl⟩ := hk; rfl
      · cases h
    · cases h
  | bool => intro l r h; simp only [zB] at h; split at h <;> cases h; rfl
  | str =>
    intro l r h
    simp only [zB] at h
    split at h
    · split at h
      · rename_i s r' hs
        cases h
        have : s = ByteArray.empty := by
          apply ByteArray.ext
          apply Array.eq_empty_of_size_eq_zero
          exact hs
        rw [this]; rfl
      · cases h
    · cases h
  | unit => intro l r h; simp [zB] at h; subst h; rfl
  | pair a b iha ihb =>
    intro l r h
    simp only [zB, Option.bind_eq_some_iff] at h
    obtain ⟨m, h1, h2⟩ := h
    rw [iha h1, ihb h2]
    simp [zeroCells]
  | sl t _ => intro l r h; simp only [zB] at h; split at h <;> cases h; rfl
  | mp t _ => intro l r h; simp only [zB] at h; split at h <;> cases h; rfl
  | fz t _ => intro l r h; simp [zB] at h
  | hnd f =>
    intro l r h
    simp only [zB] at h
    split at h
    · split at h
      · rename_i hf; subst hf; cases h; rfl
      · cases h
    · split at h
      · rename_i hf; subst hf; cases h; rfl
      · cases h
    · cases h

def zeroB (t : Ty) (z : Value) : Bool :=
  if t.one then (match zB t [z] with | some [] => true | _ => false) else match z with
    | .agg cs => (match zB t cs.toList with | some [] => true | _ => false)
    | _ => false

theorem zeroB_spec {t : Ty} {z : Value} (h : zeroB t z = true) : z = pack t (zeroCells t) := by
  unfold zeroB at h
  split at h
  · rename_i h1
    split at h
    · rename_i hz
      have := zB_spec hz
      rw [List.append_nil] at this
      rw [← this, pack_one h1]
    · cases h
  · rename_i h1
    split at h
    · rename_i cs
      split at h
      · rename_i hz
        have := zB_spec hz
        rw [List.append_nil] at this
        rw [← this]
        simp [pack, h1]
      · cases h
    · cases h

def tyIs (te : List (Nat × Ty)) (E : Nat) (t : Ty) : Bool := match find te E with
  | some t' => decide (t' = t)
  | none => false

theorem tyIs_spec {te : List (Nat × Ty)} {E : Nat} {t : Ty} (h : tyIs te E t = true) : find te E = some t := by
  unfold tyIs at h
  split at h
  · rename_i hf; rw [hf]; simpa using h
  · cases h

def fieldsB (te : List (Nat × Ty)) : List Field → Nat → Ty → Bool
  | [], _, .unit => true
  | f :: fs, off, .pair a b => f.offset == off && tyIs te f.type a && !(a.sz == 0) && fieldsB te fs (off + a.sz) b
  | _, _, _ => false

theorem fieldsB_spec {te : List (Nat × Ty)} : ∀ {fs : List Field} {off : Nat} {t : Ty}, fieldsB te fs off t = true → FieldsOk te fs off t := by
  intro fs
  induction fs with
  | nil => intro off t h; cases t <;> first | trivial | (simp [fieldsB] at h)
  | cons f fs ih =>
    intro off t h
    cases t with
    | pair a b =>
      simp only [fieldsB, Bool.and_eq_true, Bool.not_eq_true', beq_iff_eq, beq_eq_false_iff_ne] at h
      exact ⟨h.1.1.1, tyIs_spec h.1.1.2, h.1.2, ih h.2⟩
    | _ => simp [fieldsB] at h

def descB (P : Program) (te : List (Nat × Ty)) (T : Nat) (t : Ty) : Bool :=
  match t, P.underlying T with
  | .int k, some (.int k') => decide (k' = k)
  | .bool, some .bool => true
  | .str, some .string => true
  | .sl t, some (.slice E) => tyIs te E t
  | .mp t, some (.map K E) => (match P.underlying K with | some (.int .i64) => true | _ => false) && tyIs te E t
  | .hnd false, some (.pointer _) => true
  | .hnd true, some (.func _ _ _) => true
  | .unit, some (.struct fs) => fieldsB te fs.toList 0 .unit
  | .pair a b, some (.struct fs) => fieldsB te fs.toList 0 (.pair a b)
  | _, _ => false

theorem descB_spec {P : Program} {te : List (Nat × Ty)} {T : Nat} {t : Ty} (h : descB P te T t = true) : DescOk P te T t := by
  unfold descB at h
  split at h
  · rename_i k k' hu
    have : k' = k := by simpa using h
    subst this
    exact hu
  · rename_i hu; exact hu
  · rename_i hu; exact hu
  · rename_i t E hu; exact ⟨E, hu, tyIs_spec h⟩
  · rename_i t K E hu
    simp only [Bool.and_eq_true] at h
    obtain ⟨h1, h2⟩ := h
    split at h1
    · rename_i hk; exact ⟨K, E, hu, hk, tyIs_spec h2⟩
    · cases h1
  · rename_i E hu; exact ⟨E, hu⟩
  · rename_i x y z hu; exact ⟨x, y, z, hu⟩
  · rename_i fs hu; exact ⟨fs, hu, fieldsB_spec h⟩
  · rename_i a b fs hu; exact ⟨fs, hu, fieldsB_spec h⟩
  · cases h

def infoB (t : Ty) : Option TypeInfo → Bool
  | some i => i.size == t.sz && Nat.ble i.bytes 65536 && (match i.zero with | some z => zeroB t z | none => false)
  | none => false

def eqB (P : Program) (T : Nat) (t : Ty) : Bool := !t.flat || t.one ||
  (!(P.eqGuardType P.depth T) && (!(P.stoodInHeld T) && (Nat.ble t.rk 10000 && (match P.underlying T with | some (.struct fs) => fs.toList.all (fun f => !(f.name == "_")) | _ => true))))

theorem eqB_spec {P : Program} {T : Nat} {t : Ty} (h : eqB P T t = true) (h1 : t.flat = true) (h2 : t.one = false) :
    P.eqGuardType P.depth T = false ∧ P.stoodInHeld T = false ∧ t.rk ≤ 10000 ∧ ∀ fs, P.underlying T = some (.struct fs) → ∀ f ∈ fs.toList, f.name ≠ "_" := by
  simp only [eqB, h1, h2, Bool.not_true, Bool.false_or, Bool.and_eq_true, Bool.not_eq_true', Nat.ble_eq] at h
  obtain ⟨a, b, c, d⟩ := h
  refine ⟨a, b, c, fun fs hfs f hf => ?_⟩
  rw [hfs] at d
  have := List.all_eq_true.1 d f hf
  simpa using this

def tysB (P : Program) (te : List (Nat × Ty)) : Bool := te.all fun p => infoB p.2 (P.info? p.1) && descB P te p.1 p.2 && eqB P p.1 p.2

theorem tysB_spec {P : Program} {te : List (Nat × Ty)} (h : tysB P te = true) : TyOk P te := by
  intro T t hf
  have := List.all_eq_true.1 h _ (find_mem hf)
  simp only [Bool.and_eq_true] at this
  obtain ⟨⟨h1, h2⟩, h3⟩ := this
  refine ⟨?_, descB_spec h2, eqB_spec h3⟩
  unfold infoB at h1
  split at h1
  · rename_i i hi
    simp only [Bool.and_eq_true, beq_iff_eq, Nat.ble_eq] at h1
    obtain ⟨⟨ha, hb⟩, hc⟩ := h1
    split at hc
    · rename_i z hz
      exact ⟨i, hi, ha, hb, z, hz, zeroB_spec hc⟩
    · cases hc
  · cases h1

end Go.Fl
/- Loops of a function, told by their place. -/
namespace Go.Fl
open Go

def loopsOf : Code → List (Nat × Code)
  | .seq a b => loopsOf a ++ loopsOf b
  | .cond _ a b => loopsOf a ++ loopsOf b
  | .block id (.loop b) => [(id, b)]
  | .block _ c => loopsOf c
  | _ => []

def loopBody (c : Code) (i : Nat) : Code := match (loopsOf c)[i]? with
  | some p => p.2
  | none => .skip

def codeOf (f : Func) : Code := f.body.getD .skip

section
variable {P : Program} {X : Ctx}

theorem loops_mem : ∀ (c : Code), (∀ p ∈ loopsOf c, ∀ l, find X.lp p.1 = some l → LoopOk P l p.2) → LoopsOk P X c := by
  intro c
  induction c with
  | seq a b iha ihb =>
    intro h
    exact ⟨iha fun p hp => h p (by simp [loopsOf, hp]), ihb fun p hp => h p (by simp [loopsOf, hp])⟩
  | cond o a b iha ihb =>
    intro h
    exact ⟨iha fun p hp => h p (by simp [loopsOf, hp]), ihb fun p hp => h p (by simp [loopsOf, hp])⟩
  | block id c ih =>
    intro h
    cases c with
    | loop body => exact fun l hl => h (id, body) (by simp [loopsOf]) l hl
    | seq a b => exact ih fun p hp => h p (by simpa [loopsOf] using hp)
    | cond o a b => exact ih fun p hp => h p (by simpa [loopsOf] using hp)
    | block i c => exact ih fun p hp => h p (by cases c <;> first | exact hp | (simp [loopsOf] at hp) | (simpa [loopsOf] using hp))
    | _ => trivial
  | _ => intro _; trivial

/-- All loops of a code, by their places. -/
theorem loops_ok {c : Code} {ids : List Nat} (h : (loopsOf c).map (·.1) = ids) (hl : ∀ i id, ids[i]? = some id → ∀ l, find X.lp id = some l → LoopOk P l (loopBody c i)) : LoopsOk P X c := by
  refine loops_mem c fun p hp l hf => ?_
  obtain ⟨i, hi, rfl⟩ := List.getElem_of_mem hp
  have h1 : ids[i]? = some (loopsOf c)[i].1 := by rw [← h, List.getElem?_map, List.getElem?_eq_getElem hi]; rfl
  have := hl i _ h1 l hf
  have hb : loopBody c i = (loopsOf c)[i].2 := by simp [loopBody, hi]
  rw [← hb]
  exact this

/-- The loops of a code, one behind the other. -/
def LoopsAt (P : Program) (X : Ctx) (c : Code) : List Nat → Nat → Prop
  | [], _ => True
  | id :: r, i => (∀ l, find X.lp id = some l → LoopOk P l (loopBody c i)) ∧ LoopsAt P X c r (i + 1)

theorem LoopsAt.get {c : Code} : ∀ {ids : List Nat} {k : Nat}, LoopsAt P X c ids k → ∀ i id, ids[i]? = some id → ∀ l, find X.lp id = some l → LoopOk P l (loopBody c (k + i)) := by
  intro ids
  induction ids with
  | nil => intro k _ i id h; simp at h
  | cons a r ih =>
    intro k h i id hi l hl
    cases i with
    | zero =>
      simp at hi
      subst hi
      exact h.1 l hl
    | succ i =>
      have := ih h.2 i id (by simpa using hi) l hl
      rw [show k + (i + 1) = k + 1 + i by omega]
      exact this

theorem loops_at {c : Code} {ids : List Nat} (h : (loopsOf c).map (·.1) = ids) (hl : LoopsAt P X c ids 0) : LoopsOk P X c :=
  loops_ok h fun i id hi l hf => by
    have := hl.get i id hi l hf
    rwa [Nat.zero_add] at this

theorem lp_of {l0 : Lp} {b : Code} (h : LoopOk P l0 b) : ∀ l, some l0 = some l → LoopOk P l b := fun l hl => by cases hl; exact h

theorem lp_none {b : Code} : ∀ l, (none : Option Lp) = some l → LoopOk P l b := fun l hl => by cases hl

theorem Spec.of_eq {f : Nat} {din : Desc} {outs : Outs} {F G : (tupT din.ts).den → Option (outT outs)} (h : Spec P { f, din, outs, F }) (he : ∀ x r, G x = some r → F x = some r) :
    Spec P { f, din, outs, F := G } :=
  ⟨h.1, h.2.1, fun x r hx w γ vals ha => h.2.2 x r (he x r hx) w γ vals ha⟩
end
end Go.Fl
/- From the row's reading of an argument to the evaluator's values. -/
namespace Go.Fl
open Go

/-- Of such a shape an argument can be opened. -/
def Ty.argB : Ty → Bool
  | .int _ | .bool | .str | .unit => true
  | .pair a b => a.argB && b.argB
  | .sl t => t.argB && !(t.sz == 0)
  | .mp _ | .fz _ | .hnd _ => false

def Ty.rank : Ty → Nat
  | .int _ | .bool | .str | .unit | .hnd _ => 1
  | .pair a b => a.rank + b.rank + 1
  | .sl t | .mp t | .fz t => t.rank + 1

/-- What an argument's value keeps to. -/
def Wf : (t : Ty) → t.den → Prop
  | .int k, n => (Lit.int k n).wf = true
  | .bool, _ => True
  | .str, s => s.size ≤ maxLen
  | .unit, _ => True
  | .pair a b, x => Wf a x.1 ∧ Wf b x.2
  | .sl t, xs => xs.length ≤ maxLen ∧ ∀ x ∈ xs, Wf t x
  | .mp _, _ => True
  | .fz t, x => Wf t x
  | .hnd _, _ => True

theorem list_choose {α : Type} {p : Nat → α → Prop} : ∀ n, (∀ i, i < n → ∃ x, p i x) → ∃ xs : List α, xs.length = n ∧ ∀ i (h : i < xs.length), p i xs[i] := by
  intro n
  induction n with
  | zero => intro _; exact ⟨[], rfl, fun i h => absurd h (Nat.not_lt_zero _)⟩
  | succ n ih =>
    intro h
    obtain ⟨xs, hl, hx⟩ := ih fun i hi => h i (by omega)
    obtain ⟨x, hp⟩ := h n (by omega)
    refine ⟨xs ++ [x], by simp [hl], fun i hi => ?_⟩
    by_cases hi' : i < xs.length
    · rw [List.getElem_append_left hi']; exact hx i hi'
    · have : i = n := by simp at hi; omega
      subst this
      rw [List.getElem_append_right (by omega)]
      simpa [hl] using hp

theorem Addr.add_zero' (a : Addr) (h : a.spot = none) : a.add 0 = a := by
  obtain ⟨b, o, s⟩ := a
  subst h
  simp [Addr.add]

section
variable {H : Type} {enc : TypeId × Value → H} {P : Program} {w : World} {base : Nat} {spare : Nat → Bool} {held : Bool}

theorem cells?_at {a : Addr} {n : Nat} {us : List Value} (h : w.cells? base a n = some us) : us.length = n ∧ ∀ j v, us[j]? = some v → w.cell? (a.add j) = some v := by
  obtain ⟨_, hl, hc⟩ := World.cells?_some h
  refine ⟨hl, fun j v hj => ?_⟩
  have hj' : j < us.length := (List.getElem?_eq_some_iff.1 hj).1
  first
    | rw [hc j (by omega), hj]
    | exact (hc j (by omega)).trans hj

theorem heap_of_cell {a : Addr} {v : Value} (h : w.cell? a = some v) : a.block < w.heap.size := by
  unfold World.cell? at h
  rcases Nat.lt_or_ge a.block w.heap.size with h1 | h1
  · exact h1
  · simp [Array.getElem?_eq_none h1] at h

theorem open_fields {te : List (Nat × Ty)} (hT : TyOk P te) {n : Nat} {cs : List Value} {xs : List (DataW H × List MemPlace)} :
    ∀ (t : Ty) (fs : List Field) (off k : Nat), FieldsOk te fs off t → t.argB = true →
      (∀ (t' : Ty), Ty.rank t' < Ty.rank t → ∀ T fuel cs x, find te T = some t' → t'.argB = true → t'.sz ≠ 0 → DataW.trod enc P w base spare held fuel T cs = some x → ∃ v, Rdf w (· < w.heap.size) t' v cs ∧ Wf t' v) →
      (∀ (i : Nat) (f : Field), fs[i]? = some f → DataW.trod enc P w base spare held n f.type ((cs.drop f.offset).take (P.cellsOf f.type)) = xs[k + i]?) → k + fs.length ≤ xs.length →
      cs.length = off + t.sz → ∃ v, Rdf w (· < w.heap.size) t v (cs.drop off) ∧ Wf t v := by
  intro t
  induction t with
  | unit =>
    intro fs off k hf _ _ _ _ hl
    refine ⟨(), ?_, trivial⟩
    show cs.drop off = []
    simp [Ty.sz] at hl
    simp [hl]
  | pair a b _ ihb =>
    intro fs off k hf hb ih hx hk hl
    cases fs with
    | nil => exact hf.elim
    | cons f fs =>
      obtain ⟨ho, hfi, hsz, hr⟩ := hf
      simp only [Ty.argB, Bool.and_eq_true] at hb
      obtain ⟨i, hi, his, _⟩ := (hT _ _ hfi).info
      have hc : P.cellsOf f.type = a.sz := by simp [Program.cellsOf, hi, his]
      have h0 := hx 0 f rfl
      simp only [Nat.add_zero, List.length_cons] at h0 hk
      rw [List.getElem?_eq_getElem (by omega)] at h0
      obtain ⟨v1, r1, w1⟩ := ih a (by simp [Ty.rank]; omega) _ _ _ _ hfi hb.1 hsz h0
      obtain ⟨v2, r2, w2⟩ := ihb fs (off + a.sz) (k + 1) hr hb.2 (fun t' ht => ih t' (by simp [Ty.rank]; omega)) (fun i f' hf' => by rw [hx (i + 1) f' hf']; congr 1; omega) (by omega) (by simp [Ty.sz] at hl; omega)
      refine ⟨(v1, v2), ⟨_, _, ?_, r1, r2⟩, w1, w2⟩
      rw [ho, hc, ← List.drop_drop, List.take_append_drop]
  | _ => intro fs off k hf; cases fs <;> exact hf.elim

theorem open_ty {te : List (Nat × Ty)} (hT : TyOk P te) : ∀ (n : Nat) (t : Ty), Ty.rank t ≤ n → ∀ T fuel cs x, find te T = some t → t.argB = true → t.sz ≠ 0 →
    DataW.trod enc P w base spare held fuel T cs = some x → ∃ v, Rdf w (· < w.heap.size) t v cs ∧ Wf t v := by
  intro n
  induction n with
  | zero => intro t h; cases t <;> simp [Ty.rank] at h
  | succ n ih =>
    intro t hn T fuel cs x hf hb hz h
    have hd := (hT _ _ hf).desc
    obtain ⟨ti, hti, htis, _⟩ := (hT _ _ hf).info
    have hcT : P.cellsOf T = t.sz := by simp [Program.cellsOf, hti, htis]
    cases t with
    | int k => obtain ⟨m, rfl, _, hw⟩ := DataW.trod_int hd h; exact ⟨m, rfl, hw⟩
    | bool => obtain ⟨b, rfl, _⟩ := DataW.trod_bool hd h; exact ⟨b, rfl, trivial⟩
    | str => obtain ⟨s, rfl, _, hw⟩ := DataW.trod_string hd h; exact ⟨s, rfl, hw⟩
    | unit => exact (hz rfl).elim
    | mp t => simp [Ty.argB] at hb
    | fz t => simp [Ty.argB] at hb
    | hnd f => simp [Ty.argB] at hb
    | pair a b =>
      obtain ⟨fs, hu, hfo⟩ := hd
      obtain ⟨xs, m, rfl, rfl, hl, hxl, hx⟩ := DataW.trod_struct hu h
      obtain ⟨v, hr, hw⟩ := open_fields (cs := cs) hT (.pair a b) fs.toList 0 0 hfo hb (fun t' ht => ih t' (by omega)) (fun i f hfi => by rw [Nat.zero_add]; exact hx i f (by simpa using hfi)) (by simp [hxl]) (by rw [hl, hcT]; simp)
      exact ⟨v, by simpa using hr, hw⟩
    | sl t =>
      obtain ⟨E, hu, hfe⟩ := hd
      obtain ⟨ei, hei, heis, _⟩ := (hT _ _ hfe).info
      have hcE : P.cellsOf E = t.sz := by simp [Program.cellsOf, hei, heis]
      rcases DataW.trod_slice hu h with ⟨rfl, _⟩ | ⟨a, len, cap, elems, rest, m, rfl, rfl, rfl, _, hl, hm, hlen, hel, _⟩
      · exact ⟨[], ⟨none, 0, rfl, Nat.le_refl _, fun i hi => absurd hi (Nat.not_lt_zero _)⟩, Nat.zero_le _, fun x hx => by simp at hx⟩
      · simp only [Ty.argB, Bool.and_eq_true, Bool.not_eq_true', beq_eq_false_iff_ne] at hb
        have key : ∀ i, i < len → ∃ v, ∃ us, Rdf w (· < w.heap.size) t v us ∧ Wf t v ∧ w.cells? base (a.add (i * P.cellsOf E)) (P.cellsOf E) = some us := by
          intro i hi
          have h1 := hel i hi
          rw [List.getElem?_eq_getElem (by omega)] at h1
          obtain ⟨us, hc, ht⟩ := Option.bind_eq_some_iff.1 h1
          obtain ⟨v, hr, hw⟩ := ih t (by simp [Ty.rank] at hn; omega) _ _ _ _ hfe hb.1 hb.2 ht
          exact ⟨v, us, hr, hw, hc⟩
        obtain ⟨xs, hxl, hx⟩ := list_choose len key
        have h00 : 0 < len → a.spot = none ∧ a.block < w.heap.size := by
          intro h0
          obtain ⟨us, _, _, hc⟩ := hx 0 (by omega)
          obtain ⟨hul, hcell⟩ := cells?_at hc
          have := hcell 0 _ (List.getElem?_eq_getElem (by omega))
          have e : (a.add (0 * P.cellsOf E)).add 0 = a := by simp [Addr.add]
          rw [e] at this
          exact ⟨World.cell?_spot this, heap_of_cell this⟩
        have hsp : ∀ i us, i < len → w.cells? base (a.add (i * P.cellsOf E)) (P.cellsOf E) = some us → a.spot = none ∧ a.block < w.heap.size ∧ CellsAt w a (i * t.sz) us := by
          intro i us hi hc
          obtain ⟨hul, hcell⟩ := cells?_at hc
          obtain ⟨h1, h2⟩ := h00 (by omega)
          refine ⟨h1, h2, fun j v hj => ?_⟩
          have := hcell j v hj
          have e : (a.add (i * P.cellsOf E)).add j = ⟨a.block, a.off + i * t.sz + j, none⟩ := by
            obtain ⟨b, o, sp⟩ := a
            simp only at h1
            subst h1
            rw [hcE]
            unfold Addr.add
            split <;> split <;> simp_all
          rw [e] at this
          exact this
        refine ⟨xs, ⟨some a, cap, by rw [hxl], by omega, fun i hi => ?_⟩, by omega, fun x hxm => ?_⟩
        · obtain ⟨us, hr, _, hc⟩ := hx i hi
          obtain ⟨h1, h2, h3⟩ := hsp i us (by omega) hc
          exact ⟨a, us, rfl, h1, h2, hr, h3⟩
        · obtain ⟨i, hi, rfl⟩ := List.getElem_of_mem hxm
          obtain ⟨_, _, hw, _⟩ := hx i hi
          exact hw
end

end Go.Fl
/- From a contract to what a law's call does: all arguments are only read, a truth value comes back. -/
namespace Go.Fl
open Go

abbrev outB : Outs := [(.ret, { n := 1, regs := [.one (.val .bool)], bx := [], pins := [] })]

theorem law_calls {P : Program} {f : Nat} {ts : List Ty} {F : (tupT (Desc.ts { n := ts.length, regs := ts.map fun t => .one (.val t), bx := [], pins := [] })).den → Option (outT outB)} 
    (hs : Spec P { f := f, din := { n := ts.length, regs := ts.map fun t => .one (.val t), bx := [], pins := [] }, outs := outB, F := F })
    {x : _} (hx : F x = some (true, ())) {W : World} (hG : GK W ∧ ∀ n, n < GKn → n < W.heap.size) {vals : List Value} (hA : All2 (VRel W (· < W.heap.size) [] (fun _ => default)) (Desc.mk' { n := ts.length, regs := ts.map fun t => .one (.val t), bx := [], pins := [] } x).regs vals) :
    Calls P f vals.toArray W fun e W' => e = .returned (.bool true) ∧ Go.RowKit.Below W.heap.size W W' := by
  obtain ⟨_, _, h⟩ := hs
  have hbx : (Desc.mk' { n := ts.length, regs := ts.map fun t => .one (.val t), bx := [], pins := [] } x).bx = [] := rfl
  refine (h x _ hx W ⟨fun _ => default, []⟩ vals ⟨⟨by rw [hbx]; simp, by rw [hbx]; simp [owned], by rw [hbx]; simp [owned], by rw [hbx]; intro b y hy; simp [find] at hy⟩, ?_, by simp, hG.1, fun n hn => ⟨hG.2 n hn, by rw [hbx]; simp [owned]⟩⟩).mono fun e W' he => ?_
  · refine hA.imp fun v _ y hy => ?_
    have e : okOf W (Desc.mk' { n := ts.length, regs := ts.map fun t => .one (.val t), bx := [], pins := [] } x).bx ⟨fun _ => default, []⟩ = (· < W.heap.size) := by
      funext n; rw [hbx]; simp [okOf, owned]
    rw [e]
    exact hy
  · cases e with
    | returned v =>
      obtain ⟨γ1, vals', rfl, ha⟩ := he { n := 1, regs := [.one (.val .bool)], bx := [], pins := [] } _ ⟨rfl, rfl⟩
      refine ⟨?_, ha.fr.os, ha.fr.tape, ha.fr.output, ha.fr.size, fun k hk => ha.fr.block k hk (by rw [hbx]; simp [owned])⟩
      have hr := ha.regs
      cases hr with
      | cons h1 h2 =>
        cases h2
        obtain ⟨cs, hcs, rfl⟩ := h1
        have : cs = [.bool true] := hcs
        subst this
        rfl
    | _ => exact he.elim

end Go.Fl
/- An argument of a law, opened. -/
namespace Go.Fl
open Go

section
variable {H : Type} {enc : TypeId × Value → H} {P : Program} {w : World} {base base' : Nat} {spare : Nat → Bool} {held : Bool}

theorem okWide_cells {te : List (Nat × Ty)} (hT : TyOk P te) {T : Nat} {t : Ty} {v : Value} {r : Reach} (hf : find te T = some t) (hb : t.argB = true) (hv : Value.okWide P w r base T v) : v = pack t v.cells.toList := by
  have hd := (hT _ _ hf).desc
  cases t with
  | mp t => simp [Ty.argB] at hb
  | fz t => simp [Ty.argB] at hb
  | hnd f => simp [Ty.argB] at hb
  | unit =>
    obtain ⟨fs, hu, _⟩ := hd
    simp only [Value.okWide, hu] at hv
    obtain ⟨cs, rfl, _⟩ := hv
    simp [pack, Ty.one, Value.cells]
  | pair a b =>
    obtain ⟨fs, hu, _⟩ := hd
    simp only [Value.okWide, hu] at hv
    obtain ⟨cs, rfl, _⟩ := hv
    simp [pack, Ty.one, Value.cells]
  | sl t =>
    obtain ⟨E, hu, _⟩ := hd
    cases v <;> simp_all [Value.okWide, Cell.okWide, Cell.ok, pack, Ty.one, Value.cells]
  | int k =>
    have hu : P.underlying T = some (.int k) := hd
    cases v <;> simp_all [Value.okWide, Cell.okWide, Cell.ok, pack, Ty.one, Value.cells]
  | bool =>
    have hu : P.underlying T = some .bool := hd
    cases v <;> simp_all [Value.okWide, Cell.okWide, Cell.ok, pack, Ty.one, Value.cells]
  | str =>
    have hu : P.underlying T = some .string := hd
    cases v <;> simp_all [Value.okWide, Cell.okWide, Cell.ok, pack, Ty.one, Value.cells]

theorem open_val {te : List (Nat × Ty)} (hT : TyOk P te) {T : Nat} {t : Ty} {v : Value} {r : Reach} {d : DataW H} {ps : List MemPlace} (hf : find te T = some t) (hb : t.argB = true) (hz : t.sz ≠ 0)
    (hv : Value.okWide P w r base' T v) (h : DataW.Trod enc P w base spare held T v d ps) : ∃ x : t.den, Wf t x ∧ ∀ bx γ, VRel w (· < w.heap.size) bx γ (.w (.one (.val t x))) v := by
  obtain ⟨fuel, h⟩ := h
  obtain ⟨x, hr, hw⟩ := open_ty hT _ t (Nat.le_refl _) _ _ _ _ hf hb hz h
  exact ⟨x, hw, fun _ _ => ⟨_, hr, okWide_cells hT hf hb hv⟩⟩
end

end Go.Fl
/- The row: from a contract and a plain law to what the law's call leaves. -/
namespace Go.Fl
open Go Go.ChangeShapes Go.WideShapes Go.RowKit

section
variable {H : Type} {enc : TypeId × Value → H} {P : Program}

theorem trodAll_stays (hl : laidOutB P = true) {W W' : World} (hb : Below W.heap.size W W') {sp : Nat → Bool} :
    ∀ {ts : List TypeId} {vs : List Value} {ds : List (DataW H)} {p : List MemPlace}, (∀ t ∈ ts, P.readableRec t = true ∧ t < P.types.size) →
      DataW.TrodAll enc P W 0 (fun _ => true) true ts vs ds p → (∀ x ∈ p, x.block < W.heap.size) → (∀ x ∈ p, sp x.block = true) → DataW.TrodAll enc P W' 0 sp true ts vs ds p
  | [], _, _, _, _, h, _, _ => by
    obtain ⟨rfl, rfl, rfl⟩ := trodAll_nil h
    rfl
  | t :: ts, _, _, _, hr, h, hlt, hsp => by
    obtain ⟨v, vs1, d, ds1, a, b, rfl, rfl, rfl, h1, h2⟩ := trodAll_cons h
    exact ⟨a, b, WideElems.Trod_stays hl (hr t (by simp)).1 (hr t (by simp)).2 h1 (fun x hx => hb.same (hlt x (by simp [hx]))) (fun x hx => hsp x (by simp [hx])),
      trodAll_stays hl hb (fun t ht => hr t (by simp [ht])) h2 (fun x hx => hlt x (by simp [hx])) (fun x hx => hsp x (by simp [hx])), rfl⟩

theorem law_post {f : Func} {s : ChangeSpec} {apart fresh handsOn again : Bool} {W W' : World} {args : Array Value} {ds gs : List (DataW H)} {before : List MemPlace} {T : TypeId}
    (hW : DataW.Whole enc P f.params.toList s.vars apart W args.toList ds gs before) (hv : s.vars = []) (hfn : s.fn H (ds ++ gs) = { results := [.lit (.bool true)], args := ds })
    (hrt : f.resultTypes = #[T]) (hT : P.underlying T = some .bool) (hl : laidOutB P = true) (hr : ∀ t ∈ f.params.toList, P.readableRec t = true ∧ t < P.types.size) (hb : Below W.heap.size W W') :
    s.post enc P f apart fresh handsOn again W args (.bool true) W' := by
  have hW0 := hW
  obtain ⟨p, q, h1, h2, rfl, hz, hn⟩ := hW
  rw [hv] at h2
  obtain ⟨rfl, rfl⟩ := trodVars_none h2
  have hlt : ∀ x ∈ p, x.block < W.heap.size := fun x hx => hW0.lt x (by simp [hx])
  have hargs : ∀ sp : Nat → Bool, (∀ x ∈ p, sp x.block = true) → DataW.TrodAll enc P W' 0 sp true f.params.toList args.toList (s.fn H (ds ++ [])).args p := fun sp hsp => by
    rw [hfn]; exact trodAll_stays hl hb hr h1 hlt hsp
  have hres : ∀ (b : Nat) (sp : Nat → Bool) (hd : Bool), DataW.TrodAll enc P W' b sp hd f.resultTypes.toList ((Value.bool true).resultList f.resultTypes.size) (s.fn H (ds ++ [])).results [] := fun b sp hd => by
    rw [hfn, hrt]; exact trodAll_mk1 (shut_bool hT true)
  have hvars : ∀ sp : Nat → Bool, DataW.TrodVars enc P W' sp s.vars (s.fn H (ds ++ [])).vars [] := fun sp => by
    rw [hfn, hv]; rfl
  refine ⟨ds, [], p ++ [], [], p, [], hW0, hres _ _ _, hargs _ (fun x hx => by simpa using hlt x hx), hvars _, hb.frame _, fun _ => ?_⟩
  refine ⟨ok_one hrt rfl (okWide_bool_mk hT true), _, _, ([] ++ p) ++ [], ⟨[] ++ p, [], trodAll_append (hargs _ (fun _ _ => rfl)) (hres _ _ _), hvars _, rfl, ?_, ?_⟩, ?_⟩
  · intro b off hp
    have hp' : MemPlace.cell b off ∈ p := by simpa using hp
    have hbk := hb.block b (hlt _ hp')
    have := hz b off (by simpa using hp')
    unfold World.frozen? at this ⊢
    simp only at this ⊢
    rw [hbk]
    exact this
  · intro ha
    have := hn ha
    simpa using this
  · intro x hx _
    simpa using hx

/-- The arguments of a law, opened. -/
theorem open_all {te : List (Nat × Ty)} (hT : TyOk P te) {W : World} {base : Nat} : ∀ {Ts : List TypeId} {ts : List Ty} {vs : List Value} {ds : List (DataW H)} {p : List MemPlace},
    All2 (fun T t => find te T = some t ∧ t.argB = true ∧ t.sz ≠ 0) Ts ts → (∀ (j : Nat) t v, Ts[j]? = some t → vs[j]? = some v → Value.okWide P W .any base t v) →
    DataW.TrodAll enc P W 0 (fun _ => true) true Ts vs ds p → ∃ x : (tupT ts).den, Wf (tupT ts) x ∧ All2 (VRel W (· < W.heap.size) [] (fun _ => default)) ((ofTup ts x).map fun d => V.w (.one (.val d.1 d.2))) vs
  | [], [], _, _, _, _, _, h => by
    obtain ⟨rfl, rfl, rfl⟩ := trodAll_nil h
    exact ⟨(), trivial, .nil⟩
  | [], _ :: _, _, _, _, h, _, _ => by cases h
  | _ :: _, [], _, _, _, h, _, _ => by cases h
  | T :: Ts, t :: ts, vs, ds, p, h, hv, ht => by
    obtain ⟨v, vs1, d, ds1, a, b, rfl, rfl, rfl, h1, h2⟩ := trodAll_cons ht
    cases h with
    | cons h3 h4 =>
      obtain ⟨x, hx, hr⟩ := open_val hT h3.1 h3.2.1 h3.2.2 (hv 0 T v rfl rfl) h1
      obtain ⟨y, hy, hs⟩ := open_all hT h4 (fun j t v h5 h6 => hv (j + 1) t v (by simpa using h5) (by simpa using h6)) h2
      exact ⟨(x, y), ⟨hx, hy⟩, .cons (hr _ _) hs⟩

theorem valTs : ∀ (ts : List Ty), (ts.map fun t => VD.one (.val t)).flatMap (·.ts) = ts
  | [] => rfl
  | t :: ts => by
    simp only [List.map_cons, List.flatMap_cons, valTs ts]
    rfl

theorem mk_vals : ∀ (ts : List Ty) (y : Dyn), (mkRegs (ts.map fun t => VD.one (.val t)) y).1 = (mkRegs (ts.map fun t => VD.one (.val t)) y).1 := fun _ _ => rfl

theorem mkRegs_vals : ∀ (ts : List Ty) (x : (tupT ts).den), (mkRegs (ts.map fun t => VD.one (.val t)) (ofTup ts x)).1 = (ofTup ts x).map fun d => V.w (.one (.val d.1 d.2))
  | [], _ => rfl
  | t :: ts, x => by
    have := mkRegs_vals ts x.2
    simp only [List.map_cons, ofTup, mkRegs, VD.mk, LD.mk]
    rw [this]

end
end Go.Fl
/- A law's row from its contract. -/
namespace Go.Fl
open Go Go.ChangeShapes Go.WideShapes Go.RowKit

theorem law_calls' {P : Program} {f : Nat} {din : Desc} {F : (tupT din.ts).den → Option (outT outB)} (hs : Spec P { f := f, din := din, outs := outB, F := F })
    {x : _} (hx : F x = some (true, ())) (hbx : (din.mk' x).bx = []) {W : World} (hG : GK W ∧ ∀ n, n < GKn → n < W.heap.size) {vals : List Value} (hA : All2 (VRel W (· < W.heap.size) [] (fun _ => default)) (din.mk' x).regs vals) :
    Calls P f vals.toArray W fun e W' => e = .returned (.bool true) ∧ Go.RowKit.Below W.heap.size W W' := by
  obtain ⟨_, _, h⟩ := hs
  refine (h x _ hx W ⟨fun _ => default, []⟩ vals ⟨⟨by rw [hbx]; simp, by rw [hbx]; simp [owned], by rw [hbx]; simp [owned], by rw [hbx]; intro b y hy; simp [find] at hy⟩, ?_, by simp, hG.1, fun n hn => ⟨hG.2 n hn, by rw [hbx]; simp [owned]⟩⟩).mono fun e W' he => ?_
  · refine hA.imp fun v _ y hy => ?_
    have e : okOf W (din.mk' x).bx ⟨fun _ => default, []⟩ = (· < W.heap.size) := by
      funext n; rw [hbx]; simp [okOf, owned]
    rw [e, hbx]
    exact hy
  · cases e with
    | returned v =>
      obtain ⟨γ1, vals', rfl, ha⟩ := he { n := 1, regs := [.one (.val .bool)], bx := [], pins := [] } _ ⟨rfl, rfl⟩
      refine ⟨?_, ha.fr.os, ha.fr.tape, ha.fr.output, ha.fr.size, fun k hk => ha.fr.block k hk (by rw [hbx]; simp [owned])⟩
      have hr := ha.regs
      cases hr with
      | cons h1 h2 =>
        cases h2
        obtain ⟨cs, hcs, rfl⟩ := h1
        have : cs = [.bool true] := hcs
        subst this
        rfl
    | _ => exact he.elim

theorem trodAll_length {H : Type} {enc : TypeId × Value → H} {P : Program} {w : World} {base : Nat} {spare : Nat → Bool} {held : Bool} :
    ∀ {ts : List TypeId} {vs : List Value} {ds : List (DataW H)} {p : List MemPlace}, DataW.TrodAll enc P w base spare held ts vs ds p → ds.length = ts.length
  | [], _, _, _, h => by obtain ⟨_, rfl, _⟩ := trodAll_nil h; rfl
  | _ :: _, _, _, _, h => by
    obtain ⟨v, vs1, d, ds1, a, b, rfl, rfl, rfl, h1, h2⟩ := trodAll_cons h
    simp [trodAll_length h2]

theorem law_row {C : Checked} {os : Os} {H : Type} {enc : TypeId × Value → H} {f : FuncId} {fn : Func} {s : ChangeSpec} {conds : List PathCond} {apart fresh handsOn again : Bool} {te : List (Nat × Ty)} {ts : List Ty} {Tb : TypeId}
    (own : ownKnob C.prog.godebug = none) (started : os.Started) (noInit : C.prog.inits.idxOf? f = none) (hfn : C.prog.funcs[f]? = some fn)
    (witness : ∃ (w : World) (tape : Tape) (i : Input), w.os = os ∧ (w.forCall tape i).Shaped C.prog ∧ i.vars = [] ∧ Input.okWide C.prog (w.forCall tape i) .any w.heap.size f i ∧
      s.pre6 enc C.prog fn conds apart (w.forCall tape i).memory i.args ∧ ({} : Assume).holds C.prog (lone (Frame.enter C.prog f i.args .normal) [] (w.forCall tape i)))
    (hT : TyOk C.prog te) (hl : laidOutB C.prog = true) (hps : All2 (fun T t => find te T = some t ∧ t.argB = true ∧ t.sz ≠ 0) fn.params.toList ts)
    (hrd : (fn.params.toList.all fun t => C.prog.readableRec t && decide (t < C.prog.types.size)) = true) (hv : s.vars = [])
    (hsf : ∀ ds : List (DataW H), ds.length = ts.length → s.fn H (ds ++ []) = { results := [.lit (.bool true)], args := ds })
    (hrt : fn.resultTypes = #[Tb]) (hTb : C.prog.underlying Tb = some .bool)
    {din : Desc} {F : Nat → (tupT din.ts).den → Option (outT outB)} (hs : ∀ N, Spec C.prog { f := f, din := din, outs := outB, F := F N })
    (hF : ∀ y : (tupT ts).den, Wf (tupT ts) y → ∃ N x, F N x = some (true, ()) ∧ (din.mk' x).bx = [] ∧ (din.mk' x).regs = (ofTup ts y).map fun d => V.w (.one (.val d.1 d.2)))
    (hgk : ∀ W : World, GK W ∧ ∀ n, n < GKn → n < W.heap.size) :
    ReturnsInHanded {} C os f .any (s.pre6 enc C.prog fn conds apart) (s.post enc C.prog fn apart fresh handsOn again) := by
  refine returnsInHanded_of_change (C := C) own started noInit hfn witness ?_
  intro W base args ds gs before hval hW _ _
  have hW' := hW
  obtain ⟨p, q, hA, hV, rfl, hfz, hnd⟩ := hW
  rw [hv] at hV
  obtain ⟨rfl, rfl⟩ := trodVars_none hV
  obtain ⟨y, hy, hr⟩ := open_all hT hps (fun j t v h1 h2 => hval j t v (by simpa using h1) (by simpa using h2)) hA
  obtain ⟨N, x, hx, hbx, hregs⟩ := hF y hy
  have := law_calls' (hs N) hx hbx (hgk W) (vals := args.toList) (by rw [hregs]; exact hr)
  rw [Array.toArray_toList] at this
  refine this.mono fun e W' ⟨he, hw⟩ => ?_
  exact ⟨_, he, law_post hW' hv (hsf ds ((trodAll_length hA).trans hps.length)) hrt hTb hl (fun t ht => by simpa using List.all_eq_true.1 hrd t ht) hw⟩
end Go.Fl
/- Plain laws: what is common to all. -/
namespace Go.Fl
open Go

abbrev w64 (x : Int) : Int := IntKind.wrap .i64 x
def u : VD := .one .un

theorem w64_id {x : Int} (h1 : -9223372036854775808 ≤ x) (h2 : x < 9223372036854775808) : w64 x = x := by
  have e : w64 x = if x % 18446744073709551616 ≥ 9223372036854775808 then x % 18446744073709551616 - 18446744073709551616 else x % 18446744073709551616 := by
    have e1 : (2 : Int) ^ 64 = 18446744073709551616 := rfl
    have e2 : (2 : Int) ^ (64 - 1) = 9223372036854775808 := rfl
    simp only [w64, IntKind.wrap, IntKind.signed, IntKind.bits, Bool.true_and, e1, e2]
    by_cases h : x % 18446744073709551616 ≥ 9223372036854775808 <;> simp only [h, decide_true, decide_false, if_true, if_false] <;> rfl
  rw [e]
  split <;> omega

theorem w64_succ {i : Nat} (h : i < 4611686018427387904) : w64 ((i : Int) + 1) = ((i + 1 : Nat) : Int) := by
  rw [w64_id (by omega) (by omega)]; omega

theorem bif_dec {α : Type} {p : Prop} [Decidable p] {a b : α} : (bif decide p then a else b) = if p then a else b := by
  by_cases h : p <;> simp [h]

theorem bif_not0 {α : Type} {c : Bool} {a b : α} : (bif !c then a else b) = if c then b else a := by
  cases c <;> rfl

theorem bif_if {α : Type} {c : Bool} {a b : α} : (bif c then a else b) = if c then a else b := by
  cases c <;> rfl

theorem drop_at {α : Type} {xs : List α} {i : Nat} (h : i < xs.length) : xs.drop i = xs[i] :: xs.drop (i + 1) := List.drop_eq_getElem_cons h

theorem getD_lt {α : Type} {xs : List α} {i : Nat} (h : i < xs.length) {d : α} : xs.getD i d = xs[i] := by
  simp [List.getD, h]

/-- A loop over a row's places that ends early where a test fails. -/
theorem all_loop {α ρ : Type} {xs : List α} (q : α → Bool) {L : Nat → Nat → Option ρ} {yes no : ρ} (hl : xs.length ≤ lim)
    (h1 : ∀ n i (h : i < xs.length), w64 ((i : Int) + 1) = ((i + 1 : Nat) : Int) → q xs[i] = true → L (n + 1) i = L n (i + 1))
    (h2 : ∀ n i (h : i < xs.length), q xs[i] = false → L (n + 1) i = some no)
    (h3 : ∀ n, L (n + 1) xs.length = some yes) {n : Nat} (hn : xs.length < n) : L n 0 = some (bif xs.all q then yes else no) := by
  have key : ∀ n i, i ≤ xs.length → xs.length - i < n → L n i = some (bif (xs.drop i).all q then yes else no) := by
    intro n
    induction n with
    | zero => intro i _ h; exact absurd h (Nat.not_lt_zero _)
    | succ n ih =>
      intro i hi hn
      by_cases h : i < xs.length
      · rw [drop_at h]
        cases hq : q xs[i] with
        | true => rw [h1 n i h (w64_succ (by have : lim = 2147483648 := rfl; omega)) hq, ih (i + 1) (by omega) (by omega)]; simp only [List.all_cons, hq, Bool.true_and]
        | false => rw [h2 n i h hq]; simp only [List.all_cons, hq, Bool.false_and, cond_false]
      · have : i = xs.length := by omega
        subst this
        rw [h3]; simp
  simpa using key n 0 (by omega) (by omega)

/-- A loop over a row's places that gathers. -/
theorem fold_loop {α σ ρ : Type} {xs : List α} (f : σ → α → σ) (I : Nat → σ → Prop) {L : Nat → Nat → σ → Option ρ} {fin : σ → ρ} (hl : xs.length ≤ lim)
    (h1 : ∀ n i s (h : i < xs.length), w64 ((i : Int) + 1) = ((i + 1 : Nat) : Int) → I i s → L (n + 1) i s = L n (i + 1) (f s xs[i]) ∧ I (i + 1) (f s xs[i]))
    (h3 : ∀ n s, I xs.length s → L (n + 1) xs.length s = some (fin s)) {n : Nat} (hn : xs.length < n) {s : σ} (hI : I 0 s) :
    L n 0 s = some (fin (xs.foldl f s)) ∧ I xs.length (xs.foldl f s) := by
  have key : ∀ n i s, i ≤ xs.length → xs.length - i < n → I i s → L n i s = some (fin ((xs.drop i).foldl f s)) ∧ I xs.length ((xs.drop i).foldl f s) := by
    intro n
    induction n with
    | zero => intro i s _ h; exact absurd h (Nat.not_lt_zero _)
    | succ n ih =>
      intro i s hi hn hI
      by_cases h : i < xs.length
      · obtain ⟨e, hI'⟩ := h1 n i s h (w64_succ (by have : lim = 2147483648 := rfl; omega)) hI
        obtain ⟨e2, h4⟩ := ih (i + 1) _ (by omega) (by omega) hI'
        rw [drop_at h, List.foldl_cons, e]
        exact ⟨e2, h4⟩
      · have : i = xs.length := by omega
        subst this
        rw [h3 _ _ hI]; simp [hI]
  simpa using key n 0 s (by omega) (by omega) hI

theorem zip_all {α : Type} [DecidableEq α] : ∀ {xs ys : List α}, xs.length = ys.length → (xs.zip ys).all (fun p => decide (p.1 = p.2)) = decide (xs = ys)
  | [], [], _ => by simp
  | x :: xs, y :: ys, h => by
    have ih := zip_all (xs := xs) (ys := ys) (by simpa using h)
    simp only [List.zip_cons_cons, List.all_cons, ih]
    by_cases h1 : x = y <;> by_cases h2 : xs = ys <;> simp [h1, h2]
  | [], _ :: _, h => by simp at h
  | _ :: _, [], h => by simp at h

theorem foldl_push {α β : Type} (f : α → β) (xs : List α) (s : List β) : xs.foldl (fun s x => s ++ [f x]) s = s ++ xs.map f := by
  induction xs generalizing s with
  | nil => simp
  | cons x xs ih => simp [ih]

/-- A loop over a row's places that fills another row. -/
theorem fill_loop {α β ρ : Type} {xs : List α} (f : α → β) {L : Nat → Nat → List β → Option ρ} {fin : List β → ρ} (hl : xs.length ≤ lim)
    (h1 : ∀ n i s (h : i < xs.length), w64 ((i : Int) + 1) = ((i + 1 : Nat) : Int) → s.length = xs.length → L (n + 1) i s = L n (i + 1) (s.set i (f xs[i])))
    (h3 : ∀ n s, s.length = xs.length → L (n + 1) xs.length s = some (fin s)) {n : Nat} (hn : xs.length < n) {s : List β} (hs : s.length = xs.length) :
    L n 0 s = some (fin (xs.map f)) := by
  have key : ∀ n i s, i ≤ xs.length → xs.length - i < n → s.length = xs.length → L n i s = some (fin (s.take i ++ (xs.drop i).map f)) := by
    intro n
    induction n with
    | zero => intro i s _ h; exact absurd h (Nat.not_lt_zero _)
    | succ n ih =>
      intro i s hi hn hs
      by_cases h : i < xs.length
      · rw [h1 n i s h (w64_succ (by have : lim = 2147483648 := rfl; omega)) hs, ih (i + 1) _ (by omega) (by omega) (by simpa using hs), drop_at h]
        congr 2
        have e : (s.set i (f xs[i])).take (i + 1) = s.take i ++ [f xs[i]] := by
          rw [List.take_succ_eq_append_getElem (by simp; omega)]
          simp [List.take_set_of_le]
        rw [e, List.map_cons, List.append_assoc]
        rfl
      · have : i = xs.length := by omega
        subst this
        rw [h3 _ _ hs]
        have : s.take xs.length = s := by rw [← hs]; exact List.take_length
        simp [this]
  simpa using key n 0 s (by omega) (by omega) hs

/-- A loop that turns a row's elements in place. -/
theorem turn_loop {α ρ : Type} {xs : List α} (f : α → α) {L : Nat → Nat → List α → Option ρ} {fin : List α → ρ} (hl : xs.length ≤ lim)
    (h1 : ∀ n i s (h : i < xs.length) (h' : i < s.length), w64 ((i : Int) + 1) = ((i + 1 : Nat) : Int) → s.length = xs.length → s[i] = xs[i] → L (n + 1) i s = L n (i + 1) (s.set i (f xs[i])))
    (h3 : ∀ n s, s.length = xs.length → L (n + 1) xs.length s = some (fin s)) {n : Nat} (hn : xs.length < n) :
    L n 0 xs = some (fin (xs.map f)) := by
  have key : ∀ n i s, i ≤ xs.length → xs.length - i < n → s.length = xs.length → s.drop i = xs.drop i → L n i s = some (fin (s.take i ++ (xs.drop i).map f)) := by
    intro n
    induction n with
    | zero => intro i s _ h; exact absurd h (Nat.not_lt_zero _)
    | succ n ih =>
      intro i s hi hn hs hd
      by_cases h : i < xs.length
      · have h' : i < s.length := by omega
        have e0 : s[i] = xs[i] := by
          have := congrArg (fun l => l[0]?) hd
          simp only [List.getElem?_drop, Nat.add_zero] at this
          rw [List.getElem?_eq_getElem h', List.getElem?_eq_getElem h] at this
          exact Option.some.inj this
        rw [h1 n i s h h' (w64_succ (by have : lim = 2147483648 := rfl; omega)) hs e0, ih (i + 1) _ (by omega) (by omega) (by simpa using hs)
          (by
            have := congrArg (List.drop 1) hd
            rw [List.drop_drop, List.drop_drop] at this
            rw [List.drop_set_of_lt (by omega)]
            exact this), drop_at h]
        congr 2
        have e : (s.set i (f xs[i])).take (i + 1) = s.take i ++ [f xs[i]] := by
          rw [List.take_succ_eq_append_getElem (by simp; omega)]
          simp [List.take_set_of_le]
        rw [e, List.map_cons, List.append_assoc]
        rfl
      · have : i = xs.length := by omega
        subst this
        rw [h3 _ _ hs]
        have : s.take xs.length = s := by rw [← hs]; exact List.take_length
        simp [this]
  simpa using key n 0 xs (by omega) (by omega) rfl rfl

theorem mget_mset {α : Type} : ∀ (m : List (Int × α)) (k q : Int) (y : α), mget (mset m k y) q = if q = k then some y else mget m q
  | [], k, q, y => by
    simp only [mset, mget]
    by_cases h : q = k <;> simp [h]
  | (a, x) :: r, k, q, y => by
    have ih := mget_mset r k q y
    simp only [mset]
    by_cases h : k = a
    · simp only [h, decide_true, cond_true, mget]
      by_cases h2 : q = a <;> simp [h2]
    · simp only [h, decide_false, cond_false, mget, ih]
      by_cases h2 : q = a
      · have : ¬ a = k := fun e => h e.symm
        simp [h2, this]
      · simp [h2]

/-- A loop over a row's places that looks for the first that fits. -/
theorem find_loop {α ρ : Type} {xs : List α} (q : α → Bool) {L : Nat → Nat → Option ρ} {yes : Nat → ρ} {no : ρ} (hl : xs.length ≤ lim)
    (h1 : ∀ n i (h : i < xs.length), w64 ((i : Int) + 1) = ((i + 1 : Nat) : Int) → q xs[i] = false → L (n + 1) i = L n (i + 1))
    (h2 : ∀ n i (h : i < xs.length), q xs[i] = true → L (n + 1) i = some (yes i))
    (h3 : ∀ n, L (n + 1) xs.length = some no) {n : Nat} (hn : xs.length < n) : L n 0 = some (match xs.findIdx? q with | some i => yes i | none => no) := by
  have key : ∀ n i, i ≤ xs.length → xs.length - i < n → L n i = some (match (xs.drop i).findIdx? q with | some j => yes (i + j) | none => no) := by
    intro n
    induction n with
    | zero => intro i _ h; exact absurd h (Nat.not_lt_zero _)
    | succ n ih =>
      intro i hi hn
      by_cases h : i < xs.length
      · rw [drop_at h, List.findIdx?_cons]
        cases hq : q xs[i] with
        | true => rw [h2 n i h hq]; simp
        | false =>
          rw [h1 n i h (w64_succ (by have : lim = 2147483648 := rfl; omega)) hq, ih (i + 1) (by omega) (by omega)]
          cases (xs.drop (i + 1)).findIdx? q with
          | none => simp
          | some j => simp; congr 1; omega
      · have : i = xs.length := by omega
        subst this
        rw [h3]; simp
  have := key n 0 (by omega) (by omega)
  simp only [List.drop_zero, Nat.zero_add] at this
  exact this

@[simp] theorem bif_bne {α β : Type} [DecidableEq α] {a b : α} {x y : β} : (bif a != b then x else y) = if a = b then y else x := by
  by_cases h : a = b
  · simp [h]
  · have : (a != b) = true := by simp [h]
    rw [this, if_neg h]; rfl

@[simp] theorem bif_beq {α β : Type} [DecidableEq α] {a b : α} {x y : β} : (bif a == b then x else y) = if a = b then x else y := by
  by_cases h : a = b
  · simp [h]
  · have : (a == b) = false := by simp [h]
    rw [this, if_neg h]; rfl

@[simp] theorem lit_lt1 {n : Nat} : ((1 : Int) < (n : Int)) ↔ 1 < n := Int.ofNat_lt (n := 1)
@[simp] theorem lit_le1 {n : Nat} : ((1 : Int) ≤ (n : Int)) ↔ 1 ≤ n := Int.ofNat_le (m := 1)
@[simp] theorem lt_lit1 {n : Nat} : ((n : Int) < (1 : Int)) ↔ n < 1 := Int.ofNat_lt (m := 1)
@[simp] theorem le_lit1 {n : Nat} : ((n : Int) ≤ (1 : Int)) ↔ n ≤ 1 := Int.ofNat_le (n := 1)
@[simp] theorem lit_lt2 {n : Nat} : ((2 : Int) < (n : Int)) ↔ 2 < n := Int.ofNat_lt (n := 2)
@[simp] theorem lit_le2 {n : Nat} : ((2 : Int) ≤ (n : Int)) ↔ 2 ≤ n := Int.ofNat_le (m := 2)
@[simp] theorem lt_lit2 {n : Nat} : ((n : Int) < (2 : Int)) ↔ n < 2 := Int.ofNat_lt (m := 2)
@[simp] theorem le_lit2 {n : Nat} : ((n : Int) ≤ (2 : Int)) ↔ n ≤ 2 := Int.ofNat_le (n := 2)
@[simp] theorem lit_lt3 {n : Nat} : ((3 : Int) < (n : Int)) ↔ 3 < n := Int.ofNat_lt (n := 3)
@[simp] theorem lit_le3 {n : Nat} : ((3 : Int) ≤ (n : Int)) ↔ 3 ≤ n := Int.ofNat_le (m := 3)
@[simp] theorem lt_lit3 {n : Nat} : ((n : Int) < (3 : Int)) ↔ n < 3 := Int.ofNat_lt (m := 3)
@[simp] theorem le_lit3 {n : Nat} : ((n : Int) ≤ (3 : Int)) ↔ n ≤ 3 := Int.ofNat_le (n := 3)
@[simp] theorem lit_lt4 {n : Nat} : ((4 : Int) < (n : Int)) ↔ 4 < n := Int.ofNat_lt (n := 4)
@[simp] theorem lit_le4 {n : Nat} : ((4 : Int) ≤ (n : Int)) ↔ 4 ≤ n := Int.ofNat_le (m := 4)
@[simp] theorem lt_lit4 {n : Nat} : ((n : Int) < (4 : Int)) ↔ n < 4 := Int.ofNat_lt (m := 4)
@[simp] theorem le_lit4 {n : Nat} : ((n : Int) ≤ (4 : Int)) ↔ n ≤ 4 := Int.ofNat_le (n := 4)
@[simp] theorem lit_lt5 {n : Nat} : ((5 : Int) < (n : Int)) ↔ 5 < n := Int.ofNat_lt (n := 5)
@[simp] theorem lit_le5 {n : Nat} : ((5 : Int) ≤ (n : Int)) ↔ 5 ≤ n := Int.ofNat_le (m := 5)
@[simp] theorem lt_lit5 {n : Nat} : ((n : Int) < (5 : Int)) ↔ n < 5 := Int.ofNat_lt (m := 5)
@[simp] theorem le_lit5 {n : Nat} : ((n : Int) ≤ (5 : Int)) ↔ n ≤ 5 := Int.ofNat_le (n := 5)
@[simp] theorem lit_lt6 {n : Nat} : ((6 : Int) < (n : Int)) ↔ 6 < n := Int.ofNat_lt (n := 6)
@[simp] theorem lit_le6 {n : Nat} : ((6 : Int) ≤ (n : Int)) ↔ 6 ≤ n := Int.ofNat_le (m := 6)
@[simp] theorem lt_lit6 {n : Nat} : ((n : Int) < (6 : Int)) ↔ n < 6 := Int.ofNat_lt (m := 6)
@[simp] theorem le_lit6 {n : Nat} : ((n : Int) ≤ (6 : Int)) ↔ n ≤ 6 := Int.ofNat_le (n := 6)
@[simp] theorem lit_lt7 {n : Nat} : ((7 : Int) < (n : Int)) ↔ 7 < n := Int.ofNat_lt (n := 7)
@[simp] theorem lit_le7 {n : Nat} : ((7 : Int) ≤ (n : Int)) ↔ 7 ≤ n := Int.ofNat_le (m := 7)
@[simp] theorem lt_lit7 {n : Nat} : ((n : Int) < (7 : Int)) ↔ n < 7 := Int.ofNat_lt (m := 7)
@[simp] theorem le_lit7 {n : Nat} : ((n : Int) ≤ (7 : Int)) ↔ n ≤ 7 := Int.ofNat_le (n := 7)
@[simp] theorem lit_lt8 {n : Nat} : ((8 : Int) < (n : Int)) ↔ 8 < n := Int.ofNat_lt (n := 8)
@[simp] theorem lit_le8 {n : Nat} : ((8 : Int) ≤ (n : Int)) ↔ 8 ≤ n := Int.ofNat_le (m := 8)
@[simp] theorem lt_lit8 {n : Nat} : ((n : Int) < (8 : Int)) ↔ n < 8 := Int.ofNat_lt (m := 8)
@[simp] theorem le_lit8 {n : Nat} : ((n : Int) ≤ (8 : Int)) ↔ n ≤ 8 := Int.ofNat_le (n := 8)
@[simp] theorem lit_lt9 {n : Nat} : ((9 : Int) < (n : Int)) ↔ 9 < n := Int.ofNat_lt (n := 9)
@[simp] theorem lit_le9 {n : Nat} : ((9 : Int) ≤ (n : Int)) ↔ 9 ≤ n := Int.ofNat_le (m := 9)
@[simp] theorem lt_lit9 {n : Nat} : ((n : Int) < (9 : Int)) ↔ n < 9 := Int.ofNat_lt (m := 9)
@[simp] theorem le_lit9 {n : Nat} : ((n : Int) ≤ (9 : Int)) ↔ n ≤ 9 := Int.ofNat_le (n := 9)
@[simp] theorem lit_lt10 {n : Nat} : ((10 : Int) < (n : Int)) ↔ 10 < n := Int.ofNat_lt (n := 10)
@[simp] theorem lit_le10 {n : Nat} : ((10 : Int) ≤ (n : Int)) ↔ 10 ≤ n := Int.ofNat_le (m := 10)
@[simp] theorem lt_lit10 {n : Nat} : ((n : Int) < (10 : Int)) ↔ n < 10 := Int.ofNat_lt (m := 10)
@[simp] theorem le_lit10 {n : Nat} : ((n : Int) ≤ (10 : Int)) ↔ n ≤ 10 := Int.ofNat_le (n := 10)
@[simp] theorem lit_lt11 {n : Nat} : ((11 : Int) < (n : Int)) ↔ 11 < n := Int.ofNat_lt (n := 11)
@[simp] theorem lit_le11 {n : Nat} : ((11 : Int) ≤ (n : Int)) ↔ 11 ≤ n := Int.ofNat_le (m := 11)
@[simp] theorem lt_lit11 {n : Nat} : ((n : Int) < (11 : Int)) ↔ n < 11 := Int.ofNat_lt (m := 11)
@[simp] theorem le_lit11 {n : Nat} : ((n : Int) ≤ (11 : Int)) ↔ n ≤ 11 := Int.ofNat_le (n := 11)
@[simp] theorem lit_lt12 {n : Nat} : ((12 : Int) < (n : Int)) ↔ 12 < n := Int.ofNat_lt (n := 12)
@[simp] theorem lit_le12 {n : Nat} : ((12 : Int) ≤ (n : Int)) ↔ 12 ≤ n := Int.ofNat_le (m := 12)
@[simp] theorem lt_lit12 {n : Nat} : ((n : Int) < (12 : Int)) ↔ n < 12 := Int.ofNat_lt (m := 12)
@[simp] theorem le_lit12 {n : Nat} : ((n : Int) ≤ (12 : Int)) ↔ n ≤ 12 := Int.ofNat_le (n := 12)
@[simp] theorem lit_lt16 {n : Nat} : ((16 : Int) < (n : Int)) ↔ 16 < n := Int.ofNat_lt (n := 16)
@[simp] theorem lit_le16 {n : Nat} : ((16 : Int) ≤ (n : Int)) ↔ 16 ≤ n := Int.ofNat_le (m := 16)
@[simp] theorem lt_lit16 {n : Nat} : ((n : Int) < (16 : Int)) ↔ n < 16 := Int.ofNat_lt (m := 16)
@[simp] theorem le_lit16 {n : Nat} : ((n : Int) ≤ (16 : Int)) ↔ n ≤ 16 := Int.ofNat_le (n := 16)
@[simp] theorem lit_lt40 {n : Nat} : ((40 : Int) < (n : Int)) ↔ 40 < n := Int.ofNat_lt (n := 40)
@[simp] theorem lit_le40 {n : Nat} : ((40 : Int) ≤ (n : Int)) ↔ 40 ≤ n := Int.ofNat_le (m := 40)
@[simp] theorem lt_lit40 {n : Nat} : ((n : Int) < (40 : Int)) ↔ n < 40 := Int.ofNat_lt (m := 40)
@[simp] theorem le_lit40 {n : Nat} : ((n : Int) ≤ (40 : Int)) ↔ n ≤ 40 := Int.ofNat_le (n := 40)
@[simp] theorem lit_lt100 {n : Nat} : ((100 : Int) < (n : Int)) ↔ 100 < n := Int.ofNat_lt (n := 100)
@[simp] theorem lit_le100 {n : Nat} : ((100 : Int) ≤ (n : Int)) ↔ 100 ≤ n := Int.ofNat_le (m := 100)
@[simp] theorem lt_lit100 {n : Nat} : ((n : Int) < (100 : Int)) ↔ n < 100 := Int.ofNat_lt (m := 100)
@[simp] theorem le_lit100 {n : Nat} : ((n : Int) ≤ (100 : Int)) ↔ n ≤ 100 := Int.ofNat_le (n := 100)
@[simp] theorem lit_lt150 {n : Nat} : ((150 : Int) < (n : Int)) ↔ 150 < n := Int.ofNat_lt (n := 150)
@[simp] theorem lit_le150 {n : Nat} : ((150 : Int) ≤ (n : Int)) ↔ 150 ≤ n := Int.ofNat_le (m := 150)
@[simp] theorem lt_lit150 {n : Nat} : ((n : Int) < (150 : Int)) ↔ n < 150 := Int.ofNat_lt (m := 150)
@[simp] theorem le_lit150 {n : Nat} : ((n : Int) ≤ (150 : Int)) ↔ n ≤ 150 := Int.ofNat_le (n := 150)
@[simp] theorem lit_lt200 {n : Nat} : ((200 : Int) < (n : Int)) ↔ 200 < n := Int.ofNat_lt (n := 200)
@[simp] theorem lit_le200 {n : Nat} : ((200 : Int) ≤ (n : Int)) ↔ 200 ≤ n := Int.ofNat_le (m := 200)
@[simp] theorem lt_lit200 {n : Nat} : ((n : Int) < (200 : Int)) ↔ n < 200 := Int.ofNat_lt (m := 200)
@[simp] theorem le_lit200 {n : Nat} : ((n : Int) ≤ (200 : Int)) ↔ n ≤ 200 := Int.ofNat_le (n := 200)
@[simp] theorem lit_lt4000 {n : Nat} : ((4000 : Int) < (n : Int)) ↔ 4000 < n := Int.ofNat_lt (n := 4000)
@[simp] theorem lit_le4000 {n : Nat} : ((4000 : Int) ≤ (n : Int)) ↔ 4000 ≤ n := Int.ofNat_le (m := 4000)
@[simp] theorem lt_lit4000 {n : Nat} : ((n : Int) < (4000 : Int)) ↔ n < 4000 := Int.ofNat_lt (m := 4000)
@[simp] theorem le_lit4000 {n : Nat} : ((n : Int) ≤ (4000 : Int)) ↔ n ≤ 4000 := Int.ofNat_le (n := 4000)
@[simp] theorem lit_lt6000 {n : Nat} : ((6000 : Int) < (n : Int)) ↔ 6000 < n := Int.ofNat_lt (n := 6000)
@[simp] theorem lit_le6000 {n : Nat} : ((6000 : Int) ≤ (n : Int)) ↔ 6000 ≤ n := Int.ofNat_le (m := 6000)
@[simp] theorem lt_lit6000 {n : Nat} : ((n : Int) < (6000 : Int)) ↔ n < 6000 := Int.ofNat_lt (m := 6000)
@[simp] theorem le_lit6000 {n : Nat} : ((n : Int) ≤ (6000 : Int)) ↔ n ≤ 6000 := Int.ofNat_le (n := 6000)
@[simp] theorem lit_lt1048576 {n : Nat} : ((1048576 : Int) < (n : Int)) ↔ 1048576 < n := Int.ofNat_lt (n := 1048576)
@[simp] theorem lit_le1048576 {n : Nat} : ((1048576 : Int) ≤ (n : Int)) ↔ 1048576 ≤ n := Int.ofNat_le (m := 1048576)
@[simp] theorem lt_lit1048576 {n : Nat} : ((n : Int) < (1048576 : Int)) ↔ n < 1048576 := Int.ofNat_lt (m := 1048576)
@[simp] theorem le_lit1048576 {n : Nat} : ((n : Int) ≤ (1048576 : Int)) ↔ n ≤ 1048576 := Int.ofNat_le (n := 1048576)
@[simp] theorem lit_lt2147483648 {n : Nat} : ((2147483648 : Int) < (n : Int)) ↔ 2147483648 < n := Int.ofNat_lt (n := 2147483648)
@[simp] theorem lit_le2147483648 {n : Nat} : ((2147483648 : Int) ≤ (n : Int)) ↔ 2147483648 ≤ n := Int.ofNat_le (m := 2147483648)
@[simp] theorem lt_lit2147483648 {n : Nat} : ((n : Int) < (2147483648 : Int)) ↔ n < 2147483648 := Int.ofNat_lt (m := 2147483648)
@[simp] theorem le_lit2147483648 {n : Nat} : ((n : Int) ≤ (2147483648 : Int)) ↔ n ≤ 2147483648 := Int.ofNat_le (n := 2147483648)

@[simp] theorem bif_neg {α : Type} {c : Bool} {a b : α} : (bif !c then a else b) = bif c then b else a := by cases c <;> rfl

/-- Two rows, place by place. -/
theorem eq_loop {α ρ : Type} [DecidableEq α] {xs ys : List α} {L : Nat → Nat → Option ρ} {yes no : ρ} (hl : xs.length ≤ lim) (hlen : xs.length = ys.length)
    (h1 : ∀ n i (h : i < xs.length) (h' : i < ys.length), w64 ((i : Int) + 1) = ((i + 1 : Nat) : Int) → xs[i] = ys[i] → L (n + 1) i = L n (i + 1))
    (h2 : ∀ n i (h : i < xs.length) (h' : i < ys.length), ¬ xs[i] = ys[i] → L (n + 1) i = some no)
    (h3 : ∀ n, L (n + 1) xs.length = some yes) {n : Nat} (hn : xs.length < n) : L n 0 = some (bif decide (xs = ys) then yes else no) := by
  have hz : (xs.zip ys).length = xs.length := by simp [hlen]
  have hL := all_loop (xs := xs.zip ys) (n := n) (fun p => decide (p.1 = p.2)) (L := L) (yes := yes) (no := no) (by omega)
    (fun n i h hw hq => h1 n i (by omega) (by omega) hw (by simpa using hq))
    (fun n i h hq => h2 n i (by omega) (by omega) (by simpa using hq))
    (fun n => by rw [hz]; exact h3 n) (by omega)
  rwa [zip_all hlen] at hL

theorem lim_eq : lim = 2147483648 := rfl

end Go.Fl
set_option linter.all false
namespace Go.Fl
open Go Go.ChangeShapes Go.WideShapes Go.ChangeAt Go.RowKit
theorem law_row_laid {C : Checked} {os : Os} {H : Type} {enc : TypeId × Value → H} {f : FuncId} {fn : Func} {s : ChangeSpec} {conds : List PathCond} {apart fresh handsOn again : Bool} {X : World → Array Value → Prop} {te : List (Nat × Ty)} {ts : List Ty} {Tb : TypeId}
    (hX : ∀ (w w' : World) (args : Array Value), w.heap = w'.heap → X w args → X w' args)
    (own : ownKnob C.prog.godebug = none) (started : os.Started) (noInit : C.prog.inits.idxOf? f = none) (hfn : C.prog.funcs[f]? = some fn)
    (witness : ∃ (w : World) (tape : Tape) (i : Input), w.os = os ∧ (w.forCall tape i).Shaped C.prog ∧ i.vars = [] ∧ Input.okWide C.prog (w.forCall tape i) .any w.heap.size f i ∧
      ((s.pre enc C.prog fn conds apart (w.forCall tape i).memory i.args ∧ X (w.forCall tape i).memory i.args) ∧ sizedMet enc C.prog fn (OpenSpec.ofChange s) apart (w.forCall tape i).memory i.args) ∧ ({} : Assume).holds C.prog (lone (Frame.enter C.prog f i.args .normal) [] (w.forCall tape i)))
    (hT : TyOk C.prog te) (hl : laidOutB C.prog = true) (hps : All2 (fun T t => find te T = some t ∧ t.argB = true ∧ t.sz ≠ 0) fn.params.toList ts)
    (hrd : (fn.params.toList.all fun t => C.prog.readableRec t && decide (t < C.prog.types.size)) = true) (hv : s.vars = [])
    (hsf : ∀ ds : List (DataW H), ds.length = ts.length → s.fn H (ds ++ []) = { results := [.lit (.bool true)], args := ds })
    (hrt : fn.resultTypes = #[Tb]) (hTb : C.prog.underlying Tb = some .bool)
    {din : Desc} {F : Nat → (tupT din.ts).den → Option (outT outB)} (hs : ∀ N, Spec C.prog { f := f, din := din, outs := outB, F := F N })
    (hF : ∀ y : (tupT ts).den, Wf (tupT ts) y → ∃ N x, F N x = some (true, ()) ∧ (din.mk' x).bx = [] ∧ (din.mk' x).regs = (ofTup ts y).map fun d => V.w (.one (.val d.1 d.2)))
    (hgk : ∀ (W : World) (args : Array Value), X W args → W.ShapedOpen C.prog → GK W ∧ ∀ n, n < GKn → n < W.heap.size) :
    ReturnsInHanded {} C os f .any (fun w args => (s.pre enc C.prog fn conds apart w args ∧ X w args) ∧ sizedMet enc C.prog fn (OpenSpec.ofChange s) apart w args) (s.post enc C.prog fn apart fresh handsOn again) := by
  refine returnsInHanded_of_calls own started noInit witness ?_
  intro w tape i _ hsh _ hok hpre _
  obtain ⟨_, _, _, fn', hfn', _, _, _, _, hval⟩ := hok
  have e := Option.some.inj (hfn'.symm.trans hfn)
  subst e
  obtain ⟨⟨⟨ds, gs, before, hw, _⟩, hx0⟩, _⟩ := hpre
  have hW := DataW.Whole.of_heap (w' := w.forCall tape i) (by rfl) hw
  have hL := hX _ (w.forCall tape i) _ (by rfl) hx0
  suffices hcall : Calls C.prog f i.args (w.forCall tape i) fun e W' => ∃ v, e = .returned v ∧ s.post enc C.prog fn' apart fresh handsOn again (w.forCall tape i) i.args v W' by
    refine hcall.mono fun e W' ⟨v, he, hp⟩ => ?_
    subst he
    exact ChangeSpec.post_blind hp
  generalize hWW : w.forCall tape i = W at *
  generalize hAA : i.args = args at *
  have hW' := hW
  obtain ⟨p, q, hA, hV, rfl, hfz, hnd⟩ := hW
  rw [hv] at hV
  obtain ⟨rfl, rfl⟩ := trodVars_none hV
  obtain ⟨y, hy, hr⟩ := open_all hT hps (fun j t v h1 h2 => hval j t v (by simpa using h1) (by simpa using h2)) hA
  obtain ⟨N, x, hx, hbx, hregs⟩ := hF y hy
  have := law_calls' (hs N) hx hbx (hgk W args hL hsh) (vals := args.toList) (by rw [hregs]; exact hr)
  rw [Array.toArray_toList] at this
  refine this.mono fun e W' ⟨he, hw⟩ => ?_
  exact ⟨_, he, law_post hW' hv (hsf ds ((trodAll_length hA).trans hps.length)) hrt hTb hl (fun t ht => by simpa using List.all_eq_true.1 hrd t ht) hw⟩
end Go.Fl
/- Contracts made by hand: what is handed over and back is no memory. -/
namespace Go.Fl
open Go

variable {P : Program}

theorem Fr.grown {w : World} (k : Nat) (os : Array Obj) : Fr [] w (Go.Sort.grow (w.drewN k) os) :=
  ⟨rfl, rfl, rfl, by simp [Go.Sort.grow, World.drewN], fun n hn _ => by
    simp only [Go.Sort.grow, World.drewN]
    rw [Array.getElem?_append_left hn]⟩

/-- No memory is handed over, none comes back. -/
theorem Spec.flat {f : Nat} {d od : Desc} {F : (tupT d.ts).den → Option (outT [(.ret, od)])} (hc : Callable P f) (hok : Con.okB ⟨f, d, [(.ret, od)], F⟩ = true) (hb : d.bx = []) (hb' : od.bx = []) (hp : od.pins = [])
    (h : ∀ (x : (tupT d.ts).den) (o : (tupT od.ts).den), F x = some o → ∀ (w : World) (ok : Nat → Prop) (γ : Gam) (vals : List Value), (∀ n, ok n → n < w.heap.size) → GK w → All2 (VRel w ok [] γ) (d.mk' x).regs vals →
      Calls P f vals.toArray w fun
        | .returned v, w' => ∃ vals', v = retV vals' ∧ (∀ ok', All2 (VRel w' ok' [] γ) (od.mk' o).regs vals') ∧ Fr [] w w'
        | _, _ => False) : Spec P ⟨f, d, [(.ret, od)], F⟩ := by
  refine ⟨hc, hok, fun x o hx w γ vals hat => ?_⟩
  have hbx : (d.mk' x).bx = [] := by simp [Desc.mk', hb, mkBx]
  have hbo : ∀ y, (od.mk' y).bx = [] := fun y => by simp [Desc.mk', hb', mkBx]
  have hpo : ∀ y, (od.mk' y).pins = [] := fun y => by simp [Desc.mk', hp, mkRegs]
  have hr := hat.regs
  rw [hbx] at hr
  refine (h x o hx w _ γ vals (fun n hn => hn.1) hat.hid.2.1 hr).mono fun e w' he => ?_
  cases e with
  | returned v =>
    obtain ⟨vals', hv, hrel, hfr⟩ := he
    intro d' s1 hd
    obtain ⟨rfl, rfl⟩ := hd
    refine ⟨γ, vals', hv, ?_, ?_, ?_, ?_, ?_, rfl⟩
    · rw [hbo]; exact ⟨by simp, by simp [owned], by simp [owned], fun b x hb => by simp [find] at hb⟩
    · rw [hbo]; exact hrel _
    · intro i v hi
      rw [hpo] at hi
      simp at hi
    · rw [hbx]; exact hfr
    · rw [hbo]; simp [owned]
  | _ => exact he
end Go.Fl
namespace Go.Fl
open Go Go.Proofs Go.Shelf Go.RowKit
-- laid: LaysM.n171 Nm 171 at Tryd as Tryd.laysM171
def Tryd.laysM171_ren : Go.Shelf.Ren := ⟨fun | 171 => 55 | 243 => 75 | 246 => 88 | 283 => 103 | 284 => 104 | 285 => 105 | 286 => 106 | 129 => 115 | 317 => 114 | 318 => 116 | 319 => 117 | 320 => 118 | 337 => 121 | 338 => 122 | n => n, fun | 3 => 3 | 9 => 9 | 2 => 2 | 4 => 4 | 171 => 133 | 0 => 0 | 53 => 119 | 37 => 29 | 5 => 5 | 173 => 136 | 212 => 147 | 51 => 116 | 20 => 20 | 213 => 148 | 46 => 106 | 232 => 159 | 233 => 160 | n => n, fun | 17 => 3 | 18 => 6 | 19 => 7 | n => n⟩
theorem Tryd.laysM171 : Go.Proofs.LaysM.n171 Tryd.prog Tryd.laysM171_ren where
  mixed := by kernel_rfl
  f129 := Tryd.func115.trans (congrArg some (by kernel_rfl))
  f171 := Tryd.func55.trans (congrArg some (by kernel_rfl))
  f243 := Tryd.func75.trans (congrArg some (by kernel_rfl))
  f246 := Tryd.func88.trans (congrArg some (by kernel_rfl))
  f283 := Tryd.func103.trans (congrArg some (by kernel_rfl))
  f284 := Tryd.func104.trans (congrArg some (by kernel_rfl))
  f285 := Tryd.func105.trans (congrArg some (by kernel_rfl))
  f286 := Tryd.func106.trans (congrArg some (by kernel_rfl))
  f317 := Tryd.func114.trans (congrArg some (by kernel_rfl))
  f318 := Tryd.func116.trans (congrArg some (by kernel_rfl))
  f319 := Tryd.func117.trans (congrArg some (by kernel_rfl))
  f320 := Tryd.func118.trans (congrArg some (by kernel_rfl))
  f337 := Tryd.func121.trans (congrArg some (by kernel_rfl))
  f338 := Tryd.func122.trans (congrArg some (by kernel_rfl))
  t0 := Tryd.underlying0
  a0 := Tryd.isAgg0
  z0 := Tryd.sizeOf0
  v0 := Tryd.zeroValue0
  t2 := Tryd.underlying2
  a2 := Tryd.isAgg2
  z2 := Tryd.sizeOf2
  v2 := Tryd.zeroValue2
  t3 := Tryd.underlying3
  a3 := Tryd.isAgg3
  z3 := Tryd.sizeOf3
  v3 := Tryd.zeroValue3
  t4 := Tryd.underlying4
  a4 := Tryd.isAgg4
  z4 := Tryd.sizeOf4
  v4 := Tryd.zeroValue4
  t5 := Tryd.underlying5
  a5 := Tryd.isAgg5
  z5 := Tryd.sizeOf5
  v5 := Tryd.zeroValue5
  t9 := Tryd.underlying9
  a9 := Tryd.isAgg9
  z9 := Tryd.sizeOf9
  v9 := Tryd.zeroValue9
  t20 := Tryd.underlying20
  a20 := Tryd.isAgg20
  z20 := Tryd.sizeOf20
  v20 := Tryd.zeroValue20
  t37 := Tryd.underlying29
  a37 := Tryd.isAgg29
  z37 := Tryd.sizeOf29
  v37 := Tryd.zeroValue29
  t46 := Tryd.underlying106
  a46 := Tryd.isAgg106
  z46 := Tryd.sizeOf106
  v46 := Tryd.zeroValue106
  t51 := Tryd.underlying116
  a51 := Tryd.isAgg116
  z51 := Tryd.sizeOf116
  v51 := Tryd.zeroValue116
  t53 := Tryd.underlying119
  a53 := Tryd.isAgg119
  z53 := Tryd.sizeOf119
  v53 := Tryd.zeroValue119
  t171 := Tryd.underlying133
  a171 := Tryd.isAgg133
  z171 := Tryd.sizeOf133
  v171 := Tryd.zeroValue133
  t173 := Tryd.underlying136
  a173 := Tryd.isAgg136
  z173 := Tryd.sizeOf136
  v173 := Tryd.zeroValue136
  t212 := Tryd.underlying147
  a212 := Tryd.isAgg147
  z212 := Tryd.sizeOf147
  v212 := Tryd.zeroValue147
  t213 := Tryd.underlying148
  a213 := Tryd.isAgg148
  z213 := Tryd.sizeOf148
  t232 := Tryd.underlying159
  a232 := Tryd.isAgg159
  z232 := Tryd.sizeOf159
  v232 := Tryd.zeroValue159
  t233 := Tryd.underlying160
  a233 := Tryd.isAgg160
  z233 := Tryd.sizeOf160
  v233 := Tryd.zeroValue160
  g17 := by kernel_rfl
  g18 := by kernel_rfl
  g19 := by kernel_rfl
  i0 := by kernel_rfl
  i2 := by kernel_rfl
  i3 := by kernel_rfl
  i4 := by kernel_rfl
  i5 := by kernel_rfl
  i9 := by kernel_rfl
  i20 := by kernel_rfl
  i37 := by kernel_rfl
  i46 := by kernel_rfl
  i51 := by kernel_rfl
  i53 := by kernel_rfl
  i171 := by kernel_rfl
  i173 := by kernel_rfl
  i212 := by kernel_rfl
  i232 := by kernel_rfl
  i233 := by kernel_rfl
  m17 := by kernel_rfl
  m18 := by kernel_rfl
  m19 := by kernel_rfl
-- end of Tryd.laysM171


theorem flat_int {w : World} {ok : Nat → Prop} {γ : Gam} {k : IntKind} {n : Int} {vals : List Value} (h : All2 (VRel w ok [] γ) [.w (.one (.val (.int k) n))] vals) : vals = [.int k n] := by
  cases h with
  | cons h1 h2 => cases h2; rw [int_of h1]

def dinkItoa : Desc := { n := 1, regs := [.one (.val (.int .i64))], bx := [], pins := [] }
def oukItoa : Desc := { n := 1, regs := [.one (.val .str)], bx := [], pins := [] }
noncomputable def FkItoa (x : Int × Unit) : Option (ByteArray × Unit) :=
  bif decide (-9223372036854775808 ≤ x.1) && decide (x.1 ≤ 9223372036854775807) then some ((⟨(Lib.itoa x.1).toArray⟩ : ByteArray), ()) else none
noncomputable def conkItoa : Con := ⟨55, dinkItoa, [(.ret, oukItoa)], FkItoa⟩
theorem speckItoa : Spec Tryd.prog conkItoa := by
  refine Spec.flat ⟨Tryd.f55, by kernel_rfl, by kernel_rfl, by kernel_rfl⟩ (by kernel_rfl) rfl rfl rfl fun x o hx w ok γ vals hk hg hr => ?_
  obtain ⟨n, ⟨⟩⟩ : Int × Unit := x
  simp only [FkItoa] at hx
  have hv := flat_int (k := .i64) (n := n) hr
  subst hv
  by_cases hn : -9223372036854775808 ≤ n ∧ n ≤ 9223372036854775807
  · simp only [hn.1, hn.2, decide_true, Bool.and_self, cond_true] at hx
    obtain rfl := Option.some.inj hx
    refine (Any.strconv_Itoa Tryd.laysM171 n hn.1 hn.2 w hg.pow).mono fun e w' he => ?_
    obtain ⟨rfl, k, os, rfl⟩ := he
    exact ⟨[_], rfl, fun ok' => .cons ⟨_, rfl, rfl⟩ .nil, Fr.grown k os⟩
  · have hn' : ¬(-9223372036854775808 ≤ n) ∨ ¬(n ≤ 9223372036854775807) := by omega
    have : (decide (-9223372036854775808 ≤ n) && decide (n ≤ 9223372036854775807)) = false := by
      simp only [Bool.and_eq_false_iff, decide_eq_false_iff_not]
      exact hn'
    simp only [this, cond_false] at hx
    cases hx
theorem ba_list (s : ByteArray) : s.data.toList = s.toList := by simp [ByteArray.toList_eq]
theorem grow_below (w : World) (k : Nat) (os : Array Obj) : Below w.heap.size w (Go.Sort.grow (w.drewN k) os) := by
  have := Fr.grown (w := w) k os
  exact ⟨this.os, this.tape, this.output, this.size, fun n hn => this.block n hn (by simp)⟩
theorem Below.trans' {w w1 w2 : World} (h : Below w.heap.size w w1) (k : Below w1.heap.size w1 w2) : Below w.heap.size w w2 :=
  ⟨k.os.trans h.os, k.tape.trans h.tape, k.output.trans h.output, Nat.le_trans h.size k.size, fun n hn => (k.block n (Nat.lt_of_lt_of_le hn h.size)).trans (h.block n hn)⟩
theorem flat_str {w : World} {ok : Nat → Prop} {γ : Gam} {z : ByteArray} {vals : List Value} (h : All2 (VRel w ok [] γ) [.w (.one (.val .str z))] vals) : vals = [.string z] := by
  cases h with
  | cons h1 h2 => cases h2; rw [str_of h1]
theorem Fr.below {w w' : World} (h : Below w.heap.size w w') : Fr [] w w' := ⟨h.os, h.tape, h.output, h.size, fun n hn _ => h.block n hn⟩
noncomputable abbrev FhItoa (_N : Nat) := FkItoa
noncomputable def conhItoa (_N : Nat) : Con := conkItoa
theorem spechItoa (N : Nat) : Spec Tryd.prog (conhItoa N) := speckItoa
end Go.Fl
/- strings.Builder: laid. -/
namespace Go.Fl
open Go Go.Proofs Go.Shelf Go.RowKit
-- laid: Lays.n156 Nm 156 at Tryd as Tryd.lays156
def Tryd.lays156_ren : Go.Shelf.Ren := ⟨fun | 156 => 56 | 165 => 76 | 166 => 33 | 169 => 34 | 240 => 62 | 241 => 89 | 276 => 77 | 277 => 107 | n => n, fun | 31 => 68 | 9 => 9 | 3 => 3 | 4 => 4 | 0 => 0 | 20 => 20 | 72 => 58 | 76 => 61 | 70 => 56 | 37 => 29 | 75 => 60 | 127 => 98 | 164 => 110 | 5 => 5 | 80 => 63 | n => n, fun | n => n⟩
theorem Tryd.lays156 : Go.Proofs.Lays.n156 Tryd.prog Tryd.lays156_ren where
  mixed := by kernel_rfl
  f156 := Tryd.func56.trans (congrArg some (by kernel_rfl))
  f165 := Tryd.func76.trans (congrArg some (by kernel_rfl))
  f166 := Tryd.func33.trans (congrArg some (by kernel_rfl))
  f169 := Tryd.func34.trans (congrArg some (by kernel_rfl))
  f240 := Tryd.func62.trans (congrArg some (by kernel_rfl))
  f241 := Tryd.func89.trans (congrArg some (by kernel_rfl))
  f276 := Tryd.func77.trans (congrArg some (by kernel_rfl))
  f277 := Tryd.func107.trans (congrArg some (by kernel_rfl))
  t0 := Tryd.underlying0
  a0 := Tryd.isAgg0
  z0 := Tryd.sizeOf0
  v0 := Tryd.zeroValue0
  t3 := Tryd.underlying3
  a3 := Tryd.isAgg3
  z3 := Tryd.sizeOf3
  v3 := Tryd.zeroValue3
  t4 := Tryd.underlying4
  a4 := Tryd.isAgg4
  z4 := Tryd.sizeOf4
  v4 := Tryd.zeroValue4
  t9 := Tryd.underlying9
  a9 := Tryd.isAgg9
  z9 := Tryd.sizeOf9
  v9 := Tryd.zeroValue9
  t20 := Tryd.underlying20
  a20 := Tryd.isAgg20
  z20 := Tryd.sizeOf20
  v20 := Tryd.zeroValue20
  t31 := Tryd.underlying68
  a31 := Tryd.isAgg68
  z31 := Tryd.sizeOf68
  v31 := Tryd.zeroValue68
  t37 := Tryd.underlying29
  a37 := Tryd.isAgg29
  z37 := Tryd.sizeOf29
  v37 := Tryd.zeroValue29
  t70 := Tryd.underlying56
  a70 := Tryd.isAgg56
  z70 := Tryd.sizeOf56
  v70 := Tryd.zeroValue56
  t72 := Tryd.underlying58
  a72 := Tryd.isAgg58
  z72 := Tryd.sizeOf58
  v72 := Tryd.zeroValue58
  t75 := Tryd.underlying60
  a75 := Tryd.isAgg60
  z75 := Tryd.sizeOf60
  v75 := Tryd.zeroValue60
  t76 := Tryd.underlying61
  a76 := Tryd.isAgg61
  z76 := Tryd.sizeOf61
  v76 := Tryd.zeroValue61
  t127 := Tryd.underlying98
  a127 := Tryd.isAgg98
  z127 := Tryd.sizeOf98
  v127 := Tryd.zeroValue98
  t164 := Tryd.underlying110
  a164 := Tryd.isAgg110
  z164 := Tryd.sizeOf110
  v164 := Tryd.zeroValue110
-- end of Tryd.lays156
theorem Tryd.Builder_Extra : Builder.Extra Tryd.prog Tryd.lays156_ren where
  sizeBuilder := by kernel_rfl
  liesBuilder := by kernel_rfl
  t5 := by kernel_rfl
  a5 := fun w => by kernel_rfl
  z5 := fun w => by kernel_rfl
  v5 := fun w => by kernel_rfl
  infoByte := by kernel_rfl
  cellsByte := by kernel_rfl
  sizeByte := by kernel_rfl
  neB5 := by decide

end Go.Fl
namespace Go.Fl
open Go Go.Proofs Go.Shelf Go.RowKit
set_option maxRecDepth 100000

/-- The words of the kinds of operations, and where their numbers stand. -/
def kWord : Nat → List UInt8
  | 1 => [110, 101, 119]
  | 2 => [108, 111, 97, 100]
  | 3 => [115, 116, 111, 114, 101]
  | 4 => [112, 117, 116]
  | 5 => [103, 101, 116]
  | 6 => [115, 97, 109, 101]
  | 7 => [99, 97, 115]
  | 8 => [100, 114, 111, 112]
  | 9 => [100, 117, 112]
  | 10 => [112, 105, 110]
  | 11 => [117, 110, 112, 105, 110]
  | _ => []
def kOffs : Nat → List Nat
  | 1 => [6, 7]
  | 2 => [1, 4]
  | 3 => [1, 4, 2]
  | 4 => [1, 4, 5]
  | 5 => [1, 4]
  | 6 => [1, 2]
  | 7 => [1, 4, 2, 3]
  | 8 => []
  | 9 => [1]
  | 10 => [1]
  | 11 => [1]
  | _ => []

/-- A row of pointers into block b. -/
def PtrRow (b : Nat) (offs : List Nat) (w w' : World) (sl : Value) : Prop :=
  Below w.heap.size w w' ∧ ∃ A : Option Addr, sl = .slice A offs.length offs.length ∧ ∀ i (h : i < offs.length), ∃ B, A = some ⟨B, 0, none⟩ ∧ w.heap.size ≤ B ∧ B < w'.heap.size ∧ w'.cell? ⟨B, i, none⟩ = some (.pointer (some ⟨b, offs[i], none⟩))

theorem PtrRow.made {b : Nat} {offs : List Nat} {w : World} {t : TypeId} : PtrRow b offs w (w.alloc (.cells (offs.map fun o => Value.pointer (some ⟨b, o, none⟩)).toArray t)).drew (.slice (some ⟨w.heap.size, 0, none⟩) offs.length offs.length) := by
  have hh : (w.alloc (.cells (offs.map fun o => Value.pointer (some ⟨b, o, none⟩)).toArray t)).drew.heap = w.heap.push (.cells (offs.map fun o => Value.pointer (some ⟨b, o, none⟩)).toArray t) := rfl
  refine ⟨⟨rfl, rfl, rfl, by rw [hh, Array.size_push]; omega, fun n hn => by rw [hh, Array.getElem?_push_lt hn, Array.getElem?_eq_getElem hn]⟩, _, rfl, fun i h => ⟨_, rfl, Nat.le_refl _, by rw [hh, Array.size_push]; omega, ?_⟩⟩
  unfold World.cell?
  rw [hh, Array.getElem?_push_size]
  simp [h]
theorem PtrRow.none {b : Nat} {w w' : World} (h : Below w.heap.size w w') : PtrRow b [] w w' (.slice none 0 0) := ⟨h, _, rfl, fun i h => absurd h (Nat.not_lt_zero _)⟩

theorem Tryd.spoken1 (b : Nat) (w : World) (h : w.cell? ⟨b, 0, none⟩ = some (.int .i64 1)) :
    Calls Tryd.prog 61 #[.pointer (some ⟨b, 0, none⟩)] w fun e w' => ∃ sl, e = .returned (.tuple #[.string (ByteArray.mk (kWord 1).toArray), sl]) ∧ PtrRow b (kOffs 1) w w' sl := by
  go_enter Tryd.func61, Tryd.ntmps61
  go_wp2
  go_region
  all_goals (go_wp2; go_ret2)
  exact ⟨_, rfl, PtrRow.made (offs := kOffs 1)⟩
theorem Tryd.spoken2 (b : Nat) (w : World) (h : w.cell? ⟨b, 0, none⟩ = some (.int .i64 2)) :
    Calls Tryd.prog 61 #[.pointer (some ⟨b, 0, none⟩)] w fun e w' => ∃ sl, e = .returned (.tuple #[.string (ByteArray.mk (kWord 2).toArray), sl]) ∧ PtrRow b (kOffs 2) w w' sl := by
  go_enter Tryd.func61, Tryd.ntmps61
  go_wp2
  go_region
  all_goals (go_wp2; go_ret2)
  exact ⟨_, rfl, PtrRow.made (offs := kOffs 2)⟩
theorem Tryd.spoken3 (b : Nat) (w : World) (h : w.cell? ⟨b, 0, none⟩ = some (.int .i64 3)) :
    Calls Tryd.prog 61 #[.pointer (some ⟨b, 0, none⟩)] w fun e w' => ∃ sl, e = .returned (.tuple #[.string (ByteArray.mk (kWord 3).toArray), sl]) ∧ PtrRow b (kOffs 3) w w' sl := by
  go_enter Tryd.func61, Tryd.ntmps61
  go_wp2
  go_region
  all_goals (go_wp2; go_ret2)
  exact ⟨_, rfl, PtrRow.made (offs := kOffs 3)⟩
theorem Tryd.spoken4 (b : Nat) (w : World) (h : w.cell? ⟨b, 0, none⟩ = some (.int .i64 4)) :
    Calls Tryd.prog 61 #[.pointer (some ⟨b, 0, none⟩)] w fun e w' => ∃ sl, e = .returned (.tuple #[.string (ByteArray.mk (kWord 4).toArray), sl]) ∧ PtrRow b (kOffs 4) w w' sl := by
  go_enter Tryd.func61, Tryd.ntmps61
  go_wp2
  go_region
  all_goals (go_wp2; go_ret2)
  exact ⟨_, rfl, PtrRow.made (offs := kOffs 4)⟩
theorem Tryd.spoken5 (b : Nat) (w : World) (h : w.cell? ⟨b, 0, none⟩ = some (.int .i64 5)) :
    Calls Tryd.prog 61 #[.pointer (some ⟨b, 0, none⟩)] w fun e w' => ∃ sl, e = .returned (.tuple #[.string (ByteArray.mk (kWord 5).toArray), sl]) ∧ PtrRow b (kOffs 5) w w' sl := by
  go_enter Tryd.func61, Tryd.ntmps61
  go_wp2
  go_region
  all_goals (go_wp2; go_ret2)
  exact ⟨_, rfl, PtrRow.made (offs := kOffs 5)⟩
theorem Tryd.spoken6 (b : Nat) (w : World) (h : w.cell? ⟨b, 0, none⟩ = some (.int .i64 6)) :
    Calls Tryd.prog 61 #[.pointer (some ⟨b, 0, none⟩)] w fun e w' => ∃ sl, e = .returned (.tuple #[.string (ByteArray.mk (kWord 6).toArray), sl]) ∧ PtrRow b (kOffs 6) w w' sl := by
  go_enter Tryd.func61, Tryd.ntmps61
  go_wp2
  go_region
  all_goals (go_wp2; go_ret2)
  exact ⟨_, rfl, PtrRow.made (offs := kOffs 6)⟩
theorem Tryd.spoken7 (b : Nat) (w : World) (h : w.cell? ⟨b, 0, none⟩ = some (.int .i64 7)) :
    Calls Tryd.prog 61 #[.pointer (some ⟨b, 0, none⟩)] w fun e w' => ∃ sl, e = .returned (.tuple #[.string (ByteArray.mk (kWord 7).toArray), sl]) ∧ PtrRow b (kOffs 7) w w' sl := by
  go_enter Tryd.func61, Tryd.ntmps61
  go_wp2
  go_region
  all_goals (go_wp2; go_ret2)
  exact ⟨_, rfl, PtrRow.made (offs := kOffs 7)⟩
theorem Tryd.spoken8 (b : Nat) (w : World) (h : w.cell? ⟨b, 0, none⟩ = some (.int .i64 8)) :
    Calls Tryd.prog 61 #[.pointer (some ⟨b, 0, none⟩)] w fun e w' => ∃ sl, e = .returned (.tuple #[.string (ByteArray.mk (kWord 8).toArray), sl]) ∧ PtrRow b (kOffs 8) w w' sl := by
  go_enter Tryd.func61, Tryd.ntmps61
  go_wp2
  all_goals (first | (go_region; go_wp2; go_ret2) | go_ret2)
  exact ⟨_, rfl, PtrRow.none (by first | exact Below.refl _ _ | exact (Below.refl _ _).drew)⟩
theorem Tryd.spoken9 (b : Nat) (w : World) (h : w.cell? ⟨b, 0, none⟩ = some (.int .i64 9)) :
    Calls Tryd.prog 61 #[.pointer (some ⟨b, 0, none⟩)] w fun e w' => ∃ sl, e = .returned (.tuple #[.string (ByteArray.mk (kWord 9).toArray), sl]) ∧ PtrRow b (kOffs 9) w w' sl := by
  go_enter Tryd.func61, Tryd.ntmps61
  go_wp2
  go_region
  all_goals (go_wp2; go_ret2)
  exact ⟨_, rfl, PtrRow.made (offs := kOffs 9)⟩
theorem Tryd.spoken10 (b : Nat) (w : World) (h : w.cell? ⟨b, 0, none⟩ = some (.int .i64 10)) :
    Calls Tryd.prog 61 #[.pointer (some ⟨b, 0, none⟩)] w fun e w' => ∃ sl, e = .returned (.tuple #[.string (ByteArray.mk (kWord 10).toArray), sl]) ∧ PtrRow b (kOffs 10) w w' sl := by
  go_enter Tryd.func61, Tryd.ntmps61
  go_wp2
  go_region
  all_goals (go_wp2; go_ret2)
  exact ⟨_, rfl, PtrRow.made (offs := kOffs 10)⟩
theorem Tryd.spoken11 (b : Nat) (w : World) (h : w.cell? ⟨b, 0, none⟩ = some (.int .i64 11)) :
    Calls Tryd.prog 61 #[.pointer (some ⟨b, 0, none⟩)] w fun e w' => ∃ sl, e = .returned (.tuple #[.string (ByteArray.mk (kWord 11).toArray), sl]) ∧ PtrRow b (kOffs 11) w w' sl := by
  go_enter Tryd.func61, Tryd.ntmps61
  go_wp2
  go_region
  all_goals (go_wp2; go_ret2)
  exact ⟨_, rfl, PtrRow.made (offs := kOffs 11)⟩
theorem Tryd.spoken (k : Nat) (h1 : 1 ≤ k) (h11 : k ≤ 11) (b : Nat) (w : World) (h : w.cell? ⟨b, 0, none⟩ = some (.int .i64 k)) :
    Calls Tryd.prog 61 #[.pointer (some ⟨b, 0, none⟩)] w fun e w' => ∃ sl, e = .returned (.tuple #[.string (ByteArray.mk (kWord k).toArray), sl]) ∧ PtrRow b (kOffs k) w w' sl := by
  have : k = 1 ∨ k = 2 ∨ k = 3 ∨ k = 4 ∨ k = 5 ∨ k = 6 ∨ k = 7 ∨ k = 8 ∨ k = 9 ∨ k = 10 ∨ k = 11 := by omega
  rcases this with rfl | rfl | rfl | rfl | rfl | rfl | rfl | rfl | rfl | rfl | rfl
  · exact Tryd.spoken1 b w h
  · exact Tryd.spoken2 b w h
  · exact Tryd.spoken3 b w h
  · exact Tryd.spoken4 b w h
  · exact Tryd.spoken5 b w h
  · exact Tryd.spoken6 b w h
  · exact Tryd.spoken7 b w h
  · exact Tryd.spoken8 b w h
  · exact Tryd.spoken9 b w h
  · exact Tryd.spoken10 b w h
  · exact Tryd.spoken11 b w h
end Go.Fl
-- FUNCS qShapeOk qOpOk qsized
set_option maxRecDepth 100000
set_option linter.all false
namespace Go.Fl
open Go Go.Proofs
noncomputable def TEq : List (Nat × Ty) := [(3, (.int .i64)),
  (33, (.pair (.int .i64) (.pair (.int .i64) .unit))),
  (35, (.pair (.int .i64) (.pair (.int .i64) (.pair (.int .i64) (.pair (.int .i64) (.pair (.int .i64) (.pair (.int .i64) (.pair (.pair (.int .i64) (.pair (.int .i64) .unit)) .unit))))))))]
theorem TEq_ok : TyOk Tryd.prog TEq := tysB_spec (by kernel_rfl)
theorem mixedq : Tryd.prog.follows .mixedOrders = true := by kernel_rfl

/-! ### 69: impl.ShapeOk -/

noncomputable def dinqShapeOk : Desc := { n := 1, regs := [.one (.val (.pair (.int .i64) (.pair (.int .i64) .unit)))], bx := [], pins := [] }
noncomputable def outqShapeOk : Outs := [(.ret, { n := 1, regs := [.one (.val .bool)], bx := [], pins := [] })]
noncomputable def HqShapeOk : Hints := [(0, [(0, { fz := true })])]
noncomputable def EqShapeOk (_N : Nat) : Env := { te := TEq, cs := [] }
noncomputable def FqShapeOk (N : Nat) (x : ((Int × (Int × Unit)) × Unit)) : Option (Bool × Unit) :=
  bif decide (x.1.1 ≥ (0 : Int)) then
   bif decide (x.1.1 ≤ (4 : Int)) then
    bif decide (x.1.2.1 ≥ (0 : Int)) then
     some (decide (x.1.2.1 ≤ (4 : Int)), ())
    else
    some (false, ())
   else
   some (false, ())
  else
  some (false, ())
noncomputable def conqShapeOk (N : Nat) : Con := { f := 69, din := dinqShapeOk, outs := outqShapeOk, F := FqShapeOk N }
noncomputable def XqShapeOk (N : Nat) : Ctx := { E := EqShapeOk N, H := HqShapeOk, lp := [], jn := [] }
theorem FqShapeOk_eq (N : Nat) (x : ((Int × (Int × Unit)) × Unit)) : evFn (XqShapeOk N) Tryd.f69 dinqShapeOk outqShapeOk x = FqShapeOk N x := by kernel_rfl
theorem cxqShapeOk (N : Nat) : CtxOk Tryd.prog (XqShapeOk N) := ⟨⟨TEq_ok, fun k hk => absurd hk List.not_mem_nil⟩, mixedq⟩
theorem specqShapeOk (N : Nat) : Spec Tryd.prog (conqShapeOk N) :=
  Spec.of_eq (fn_spec (cxqShapeOk N) (f := 69) (fn := Tryd.f69) (c := codeOf Tryd.f69) (by kernel_rfl) (by kernel_rfl) (by kernel_rfl) (loops_at (ids := []) (by kernel_rfl) (trivial)) (by kernel_rfl)) (fun x r h => (FqShapeOk_eq N x).trans h)

/-! ### 44: impl.OpOk -/

noncomputable def dinqOpOk : Desc := { n := 1, regs := [.one (.val (.pair (.int .i64) (.pair (.int .i64) (.pair (.int .i64) (.pair (.int .i64) (.pair (.int .i64) (.pair (.int .i64) (.pair (.pair (.int .i64) (.pair (.int .i64) .unit)) .unit))))))))], bx := [], pins := [] }
noncomputable def outqOpOk : Outs := [(.ret, { n := 1, regs := [.one (.val .bool)], bx := [], pins := [] })]
noncomputable def HqOpOk : Hints := [(0, [(0, { fz := true })])]
noncomputable def EqOpOk (N : Nat) : Env := { te := TEq, cs := [conqShapeOk N] }
noncomputable def FqOpOk (N : Nat) (x : ((Int × (Int × (Int × (Int × (Int × (Int × ((Int × (Int × Unit)) × Unit))))))) × Unit)) : Option (Bool × Unit) :=
  bif decide (x.1.1 ≥ (1 : Int)) then
   bif decide (x.1.1 ≤ (11 : Int)) then
    bif x.1.1 != (1 : Int) then
     some (true, ())
    else
    (FqShapeOk N (x.1.2.2.2.2.2.2.1, ())).bind fun r1 =>
    some (r1.1, ())
   else
   some (false, ())
  else
  some (false, ())
noncomputable def conqOpOk (N : Nat) : Con := { f := 44, din := dinqOpOk, outs := outqOpOk, F := FqOpOk N }
noncomputable def XqOpOk (N : Nat) : Ctx := { E := EqOpOk N, H := HqOpOk, lp := [], jn := [] }
theorem FqOpOk_eq (N : Nat) (x : ((Int × (Int × (Int × (Int × (Int × (Int × ((Int × (Int × Unit)) × Unit))))))) × Unit)) : evFn (XqOpOk N) Tryd.f44 dinqOpOk outqOpOk x = FqOpOk N x := by kernel_rfl
theorem cxqOpOk (N : Nat) : CtxOk Tryd.prog (XqOpOk N) := ⟨⟨TEq_ok, List.forall_mem_cons.2 ⟨(specqShapeOk N), fun k hk => absurd hk List.not_mem_nil⟩⟩, mixedq⟩
theorem specqOpOk (N : Nat) : Spec Tryd.prog (conqOpOk N) :=
  Spec.of_eq (fn_spec (cxqOpOk N) (f := 44) (fn := Tryd.f44) (c := codeOf Tryd.f44) (by kernel_rfl) (by kernel_rfl) (by kernel_rfl) (loops_at (ids := []) (by kernel_rfl) (trivial)) (by kernel_rfl)) (fun x r h => (FqOpOk_eq N x).trans h)

/-! ### 54: impl.sized -/

noncomputable def dinqsized : Desc := { n := 1, regs := [.one (.val (.int .i64))], bx := [], pins := [] }
noncomputable def outqsized : Outs := [(.ret, { n := 1, regs := [.one (.val .bool)], bx := [], pins := [] })]
noncomputable def Hqsized : Hints := []
noncomputable def Eqsized (_N : Nat) : Env := { te := TEq, cs := [] }
noncomputable def Fqsized (N : Nat) (x : (Int × Unit)) : Option (Bool × Unit) :=
  bif decide (x.1 ≥ (-999999999 : Int)) then
   some (decide (x.1 ≤ (999999999 : Int)), ())
  else
  some (false, ())
noncomputable def conqsized (N : Nat) : Con := { f := 54, din := dinqsized, outs := outqsized, F := Fqsized N }
noncomputable def Xqsized (N : Nat) : Ctx := { E := Eqsized N, H := Hqsized, lp := [], jn := [] }
theorem Fqsized_eq (N : Nat) (x : (Int × Unit)) : evFn (Xqsized N) Tryd.f54 dinqsized outqsized x = Fqsized N x := by kernel_rfl
theorem cxqsized (N : Nat) : CtxOk Tryd.prog (Xqsized N) := ⟨⟨TEq_ok, fun k hk => absurd hk List.not_mem_nil⟩, mixedq⟩
theorem specqsized (N : Nat) : Spec Tryd.prog (conqsized N) :=
  Spec.of_eq (fn_spec (cxqsized N) (f := 54) (fn := Tryd.f54) (c := codeOf Tryd.f54) (by kernel_rfl) (by kernel_rfl) (by kernel_rfl) (loops_at (ids := []) (by kernel_rfl) (trivial)) (by kernel_rfl)) (fun x r h => (Fqsized_eq N x).trans h)

end Go.Fl
/- Contracts used in walks by hand. -/
namespace Go.Fl
open Go Go.Proofs Go.Shelf Go.RowKit
set_option maxRecDepth 100000

/-- A contract, where nothing is handed over but what is only read. -/
theorem Spec.use {P : Program} {f : Nat} {din od : Desc} {F : (tupT din.ts).den → Option (outT [(.ret, od)])} (hs : Spec P ⟨f, din, [(.ret, od)], F⟩)
    {x : (tupT din.ts).den} {o : (tupT od.ts).den} (hx : F x = some o) (hbx : (din.mk' x).bx = []) {w : World} (hg : GK w) {vals : List Value}
    (hA : All2 (VRel w (· < w.heap.size) [] (fun _ => default)) (din.mk' x).regs vals) :
    Calls P f vals.toArray w fun e w' => ∃ γ1 vals', e = .returned (retV vals') ∧ After w ⟨fun _ => default, []⟩ [] (vals ++ []) (od.mk' o) γ1 vals' w' := by
  obtain ⟨_, _, h⟩ := hs
  refine (h x _ hx w ⟨fun _ => default, []⟩ vals ⟨⟨by rw [hbx]; simp, by rw [hbx]; simp [owned], by rw [hbx]; simp [owned], by rw [hbx]; intro b y hy; simp [find] at hy⟩, ?_, by simp, hg, fun n hn => ⟨Nat.lt_of_lt_of_le hn hg.size, by rw [hbx]; simp [owned]⟩⟩).mono fun e W' he => ?_
  · refine hA.imp fun v _ y hy => ?_
    have e : okOf w (din.mk' x).bx ⟨fun _ => default, []⟩ = (· < w.heap.size) := by
      funext n; rw [hbx]; simp [okOf, owned]
    rw [e, hbx]
    exact hy
  · cases e with
    | returned v =>
      obtain ⟨γ1, vals', rfl, ha⟩ := he od _ ⟨rfl, rfl⟩
      rw [hbx] at ha
      exact ⟨γ1, vals', rfl, by simpa [owned, cvals] using ha⟩
    | _ => exact he.elim
theorem After.below {w w' : World} {γ γ1 : Gam} {vals vals' : List Value} {s1 : S} (h : After w γ [] vals s1 γ1 vals' w') : Below w.heap.size w w' := ⟨h.fr.os, h.fr.tape, h.fr.output, h.fr.size, fun n hn => h.fr.block n hn (by simp)⟩

abbrev OpD := Int × Int × Int × Int × Int × Int × (Int × Int × Unit) × Unit
def opL (o : OpD) : List Int := [o.1, o.2.1, o.2.2.1, o.2.2.2.1, o.2.2.2.2.1, o.2.2.2.2.2.1, o.2.2.2.2.2.2.1.1, o.2.2.2.2.2.2.1.2.1]
def opV (o : OpD) : Value := .agg ((opL o).map (Value.int .i64)).toArray

theorem Tryd.opOk (o : OpD) (c : Bool) (hc : FqOpOk 0 (o, ()) = some (c, ())) (w : World) (hg : GK w) :
    Calls Tryd.prog 44 #[opV o] w fun e w' => e = .returned (.bool c) ∧ Below w.heap.size w w' := by
  obtain ⟨a0, a1, a2, a3, a4, a5, ⟨a6, a7, ⟨⟩⟩, ⟨⟩⟩ := o
  refine (Spec.use (specqOpOk 0) hc rfl hg (vals := [opV (a0, a1, a2, a3, a4, a5, (a6, a7, ()), ())]) (.cons ⟨[.int .i64 a0, .int .i64 a1, .int .i64 a2, .int .i64 a3, .int .i64 a4, .int .i64 a5, .int .i64 a6, .int .i64 a7], ?_, rfl⟩ .nil)).mono fun e w' he => ?_
  · exact ⟨[_], [_, _, _, _, _, _, _], rfl, rfl, [_], [_, _, _, _, _, _], rfl, rfl, [_], [_, _, _, _, _], rfl, rfl, [_], [_, _, _, _], rfl, rfl, [_], [_, _, _], rfl, rfl, [_], [_, _], rfl, rfl, [_, _], [], rfl, ⟨[_], [_], rfl, rfl, [_], [], rfl, rfl, rfl⟩, rfl⟩
  · obtain ⟨γ1, vals', rfl, ha⟩ := he
    refine ⟨?_, ha.below⟩
    have hr := ha.regs
    cases hr with
    | cons h1 h2 =>
      cases h2
      obtain ⟨cs, hcs, rfl⟩ := h1
      have : cs = [.bool c] := hcs
      subst this
      rfl
def szd (n : Int) : Bool := decide (-999999999 ≤ n) && decide (n ≤ 999999999)
theorem Tryd.sized (n : Int) (w : World) (hg : GK w) :
    Calls Tryd.prog 54 #[.int .i64 n] w fun e w' => e = .returned (.bool (szd n)) ∧ Below w.heap.size w w' := by
  have hc : Fqsized 0 (n, ()) = some (szd n, ()) := by
    unfold szd
    by_cases h : -999999999 ≤ n
    · have : n ≥ -999999999 := h
      simp only [Fqsized, this, h, decide_true, cond_true, Bool.true_and]
    · have : ¬ n ≥ -999999999 := h
      simp only [Fqsized, this, h, decide_false, cond_false, Bool.false_and]
  refine (Spec.use (specqsized 0) hc rfl hg (vals := [.int .i64 n]) (.cons ⟨[.int .i64 n], rfl, rfl⟩ .nil)).mono fun e w' he => ?_
  obtain ⟨γ1, vals', rfl, ha⟩ := he
  refine ⟨?_, ha.below⟩
  have hr := ha.regs
  cases hr with
  | cons h1 h2 =>
    cases h2
    obtain ⟨cs, hcs, rfl⟩ := h1
    have : cs = [.bool (szd n)] := hcs
    subst this
    rfl
theorem itoaLen {v : Int} (h1 : -9223372036854775808 ≤ v) (h2 : v ≤ 9223372036854775807) : (Lib.itoa v).length ≤ 21 := by
  have key : ∀ (k n : Nat), n < 10 ^ (k + 1) → Lib.nDigits n ≤ k + 1 := by
    intro k
    induction k with
    | zero => intro n hn; rw [Lib.nDigits_small (by simpa using hn)]; omega
    | succ k ih =>
      intro n hn
      by_cases h : n < 10
      · rw [Lib.nDigits_small h]; omega
      · rw [Lib.nDigits_big h]
        have := ih (n / 10) (by rw [Nat.pow_succ] at hn; omega)
        omega
  have h20 : (10 : Nat) ^ (19 + 1) = 100000000000000000000 := by decide
  unfold Lib.itoa
  split
  · rw [List.length_cons, Lib.decDigits_length]
    have := key 19 v.natAbs (by omega); omega
  · rw [Lib.decDigits_length]
    have := key 19 v.toNat (by omega); omega
end Go.Fl

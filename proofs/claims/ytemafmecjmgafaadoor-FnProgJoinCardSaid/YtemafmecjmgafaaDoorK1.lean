/- An evaluator of loaded functions, and that it is sound (part 1); no conditions. -/
import Derived.OrdersHeld
import Derived.Below
import Derived.KernelRfl
import Derived.Lib.LaidTab
import Derived.Lib.ItoaNum
import Derived.Test.YtemafmecjmgafaaDoorProg
import Derived.Laws.Cells
import Derived.Laws.CopyRow
import Derived.Laws.Tables
import Derived.Laws.MakeOwn
import Derived.Laws.StructEq
set_option linter.all false
/- The values of the abstract evaluator, and how memory shows them. -/
namespace Go.Fl
open Go

/-- The shape of a value: slices as lists, structs as nested pairs that end in 'unit', maps from int as lists of entries. -/
inductive Ty where
  | int (k : IntKind)
  | bool
  | str
  | unit
  | pair (a b : Ty)
  | sl (t : Ty)
  | mp (t : Ty)
  /-- As an element of an owned row: what it leads to is only read. -/
  | fz (t : Ty)
  /-- A pointer, or a function: a cell of a variable. -/
  | hnd (f : Bool)
  deriving DecidableEq

@[reducible] def Ty.den : Ty → Type
  | .int _ => Int
  | .bool => Bool
  | .str => ByteArray
  | .unit => Unit
  | .pair a b => a.den × b.den
  | .sl t => List t.den
  | .mp t => List (Int × t.den)
  | .fz t => t.den
  | .hnd _ => Unit

def Ty.zero : (t : Ty) → t.den
  | .int _ => (0 : Int)
  | .bool => false
  | .str => ByteArray.empty
  | .unit => ()
  | .pair a b => (a.zero, b.zero)
  | .sl _ => []
  | .mp _ => []
  | .fz t => t.zero
  | .hnd _ => ()

/-- How deep a value is compared, at most. -/
def Ty.rk : Ty → Nat
  | .int _ | .bool | .str | .unit | .hnd _ => 1
  | .pair a b => a.rk + b.rk + 1
  | .sl t | .mp t | .fz t => t.rk + 1

/-- Whether values are the same, part by part. -/
def eqT : (t : Ty) → t.den → t.den → Bool
  | .int _, x, y => (show Int from x) == y
  | .bool, x, y => (show Bool from x) == y
  | .str, x, y => (show ByteArray from x).toList == (show ByteArray from y).toList
  | .pair a b, x, y => eqT a x.1 y.1 && eqT b x.2 y.2
  | _, _, _ => true

/-- How many cells a value takes. -/
def Ty.sz : Ty → Nat
  | .unit => 0
  | .pair a b => a.sz + b.sz
  | .fz t => t.sz
  | _ => 1

/-- The memory from an address and an offset on holds these cells. -/
def CellsAt (w : World) (a : Addr) (o : Nat) (us : List Value) : Prop :=
  ∀ j v, us[j]? = some v → w.cell? ⟨a.block, a.off + o + j, none⟩ = some v

/-- Whatever its shape is: of a value whose cells are one. -/
def Ty.one : Ty → Bool
  | .unit | .pair _ _ => false
  | .fz t => t.one
  | _ => true

/-- A value of the machine out of its cells. -/
def pack (t : Ty) (cs : List Value) : Value := if t.one then cs.headD undef else .agg cs.toArray

/-- The entries of a map were made one behind the other. -/
def Born (es : Array MapEntry) (ck : Nat) : Prop := (∀ i j (hi : i < es.size) (hj : j < es.size), i < j → es[i].born < es[j].born) ∧ ∀ i (hi : i < es.size), es[i].born < ck

/-- No pointer, no function. -/
def hz : Bool → Value
  | false => .pointer none
  | true => .nilFunc

/-- A value that is only read: what it leads to lies in blocks of 'ok'. -/
def Rdf (w : World) (ok : Nat → Prop) : (t : Ty) → t.den → List Value → Prop
  | .int k, n, vs => vs = [.int k n]
  | .bool, b, vs => vs = [.bool b]
  | .str, s, vs => vs = [.string s]
  | .unit, _, vs => vs = []
  | .pair a b, x, vs => ∃ u v, vs = u ++ v ∧ Rdf w ok a x.1 u ∧ Rdf w ok b x.2 v
  | .sl t, xs, vs => ∃ (A : Option Addr) (c : Nat), vs = [.slice A xs.length c] ∧ xs.length ≤ c ∧
      ∀ i (h : i < xs.length), ∃ (a : Addr) (us : List Value), A = some a ∧ a.spot = none ∧ ok a.block ∧ Rdf w ok t xs[i] us ∧ CellsAt w a (i * t.sz) us
  | .mp t, m, vs => (m = [] ∧ vs = [.map none]) ∨ ∃ (r : Nat) (es : Array MapEntry) (ck : Nat), vs = [.map (some r)] ∧ ok r ∧ w.heap[r]? = some (.map es ck) ∧ Born es ck ∧
      es.size = m.length ∧ ∀ i (h : i < m.length) (h' : i < es.size), es[i].key = .int .i64 m[i].1 ∧ ∃ us, Rdf w ok t m[i].2 us ∧ es[i].val = pack t us
  | .fz t, x, vs => Rdf w ok t x vs
  | .hnd f, _, vs => vs = [hz f]

/-- What the call owns: a row of elements, its block first, then what the elements own. -/
def OwnG {α : Type} (w : World) (sz : Nat) (R : α → List Value → List Nat → Prop) (xs : List α) (A : Option Addr) (c : Nat) (F : List Nat) : Prop :=
  (xs = [] ∧ c = 0 ∧ F = []) ∨
  ∃ (bl off : Nat) (cells : Array Value) (e : TypeId) (Fs : List (List Nat)), A = some ⟨bl, off, none⟩ ∧ F = bl :: Fs.flatten ∧ w.heap[bl]? = some (.cells cells e (0, 0)) ∧
    xs.length ≤ c ∧ off + c * sz ≤ cells.size ∧ Fs.length = xs.length ∧
    ∀ i (h : i < xs.length) (h' : i < Fs.length), ∃ us, R xs[i] us Fs[i] ∧ us.length = sz ∧ ∀ j v, us[j]? = some v → cells[off + i * sz + j]? = some v

def Rdo (w : World) (ok : Nat → Prop) : (t : Ty) → t.den → List Value → List Nat → Prop
  | .int k, n, vs, F => vs = [.int k n] ∧ F = []
  | .bool, b, vs, F => vs = [.bool b] ∧ F = []
  | .str, s, vs, F => vs = [.string s] ∧ F = []
  | .unit, _, vs, F => vs = [] ∧ F = []
  | .pair a b, x, vs, F => ∃ u v G H, vs = u ++ v ∧ F = G ++ H ∧ Rdo w ok a x.1 u G ∧ Rdo w ok b x.2 v H
  | .sl t, xs, vs, F => ∃ (A : Option Addr) (c : Nat), vs = [.slice A xs.length c] ∧ OwnG w t.sz (Rdo w ok t) xs A c F
  | .mp _, _, _, _ => False
  | .fz t, x, vs, F => Rdf w ok t x vs ∧ F = []
  | .hnd f, _, vs, F => vs = [hz f] ∧ F = []

theorem Rdf.len {w : World} {ok : Nat → Prop} : ∀ {t : Ty} {x : t.den} {vs : List Value}, Rdf w ok t x vs → vs.length = t.sz := by
  intro t
  induction t with
  | int k => intro x vs h; simp [Rdf] at h; simp [h, Ty.sz]
  | bool => intro x vs h; simp [Rdf] at h; simp [h, Ty.sz]
  | str => intro x vs h; simp [Rdf] at h; simp [h, Ty.sz]
  | unit => intro x vs h; simp [Rdf] at h; simp [h, Ty.sz]
  | pair a b iha ihb =>
    intro x vs h
    obtain ⟨u, v, rfl, h1, h2⟩ := h
    simp [Ty.sz, iha h1, ihb h2]
  | sl t _ => intro x vs h; obtain ⟨A, c, rfl, _⟩ := h; simp [Ty.sz]
  | mp t _ => intro x vs h; rcases h with ⟨_, rfl⟩ | ⟨r, es, ck, rfl, _⟩ <;> simp [Ty.sz]
  | fz t ih => intro x vs h; exact ih h
  | hnd f => intro x vs h; simp [Rdf] at h; simp [h, Ty.sz]

theorem Rdo.len {w : World} {ok : Nat → Prop} : ∀ {t : Ty} {x : t.den} {vs : List Value} {F : List Nat}, Rdo w ok t x vs F → vs.length = t.sz := by
  intro t
  induction t with
  | int k => intro x vs F h; obtain ⟨rfl, _⟩ := h; simp [Ty.sz]
  | bool => intro x vs F h; obtain ⟨rfl, _⟩ := h; simp [Ty.sz]
  | str => intro x vs F h; obtain ⟨rfl, _⟩ := h; simp [Ty.sz]
  | unit => intro x vs F h; obtain ⟨rfl, _⟩ := h; simp [Ty.sz]
  | pair a b iha ihb =>
    intro x vs F h
    obtain ⟨u, v, G, H, rfl, rfl, h1, h2⟩ := h
    simp [Ty.sz, iha h1, ihb h2]
  | sl t _ => intro x vs F h; obtain ⟨A, c, rfl, _⟩ := h; simp [Ty.sz]
  | mp t _ => intro x vs F h; exact h.elim
  | fz t _ => intro x vs F h; exact h.1.len
  | hnd f => intro x vs F h; obtain ⟨rfl, _⟩ := h; simp [Ty.sz]

theorem cell_same {w w' : World} {b : Nat} (h : w'.heap[b]? = w.heap[b]?) (o : Nat) : w'.cell? ⟨b, o, none⟩ = w.cell? ⟨b, o, none⟩ := by
  simp [World.cell?, h]

theorem CellsAt.same {w w' : World} {a : Addr} {o : Nat} {us : List Value} (h : CellsAt w a o us) (hb : w'.heap[a.block]? = w.heap[a.block]?) : CellsAt w' a o us :=
  fun j v hj => by rw [cell_same hb]; exact h j v hj

theorem Rdf.mono {w w' : World} {ok ok' : Nat → Prop} (hw : ∀ b, ok b → w'.heap[b]? = w.heap[b]?) (hok : ∀ b, ok b → ok' b) :
    ∀ {t : Ty} {x : t.den} {vs : List Value}, Rdf w ok t x vs → Rdf w' ok' t x vs := by
  intro t
  induction t with
  | int k => intro x vs h; exact h
  | bool => intro x vs h; exact h
  | str => intro x vs h; exact h
  | unit => intro x vs h; exact h
  | pair a b iha ihb =>
    intro x vs h
    obtain ⟨u, v, hv, h1, h2⟩ := h
    exact ⟨u, v, hv, iha h1, ihb h2⟩
  | sl t ih =>
    intro x vs h
    obtain ⟨A, c, hv, hc, h⟩ := h
    refine ⟨A, c, hv, hc, fun i hi => ?_⟩
    obtain ⟨a, us, hA, hs, hk, hr, hcell⟩ := h i hi
    exact ⟨a, us, hA, hs, hok _ hk, ih hr, hcell.same (hw _ hk)⟩
  | mp t ih =>
    intro x vs h
    rcases h with h | ⟨r, es, ck, hv, hk, hh, hbn, hsz, h⟩
    · exact .inl h
    · refine .inr ⟨r, es, ck, hv, hok _ hk, by rw [hw _ hk]; exact hh, hbn, hsz, fun i hi hi' => ?_⟩
      obtain ⟨h1, us, h2, h3⟩ := h i hi hi'
      exact ⟨h1, us, ih h2, h3⟩
  | fz t ih => intro x vs h; exact ih h
  | hnd f => intro x vs h; exact h

/-- What is readable stays, and stays readable. -/
def OkTo (w : World) (ok : Nat → Prop) (w' : World) (ok' : Nat → Prop) : Prop := ∀ b, ok b → ok' b ∧ w'.heap[b]? = w.heap[b]?

theorem OkTo.rdf {w w' : World} {ok ok' : Nat → Prop} (h : OkTo w ok w' ok') {t : Ty} {x : t.den} {vs : List Value} (hr : Rdf w ok t x vs) : Rdf w' ok' t x vs := hr.mono (fun b hb => (h b hb).2) fun b hb => (h b hb).1

theorem OkTo.of {w w' : World} {ok ok' : Nat → Prop} (hw : ∀ b, ok b → w'.heap[b]? = w.heap[b]?) (hok : ∀ b, ok b → ok' b) : OkTo w ok w' ok' := fun b hb => ⟨hok b hb, hw b hb⟩

theorem OkTo.refl (w : World) (ok : Nat → Prop) : OkTo w ok w ok := fun _ h => ⟨h, rfl⟩

theorem mem_flatten_get {Fs : List (List Nat)} {i : Nat} {h : i < Fs.length} {b : Nat} (hb : b ∈ Fs[i]) : b ∈ Fs.flatten :=
  List.mem_flatten.2 ⟨_, List.getElem_mem h, hb⟩

theorem Rdo.mono {w w' : World} {ok ok' : Nat → Prop} (ho : OkTo w ok w' ok') : ∀ {t : Ty} {x : t.den} {vs : List Value} {F : List Nat}, (∀ b ∈ F, w'.heap[b]? = w.heap[b]?) → Rdo w ok t x vs F → Rdo w' ok' t x vs F := by
  intro t
  induction t with
  | int k => intro x vs F _ h; exact h
  | bool => intro x vs F _ h; exact h
  | str => intro x vs F _ h; exact h
  | unit => intro x vs F _ h; exact h
  | pair a b iha ihb =>
    intro x vs F hw h
    obtain ⟨u, v, G, H, hv, hF, h1, h2⟩ := h
    exact ⟨u, v, G, H, hv, hF, iha (fun b hb => hw b (by simp [hF, hb])) h1, ihb (fun b hb => hw b (by simp [hF, hb])) h2⟩
  | sl t ih =>
    intro x vs F hw h
    obtain ⟨A, c, hv, h⟩ := h
    refine ⟨A, c, hv, ?_⟩
    rcases h with h | ⟨bl, off, cells, e, Fs, hA, hF, hh, hc, hsz, hl, h⟩
    · exact .inl h
    · refine .inr ⟨bl, off, cells, e, Fs, hA, hF, by rw [hw bl (by simp [hF])]; exact hh, hc, hsz, hl, fun i hi hi' => ?_⟩
      obtain ⟨us, h1, h2, h3⟩ := h i hi hi'
      exact ⟨us, ih (fun b hb => hw b (by rw [hF]; exact List.mem_cons_of_mem _ (mem_flatten_get hb))) h1, h2, h3⟩
  | mp t _ => intro x vs F _ h; exact h
  | fz t _ => intro x vs F _ h; exact ⟨ho.rdf h.1, h.2⟩
  | hnd f => intro x vs F _ h; exact h

theorem OwnG.mono {w w' : World} {ok ok' : Nat → Prop} (ho : OkTo w ok w' ok') {t : Ty} {xs : List t.den} {A : Option Addr} {c : Nat} {F : List Nat} (hw : ∀ b ∈ F, w'.heap[b]? = w.heap[b]?)
    (h : OwnG w t.sz (Rdo w ok t) xs A c F) : OwnG w' t.sz (Rdo w' ok' t) xs A c F := by
  have := Rdo.mono ho (t := .sl t) (x := xs) (vs := [.slice A xs.length c]) hw ⟨A, c, rfl, h⟩
  obtain ⟨A', c', he, h'⟩ := this
  simp at he
  obtain ⟨rfl, rfl⟩ := he
  exact h'

/-- What is owned can be let go: then it is only read. -/
theorem Rdo.freeze {w : World} {ok ok' : Nat → Prop} (hok : ∀ b, ok b → ok' b) : ∀ {t : Ty} {x : t.den} {vs : List Value} {F : List Nat}, (∀ b ∈ F, ok' b) → Rdo w ok t x vs F → Rdf w ok' t x vs := by
  intro t
  induction t with
  | int k => intro x vs F _ h; exact h.1
  | bool => intro x vs F _ h; exact h.1
  | str => intro x vs F _ h; exact h.1
  | unit => intro x vs F _ h; exact h.1
  | pair a b iha ihb =>
    intro x vs F hw h
    obtain ⟨u, v, G, H, hv, hF, h1, h2⟩ := h
    exact ⟨u, v, hv, iha (fun b hb => hw b (by simp [hF, hb])) h1, ihb (fun b hb => hw b (by simp [hF, hb])) h2⟩
  | sl t ih =>
    intro x vs F hw h
    obtain ⟨A, c, hv, h⟩ := h
    refine ⟨A, c, hv, ?_⟩
    rcases h with ⟨rfl, rfl, rfl⟩ | ⟨bl, off, cells, e, Fs, hA, hF, hh, hc, hsz, hl, h⟩
    · exact ⟨Nat.le_refl _, fun i hi => absurd hi (Nat.not_lt_zero _)⟩
    · refine ⟨hc, fun i hi => ?_⟩
      obtain ⟨us, h1, h2, h3⟩ := h i hi (by omega)
      refine ⟨⟨bl, off, none⟩, us, hA, rfl, hw bl (by simp [hF]), ih (fun b hb => hw b (by rw [hF]; exact List.mem_cons_of_mem _ (mem_flatten_get hb))) h1, fun j v hj => ?_⟩
      simp only [World.cell?, hh]
      simpa using h3 j v hj
  | mp t _ => intro x vs F _ h; exact h.elim
  | fz t _ => intro x vs F _ h; exact h.1.mono (fun _ _ => rfl) hok
  | hnd f => intro x vs F _ h; exact h.1

/-- Two lists, place by place. -/
inductive All2 {α β : Type} (R : α → β → Prop) : List α → List β → Prop where
  | nil : All2 R [] []
  | cons {x : α} {y : β} {xs : List α} {ys : List β} (h : R x y) (t : All2 R xs ys) : All2 R (x :: xs) (y :: ys)

theorem All2.length {α β : Type} {R : α → β → Prop} {xs : List α} {ys : List β} (h : All2 R xs ys) : xs.length = ys.length := by
  induction h with
  | nil => rfl
  | cons _ _ ih => simp [ih]

theorem All2.imp {α β : Type} {R Q : α → β → Prop} {xs : List α} {ys : List β} (h : All2 R xs ys) (hi : ∀ x ∈ xs, ∀ y, R x y → Q x y) : All2 Q xs ys := by
  induction h with
  | nil => exact .nil
  | cons h0 _ ih => exact .cons (hi _ (by simp) _ h0) (ih fun x hx => hi x (by simp [hx]))

theorem All2.get {α β : Type} {R : α → β → Prop} {xs : List α} {ys : List β} (h : All2 R xs ys) : ∀ (i : Nat) (x : α), xs[i]? = some x → ∃ y, ys[i]? = some y ∧ R x y := by
  induction h with
  | nil => intro i x hx; simp at hx
  | cons h0 _ ih =>
    intro i x hx
    cases i with
    | zero => simp at hx; exact ⟨_, rfl, hx ▸ h0⟩
    | succ i => simpa using ih i x (by simpa using hx)

theorem All2.append {α β : Type} {R : α → β → Prop} {xs xs' : List α} {ys ys' : List β} (h : All2 R xs ys) (h' : All2 R xs' ys') : All2 R (xs ++ xs') (ys ++ ys') := by
  induction h with
  | nil => exact h'
  | cons h0 _ ih => exact .cons h0 ih

theorem All2.drop {α β : Type} {R : α → β → Prop} {xs : List α} {ys : List β} (h : All2 R xs ys) : ∀ n, All2 R (xs.drop n) (ys.drop n) := by
  induction h with
  | nil => intro n; simpa using All2.nil
  | cons h0 ht ih => intro n; cases n with
    | zero => exact .cons h0 ht
    | succ n => exact ih n

theorem All2.take {α β : Type} {R : α → β → Prop} {xs : List α} {ys : List β} (h : All2 R xs ys) : ∀ n, All2 R (xs.take n) (ys.take n) := by
  induction h with
  | nil => intro n; simpa using All2.nil
  | cons h0 ht ih => intro n; cases n with
    | zero => exact .nil
    | succ n => exact .cons h0 (ih n)

theorem All2.set {α β : Type} {R : α → β → Prop} {xs : List α} {ys : List β} (h : All2 R xs ys) : ∀ (n : Nat) {x : α} {y : β}, R x y → All2 R (xs.set n x) (ys.set n y) := by
  induction h with
  | nil => intro n x y _; simpa using All2.nil
  | cons h0 ht ih => intro n x y hxy; cases n with
    | zero => exact .cons hxy ht
    | succ n => exact .cons h0 (ih n hxy)

end Go.Fl
/- Rows within rows: one is taken out, and put back. -/
namespace Go.Fl
open Go

/-- The row that lies at an offset of a value: the type of its elements. -/
def Ty.slAt : Ty → Nat → Option Ty
  | .pair a b, o => if o < a.sz then a.slAt o else b.slAt (o - a.sz)
  | .sl t, 0 => some t
  | _, _ => none

def Ty.slGet : (t : Ty) → Nat → t.den → (te : Ty) → Option (List te.den)
  | .pair a b, o, x, te => if o < a.sz then a.slGet o x.1 te else b.slGet (o - a.sz) x.2 te
  | .sl t, 0, x, te => if h : t = te then some (h ▸ x) else none
  | _, _, _, _ => none

def Ty.slSet : (t : Ty) → Nat → t.den → (te : Ty) → List te.den → Option t.den
  | .pair a b, o, x, te, ys => if o < a.sz then (a.slSet o x.1 te ys).map fun y => (y, x.2) else (b.slSet (o - a.sz) x.2 te ys).map fun y => (x.1, y)
  | .sl t, 0, _, te, ys => if h : te = t then some (h ▸ ys) else none
  | _, _, _, _, _ => none

/-- A value with a hole: a row in it is told elsewhere. -/
def RdoH (w : World) (ok : Nat → Prop) : (t : Ty) → Nat → t.den → List Value → List Nat → Prop
  | .pair a b, o, x, vs, F => ∃ u v G H, vs = u ++ v ∧ F = G ++ H ∧ u.length = a.sz ∧
      ((o < a.sz ∧ RdoH w ok a o x.1 u G ∧ Rdo w ok b x.2 v H) ∨ (¬ o < a.sz ∧ Rdo w ok a x.1 u G ∧ RdoH w ok b (o - a.sz) x.2 v H))
  | .sl _, o, _, vs, F => o = 0 ∧ ∃ v, vs = [v] ∧ v.oneCell' = true ∧ F = []
  | _, _, _, _, _ => False

section
variable {w w' : World} {ok ok' : Nat → Prop}

theorem RdoH.len : ∀ {t : Ty} {o : Nat} {x : t.den} {vs : List Value} {F : List Nat}, RdoH w ok t o x vs F → vs.length = t.sz ∧ o < t.sz := by
  intro t
  induction t with
  | pair a b iha ihb =>
    intro o x vs F h
    obtain ⟨u, v, G, H, rfl, rfl, hu, h⟩ := h
    rcases h with ⟨ho, h1, h2⟩ | ⟨ho, h1, h2⟩
    · simp [Ty.sz, hu, h2.len]; omega
    · have := ihb h2; simp [Ty.sz, hu, this.1]; omega
  | sl t _ => intro o x vs F h; obtain ⟨rfl, v, rfl, _⟩ := h; simp [Ty.sz]
  | _ => intro o x vs F h; exact h.elim

theorem RdoH.mono (ho : OkTo w ok w' ok') : ∀ {t : Ty} {o : Nat} {x : t.den} {vs : List Value} {F : List Nat}, (∀ b ∈ F, w'.heap[b]? = w.heap[b]?) → RdoH w ok t o x vs F → RdoH w' ok' t o x vs F := by
  intro t
  induction t with
  | pair a b iha ihb =>
    intro o x vs F hw h
    obtain ⟨u, v, G, H, rfl, rfl, hu, h⟩ := h
    refine ⟨u, v, G, H, rfl, rfl, hu, ?_⟩
    rcases h with ⟨h0, h1, h2⟩ | ⟨h0, h1, h2⟩
    · exact .inl ⟨h0, iha (fun b hb => hw b (by simp [hb])) h1, h2.mono ho (fun b hb => hw b (by simp [hb]))⟩
    · exact .inr ⟨h0, h1.mono ho (fun b hb => hw b (by simp [hb])), ihb (fun b hb => hw b (by simp [hb])) h2⟩
  | sl t _ => intro o x vs F _ h; exact h
  | _ => intro o x vs F _ h; exact h.elim

theorem slGet_at : ∀ {t : Ty} {o : Nat} {x : t.den} {te : Ty} {ys : List te.den}, t.slGet o x te = some ys → t.slAt o = some te := by
  intro t
  induction t with
  | pair a b iha ihb =>
    intro o x te ys h
    simp only [Ty.slGet, Ty.slAt] at h ⊢
    split at h
    · rename_i ho; rw [if_pos ho]; exact iha h
    · rename_i ho; rw [if_neg ho]; exact ihb h
  | sl t _ =>
    intro o x te ys h
    cases o with
    | zero =>
      simp only [Ty.slGet] at h
      split at h
      · rename_i he; subst he; rfl
      · cases h
    | succ o => simp [Ty.slGet] at h
  | _ => intro o x te ys h; simp [Ty.slGet] at h

theorem slAt_get : ∀ {t : Ty} {o : Nat} {x : t.den} {te : Ty}, t.slAt o = some te → ∃ ys, t.slGet o x te = some ys := by
  intro t
  induction t with
  | pair a b iha ihb =>
    intro o x te h
    simp only [Ty.slGet, Ty.slAt] at h ⊢
    split at h
    · rename_i ho; rw [if_pos ho]; exact iha h
    · rename_i ho; rw [if_neg ho]; exact ihb h
  | sl t _ =>
    intro o x te h
    cases o with
    | zero => simp [Ty.slAt] at h; subst h; exact ⟨x, by simp [Ty.slGet]⟩
    | succ o => simp [Ty.slAt] at h
  | _ => intro o x te h; simp [Ty.slAt] at h

theorem Rdo.takeH : ∀ {t : Ty} {o : Nat} {x : t.den} {us : List Value} {F : List Nat} {te : Ty} {ys : List te.den}, Rdo w ok t x us F → t.slGet o x te = some ys →
    ∃ A c F1 G, us[o]? = some (.slice A ys.length c) ∧ F.Perm (F1 ++ G) ∧ OwnG w te.sz (Rdo w ok te) ys A c F1 ∧ RdoH w ok t o x us G := by
  intro t
  induction t with
  | pair a b iha ihb =>
    intro o x us F te ys h hg
    obtain ⟨u, v, G, H, rfl, rfl, h1, h2⟩ := h
    simp only [Ty.slGet] at hg
    split at hg
    · rename_i ho
      obtain ⟨A, c, F1, G1, e1, e2, e3, e4⟩ := iha h1 hg
      refine ⟨A, c, F1, G1 ++ H, ?_, ?_, e3, u, v, G1, H, rfl, rfl, h1.len, .inl ⟨ho, e4, h2⟩⟩
      · rw [List.getElem?_append_left (by rw [h1.len]; exact ho)]; exact e1
      · rw [← List.append_assoc]; exact e2.append_right _
    · rename_i ho
      obtain ⟨A, c, F1, G1, e1, e2, e3, e4⟩ := ihb h2 hg
      refine ⟨A, c, F1, G ++ G1, ?_, ?_, e3, u, v, G, G1, rfl, rfl, h1.len, .inr ⟨ho, h1, e4⟩⟩
      · rw [List.getElem?_append_right (by rw [h1.len]; omega), h1.len]; exact e1
      · refine (e2.append_left G).trans ?_
        rw [← List.append_assoc, ← List.append_assoc]
        exact (List.perm_append_comm).append_right _
  | sl t _ =>
    intro o x us F te ys h hg
    cases o with
    | zero =>
      simp only [Ty.slGet] at hg
      split at hg
      · rename_i he
        subst he
        cases hg
        obtain ⟨A, c, rfl, ho⟩ := h
        exact ⟨A, c, F, [], rfl, by simp, ho, rfl, _, rfl, rfl, rfl⟩
      · cases hg
    | succ o => simp [Ty.slGet] at hg
  | _ => intro o x us F te ys h hg; simp [Ty.slGet] at hg

theorem RdoH.fill : ∀ {t : Ty} {o : Nat} {x : t.den} {us : List Value} {G : List Nat} {te : Ty} {ys : List te.den} {A : Option Addr} {c : Nat} {F1 : List Nat}, RdoH w ok t o x us G → t.slAt o = some te →
    OwnG w te.sz (Rdo w ok te) ys A c F1 → ∃ y F, t.slSet o x te ys = some y ∧ F.Perm (F1 ++ G) ∧ Rdo w ok t y (us.set o (.slice A ys.length c)) F := by
  intro t
  induction t with
  | pair a b iha ihb =>
    intro o x us G te ys A c F1 h ha hg
    obtain ⟨u, v, G1, H, rfl, rfl, hu, h⟩ := h
    simp only [Ty.slAt] at ha
    simp only [Ty.slSet]
    rcases h with ⟨ho, h1, h2⟩ | ⟨ho, h1, h2⟩
    · rw [if_pos ho] at ha ⊢
      obtain ⟨y, F, e1, e2, e3⟩ := iha h1 ha hg
      refine ⟨(y, x.2), F ++ H, by simp [e1], ?_, ?_⟩
      · rw [← List.append_assoc]; exact e2.append_right _
      · rw [List.set_append_left _ _ (by rw [hu]; exact ho)]
        exact ⟨_, v, F, H, rfl, rfl, e3, h2⟩
    · rw [if_neg ho] at ha ⊢
      obtain ⟨y, F, e1, e2, e3⟩ := ihb h2 ha hg
      refine ⟨(x.1, y), G1 ++ F, by simp [e1], ?_, ?_⟩
      · refine (e2.append_left G1).trans ?_
        rw [← List.append_assoc, ← List.append_assoc]
        exact (List.perm_append_comm).append_right _
      · rw [List.set_append_right _ _ (by rw [hu]; omega), hu]
        exact ⟨u, _, G1, F, rfl, rfl, h1, e3⟩
  | sl t _ =>
    intro o x us G te ys A c F1 h ha hg
    obtain ⟨rfl, v, rfl, _, rfl⟩ := h
    simp only [Ty.slAt, Option.some.injEq] at ha
    subst ha
    exact ⟨ys, F1, by simp [Ty.slSet], by simp, A, c, rfl, hg⟩
  | _ => intro o x us G te ys A c F1 h; exact h.elim

/-- The hole's own cell does not matter. -/
theorem RdoH.set : ∀ {t : Ty} {o : Nat} {x : t.den} {us : List Value} {G : List Nat} {v : Value}, RdoH w ok t o x us G → v.oneCell' = true → RdoH w ok t o x (us.set o v) G := by
  intro t
  induction t with
  | pair a b iha ihb =>
    intro o x us G v h hv
    obtain ⟨u, v', G1, H, rfl, rfl, hu, h⟩ := h
    rcases h with ⟨ho, h1, h2⟩ | ⟨ho, h1, h2⟩
    · rw [List.set_append_left _ _ (by rw [hu]; exact ho)]
      exact ⟨_, v', G1, H, rfl, rfl, by simpa using hu, .inl ⟨ho, iha h1 hv, h2⟩⟩
    · rw [List.set_append_right _ _ (by rw [hu]; omega), hu]
      exact ⟨u, _, G1, H, rfl, rfl, hu, .inr ⟨ho, h1, ihb h2 hv⟩⟩
  | sl t _ => intro o x us G v h hv; obtain ⟨rfl, v0, rfl, _, rfl⟩ := h; exact ⟨rfl, v, rfl, hv, rfl⟩
  | _ => intro o x us G v h; exact h.elim

/-- An owned row with a hole in its element i, at offset o, whose cell holds 'cv'. -/
def HoleG (w : World) (ok : Nat → Prop) (t : Ty) (xs : List t.den) (i o : Nat) (cv : Value) (A : Option Addr) (c : Nat) (F : List Nat) : Prop :=
  ∃ (bl off : Nat) (cells : Array Value) (e : TypeId) (Fs : List (List Nat)), A = some ⟨bl, off, none⟩ ∧ F = bl :: Fs.flatten ∧ w.heap[bl]? = some (.cells cells e (0, 0)) ∧
    xs.length ≤ c ∧ off + c * t.sz ≤ cells.size ∧ Fs.length = xs.length ∧ i < xs.length ∧ o < t.sz ∧ cells[off + i * t.sz + o]? = some cv ∧
    ∀ k (h : k < xs.length) (h' : k < Fs.length), ∃ us, (if k = i then RdoH w ok t o xs[k] us Fs[k] else Rdo w ok t xs[k] us Fs[k]) ∧ us.length = t.sz ∧ ∀ j v, us[j]? = some v → cells[off + k * t.sz + j]? = some v

theorem HoleG.mono (ho : OkTo w ok w' ok') {t : Ty} {xs : List t.den} {i o : Nat} {cv : Value} {A : Option Addr} {c : Nat} {F : List Nat} (hw : ∀ b ∈ F, w'.heap[b]? = w.heap[b]?)
    (h : HoleG w ok t xs i o cv A c F) : HoleG w' ok' t xs i o cv A c F := by
  obtain ⟨bl, off, cells, e, Fs, hA, hF, hh, hc, hsz, hl, hi, h0, hcv, h⟩ := h
  refine ⟨bl, off, cells, e, Fs, hA, hF, by rw [hw bl (by simp [hF])]; exact hh, hc, hsz, hl, hi, h0, hcv, fun k hk hk' => ?_⟩
  obtain ⟨us, h1, h2, h3⟩ := h k hk hk'
  have hb : ∀ b ∈ Fs[k], w'.heap[b]? = w.heap[b]? := fun b hb => hw b (by rw [hF]; exact List.mem_cons_of_mem _ (mem_flatten_get hb))
  refine ⟨us, ?_, h2, h3⟩
  split at h1
  · rename_i hki; rw [if_pos hki]; exact h1.mono ho hb
  · rename_i hki; rw [if_neg hki]; exact h1.mono ho hb

theorem flatten_set_perm : ∀ {Fs : List (List Nat)} {i : Nat} {F1 G : List Nat} (h : i < Fs.length), Fs[i].Perm (F1 ++ G) → Fs.flatten.Perm (F1 ++ (Fs.set i G).flatten) := by
  intro Fs
  induction Fs with
  | nil => intro i F1 G h; simp at h
  | cons f r ih =>
    intro i F1 G h hp
    cases i with
    | zero =>
      simp only [List.getElem_cons_zero] at hp
      simp only [List.set_cons_zero, List.flatten_cons]
      rw [← List.append_assoc]
      exact hp.append_right _
    | succ i =>
      simp only [List.set_cons_succ, List.flatten_cons]
      refine ((ih (by simpa using h) (by simpa using hp)).append_left f).trans ?_
      rw [← List.append_assoc, ← List.append_assoc]
      exact (List.perm_append_comm).append_right _

/-- A row within a row is told by itself. -/
theorem OwnG.takeH {t : Ty} {xs : List t.den} {A : Option Addr} {c : Nat} {F : List Nat} (h : OwnG w t.sz (Rdo w ok t) xs A c F) {i o : Nat} (hi : i < xs.length) {te : Ty} {ys : List te.den} (hg : t.slGet o xs[i] te = some ys) :
    ∃ A' c' F1 G, HoleG w ok t xs i o (.slice A' ys.length c') A c G ∧ OwnG w te.sz (Rdo w ok te) ys A' c' F1 ∧ F.Perm (F1 ++ G) ∧ ∃ bl, A = some bl ∧ bl.block ∈ G := by
  rcases h with ⟨rfl, _⟩ | ⟨bl, off, cells, e, Fs, hA, hF, hh, hc, hsz, hl, h⟩
  · simp at hi
  · obtain ⟨us, h1, h2, h3⟩ := h i hi (by omega)
    obtain ⟨A', c', F1, G, e1, e2, e3, e4⟩ := h1.takeH hg
    have ho := e4.len.2
    refine ⟨A', c', F1, bl :: (Fs.set i G).flatten, ⟨bl, off, cells, e, Fs.set i G, hA, rfl, hh, hc, hsz, by simpa using hl, hi, ho, h3 _ _ e1, fun k hk hk' => ?_⟩, e3, ?_, ⟨_, hA, by simp⟩⟩
    · by_cases hki : k = i
      · subst hki
        exact ⟨us, by simpa using e4, h2, h3⟩
      · obtain ⟨vs, g1, g2, g3⟩ := h k hk (by omega)
        refine ⟨vs, ?_, g2, g3⟩
        rw [if_neg hki]
        simp only [List.getElem_set_ne (Ne.symm hki)]
        exact g1
    · rw [hF]
      have := flatten_set_perm (Fs := Fs) (i := i) (F1 := F1) (G := G) (by omega) e2
      refine (List.Perm.cons bl this).trans ?_
      exact (List.perm_middle).symm

/-- A row is put back where its cell lies. -/
theorem HoleG.give {t : Ty} {xs : List t.den} {i o : Nat} {A : Option Addr} {c : Nat} {G : List Nat} {te : Ty} {ys : List te.den} {A' : Option Addr} {c' : Nat} {F1 : List Nat}
    (h : HoleG w ok t xs i o (.slice A' ys.length c') A c G) (hta : t.slAt o = some te) (hg : OwnG w te.sz (Rdo w ok te) ys A' c' F1) :
    ∃ (hi : i < xs.length) (y : t.den) (F : List Nat), t.slSet o xs[i] te ys = some y ∧ OwnG w t.sz (Rdo w ok t) (xs.set i y) A c F ∧ F.Perm (F1 ++ G) := by
  obtain ⟨bl, off, cells, e, Fs, hA, hG, hh, hc, hsz, hl, hi, h0, hcv, h⟩ := h
  obtain ⟨us, h1, h2, h3⟩ := h i hi (by omega)
  rw [if_pos rfl] at h1
  obtain ⟨y, F, e1, e2, e3⟩ := h1.fill hta hg
  have hset : us.set o (.slice A' ys.length c') = us := by
    apply List.ext_getElem?
    intro j
    rw [List.getElem?_set]
    split
    · rename_i hj
      subst hj
      rw [if_pos (by omega)]
      have hlt : o < us.length := by omega
      have := h3 o us[o] (by simp [hlt])
      rw [hcv] at this
      simp at this
      simp [hlt, this]
    · rfl
  rw [hset] at e3
  refine ⟨hi, y, bl :: (Fs.set i F).flatten, e1, .inr ⟨bl, off, cells, e, Fs.set i F, hA, rfl, hh, by simpa using hc, hsz, by simpa using hl, fun k hk hk' => ?_⟩, ?_⟩
  · by_cases hki : k = i
    · subst hki
      exact ⟨us, by simpa using e3, h2, h3⟩
    · obtain ⟨vs, g1, g2, g3⟩ := h k (by simpa using hk) (by simpa using hk')
      rw [if_neg hki] at g1
      refine ⟨vs, ?_, g2, g3⟩
      simp only [List.getElem_set_ne (Ne.symm hki)]
      exact g1
  · rw [hG]
    have hp := flatten_set_perm (Fs := Fs.set i F) (i := i) (F1 := F1) (G := Fs[i]'(by omega)) (by simp; omega) (by simpa using e2)
    rw [List.set_set, List.set_getElem_self] at hp
    refine (List.Perm.cons bl hp).trans ?_
    exact (List.perm_middle).symm

end
end Go.Fl
/- What is known of package-level variables: strconv's table and its two errors, bytealg.MaxLen. -/
namespace Go.Fl
open Go Go.Proofs

/-- So many blocks are never owned: the package-level variables'. -/
def GKn : Nat := 8
/-- What they hold. -/
structure GK (w : World) : Prop where
  pow : Lib.TabIs Tryd.prog w "internal/strconv.uint64pow10" .u64 Lib.pow10Tab
  size : GKn ≤ w.heap.size

theorem gk_named : ["internal/strconv.uint64pow10", "strconv.ErrSyntax", "strconv.ErrRange", "internal/bytealg.MaxLen"].all (fun s => ((Tryd.prog.globalNamed s).map fun g => decide (g < GKn)).getD false) = true := by kernel_rfl

theorem gk_var {w w' : World} (h : ∀ n, n < GKn → w'.heap[n]? = w.heap[n]?) {s : String} (hs : ((Tryd.prog.globalNamed s).map fun g => decide (g < GKn)).getD false = true) : w'.var? Tryd.prog s = w.var? Tryd.prog s := by
  unfold World.var?
  cases hg : Tryd.prog.globalNamed s with
  | none => rfl
  | some g =>
    rw [hg] at hs
    have : g < GKn := by simpa using hs
    simp only [Option.bind_some, h g this]

theorem GK_mono {w w' : World} (h : ∀ n, n < GKn → w'.heap[n]? = w.heap[n]?) (hs : w.heap.size ≤ w'.heap.size) (g : GK w) : GK w' := by
  have hn := gk_named
  simp only [List.all_cons, List.all_nil, Bool.and_eq_true] at hn
  obtain ⟨h1, h2, h3, h4, _⟩ := hn
  refine ⟨?_, Nat.le_trans g.size hs⟩
  have := g.pow
  unfold Lib.TabIs at this ⊢
  rw [gk_var h h1]; exact this
end Go.Fl
/- States of the abstract evaluator, and what they say of a frame and of memory. -/
namespace Go.Fl
open Go

/-- What a closure holds: the place of a variable, or of a variable that is never written again. -/
inductive Cap where
  | ptr (b : Nat)
  | fpt (t : Ty) (x : t.den)

/-- A value of one cell (or a value that is only read). -/
inductive L where
  | un
  /-- Nothing was put there. -/
  | ud
  | val (t : Ty) (x : t.den)
  | nil
  | mnil
  | pnil
  | row (b : Nat)
  | ptr (b off : Nat)
  | ept (b i off : Nat)
  | fpt (t : Ty) (x : t.den)
  /-- A cell that is only read, in which such a pointer lies. -/
  | fpp (t : Ty) (x : t.den)
  | clo (f : Nat) (cs : List Cap)
  /-- A part of a row. -/
  | vw (b lo n : Nat)
  | mrow (b : Nat)
  | it (b : Nat)
  /-- A row in an element of a row, a place in it, a part of it. -/
  | nrow (b i off : Nat)
  | nept (b i off j o : Nat)
  | nvw (b i off lo n : Nat)

inductive W where
  | one (l : L)
  | agg (ls : List L)

inductive V where
  | w (x : W)
  | tup (xs : List W)

inductive Box where
  | row (t : Ty) (xs : List t.den)
  | var (ls : List L)
  | mp (t : Ty) (m : List (Int × t.den))
  | it (t : Ty) (rest : List (Int × t.den)) (cur : Option (Int × t.den))
  | hole (t : Ty) (xs : List t.den) (i off : Nat) (l : L)

structure S where
  regs : List V
  bx : List (Nat × Box)
  /-- What the call was handed to write: seen as long as it lies where it lay. -/
  pins : List V := []

/-- Where a box lies. -/
structure Gh where
  A : Option Addr
  c : Nat
  F : List Nat
  deriving Inhabited

/-- Where all boxes lie, and blocks that the call must not look at. -/
structure Gam where
  f : Nat → Gh
  hid : List Nat

instance : CoeFun Gam fun _ => Nat → Gh := ⟨Gam.f⟩
instance : CoeOut Gam (Nat → Gh) := ⟨Gam.f⟩

/-- What a call was handed to write, and what it must not look at. -/
structure Ow where
  o : List Nat
  hid : List Nat
  vals : List Value

universe u

def find {α : Type u} : List (Nat × α) → Nat → Option α
  | [], _ => none
  | (k, x) :: r, b => bif k == b then some x else find r b

def L.one : L → Bool
  | .val t _ => t.one
  | .ud => false
  | _ => true

/-- Handles into the elements of a box have a name of their own. -/
def nid (b : Nat) : Nat := b + 1000000000000

def Cap.uses : Cap → Nat → Bool
  | .ptr b, k => b == k
  | .fpt _ _, _ => false

def L.uses : L → Nat → Bool
  | .row b, k | .ptr b _, k | .ept b _ _, k | .vw b _ _, k | .mrow b, k | .it b, k => b == k
  | .nrow b _ _, k | .nept b _ _ _ _, k | .nvw b _ _ _ _, k => b == k || nid b == k
  | .clo _ cs, k => cs.any (·.uses k)
  | _, _ => false

/-- What a row's handles see: its elements' type, and how many there are. -/
def Box.hd : Box → Option (Ty × Nat)
  | .row t xs => some (t, xs.length)
  | .hole t xs _ _ _ => some (t, xs.length)
  | _ => none

def Box.like : Box → Box → Prop
  | .var ls, y => ∃ ms, y = .var ms ∧ ls.length = ms.length
  | .mp t _, y => ∃ m, y = .mp t m
  | .it t _ _, y => ∃ r c, y = .it t r c
  | x, y => x.hd.isSome = true ∧ y.hd = x.hd

theorem Box.like.refl (x : Box) : x.like x := by cases x <;> simp [Box.like, Box.hd]

/-- The blocks that the boxes own. -/
def owned (bx : List (Nat × Box)) (γ : Nat → Gh) : List Nat := (bx.map fun p => (γ p.1).F).flatten

def okOf (w : World) (bx : List (Nat × Box)) (γ : Gam) (n : Nat) : Prop := n < w.heap.size ∧ n ∉ owned bx γ ∧ n ∉ γ.hid

section
variable (w : World) (ok : Nat → Prop) (bx : List (Nat × Box)) (γ : Nat → Gh)

def PtrAt (b off : Nat) (cv : Value) : Prop :=
  ∃ (ls : List L) (bl : Nat), find bx b = some (.var ls) ∧ (γ b).A = some ⟨bl, 0, none⟩ ∧ cv = .pointer (some ⟨bl, off, none⟩)

def FptAt (t : Ty) (x : t.den) (cv : Value) : Prop :=
  ∃ (a : Addr) (cs : List Value), cv = .pointer (some a) ∧ a.spot = none ∧ ok a.block ∧ Rdf w ok t x cs ∧ CellsAt w a 0 cs

def FppAt (t : Ty) (x : t.den) (cv : Value) : Prop :=
  ∃ (a : Addr) (pv : Value), cv = .pointer (some a) ∧ a.spot = none ∧ ok a.block ∧ CellsAt w a 0 [pv] ∧ FptAt w ok t x pv

def CapRel : Cap → Value → Prop
  | .ptr b, cv => PtrAt bx γ b 0 cv
  | .fpt t x, cv => FptAt w ok t x cv

/-- The cell of a row in an element. -/
def NestAt (b i off : Nat) (cv : Value) : Prop :=
  ∃ (x : Box) (t te : Ty) (n : Nat) (a : Addr), find bx b = some x ∧ x.hd = some (t, n) ∧ i < n ∧ (γ b).A = some a ∧ t.slAt off = some te ∧ w.cell? ⟨a.block, a.off + i * t.sz + off, none⟩ = some cv ∧ cv.oneCell' = true

def LRel : L → Value → Prop
  | .un, _ => True
  | .ud, cv => cv = undef
  | .val t x, cv => ∃ cs, Rdf w ok t x cs ∧ cv = pack t cs
  | .nil, cv => cv = .slice none 0 0
  | .mnil, cv => cv = .map none
  | .pnil, cv => cv = .pointer none
  | .row b, cv => ∃ x t n, find bx b = some x ∧ x.hd = some (t, n) ∧ cv = .slice (γ b).A n (γ b).c
  | .ptr b off, cv => PtrAt bx γ b off cv
  | .ept b i off, cv => ∃ x t n a, find bx b = some x ∧ x.hd = some (t, n) ∧ i < n ∧ (γ b).A = some a ∧ cv = .pointer (some ⟨a.block, a.off + i * t.sz + off, none⟩)
  | .fpt t x, cv => FptAt w ok t x cv
  | .fpp t x, cv => FppAt w ok t x cv
  | .clo f cs, cv => ∃ cvs, cv = .func (.func f) #[] cvs.toArray ∧ All2 (CapRel w ok bx γ) cs cvs
  | .vw b lo n, cv => ∃ x t m, find bx b = some x ∧ x.hd = some (t, m) ∧ lo + n ≤ m ∧
      ((lo = 0 ∧ cv = .slice (γ b).A n (γ b).c) ∨ ∃ a, (γ b).A = some a ∧ ∃ k, lo + n ≤ k ∧ k = (γ b).c ∧ cv = .slice (some (if k = lo then a else ⟨a.block, a.off + lo * t.sz, none⟩)) n (k - lo))
  | .mrow b, cv => ∃ t m r, find bx b = some (.mp t m) ∧ (γ b).A = some ⟨r, 0, none⟩ ∧ cv = .map (some r)
  | .it b, cv => ∃ t m c r, find bx b = some (.it t m c) ∧ (γ b).A = some ⟨r, 0, none⟩ ∧ cv = .pointer (some ⟨r, 0, none⟩)
  | .nrow b i off, cv => NestAt w bx γ b i off cv
  | .nept b i off j o, cv => ∃ a m c te x t n, NestAt w bx γ b i off (.slice (some a) m c) ∧ a.spot = none ∧ find bx b = some x ∧ x.hd = some (t, n) ∧ t.slAt off = some te ∧ j < m ∧
      cv = .pointer (some ⟨a.block, a.off + j * te.sz + o, none⟩)
  | .nvw b i off lo n, cv => ∃ a m c te x t k, NestAt w bx γ b i off (.slice a m c) ∧ find bx b = some x ∧ x.hd = some (t, k) ∧ t.slAt off = some te ∧ lo + n ≤ m ∧ lo = 0 ∧ cv = .slice a n c

def LsRel (ls : List L) (cvs : List Value) : Prop := All2 (LRel w ok bx γ) ls cvs

def WRel : W → Value → Prop
  | .one l, cv => LRel w ok bx γ l cv
  | .agg ls, cv => (∀ l ∈ ls, l.one = true) ∧ ∃ cvs, cv = .agg cvs.toArray ∧ (∀ c ∈ cvs, c.oneCell' = true) ∧ LsRel w ok bx γ ls cvs

def VRel : V → Value → Prop
  | .w x, cv => WRel w ok bx γ x cv
  | .tup xs, cv => ∃ cvs, cv = .tuple cvs.toArray ∧ All2 (WRel w ok bx γ) xs cvs

/-- An entry of a map. -/
def EntRel (t : Ty) (e : MapEntry) (x : Int × t.den) : Prop := e.key = .int .i64 x.1 ∧ ∃ us, Rdf w ok t x.2 us ∧ e.val = pack t us

def BoxRel (b : Nat) : Box → Prop
  | .row t xs => OwnG w t.sz (Rdo w ok t) xs (γ b).A (γ b).c (γ b).F
  | .var ls => ∃ (bl : Nat) (cs : Array Value) (e : TypeId), (γ b).A = some ⟨bl, 0, none⟩ ∧ (γ b).F = [bl] ∧ w.heap[bl]? = some (.cells cs e (0, 0)) ∧
      (∀ l ∈ ls, l.one = true) ∧ (∀ c ∈ cs.toList, c.oneCell' = true) ∧ LsRel w ok bx γ ls cs.toList
  | .mp t m => ∃ (r : Nat) (es : Array MapEntry) (ck : Nat), (γ b).A = some ⟨r, 0, none⟩ ∧ (γ b).F = [r] ∧ w.heap[r]? = some (.map es ck) ∧ Born es ck ∧ All2 (EntRel w ok t) es.toList m
  | .it t rest cur => ∃ (bl : Nat) (src : Option Nat) (since last : Nat) (seen : Array Nat), (γ b).A = some ⟨bl, 0, none⟩ ∧ (γ b).F = [bl] ∧ w.heap[bl]? = some (.mapIter src since seen last) ∧
      ((src = none ∧ rest = [] ∧ cur = none) ∨ ∃ (r : Nat) (es : Array MapEntry) (ck : Nat), src = some r ∧ ok r ∧ w.heap[r]? = some (.map es ck) ∧ Born es ck ∧ since = ck ∧
        All2 (EntRel w ok t) (es.toList.filter fun e => !seen.contains e.born) rest ∧ last = ck ∧
        (cur = none ∨ ∃ x e, cur = some x ∧ e ∈ es.toList ∧ EntRel w ok t e x ∧ seen.back? = some e.born))
  | .hole t xs i off l => ∃ cv, HoleG w ok t xs i off cv (γ b).A (γ b).c (γ b).F ∧ LRel w ok bx γ l cv ∧ cv.oneCell' = true ∧ l.one = true
end

/-- The boxes lie where they should, apart from each other. -/
structure BInv (w : World) (bx : List (Nat × Box)) (γ : Gam) : Prop where
  sites : (bx.map (·.1)).Nodup
  apart : (owned bx γ).Nodup
  below : ∀ n ∈ owned bx γ, n < w.heap.size
  boxes : ∀ b x, find bx b = some x → BoxRel w (okOf w bx γ) bx γ b x

/-- Between two worlds: what was there and is not owned stays. -/
structure Fr (own : List Nat) (w w' : World) : Prop where
  os : w'.os = w.os
  tape : w'.tape = w.tape
  output : w'.output = w.output
  size : w.heap.size ≤ w'.heap.size
  block : ∀ k, k < w.heap.size → k ∉ own → w'.heap[k]? = w.heap[k]?

theorem Fr.refl (own : List Nat) (w : World) : Fr own w w := ⟨rfl, rfl, rfl, Nat.le_refl _, fun _ _ _ => rfl⟩

/-- Two stretches, the second of which may turn what the first may, and what is new. -/
theorem Fr.trans {o o' : List Nat} {a b c : World} (h : Fr o a b) (k : Fr o' b c) (ho : ∀ n ∈ o', n ∈ o ∨ a.heap.size ≤ n) : Fr o a c :=
  ⟨k.os.trans h.os, k.tape.trans h.tape, k.output.trans h.output, Nat.le_trans h.size k.size, fun n hn hno =>
    (k.block n (Nat.lt_of_lt_of_le hn h.size) (fun hm => (ho n hm).elim hno (fun h' => absurd hn (Nat.not_lt.2 h')))).trans (h.block n hn hno)⟩

/-- What a state says of a frame's slots and of the world; 'w0', 'own0': the world when the call began, and what it was handed to write. -/
structure StG (w0 : World) (own0 : Ow) (s : S) (γ : Gam) (a : Act) (w : World) : Prop where
  inv : BInv w s.bx γ
  regs : ∀ (r : Nat) (v : V), s.regs[r]? = some v → VRel w (okOf w s.bx γ) s.bx γ v (a.tmps.getD r undef)
  len : s.regs.length ≤ a.tmps.size
  pins : ∀ (i : Nat) (v : V), s.pins[i]? = some v → VRel w (okOf w s.bx γ) s.bx γ v (own0.vals.getD i undef)
  hid : γ.hid = own0.hid
  hidb : (∀ n ∈ own0.hid, n < w0.heap.size ∧ n ∉ own0.o) ∧ GK w0 ∧ ∀ n, n < GKn → n < w0.heap.size ∧ n ∉ own0.o
  fr : Fr own0.o w0 w
  sub : ∀ n ∈ owned s.bx γ, n ∈ own0.o ∨ w0.heap.size ≤ n
  defers : a.defers = []

def St (w0 : World) (own0 : Ow) (s : S) (a : Act) (w : World) : Prop := ∃ γ, StG w0 own0 s γ a w

/-! ### How the relations go on -/

/-- The cells of rows in a box's elements stay. -/
def Hs (w w' : World) (g : Gh) (x : Box) : Prop :=
  ∀ t n, x.hd = some (t, n) → ∀ a, g.A = some a → ∀ i off te, i < n → t.slAt off = some te → w'.cell? ⟨a.block, a.off + i * t.sz + off, none⟩ = w.cell? ⟨a.block, a.off + i * t.sz + off, none⟩

/-- Boxes that are alive are seen as they were, under another name. -/
def Pres (ρ : Nat → Nat) (w : World) (bx : List (Nat × Box)) (γ : Nat → Gh) (w' : World) (bx' : List (Nat × Box)) (γ' : Nat → Gh) (dead : Nat → Bool) : Prop :=
  ∀ b x, dead b = false → find bx b = some x → ∃ y, find bx' (ρ b) = some y ∧ x.like y ∧ (γ' (ρ b)).A = (γ b).A ∧ (x.hd.isSome = true → (γ' (ρ b)).c = (γ b).c) ∧ (dead (nid b) = false → Hs w w' (γ b) x)

theorem Hs.refl (w : World) (g : Gh) (x : Box) : Hs w w g x := fun _ _ _ _ _ _ _ _ _ _ => rfl

theorem Pres.refl (w : World) (bx : List (Nat × Box)) (γ : Nat → Gh) (dead : Nat → Bool) : Pres id w bx γ w bx γ dead :=
  fun _ x _ h => ⟨x, h, Box.like.refl x, rfl, fun _ => rfl, fun _ => Hs.refl _ _ _⟩

def Cap.ren (ρ : Nat → Nat) : Cap → Cap
  | .ptr b => .ptr (ρ b)
  | .fpt t x => .fpt t x

def L.ren (ρ : Nat → Nat) : L → L
  | .row b => .row (ρ b)
  | .ptr b o => .ptr (ρ b) o
  | .ept b i o => .ept (ρ b) i o
  | .clo f cs => .clo f (cs.map (·.ren ρ))
  | .vw b lo n => .vw (ρ b) lo n
  | .mrow b => .mrow (ρ b)
  | .it b => .it (ρ b)
  | .nrow b i o => .nrow (ρ b) i o
  | .nept b i o j q => .nept (ρ b) i o j q
  | .nvw b i o lo n => .nvw (ρ b) i o lo n
  | l => l

def W.ren (ρ : Nat → Nat) : W → W
  | .one l => .one (l.ren ρ)
  | .agg ls => .agg (ls.map (·.ren ρ))

def V.ren (ρ : Nat → Nat) : V → V
  | .w x => .w (x.ren ρ)
  | .tup xs => .tup (xs.map (·.ren ρ))

def Box.ren (ρ : Nat → Nat) : Box → Box
  | .var ls => .var (ls.map (·.ren ρ))
  | .hole t xs i o l => .hole t xs i o (l.ren ρ)
  | x => x

theorem L.ren_id (l : L) : l.ren id = l := by
  cases l with
  | clo f cs =>
    have : cs.map (Cap.ren id) = cs := by
      conv => rhs; rw [← List.map_id cs]
      exact List.map_congr_left fun c _ => by cases c <;> rfl
    simp [L.ren, this]
  | _ => rfl

theorem map_ren_id (ls : List L) : ls.map (·.ren id) = ls := by
  conv => rhs; rw [← List.map_id ls]
  exact List.map_congr_left fun l _ => L.ren_id l

theorem W.ren_id (x : W) : x.ren id = x := by cases x <;> simp [W.ren, L.ren_id, map_ren_id]

theorem V.ren_id (v : V) : v.ren id = v := by
  cases v with
  | w x => simp [V.ren, W.ren_id]
  | tup xs =>
    have : xs.map (W.ren id) = xs := by
      conv => rhs; rw [← List.map_id xs]
      exact List.map_congr_left fun x _ => W.ren_id x
    simp [V.ren, this]

theorem L.ren_one (ρ : Nat → Nat) (l : L) : (l.ren ρ).one = l.one := by cases l <;> rfl

theorem Box.ren_hd (ρ : Nat → Nat) (x : Box) : (x.ren ρ).hd = x.hd := by cases x <;> rfl

def W.uses : W → Nat → Bool
  | .one l, b => l.uses b
  | .agg ls, b => ls.any (·.uses b)

def V.uses : V → Nat → Bool
  | .w x, b => x.uses b
  | .tup xs, b => xs.any (·.uses b)

theorem like_hd {x y : Box} {t : Ty} {n : Nat} (h : x.like y) (hx : x.hd = some (t, n)) : y.hd = some (t, n) := by
  cases x <;> simp_all [Box.like, Box.hd]

section
variable {w w' : World} {ok ok' : Nat → Prop} {bx bx' : List (Nat × Box)} {γ γ' : Nat → Gh} {dead : Nat → Bool} {ρ : Nat → Nat}
variable (hw : ∀ b, ok b → w'.heap[b]? = w.heap[b]?) (hok : ∀ b, ok b → ok' b) (hp : Pres ρ w bx γ w' bx' γ' dead)
include hp

theorem PtrAt.mono {b off : Nat} {cv : Value} (hd : dead b = false) (h : PtrAt bx γ b off cv) : PtrAt bx' γ' (ρ b) off cv := by
  obtain ⟨ls, bl, h1, h2, h3⟩ := h
  obtain ⟨y, hy, ⟨ms, rfl, _⟩, hA, _⟩ := hp b _ hd h1
  exact ⟨ms, bl, hy, hA.trans h2, h3⟩

theorem NestAt.mono {b i off : Nat} {cv : Value} (hd : dead b = false) (hd' : dead (nid b) = false) (h : NestAt w bx γ b i off cv) : NestAt w' bx' γ' (ρ b) i off cv := by
  obtain ⟨x, t, te, n, a, h1, h2, h3, h4, h5, h6, h7⟩ := h
  obtain ⟨y, hy, hl, hA, _, hs⟩ := hp b _ hd h1
  exact ⟨y, t, te, n, a, hy, like_hd hl h2, h3, hA.trans h4, h5, by rw [hs hd' t n h2 a h4 i off te h3 h5]; exact h6, h7⟩

include hw hok
omit hp in
theorem FptAt.mono {t : Ty} {x : t.den} {cv : Value} (h : FptAt w ok t x cv) : FptAt w' ok' t x cv := by
  obtain ⟨a, cs, h1, h2, h3, h4, h5⟩ := h
  exact ⟨a, cs, h1, h2, hok _ h3, h4.mono hw hok, h5.same (hw _ h3)⟩

omit hp in
theorem FppAt.mono {t : Ty} {x : t.den} {cv : Value} (h : FppAt w ok t x cv) : FppAt w' ok' t x cv := by
  obtain ⟨a, pv, h1, h2, h3, h4, h5⟩ := h
  exact ⟨a, pv, h1, h2, hok _ h3, h4.same (hw _ h3), FptAt.mono hw hok h5⟩

theorem CapRel.monoR {c : Cap} {cv : Value} (hd : ∀ b, c.uses b = true → dead b = false) (h : CapRel w ok bx γ c cv) : CapRel w' ok' bx' γ' (c.ren ρ) cv := by
  cases c with
  | ptr b => exact PtrAt.mono hp (hd b (by simp [Cap.uses])) h
  | fpt t x => exact FptAt.mono hw hok h

theorem LRel.monoR {l : L} {cv : Value} (hd : ∀ b, l.uses b = true → dead b = false) (h : LRel w ok bx γ l cv) : LRel w' ok' bx' γ' (l.ren ρ) cv := by
  cases l with
  | un => trivial
  | ud => exact h
  | val t x => obtain ⟨cs, h1, h2⟩ := h; exact ⟨cs, h1.mono hw hok, h2⟩
  | nil => exact h
  | mnil => exact h
  | pnil => exact h
  | row b =>
    obtain ⟨x, t, n, h1, h2, h3⟩ := h
    obtain ⟨y, hy, hl, hA, hc, _⟩ := hp b _ (hd b (by simp [L.uses])) h1
    exact ⟨y, t, n, hy, like_hd hl h2, by rw [h3, hA, hc (by simp [h2])]⟩
  | ptr b off => exact PtrAt.mono hp (hd b (by simp [L.uses])) h
  | ept b i off =>
    obtain ⟨x, t, n, a, h1, h2, h3, h4, h5⟩ := h
    obtain ⟨y, hy, hl, hA, hc, _⟩ := hp b _ (hd b (by simp [L.uses])) h1
    exact ⟨y, t, n, a, hy, like_hd hl h2, h3, hA.trans h4, h5⟩
  | fpt t x => exact FptAt.mono hw hok h
  | fpp t x => exact FppAt.mono hw hok h
  | clo f cs =>
    obtain ⟨cvs, h1, h2⟩ := h
    refine ⟨cvs, h1, ?_⟩
    clear h1
    induction h2 with
    | nil => exact .nil
    | cons hc _ ih =>
      refine .cons (CapRel.monoR hw hok hp (fun b hb => hd b ?_) hc) (ih (fun b hb => hd b ?_))
      · simp [L.uses, hb]
      · simp only [L.uses, List.any_cons, Bool.or_eq_true] at hb ⊢; exact .inr hb
  | vw b lo n =>
    obtain ⟨x, t, m, h1, h2, h3, h4⟩ := h
    obtain ⟨y, hy, hl, hA, hc, _⟩ := hp b _ (hd b (by simp [L.uses])) h1
    refine ⟨y, t, m, hy, like_hd hl h2, h3, ?_⟩
    rw [hA, hc (by simp [h2])]
    exact h4
  | mrow b =>
    obtain ⟨t, m, r, h1, h2, h3⟩ := h
    obtain ⟨y, hy, ⟨m', rfl⟩, hA, hc, _⟩ := hp b _ (hd b (by simp [L.uses])) h1
    exact ⟨t, m', r, hy, hA.trans h2, h3⟩
  | it b =>
    obtain ⟨t, m, c, r, h1, h2, h3⟩ := h
    obtain ⟨y, hy, ⟨m', c', rfl⟩, hA, hc, _⟩ := hp b _ (hd b (by simp [L.uses])) h1
    exact ⟨t, m', c', r, hy, hA.trans h2, h3⟩
  | nrow b i off => exact NestAt.mono hp (hd b (by simp [L.uses])) (hd (nid b) (by simp [L.uses])) h
  | nept b i off j o =>
    obtain ⟨a, m, c, te, x, t, n, h1, h2, h3, h4, h5, h6, h7⟩ := h
    obtain ⟨y, hy, hl, _⟩ := hp b _ (hd b (by simp [L.uses])) h3
    exact ⟨a, m, c, te, y, t, n, NestAt.mono hp (hd b (by simp [L.uses])) (hd (nid b) (by simp [L.uses])) h1, h2, hy, like_hd hl h4, h5, h6, h7⟩
  | nvw b i off lo n =>
    obtain ⟨a, m, c, te, x, t, k, h1, h3, h4, h5, h6, h7⟩ := h
    obtain ⟨y, hy, hl, _⟩ := hp b _ (hd b (by simp [L.uses])) h3
    exact ⟨a, m, c, te, y, t, k, NestAt.mono hp (hd b (by simp [L.uses])) (hd (nid b) (by simp [L.uses])) h1, hy, like_hd hl h4, h5, h6, h7⟩

theorem LsRel.monoR {ls : List L} {cvs : List Value} (hd : ∀ l ∈ ls, ∀ b, l.uses b = true → dead b = false) (h : LsRel w ok bx γ ls cvs) : LsRel w' ok' bx' γ' (ls.map (·.ren ρ)) cvs := by
  unfold LsRel at *
  induction h with
  | nil => exact .nil
  | cons hc _ ih => exact .cons (LRel.monoR hw hok hp (hd _ (by simp)) hc) (ih (fun l hl => hd l (by simp [hl])))

theorem WRel.monoR {x : W} {cv : Value} (hd : ∀ b, x.uses b = true → dead b = false) (h : WRel w ok bx γ x cv) : WRel w' ok' bx' γ' (x.ren ρ) cv := by
  cases x with
  | one l => exact LRel.monoR hw hok hp hd h
  | agg ls =>
    obtain ⟨h0, cvs, h1, hc, h2⟩ := h
    refine ⟨fun l hl => ?_, cvs, h1, hc, LsRel.monoR hw hok hp (fun l hl b hb => hd b (List.any_eq_true.2 ⟨l, hl, hb⟩)) h2⟩
    obtain ⟨m, hm, rfl⟩ := List.mem_map.1 hl
    rw [L.ren_one]
    exact h0 m hm

theorem VRel.monoR {x : V} {cv : Value} (hd : ∀ b, x.uses b = true → dead b = false) (h : VRel w ok bx γ x cv) : VRel w' ok' bx' γ' (x.ren ρ) cv := by
  cases x with
  | w x => exact WRel.monoR hw hok hp hd h
  | tup xs =>
    obtain ⟨cvs, h1, h2⟩ := h
    refine ⟨cvs, h1, ?_⟩
    clear h1
    induction h2 with
    | nil => exact .nil
    | cons hc _ ih =>
      refine .cons (WRel.monoR hw hok hp (fun b hb => hd b ?_) hc) (ih (fun b hb => hd b ?_))
      · simp [V.uses, hb]
      · simp only [V.uses, List.any_cons, Bool.or_eq_true] at hb ⊢; exact .inr hb

omit hp in
theorem EntRel.mono {t : Ty} {e : MapEntry} {x : Int × t.den} (h : EntRel w ok t e x) : EntRel w' ok' t e x := by
  obtain ⟨h1, us, h2, h3⟩ := h
  exact ⟨h1, us, h2.mono hw hok, h3⟩

/-- A box whose blocks stay. -/
theorem BoxRel.keepR {b : Nat} {x : Box} (hg : γ' (ρ b) = γ b) (hF : ∀ n ∈ (γ b).F, w'.heap[n]? = w.heap[n]?)
    (hd : ∀ ls, x = .var ls → ∀ l ∈ ls, ∀ k, l.uses k = true → dead k = false) (hh : ∀ t xs i o l, x = .hole t xs i o l → ∀ k, l.uses k = true → dead k = false) (h : BoxRel w ok bx γ b x) : BoxRel w' ok' bx' γ' (ρ b) (x.ren ρ) := by
  cases x with
  | row t xs => simp only [BoxRel, Box.ren, hg] at h ⊢; exact OwnG.mono (OkTo.of hw hok) hF h
  | var ls =>
    obtain ⟨bl, cs, e, h1, h2, h3, h4, hc, h5⟩ := h
    refine ⟨bl, cs, e, by rw [hg]; exact h1, by rw [hg]; exact h2, by rw [hF bl (by simp [h2])]; exact h3, fun l hl => ?_, hc, LsRel.monoR hw hok hp (hd ls rfl) h5⟩
    obtain ⟨m, hm, rfl⟩ := List.mem_map.1 hl
    rw [L.ren_one]
    exact h4 m hm
  | mp t m =>
    obtain ⟨r, es, ck, h1, h2, h3, h4, h5⟩ := h
    exact ⟨r, es, ck, by rw [hg]; exact h1, by rw [hg]; exact h2, by rw [hF r (by simp [h2])]; exact h3, h4, h5.imp fun e _ x hx => hx.mono hw hok⟩
  | it t rest cur =>
    obtain ⟨bl, src, since, last, seen, h1, h2, h3, h4⟩ := h
    refine ⟨bl, src, since, last, seen, by rw [hg]; exact h1, by rw [hg]; exact h2, by rw [hF bl (by simp [h2])]; exact h3, ?_⟩
    rcases h4 with h4 | ⟨r, es, ck, g1, g2, g3, g4, g5, g6, g7, g8⟩
    · exact .inl h4
    · refine .inr ⟨r, es, ck, g1, hok _ g2, by rw [hw _ g2]; exact g3, g4, g5, g6.imp fun e _ x hx => hx.mono hw hok, g7, ?_⟩
      rcases g8 with g8 | ⟨x, e, e1, e2, e3, e4⟩
      · exact .inl g8
      · exact .inr ⟨x, e, e1, e2, e3.mono hw hok, e4⟩
  | hole t xs i o l =>
    obtain ⟨cv, h1, h2, h3, h4⟩ := h
    refine ⟨cv, ?_, LRel.monoR hw hok hp (hh t xs i o l rfl) h2, h3, by rw [L.ren_one]; exact h4⟩
    rw [hg]
    exact h1.mono (OkTo.of hw hok) hF
end

section
variable {w w' : World} {ok ok' : Nat → Prop} {bx bx' : List (Nat × Box)} {γ γ' : Nat → Gh} {dead : Nat → Bool}
variable (hw : ∀ b, ok b → w'.heap[b]? = w.heap[b]?) (hok : ∀ b, ok b → ok' b) (hp : Pres id w bx γ w' bx' γ' dead)
include hw hok hp

theorem CapRel.mono {c : Cap} {cv : Value} (hd : ∀ b, c.uses b = true → dead b = false) (h : CapRel w ok bx γ c cv) : CapRel w' ok' bx' γ' c cv := by
  have := CapRel.monoR hw hok hp hd h
  cases c <;> exact this
theorem LRel.mono {l : L} {cv : Value} (hd : ∀ b, l.uses b = true → dead b = false) (h : LRel w ok bx γ l cv) : LRel w' ok' bx' γ' l cv := by
  have := LRel.monoR hw hok hp hd h
  rwa [L.ren_id] at this
theorem LsRel.mono {ls : List L} {cvs : List Value} (hd : ∀ l ∈ ls, ∀ b, l.uses b = true → dead b = false) (h : LsRel w ok bx γ ls cvs) : LsRel w' ok' bx' γ' ls cvs := by
  have := LsRel.monoR hw hok hp hd h
  rwa [map_ren_id] at this
theorem WRel.mono {x : W} {cv : Value} (hd : ∀ b, x.uses b = true → dead b = false) (h : WRel w ok bx γ x cv) : WRel w' ok' bx' γ' x cv := by
  have := WRel.monoR hw hok hp hd h
  rwa [W.ren_id] at this
theorem VRel.mono {x : V} {cv : Value} (hd : ∀ b, x.uses b = true → dead b = false) (h : VRel w ok bx γ x cv) : VRel w' ok' bx' γ' x cv := by
  have := VRel.monoR hw hok hp hd h
  rwa [V.ren_id] at this
end

end Go.Fl
/- The abstract evaluator. -/
namespace Go.Fl
open Go

/-! ### What a step can come to -/

inductive Tr (α : Type) : Type 1 where
  | ret (a : α)
  | fail
  | tst (b : Bool) (t e : Tr α)
  | bnd (β : Type) (o : Option β) (k : β → Tr α)
  | alt (β δ : Type) (v : β ⊕ δ) (k : β → Tr α) (m : δ → Tr α)

def Tr.run {α ρ : Type} : Tr α → (α → Option ρ) → Option ρ
  | .ret a, K => K a
  | .fail, _ => none
  | .tst b t e, K => bif b then t.run K else e.run K
  | .bnd _ o k, K => o.bind fun x => (k x).run K
  | .alt _ _ v k m, K => Sum.elim (fun a => (k a).run K) (fun b => (m b).run K) v

def Tr.can {α : Type} : Tr α → α → Prop
  | .ret a, b => a = b
  | .fail, _ => False
  | .tst c t e, b => (c = true ∧ t.can b) ∨ (c = false ∧ e.can b)
  | .bnd _ o k, b => ∃ x, o = some x ∧ (k x).can b
  | .alt _ _ v k m, b => (∃ x, v = .inl x ∧ (k x).can b) ∨ ∃ y, v = .inr y ∧ (m y).can b

theorem Tr.run_can {α ρ : Type} {K : α → Option ρ} {r : ρ} : ∀ {t : Tr α}, t.run K = some r → ∃ a, t.can a ∧ K a = some r := by
  intro t
  induction t with
  | ret a => intro h; exact ⟨a, rfl, h⟩
  | fail => intro h; simp [Tr.run] at h
  | tst b t e iht ihe =>
    intro h
    cases b with
    | true => obtain ⟨a, h1, h2⟩ := iht h; exact ⟨a, .inl ⟨rfl, h1⟩, h2⟩
    | false => obtain ⟨a, h1, h2⟩ := ihe h; exact ⟨a, .inr ⟨rfl, h1⟩, h2⟩
  | bnd t o k ih =>
    intro h
    simp only [Tr.run, Option.bind_eq_some_iff] at h
    obtain ⟨x, hx, h⟩ := h
    obtain ⟨a, h1, h2⟩ := ih x h
    exact ⟨a, ⟨x, hx, h1⟩, h2⟩
  | alt s t v k m ihk ihm =>
    intro h
    cases v with
    | inl x => obtain ⟨a, h1, h2⟩ := ihk x h; exact ⟨a, .inl ⟨x, rfl, h1⟩, h2⟩
    | inr y => obtain ⟨a, h1, h2⟩ := ihm y h; exact ⟨a, .inr ⟨y, rfl, h1⟩, h2⟩

def Tr.bind {α β : Type} : Tr α → (α → Tr β) → Tr β
  | .ret a, K => K a
  | .fail, _ => .fail
  | .tst b t e, K => .tst b (t.bind K) (e.bind K)
  | .bnd t o k, K => .bnd t o fun x => (k x).bind K
  | .alt s t v k m, K => .alt s t v (fun x => (k x).bind K) (fun y => (m y).bind K)

theorem Tr.bind_can {α β : Type} {K : α → Tr β} {b : β} : ∀ {t : Tr α}, (t.bind K).can b → ∃ a, t.can a ∧ (K a).can b := by
  intro t
  induction t with
  | ret a => intro h; exact ⟨a, rfl, h⟩
  | fail => intro h; exact h.elim
  | tst c t e iht ihe =>
    intro h
    rcases h with ⟨hc, h⟩ | ⟨hc, h⟩
    · obtain ⟨a, h1, h2⟩ := iht h; exact ⟨a, .inl ⟨hc, h1⟩, h2⟩
    · obtain ⟨a, h1, h2⟩ := ihe h; exact ⟨a, .inr ⟨hc, h1⟩, h2⟩
  | bnd t o k ih =>
    intro h
    obtain ⟨x, hx, h⟩ := h
    obtain ⟨a, h1, h2⟩ := ih x h
    exact ⟨a, ⟨x, hx, h1⟩, h2⟩
  | alt s t v k m ihk ihm =>
    intro h
    rcases h with ⟨x, hx, h⟩ | ⟨y, hy, h⟩
    · obtain ⟨a, h1, h2⟩ := ihk x h; exact ⟨a, .inl ⟨x, hx, h1⟩, h2⟩
    · obtain ⟨a, h1, h2⟩ := ihm y h; exact ⟨a, .inr ⟨y, hy, h1⟩, h2⟩

def Tr.ofOpt {α : Type} : Option α → Tr α
  | some a => .ret a
  | none => .fail

theorem Tr.ofOpt_can {α : Type} {o : Option α} {a : α} (h : (Tr.ofOpt o).can a) : o = some a := by
  cases o with
  | none => exact h.elim
  | some x => exact congrArg some h

/-! ### Types -/

def castT (t t' : Ty) (x : t.den) : Option t'.den := if h : t = t' then some (h ▸ x) else none

theorem castT_some {t t' : Ty} {x : t.den} {y : t'.den} (h : castT t t' x = some y) : ∃ h' : t = t', y = h' ▸ x := by
  unfold castT at h
  split at h
  · rename_i h'; exact ⟨h', by simpa using h.symm⟩
  · simp at h

/-- No slices and no maps in it. -/
def Ty.flat : Ty → Bool
  | .pair a b => a.flat && b.flat
  | .sl _ | .mp _ | .fz _ | .hnd _ => false
  | _ => true

/-- What is owned of this type leads to nothing that is only read. -/
def Ty.free : Ty → Bool
  | .pair a b => a.free && b.free
  | .sl t => t.free
  | .fz _ | .hnd _ => false
  | _ => true

/-- An element of this type owns nothing. -/
def Ty.noOwn : Ty → Bool
  | .pair a b => a.noOwn && b.noOwn
  | .sl _ | .mp _ | .hnd _ => false
  | _ => true

/-- The type table's type of an element. -/
def Ty.core : Ty → Ty
  | .fz t => t
  | t => t

/-- An element, taken out. -/
def castE (te t : Ty) (x : te.den) : Option t.den := if h : te = t then some (h ▸ x) else if h : te = .fz t then some (show (Ty.fz t).den from h ▸ x) else none

theorem castE_some {te t : Ty} {x : te.den} {y : t.den} (h : castE te t x = some y) : (∃ h' : te = t, y = h' ▸ x) ∨ ∃ h' : te = .fz t, y = (show (Ty.fz t).den from h' ▸ x) := by
  unfold castE at h
  split at h
  · rename_i h'; exact .inl ⟨h', by simpa using h.symm⟩
  · split at h
    · rename_i h'; exact .inr ⟨h', by simpa using h.symm⟩
    · cases h

/-- A row's elements, taken out. -/
def castRow (te t : Ty) (xs : List te.den) : Option t.den := match t with
  | .sl t1 => if h : te = t1 then some (show List t1.den from h ▸ xs) else if h : te = .fz t1 then some (show List (Ty.fz t1).den from h ▸ xs) else none
  | _ => none

theorem castRow_some {te t : Ty} {xs : List te.den} {y : t.den} (h : castRow te t xs = some y) :
    (∃ h' : Ty.sl te = t, y = h' ▸ (show (Ty.sl te).den from xs)) ∨ ∃ t1, ∃ h1 : te = .fz t1, ∃ h2 : Ty.sl t1 = t, y = h2 ▸ (show (Ty.sl t1).den from (show List (Ty.fz t1).den from h1 ▸ xs)) := by
  cases t with
  | sl t1 =>
    simp only [castRow] at h
    split at h
    · rename_i h'; subst h'; cases h; exact .inl ⟨rfl, rfl⟩
    · split at h
      · rename_i h'; subst h'; cases h; exact .inr ⟨t1, rfl, rfl, rfl⟩
      · cases h
  | _ => cases h

/-- No map in what is laid in line. -/
def Ty.noMp : Ty → Bool
  | .pair a b => a.noMp && b.noMp
  | .mp _ | .hnd _ => false
  | _ => true

/-- The offset of a struct's field. -/
def Ty.fldOff : Ty → Nat → Nat
  | .pair a b, k + 1 => a.sz + b.fldOff k
  | _, _ => 0

def Ty.fldTy : Ty → Nat → Option Ty
  | .pair a _, 0 => some a
  | .pair _ b, k + 1 => b.fldTy k
  | _, _ => none

/-- A struct's field. -/
def Ty.fldL : (t : Ty) → Nat → t.den → Option L
  | .pair a _, 0, x => some (.val a x.1)
  | .pair _ b, k + 1, x => b.fldL k x.2
  | _, _, _ => none

/-- The cells of a value that is only read. -/
def Ty.leaves : (t : Ty) → t.den → List L
  | .pair a b, x => a.leaves x.1 ++ b.leaves x.2
  | .unit, _ => []
  | .int k, x => [.val (.int k) x]
  | .bool, x => [.val .bool x]
  | .str, x => [.val .str x]
  | .sl t, x => [.val (.sl t) x]
  | .mp t, x => [.val (.mp t) x]
  | .fz t, x => t.leaves x
  | .hnd _, _ => [.un]

/-- The cells of a zero value. -/
def Ty.zeros : Ty → List L
  | .pair a b => a.zeros ++ b.zeros
  | .unit => []
  | .int k => [.val (.int k) (0 : Int)]
  | .bool => [.val .bool false]
  | .str => [.val .str ByteArray.empty]
  | .sl _ => [.nil]
  | .mp _ => [.mnil]
  | .hnd false => [.pnil]
  | .hnd true => [.un]
  | .fz t => t.zeros

/-- The value's cell at an offset. -/
def Ty.leafL : (t : Ty) → Nat → t.den → Option L
  | .pair a b, o, x => if o < a.sz then a.leafL o x.1 else b.leafL (o - a.sz) x.2
  | .unit, _, _ => none
  | .int k, 0, x => some (.val (.int k) x)
  | .bool, 0, x => some (.val .bool x)
  | .str, 0, x => some (.val .str x)
  | .sl t, 0, x => some (.val (.sl t) x)
  | .mp t, 0, x => some (.val (.mp t) x)
  | .fz t, o, x => t.leafL o x
  | _, _, _ => none

/-- The value with another cell at an offset; nothing of it is owned. -/
def Ty.setLeafF : (t : Ty) → Nat → t.den → L → Option t.den
  | .pair a b, o, x, l => if o < a.sz then (a.setLeafF o x.1 l).map fun y => (y, x.2) else (b.setLeafF (o - a.sz) x.2 l).map fun y => (x.1, y)
  | .int k, 0, _, .val t y => castT t (.int k) y
  | .bool, 0, _, .val t y => castT t .bool y
  | .str, 0, _, .val t y => castT t .str y
  | .sl t', 0, _, .val t y => castT t (.sl t') y
  | .sl _, 0, _, .nil => some []
  | _, _, _, _ => none

/-- The value with another cell at an offset. -/
def Ty.setLeaf : (t : Ty) → Nat → t.den → L → Option t.den
  | .pair a b, o, x, l => if o < a.sz then (a.setLeaf o x.1 l).map fun y => (y, x.2) else (b.setLeaf (o - a.sz) x.2 l).map fun y => (x.1, y)
  | .int k, 0, _, .val t y => castT t (.int k) y
  | .bool, 0, _, .val t y => castT t .bool y
  | .str, 0, _, .val t y => castT t .str y
  | .fz t, o, x, l => t.setLeafF o x l
  | _, _, _, _ => none

/-! ### Reading -/

abbrev Bxs := List (Nat × Box)

def rdL (bx : Bxs) (t : Ty) : L → Option t.den
  | .val t' x => castT t' t x
  | .row b => match find bx b with
    | some (.row te xs) => castRow te t xs
    | _ => none
  | .vw b lo n => match find bx b with
    | some (.row te xs) => castRow te t ((xs.drop lo).take n)
    | _ => none
  | .nrow b i off => match find bx b with
    | some (.row tb xs) => match t with
      | .sl te => tb.slGet off (xs.getD i tb.zero) te
      | _ => none
    | _ => none
  | .mrow b => match find bx b with
    | some (.mp te m) => castT (.mp te) t m
    | _ => none
  | .nil => match t with
    | .sl _ => some []
    | _ => none
  | .mnil => match t with
    | .mp _ => some []
    | _ => none
  | _ => none

def rdLs (bx : Bxs) : (t : Ty) → List L → Option (t.den × List L)
  | .unit, ls => some ((), ls)
  | .pair a b, ls => (rdLs bx a ls).bind fun p => (rdLs bx b p.2).map fun q => ((p.1, q.1), q.2)
  | .int k, ls => match ls with | l :: r => (rdL bx (.int k) l).map (·, r) | [] => none
  | .bool, ls => match ls with | l :: r => (rdL bx .bool l).map (·, r) | [] => none
  | .str, ls => match ls with | l :: r => (rdL bx .str l).map (·, r) | [] => none
  | .sl t, ls => match ls with | l :: r => (rdL bx (.sl t) l).map (·, r) | [] => none
  | .mp t, ls => match ls with | l :: r => (rdL bx (.mp t) l).map (·, r) | [] => none
  | .fz t, ls => rdLs bx t ls
  | .hnd _, _ => none

def rdW (bx : Bxs) (t : Ty) : W → Option t.den
  | .one l => rdL bx t l
  | .agg ls => if t.one then none else (rdLs bx t ls).bind fun p => match p.2 with
    | [] => some p.1
    | _ => none

def rdV (bx : Bxs) (t : Ty) : V → Option t.den
  | .w x => rdW bx t x
  | .tup _ => none

/-- Reading what is owned, to hand it on: the value, and the boxes that go with it. -/
def ownL (bx : Bxs) (t : Ty) : L → Option (t.den × List Nat)
  | .val t' x => if t'.flat then (castT t' t x).map (·, []) else none
  | .row b => match find bx b with
    | some (.row te xs) => (castT (.sl te) t xs).map (·, [b])
    | _ => none
  | .nil => match t with
    | .sl _ => some ([], [])
    | _ => none
  | _ => none

def ownLs (bx : Bxs) : (t : Ty) → List L → Option ((t.den × List Nat) × List L)
  | .unit, ls => some (((), []), ls)
  | .pair a b, ls => (ownLs bx a ls).bind fun p => (ownLs bx b p.2).map fun q => (((p.1.1, q.1.1), p.1.2 ++ q.1.2), q.2)
  | .int k, ls => match ls with | l :: r => (ownL bx (.int k) l).map (·, r) | [] => none
  | .bool, ls => match ls with | l :: r => (ownL bx .bool l).map (·, r) | [] => none
  | .str, ls => match ls with | l :: r => (ownL bx .str l).map (·, r) | [] => none
  | .sl t, ls => match ls with | l :: r => (ownL bx (.sl t) l).map (·, r) | [] => none
  | .mp t, ls => match ls with | l :: r => (ownL bx (.mp t) l).map (·, r) | [] => none
  | .fz _, _ => none
  | .hnd _, _ => none

def ownW' (bx : Bxs) (t : Ty) : W → Option (t.den × List Nat)
  | .one l => match l with
    | .val t' x => if t'.flat then (castT t' t x).map (·, []) else none
    | l => ownL bx t l
  | .agg ls => if t.one then none else (ownLs bx t ls).bind fun p => match p.2 with
    | [] => some p.1
    | _ => none

def ownW (bx : Bxs) : (t : Ty) → W → Option (t.den × List Nat)
  | .fz t, v => (rdW [] t v).map (·, [])
  | t, v => ownW' bx t v

/-! ### States -/

def S.get (s : S) (r : Nat) : V := s.regs.getD r (.w (.one .un))

def constL : Value → L
  | .int k n => .val (.int k) n
  | .bool b => .val .bool b
  | .string x => .val .str x
  | .slice none 0 0 => .nil
  | .map none => .mnil
  | .pointer none => .pnil
  | _ => .un

def S.opv (s : S) : Operand → V
  | .tmp t => s.get t
  | .const c => .w (.one (constL c))
  | .func f => .w (.one (.clo f []))
  | .global _ => .w (.one .un)

def S.put (s : S) (d : Option Nat) (v : V) : S :=
  match d with
  | some d => { s with regs := s.regs.set d v }
  | none => s

def W.leaves : W → List L
  | .one (.val t x) => t.leaves x
  | .one .un => []
  | .one .ud => []
  | .one l => [l]
  | .agg ls => ls

def Cap.dead (d : Nat → Bool) : Cap → Bool
  | .ptr b => d b
  | _ => false

def L.dead (d : Nat → Bool) : L → Bool
  | .row b | .ptr b _ | .ept b _ _ | .vw b _ _ | .mrow b | .it b => d b
  | .nrow b _ _ | .nept b _ _ _ _ | .nvw b _ _ _ _ => d b || d (nid b)
  | .clo _ cs => cs.any (Cap.dead d)
  | _ => false

/-- Takes the handles of dead boxes away. -/
def L.kill (d : Nat → Bool) (l : L) : L := bif l.dead d then .un else l

def W.kill (d : Nat → Bool) : W → W
  | .one l => .one (l.kill d)
  | .agg ls => .agg (ls.map (·.kill d))

def V.kill (d : Nat → Bool) : V → V
  | .w x => .w (x.kill d)
  | .tup xs => .tup (xs.map (·.kill d))

def Box.kill (d : Nat → Bool) : Box → Box
  | .var ls => .var (ls.map (·.kill d))
  | .hole t xs i o l => .hole t xs i o (l.kill d)
  | x => x

/-- New boxes in the place of some; the handles of the dead are forgotten. -/
def S.reb (s : S) (nb : Bxs) (D dead : Nat → Bool) : S :=
  { regs := s.regs.map (·.kill dead), pins := s.pins.map (·.kill dead), bx := nb ++ (s.bx.filter fun p => !D p.1).map fun p => (p.1, p.2.kill dead) }

/-- New boxes in the place of some; all handles stay. -/
def S.re0 (s : S) (nb : Bxs) (D : Nat → Bool) : S :=
  { regs := s.regs, pins := s.pins, bx := nb ++ s.bx.filter fun p => !D p.1 }

def noB : Nat → Bool := fun _ => false

/-- What an operation comes to: a value, new boxes, those that are no more or that they stand for, dead handles. -/
structure Ef where
  v : V
  nb : Bxs := []
  D : List Nat := []
  dead : List Nat := []

def S.app (s : S) (dst : Option Nat) (e : Ef) : S :=
  match e.D, e.dead with
  | [], [] => match e.nb with
    | [] => s.put dst e.v
    | nb => ({ s with bx := nb ++ s.bx } : S).put dst e.v
  | D, dead => (s.reb e.nb (D.contains ·) (dead.contains ·)).put dst e.v

def nodupB : List Nat → Bool
  | [] => true
  | x :: r => !r.contains x && nodupB r

/-- New boxes are new, or stand for one that is no more. -/
def Ef.okB (e : Ef) (bx : Bxs) : Bool := nodupB (e.nb.map (·.1)) && e.nb.all fun p => e.D.contains p.1 || (find bx p.1).isNone

end Go.Fl
/- Cuts: what is kept of a state; contracts. -/
namespace Go.Fl
open Go

def rpRd (bx : Bxs) (t : Ty) : L → Option t.den
  | .fpt t' x => castT t' t x
  | .ptr b off => match find bx b with
    | some (.var ls) => rdW bx t (if t.one then (match ls[off]? with | some l => .one l | none => .agg []) else .agg ((ls.drop off).take t.sz))
    | _ => none
  | .ept b i off => match find bx b with
    | some (.row te xs) => if off = 0 then (if te.noOwn then (if i < xs.length then castE te t (xs.getD i te.zero) else none) else none) else none
    | _ => none
  | _ => none

/-- Reading a cell in which a pointer lies to what is only read. -/
def fppRd (bx : Bxs) (t : Ty) : L → Option t.den
  | .fpp t' x => castT t' t x
  | .ptr b off => match find bx b with
    | some (.var ls) => match ls[off]? with
      | some l => rpRd bx t l
      | none => none
    | _ => none
  | _ => none

inductive LD where
  | un
  | val (t : Ty)
  | fpt (t : Ty)
  | fpp (t : Ty)
  | lit (l : L)
  | clo (f : Nat) (cs : List (Nat ⊕ Ty))
  | ept (b off : Nat)
  | nrow (b off : Nat)

inductive VD where
  | one (l : LD)
  | agg (ls : List LD)

inductive BD where
  | row (t : Ty)
  | var (ls : List LD)
  | mp (t : Ty)
  | it (t : Ty)

structure Desc where
  n : Nat
  regs : List VD
  bx : List (Nat × BD)
  pins : List VD := []

def tupT : List Ty → Ty
  | [] => .unit
  | t :: r => .pair t (tupT r)

def capsT : List (Nat ⊕ Ty) → List Ty
  | [] => []
  | .inl _ :: r => capsT r
  | .inr t :: r => t :: capsT r

def LD.ts : LD → List Ty
  | .val t | .fpt t | .fpp t => [t]
  | .clo _ cs => capsT cs
  | .ept _ _ | .nrow _ _ => [.int .i64]
  | _ => []

def VD.ts : VD → List Ty
  | .one l => l.ts
  | .agg ls => ls.flatMap (·.ts)

def BD.ts : BD → List Ty
  | .row t => [.sl t]
  | .var ls => ls.flatMap (·.ts)
  | .mp t | .it t => [.mp t]

def Desc.ts (d : Desc) : List Ty := d.regs.flatMap (·.ts) ++ (d.pins.flatMap (·.ts) ++ d.bx.flatMap (·.2.ts))

def LD.alive (ks : List Nat) : LD → Bool
  | .lit l => match l with
    | .nil | .mnil | .pnil => true
    | .row b | .ptr b _ | .mrow b | .it b => ks.contains b
    | _ => false
  | .clo _ cs => cs.all fun | .inl b => ks.contains b | .inr _ => true
  | .ept b _ | .nrow b _ => ks.contains b
  | _ => true

def VD.alive (ks : List Nat) : VD → Bool
  | .one l => l.alive ks
  | .agg ls => ls.all (·.alive ks)

def BD.alive (ks : List Nat) : BD → Bool
  | .var ls => ls.all (·.alive ks)
  | _ => true

/-- The handles that are kept lead to boxes that are kept. -/
def Desc.okB (d : Desc) : Bool :=
  let ks := d.bx.map (·.1)
  nodupB ks && d.regs.all (·.alive ks) && d.pins.all (·.alive ks) && d.bx.all (·.2.alive ks)

/-- Values of several types in a row, the rest handed on. -/
abbrev Dyn := List (Σ t : Ty, t.den)

def capsDyn (σ : Nat → Nat) (fr : Bxs) : List (Nat ⊕ Ty) → List Cap → Option Dyn
  | [], [] => some []
  | .inl b :: r, .ptr c :: cs => if σ b == c then capsDyn σ fr r cs else none
  | .inr t :: r, .fpt t' x :: cs => (castT t' t x).bind fun y => (capsDyn σ fr r cs).map (⟨t, y⟩ :: ·)
  | .inr t :: r, .ptr c :: cs => (rpRd fr t (.ptr c 0)).bind fun y => (capsDyn σ fr r cs).map (⟨t, y⟩ :: ·)
  | _, _ => none

def L.sameH : L → L → Bool
  | .nil, .nil | .mnil, .mnil | .pnil, .pnil => true
  | .row a, .row b | .mrow a, .mrow b | .it a, .it b => a == b
  | .ptr a o, .ptr b q => a == b && o == q
  | _, _ => false

/-- 'σ': the names that the kept boxes bear in the state; 'fr': boxes that are read. -/
def LD.arg (σ : Nat → Nat) (fr : Bxs) : LD → L → Option Dyn
  | .un, _ => some []
  | .val t, l => (rdL fr t l).map fun y => [⟨t, y⟩]
  | .fpt t, l => (rpRd fr t l).map fun y => [⟨t, y⟩]
  | .fpp t, l => (fppRd fr t l).map fun y => [⟨t, y⟩]
  | .lit l, m => if (l.ren σ).sameH m then some [] else none
  | .clo f cs, .clo g ds => if f == g then capsDyn σ fr cs ds else none
  | .ept b off, .ept c i off' => if σ b == c && off == off' then some [⟨.int .i64, (Int.ofNat i : Int)⟩] else none
  | .nrow b off, .nrow c i off' => if σ b == c && off == off' then some [⟨.int .i64, (Int.ofNat i : Int)⟩] else none
  | _, _ => none

def argLs (σ : Nat → Nat) (fr : Bxs) : List LD → List L → Option Dyn
  | [], [] => some []
  | d :: ds, l :: ls => (d.arg σ fr l).bind fun x => (argLs σ fr ds ls).map (x ++ ·)
  | _, _ => none

def VD.arg (σ : Nat → Nat) (fr : Bxs) : VD → V → Option Dyn
  | .one d, v => match d, v with
    | .un, _ => some []
    | d, .w (.one l) => d.arg σ fr l
    | .val t, .w (.agg ls) => (rdW fr t (.agg ls)).map fun y => [⟨t, y⟩]
    | _, _ => none
  | .agg ds, .w (.agg ls) => argLs σ fr ds ls
  | .agg ds, .w (.one (.val t x)) => if t.one then none else argLs σ fr ds (t.leaves x)
  | _, _ => none

def argVs (σ : Nat → Nat) (fr : Bxs) : List VD → List V → Option Dyn
  | [], _ => some []
  | d :: ds, v :: vs => (d.arg σ fr v).bind fun x => (argVs σ fr ds vs).map (x ++ ·)
  | _, _ => none

def argBx (σ : Nat → Nat) (fr bx : Bxs) : List (Nat × BD) → Option Dyn
  | [] => some []
  | (b, d) :: r => (match d, find bx (σ b) with
    | BD.row t, some (Box.row t' xs) => (castT (.sl t') (.sl t) xs).map fun y => ([⟨.sl t, y⟩] : Dyn)
    | BD.var ds, some (Box.var ls) => argLs σ fr ds ls
    | BD.mp t, some (Box.mp t' m) => (castT (.mp t') (.mp t) m).map fun y => ([⟨.mp t, y⟩] : Dyn)
    | BD.it t, some (Box.it t' m _) => (castT (.mp t') (.mp t) m).map fun y => ([⟨.mp t, y⟩] : Dyn)
    | _, _ => none).bind fun x => (argBx σ fr bx r).map (x ++ ·)

/-- Dyn to a tuple. -/
def toTup : (ts : List Ty) → Dyn → Option (tupT ts).den
  | [], [] => some ()
  | t :: ts, ⟨t', x⟩ :: r => (castT t' t x).bind fun y => (toTup ts r).map fun z => (y, z)
  | _, _ => none

/-- What is kept of slots and boxes. -/
def argD (σ : Nat → Nat) (fr bx : Bxs) (d : Desc) (regs pins : List V) : Option (tupT d.ts).den :=
  (argVs σ fr d.regs regs).bind fun a => (argVs σ fr d.pins pins).bind fun c => (argBx σ fr bx d.bx).bind fun b => toTup d.ts (a ++ (c ++ b))

/-- The boxes that are not kept. -/
def frOf (bx : Bxs) : List Nat → Bxs
  | [] => bx
  | io => bx.filter fun p => !io.contains p.1

/-- Which box bears which name, told by the slots that lead to it. -/
def pairC : List (Nat ⊕ Ty) → List Cap → List (Nat × Nat)
  | .inl b :: r, .ptr c :: cs => (b, c) :: pairC r cs
  | .inr _ :: r, _ :: cs => pairC r cs
  | _, _ => []

def LD.pair : LD → L → List (Nat × Nat)
  | .lit (.row b), .row c | .lit (.mrow b), .mrow c | .lit (.it b), .it c | .lit (.ptr b _), .ptr c _ => [(b, c)]
  | .ept b _, .ept c _ _ | .nrow b _, .nrow c _ _ => [(b, c)]
  | .clo _ cs, .clo _ ds => pairC cs ds
  | _, _ => []

def pairLs : List LD → List L → List (Nat × Nat)
  | d :: ds, l :: ls => d.pair l ++ pairLs ds ls
  | _, _ => []

def VD.pair : VD → V → List (Nat × Nat)
  | .one d, .w (.one l) => d.pair l
  | .agg ds, .w (.agg ls) => pairLs ds ls
  | _, _ => []

def pairVs : List VD → List V → List (Nat × Nat)
  | d :: ds, v :: vs => d.pair v ++ pairVs ds vs
  | _, _ => []

def pairBx (bx : Bxs) : List (Nat × BD) → List (Nat × Nat) → List (Nat × Nat)
  | [], sg => sg
  | (b, .var ds) :: r, sg => match find bx ((find sg b).getD b) with
    | some (.var ls) => pairBx bx r (sg ++ pairLs ds ls)
    | _ => pairBx bx r sg
  | _ :: r, sg => pairBx bx r sg

def sigOf (d : Desc) (s : S) (b : Nat) : Nat := (find (pairBx s.bx d.bx (pairVs d.regs s.regs ++ pairVs d.pins s.pins)) b).getD b

def ext (d : Desc) (s : S) : Option (tupT d.ts).den :=
  bif d.okB && Nat.ble d.n s.regs.length && Nat.ble d.regs.length d.n && nodupB ((d.bx.map (·.1)).map (sigOf d s)) then argD (sigOf d s) (frOf s.bx ((d.bx.map (·.1)).map (sigOf d s))) s.bx d s.regs s.pins else none

def ofTup : (ts : List Ty) → (tupT ts).den → Dyn
  | [], _ => []
  | t :: ts, (x : t.den × (tupT ts).den) => (⟨t, x.1⟩ : Σ t : Ty, t.den) :: ofTup ts x.2

def mkCaps : List (Nat ⊕ Ty) → Dyn → List Cap × Dyn
  | [], y => ([], y)
  | .inl b :: r, y => let p := mkCaps r y; (.ptr b :: p.1, p.2)
  | .inr _ :: r, ⟨t, x⟩ :: y => let p := mkCaps r y; (.fpt t x :: p.1, p.2)
  | .inr _ :: _, [] => ([], [])

def LD.mk : LD → Dyn → L × Dyn
  | .un, y => (.un, y)
  | .val _, ⟨t, x⟩ :: y => (.val t x, y)
  | .fpt _, ⟨t, x⟩ :: y => (.fpt t x, y)
  | .fpp _, ⟨t, x⟩ :: y => (.fpp t x, y)
  | .lit l, y => (l, y)
  | .clo f cs, y => let p := mkCaps cs y; (.clo f p.1, p.2)
  | .ept b off, ⟨.int _, i⟩ :: y => (.ept b (Int.toNat i) off, y)
  | .nrow b off, ⟨.int _, i⟩ :: y => (.nrow b (Int.toNat i) off, y)
  | _, y => (.un, y)

def mkLs : List LD → Dyn → List L × Dyn
  | [], y => ([], y)
  | d :: ds, y => let p := d.mk y; let q := mkLs ds p.2; (p.1 :: q.1, q.2)

def VD.mk : VD → Dyn → V × Dyn
  | .one d, y => let p := d.mk y; (.w (.one p.1), p.2)
  | .agg ds, y => let p := mkLs ds y; (.w (.agg p.1), p.2)

def mkRegs : List VD → Dyn → List V × Dyn
  | [], y => ([], y)
  | d :: ds, y => let p := d.mk y; let q := mkRegs ds p.2; (p.1 :: q.1, q.2)

def mkBx : List (Nat × BD) → Dyn → Bxs
  | [], _ => []
  | (b, .row _) :: r, y => match y with
    | ⟨.sl t, x⟩ :: y => (b, .row t x) :: mkBx r y
    | _ => []
  | (b, .mp _) :: r, y => match y with
    | ⟨.mp t, x⟩ :: y => (b, .mp t x) :: mkBx r y
    | _ => []
  | (b, .it _) :: r, y => match y with
    | ⟨.mp t, x⟩ :: y => (b, .it t x none) :: mkBx r y
    | _ => []
  | (b, .var ds) :: r, y => let p := mkLs ds y; (b, .var p.1) :: mkBx r p.2

/-- The state that has just what is kept. -/
def Desc.mk' (d : Desc) (x : (tupT d.ts).den) : S :=
  let p := mkRegs d.regs (ofTup d.ts x)
  let q := mkRegs d.pins p.2
  { regs := p.1 ++ List.replicate (d.n - p.1.length) (.w (.one .un)), bx := mkBx d.bx q.2, pins := q.1 }

/-- How a stretch may end: which exit, and what is kept then. -/
abbrev Outs := List (Exit × Desc)

@[reducible] def outT : Outs → Type
  | [] => Empty
  | [(_, d)] => (tupT d.ts).den
  | (_, d) :: o :: r => (tupT d.ts).den ⊕ outT (o :: r)

/-- A contract: the function, how it is called, what it leaves, and what it answers. -/
structure Con where
  f : Nat
  din : Desc
  outs : Outs
  F : (tupT din.ts).den → Option (outT outs)

/-- What may lead to memory that is only read. -/
def LD.deep : LD → Bool
  | .val t => !t.flat
  | .fpt _ => true
  | .fpp _ => true
  | .clo _ cs => cs.any fun | .inl _ => false | .inr _ => true
  | .lit l => match l with
    | .val _ _ | .fpt _ _ | .fpp _ _ | .clo _ _ => true
    | _ => false
  | _ => false

def VD.deep : VD → Bool
  | .one l => l.deep
  | .agg ls => ls.any (·.deep)

def BD.deep : BD → Bool
  | .row t => !t.free
  | .var ls => ls.any (·.deep)
  | .mp t => !t.flat
  | .it _ => true

def Desc.deep (d : Desc) : Bool := d.regs.any (·.deep) || d.pins.any (·.deep) || d.bx.any (·.2.deep)

def Con.deep (c : Con) : Bool := c.outs.any (·.2.deep)

end Go.Fl
/- The abstract evaluator: operations. -/
namespace Go.Fl
open Go

/-- What the evaluator does besides the code: nothing of it is seen by the machine. -/
inductive Gs where
  | drop (b : Nat)
  | freeze (b : Nat)
  | take (r site : Nat)
  | give (site b : Nat)

structure Hint where
  fz : Bool := false
  dp : Bool := false
  con : Nat := 0
  sg : List (Nat × Nat) := []
  nl : List (Nat × Ty) := []
  pre : List Gs := []
  post : List Gs := []
  /-- Another name for what is made here. -/
  nm : Nat := 0

structure Env where
  te : List (Nat × Ty)
  cs : List Con

/-- The most elements that a row may have: far above what any input of the laws comes to. -/
def lim : Nat := 2147483648

/-- What a new row's elements are. -/
def elT (h : Hint) (t : Ty) : Ty := if t.flat then t else if h.dp then t else .fz t

def vI (k : IntKind) (n : Int) : V := .w (.one (.val (.int k) n))
def vB (b : Bool) : V := .w (.one (.val .bool b))

def bitsOf (k : IntKind) (a : Int) : BitVec k.bits := BitVec.ofInt k.bits a

def intBin (op : BinOp) (k : IntKind) (a b : Int) : Tr V :=
  match op with
  | .add => .ret (vI k (k.wrap (a + b)))
  | .sub => .ret (vI k (k.wrap (a - b)))
  | .mul => .ret (vI k (k.wrap (a * b)))
  | .quo => .tst (decide (b = 0)) .fail (.ret (vI k (k.wrap (a.tdiv b))))
  | .rem => .tst (decide (b = 0)) .fail (.ret (vI k (a.tmod b)))
  | .and => .ret (vI k (k.wrap (bitsOf k a &&& bitsOf k b).toNat))
  | .or => .ret (vI k (k.wrap (bitsOf k a ||| bitsOf k b).toNat))
  | .xor => .ret (vI k (k.wrap (bitsOf k a ^^^ bitsOf k b).toNat))
  | .eql => .ret (vB (a == b))
  | .neq => .ret (vB (a != b))
  | .lss => .ret (vB (decide (a < b)))
  | .leq => .ret (vB (decide (a ≤ b)))
  | .gtr => .ret (vB (decide (a > b)))
  | .geq => .ret (vB (decide (a ≥ b)))
  | _ => .fail

def binL (ty : Option Ty) (op : BinOp) : L → L → Tr V
  | .val (.int k) a, .val (.int k') b => match op with
    | .shr => .tst (decide (0 ≤ b)) (.ret (vI k (a.fdiv (2 ^ (min b.toNat k.bits))))) .fail
    | .shl => .tst (decide (0 ≤ b)) (.ret (vI k (k.wrap (a * 2 ^ (min b.toNat k.bits))))) .fail
    | op => if k = k' then intBin op k a b else .fail
  | .val .bool a, .val .bool b => match ty with
    | some .bool => match op with
      | .eql => .ret (vB (a == b))
      | .neq => .ret (vB (!(a == b)))
      | _ => .fail
    | _ => .fail
  | .val .str a, .val .str b => match op with
    | .eql => .ret (vB (a.toList == b.toList))
    | .neq => .ret (vB (!(a.toList == b.toList)))
    | .lss => .ret (vB (Op.bytesLess a.toList b.toList))
    | .add => .tst (decide (a.size + b.size ≤ lim)) (.ret (.w (.one (.val .str (a ++ b))))) .fail
    | _ => .fail
  | _, _ => .fail

/-- Pointers, held against nil. -/
def ptrNil (op : BinOp) (l m : L) : Option V :=
  let c : Option Bool := match l, m with
    | .pnil, .pnil => some true
    | .ptr .., .pnil | .ept .., .pnil | .nept .., .pnil | .fpt .., .pnil | .pnil, .ptr .. | .pnil, .ept .. | .pnil, .nept .. | .pnil, .fpt .. => some false
    | _, _ => none
  c.bind fun b => match op with
    | .eql => some (vB b)
    | .neq => some (vB (!b))
    | _ => none

/-- Structs of plain values, compared. -/
def eqW (E : Env) (op : BinOp) (T : Nat) (v w : V) : Option V := match find E.te T with
  | some t => if t.flat && !t.one then match v, w with
      | .w v, .w w => (rdW [] t v).bind fun x => (rdW [] t w).bind fun y => match op with
        | .eql => some (vB (eqT t x y))
        | .neq => some (vB (!(eqT t x y)))
        | _ => none
      | _, _ => none
    else none
  | none => none

def unL (op : UnOp) : L → Option V
  | .val .bool b => match op with
    | .not => some (vB (!b))
    | _ => none
  | .val (.int k) n => match op with
    | .neg => some (vI k (k.wrap (0 - n)))
    | _ => none
  | _ => none

/-- A struct's field, by value. -/
def fieldW (t : Ty) (k : Nat) : W → Option W
  | .one (.val t' x) => if t' = t then (t'.fldL k x).map .one else none
  | .one _ => none
  | .agg ls => if ls.length = t.sz then
      (t.fldTy k).bind fun f => if f.one then (ls[t.fldOff k]?).map .one else some (.agg ((ls.drop (t.fldOff k)).take f.sz))
    else none

/-- A field's place. -/
def fieldP (t : Ty) (k : Nat) : L → Option L
  | .ptr b off => (t.fldTy k).map fun _ => .ptr b (off + t.fldOff k)
  | .ept b i off => (t.fldTy k).map fun _ => .ept b i (off + t.fldOff k)
  | .nept b i off j o => (t.fldTy k).map fun _ => .nept b i off j (o + t.fldOff k)
  | .fpt t' x => if t' = t then (t'.fldL k x).bind fun l => match l with
      | .val f y => some (.fpt f y)
      | _ => none
    else none
  | _ => none

/-- A row in a row's element. -/
def nrowOf (bx : Bxs) (b i off : Nat) (t : Ty) : Option (List t.den) := match find bx b with
  | some (.row tb xs) => tb.slGet off (xs.getD i tb.zero) t
  | _ => none

/-- An element's place. -/
def indexP (bx : Bxs) (t : Ty) (i : Int) : L → Tr L
  | .row b => match find bx b with
    | some (.row te xs) => if te = t ∨ te = .fz t then
        .tst (decide (0 ≤ i)) (.tst (decide (i.toNat < xs.length)) (.ret (.ept b i.toNat 0)) .fail) .fail
      else .fail
    | some (.hole te xs _ _ _) => if te = t then
        .tst (decide (0 ≤ i)) (.tst (decide (i.toNat < xs.length)) (.ret (.ept b i.toNat 0)) .fail) .fail
      else .fail
    | _ => .fail
  | .vw b lo n => match find bx b with
    | some (.row te _) => if te = t ∨ te = .fz t then
        .tst (decide (0 ≤ i)) (.tst (decide (i.toNat < n)) (.ret (.ept b (lo + i.toNat) 0)) .fail) .fail
      else .fail
    | _ => .fail
  | .nrow b k off => match nrowOf bx b k off t with
    | some ys => .tst (decide (0 ≤ i)) (.tst (decide (i.toNat < ys.length)) (.ret (.nept b k off i.toNat 0)) .fail) .fail
    | none => .fail
  | .val (.sl te) xs => if te = t then
      .tst (decide (0 ≤ i)) (.tst (decide (i.toNat < xs.length)) (.ret (.fpt te (xs.getD i.toNat te.zero))) .fail) .fail
    else .fail
  | _ => .fail

def loadP (bx : Bxs) (t : Ty) : L → Option W
  | .ptr b off => match find bx b with
    | some (.var ls) => if off + t.sz ≤ ls.length then
        if t.one then (ls[off]?).map .one else some (.agg ((ls.drop off).take t.sz))
      else none
    | _ => none
  | .fpt t' x => if t' = t then some (.one (.val t' x)) else none
  | .fpp t' x => if t = .hnd false then some (.one (.fpt t' x)) else none
  | .ept b i off => match find bx b with
    | some (.row te xs) => if te.noOwn then
        if te = t ∨ te = .fz t then (if off = 0 then (castE te t (xs.getD i te.zero)).map fun y => .one (.val t y) else none)
        else if t.one then (te.leafL off (xs.getD i te.zero)).bind fun l => match l with
          | .val t' y => if t' = t then some (.one (.val t' y)) else none
          | _ => none
        else none
      else if t.one then
        if t.flat then (te.leafL off (xs.getD i te.zero)).bind fun l => match l with
          | .val t' y => if t' = t then some (.one (.val t' y)) else none
          | _ => none
        else match t with
          | .sl t' => if te.slAt off = some t' then some (.one (.nrow b i off)) else none
          | _ => none
      else none
    | _ => none
  | .nept b i off j o => match find bx b with
    | some (.row tb xs) => match tb.slAt off with
      | some te => if te.noOwn then (tb.slGet off (xs.getD i tb.zero) te).bind fun ys =>
          if te = t then (if o = 0 then some (.one (.val t ((castT te t (ys.getD j te.zero)).getD t.zero))) else none)
          else if t.one then (te.leafL o (ys.getD j te.zero)).bind fun l => match l with
            | .val t' y => if t' = t then some (.one (.val t' y)) else none
            | _ => none
          else none
        else none
      | none => none
    | _ => none
  | _ => none

/-- Cells that hold nil, and are to be rows from now on. -/
def nilRows (site : Nat) : List (Nat × Ty) → List L → List L × Bxs
  | [], ls => (ls, [])
  | (i, t) :: r, ls => match ls[i]? with
    | some .nil => let p := nilRows site r (ls.set i (.row (site + 1 + i))); (p.1, (site + 1 + i, .row t []) :: p.2)
    | _ => nilRows site r ls

def nilV (h : Hint) (site : Nat) (v : V) : Ef :=
  match h.nl, v with
  | [], v => { v }
  | (_, t) :: _, .w (.one .nil) => { v := .w (.one (.row site)), nb := [(site, .row t [])] }
  | nl, .w (.agg ls) => let p := nilRows site nl ls; { v := .w (.agg p.1), nb := p.2 }
  | _, v => { v }

def unE (nb : Bxs) (D dead : List Nat) : Ef := { v := .w (.one .un), nb, D, dead }

/-- A part of a row in an element. -/
def W.nvw? : W → Option (Nat × Nat × Nat × Nat)
  | .one (.nvw c k off _ n) => some (c, k, off, n)
  | _ => none

/-- An element that is a row is made shorter. -/
def cutE (te t : Ty) (b i : Nat) (xs : List te.den) (p : Nat × Nat × Nat × Nat) : Tr Ef := match t with
  | .sl t' => if p.1 = b ∧ p.2.2.1 = 0 ∧ te.slAt 0 = some t' then match te.slGet 0 (xs.getD i te.zero) t' with
      | some ys => match te.slSet 0 (xs.getD i te.zero) t' (ys.take p.2.2.2) with
        | some y => .tst (decide (p.2.1 = i)) (.ret (unE [(b, .row te (xs.set i y))] [b] [nid b])) .fail
        | none => .fail
      | none => .fail
    else .fail
  | _ => .fail

def storeP (h : Hint) (site : Nat) (s : S) (t : Ty) (v : W) : L → Tr Ef
  | .ptr b off => match find s.bx b with
    | some (.var ls) =>
      let p := nilRows site h.nl v.leaves
      if p.1.length = t.sz ∧ off + t.sz ≤ ls.length ∧ t.sz ≠ 0 then
        .ret (unE ((b, .var (ls.take off ++ p.1 ++ ls.drop (off + t.sz))) :: p.2) [b] [])
      else .fail
    | _ => .fail
  | .ept b i off => match find s.bx b with
    | some (.row te xs) =>
      if te = t ∨ te = .fz t then
        if off = 0 then
          match v.nvw? with
          | some p => cutE te t b i xs p
          | none => match ownW s.bx te v with
            | some (y, ds) => if nodupB (b :: ds) then .ret (unE [(b, .row te (xs.set i y))] (b :: ds) (if te.noOwn then ds else nid b :: ds)) else .fail
            | none => .fail
        else .fail
      else if t.one then
        match v with
        | .one l => match te.setLeaf off (xs.getD i te.zero) l with
          | some y => .ret (unE [(b, .row te (xs.set i y))] [b] [])
          | none => match t, l with
            | .sl t', .row r => match find s.bx r with
              | some (.row tr ys) => if tr = t' ∧ te.slAt off = some tr ∧ r ≠ b then match te.slSet off (xs.getD i te.zero) tr ys with
                  | some y => .ret (unE [(b, .row te (xs.set i y))] [b, r] [r, nid b])
                  | none => .fail
                else .fail
              | _ => .fail
            | .sl t', .nil => if te.slAt off = some t' then match te.slSet off (xs.getD i te.zero) t' [] with
                  | some y => .ret (unE [(b, .row te (xs.set i y))] [b] [nid b])
                  | none => .fail
                else .fail
            | .sl t', .nvw c k off' _ n => if c = b ∧ off' = off ∧ te.slAt off = some t' then match te.slGet off (xs.getD i te.zero) t' with
                  | some ys => match te.slSet off (xs.getD i te.zero) t' (ys.take n) with
                    | some y => .tst (decide (k = i)) (.ret (unE [(b, .row te (xs.set i y))] [b] [nid b])) .fail
                    | none => .fail
                  | none => .fail
                else .fail
            | _, _ => .fail
        | _ => .fail
      else .fail
    | some (.hole te xs k off' _) => match t, v with
      | .sl t', .one (.row r) => match find s.bx r with
        | some (.row tr ys) => if tr = t' ∧ te.slAt off = some tr ∧ r ≠ b ∧ off' = off then match te.slSet off (xs.getD i te.zero) tr ys with
            | some y => .tst (decide (k = i)) (.ret (unE [(b, .row te (xs.set i y))] [b, r] [r, nid b])) .fail
            | none => .fail
          else .fail
        | _ => .fail
      | _, _ => .fail
    | _ => .fail
  | .nept b i off j o => match find s.bx b with
    | some (.row tb xs) => match tb.slAt off with
      | some te => match tb.slGet off (xs.getD i tb.zero) te with
        | some ys => if te.noOwn then
            (match (if te = t ∧ o = 0 then (ownW [] te v).bind fun p => match p.2 with | [] => some p.1 | _ => none
              else if t.one then match v with | .one l => te.setLeaf o (ys.getD j te.zero) l | _ => none else none) with
            | some y => match tb.slSet off (xs.getD i tb.zero) te (ys.set j y) with
              | some z => .ret (unE [(b, .row tb (xs.set i z))] [b] [])
              | none => .fail
            | none => .fail)
          else .fail
        | none => .fail
      | none => .fail
    | _ => .fail
  | _ => .fail

def lenL (bx : Bxs) (t : Ty) : L → Option Int
  | .row b => match find bx b with
    | some x => match x.hd with
      | some p => some (p.2 : Int)
      | none => none
    | _ => none
  | .vw _ _ n => some (n : Int)
  | .nrow b i off => match t with
    | .sl te => (nrowOf bx b i off te).map fun ys => (ys.length : Int)
    | _ => none
  | .nvw _ _ _ _ n => some (n : Int)
  | .val (.sl _) xs => some ((show List _ from xs).length : Int)
  | .val .str x => some ((show ByteArray from x).size : Int)
  | .nil => some 0
  | _ => none

/-! ### Maps -/

def mget {α : Type} : List (Int × α) → Int → Option α
  | [], _ => none
  | (k, x) :: r, q => bif decide (q = k) then some x else mget r q

def mset {α : Type} : List (Int × α) → Int → α → List (Int × α)
  | [], q, y => [(q, y)]
  | (k, x) :: r, q, y => bif decide (q = k) then (k, y) :: r else (k, x) :: mset r q y

def mapOf (bx : Bxs) (t : Ty) : L → Option (List (Int × t.den))
  | .val (.mp t') m => castT (.mp t') (.mp t) m
  | .mrow b => match find bx b with
    | some (.mp t' m) => castT (.mp t') (.mp t) m
    | _ => none
  | .mnil => some []
  | _ => none

/-! ### Calls -/

def resV : List V → V
  | [x] => x
  | xs => .tup (xs.map fun v => match v with | .w x => x | .tup _ => .one .un)

def callD (c : Con) (σ : Nat → Nat) (io : List Nat) (bx : Bxs) (vs : List V) : Option (tupT c.din.ts).den :=
  argD σ (if c.deep then [] else frOf bx io) bx c.din vs []

def sgOf (sg : List (Nat × Nat)) (b : Nat) : Nat := (find sg b).getD b

/-- The boxes of a closure that captures boxes only. -/
def inls : List (Nat ⊕ Ty) → Option (List Nat)
  | [] => some []
  | .inl b :: r => (inls r).map (b :: ·)
  | .inr _ :: _ => none

def LD.pin : LD → LD → List Nat
  | .clo f cs, .clo g ds => if f = g ∧ cs = ds then (inls cs).getD [] else []
  | .lit l, .lit m => if l.sameH m then (match l with | .row b | .ptr b _ | .mrow b | .it b => [b] | _ => []) else []
  | _, _ => []

def pinLs : List LD → List LD → List Nat
  | l :: ls, m :: ms => l.pin m ++ pinLs ls ms
  | _, _ => []

/-- The boxes whose handles are as they were ahead of the call. -/
def pinVs : List VD → List VD → List Nat
  | .one l :: ds, .one m :: ps => l.pin m ++ pinVs ds ps
  | .agg ls :: ds, .agg ms :: ps => pinLs ls ms ++ pinVs ds ps
  | _ :: ds, _ :: ps => pinVs ds ps
  | _, _ => []

/-- What of a box's contents is a handle that may be held. -/
def LD.hold : LD → LD
  | .lit (.ptr b o) => .lit (.ptr b o)
  | .clo f cs => if (inls cs).isSome then .clo f cs else .un
  | _ => .un

def bxVDs : List (Nat × BD) → List VD
  | [] => []
  | (_, .var ds) :: r => ds.map (fun d => .one d.hold) ++ bxVDs r
  | _ :: r => bxVDs r

def BD.same : BD → BD → Bool
  | .row t, .row t' | .mp t, .mp t' | .it t, .it t' => decide (t = t')
  | .var a, .var b => a.length == b.length
  | _, _ => false

/-- A contract makes sense. -/
def Con.okB (c : Con) : Bool := c.din.okB && c.din.regs.length == c.din.n && c.din.pins.isEmpty && c.outs.all fun p => p.2.okB && p.2.n == p.2.regs.length &&
  (pinVs (c.din.regs ++ bxVDs c.din.bx) p.2.pins).all fun b => match find c.din.bx b, find p.2.bx b with
    | some x, some y => x.same y
    | _, _ => false

/-- Names for what comes back: old boxes bear theirs, new ones get new ones. -/
def outN (σ : Nat → Nat) (ids : List Nat) (site : Nat) (all : List Nat) (b : Nat) : Nat := bif ids.contains b then σ b else site + 1 + all.idxOf b

def L.frz (nb : Bxs) : L → L
  | .row b => match find nb b with
    | some (.row te xs) => match te with
      | .fz t => .val (.sl t) (show List t.den from xs)
      | te => .val (.sl te) xs
    | _ => .row b
  | .mrow b => match find nb b with
    | some (.mp t m) => .val (.mp t) m
    | _ => .mrow b
  | l => l

def W.frz (nb : Bxs) : W → W
  | .one l => .one (l.frz nb)
  | .agg ls => .agg (ls.map (·.frz nb))

def V.frz (nb : Bxs) : V → V
  | .w x => .w (x.frz nb)
  | .tup xs => .tup (xs.map (·.frz nb))

def outTr {α : Type} (K : Desc → S → Tr α) : (os : Outs) → outT os → Tr α
  | [], _ => .fail
  | [(_, d)], v => K d (d.mk' v)
  | (_, d) :: o :: r, v => .alt _ _ v (fun a => K d (d.mk' a)) fun b => outTr K (o :: r) b

/-- What a call's end comes to, for the caller. -/
def backE (c : Con) (σ : Nat → Nat) (io : List Nat) (site : Nat) (d : Desc) (s1 : S) : Ef :=
  let ids := c.din.bx.map (·.1)
  let ρ := outN σ ids site (d.bx.map (·.1))
  let pn := (pinVs (c.din.regs ++ bxVDs c.din.bx) d.pins).map σ
  { v := (resV s1.regs).ren ρ, nb := s1.bx.map (fun p => (ρ p.1, p.2.ren ρ)), D := io, dead := io.filter (fun b => !pn.contains b) ++ io.map nid }

def callE (c : Con) (h : Hint) (site : Nat) (s : S) (vs : List V) : Tr Ef :=
  let σ := sgOf h.sg
  let io := c.din.bx.map fun p => σ p.1
  if nodupB io && vs.length == c.din.n then
    .bnd _ (callD c σ io s.bx vs) fun x => .bnd _ (c.F x) fun o => outTr (fun d s1 =>
      if nodupB (d.bx.map fun p => outN σ (c.din.bx.map (·.1)) site (d.bx.map (·.1)) p.1) then
        .ret (backE c σ io site d s1)
      else .fail) c.outs o
  else .fail

def capV : Cap → V
  | .ptr b => .w (.one (.ptr b 0))
  | .fpt t x => .w (.one (.fpt t x))

/-- The string of bytes. -/
def bstr (xs : List Int) : ByteArray := xs.foldl (fun r n => r.push (UInt8.ofNat n.toNat)) ByteArray.empty

/-- What is appended to a row of elements 'te': the elements, and the rows that go with them. -/
def srcOf (s : S) (te : Ty) (b : V) : Option (List te.den × List Nat) :=
  match b with
  | .w (.one (.row c)) => match find s.bx c with
    | some (.row te' ys) => (castT (.sl te') (.sl te) ys).map fun ys => (ys, if te'.noOwn then [] else [c])
    | _ => none
  | .w (.one (.vw c lo n)) => match find s.bx c with
    | some (.row te' ys) => if te'.noOwn then (castT (.sl te') (.sl te) ((ys.drop lo).take n)).map (·, []) else none
    | _ => none
  | .w (.one (.nrow c i off)) => if te.noOwn then (nrowOf s.bx c i off te).map (·, []) else none
  | .w (.one (.val (.sl te') ys)) => if te'.flat then (castT (.sl te') (.sl te) ys).map (·, []) else (castT (.sl (.fz te')) (.sl te) ys).map (·, [])
  | .w (.one .nil) => some ([], [])
  | _ => none

/-- Laid over. -/
def lay {α : Type} (xs : List α) (p : Nat) (ys : List α) : List α := xs.take p ++ ys ++ xs.drop (p + ys.length)

/-- A row, or a part of it. -/
def partOf (bx : Bxs) : V → Option (Nat × Nat × Nat)
  | .w (.one (.row b)) => match find bx b with
    | some (.row _ xs) => some (b, 0, xs.length)
    | _ => none
  | .w (.one (.vw b lo n)) => some (b, lo, n)
  | _ => none

def copyE (E : Env) (T : Nat) (s : S) (a b : V) : Tr Ef :=
  match partOf s.bx a, find E.te T with
  | some (r, lo, n), some (.sl t) => match find s.bx r with
    | some (.row te xs) => if (te = t ∨ te = .fz t) ∧ te.noOwn = true ∧ te.sz = 1 then match srcOf s te b with
        | some (ys, []) => .ret { v := vI .i64 ((min ys.length n : Nat) : Int), nb := [(r, .row te (lay xs lo (ys.take n)))], D := [r] }
        | _ => .fail
      else .fail
    | _ => .fail
  | _, _ => .fail

def clearE (E : Env) (T : Nat) (s : S) (a : V) : Tr Ef :=
  match partOf s.bx a, find E.te T with
  | some (r, lo, n), some (.sl t) => match find s.bx r with
    | some (.row te xs) => if te = t ∧ te.flat = true ∧ te.sz = 1 then
        .ret { v := .w (.one .un), nb := [(r, .row te (lay xs lo (List.replicate n te.zero)))], D := [r] }
      else .fail
    | _ => .fail
  | _, _ => .fail

/-- append (nil, so many zeros). -/
def makeApp (E : Env) (h : Hint) (site : Nat) (T : Nat) (a b : V) : Tr Ef :=
  match a, b, find E.te T with
  | .w (.one .nil), .w (.one (.val (.int .i64) n)), some (.sl t) => if (elT h t).noMp && (elT h t).sz != 0 then
      .tst (decide (0 ≤ n)) (.tst (decide (n.toNat ≤ lim)) (.ret { v := .w (.one (.row site)), nb := [(site, .row (elT h t) (List.replicate n.toNat (elT h t).zero))] }) .fail) .fail
    else .fail
  | _, _, _ => .fail

/-- A row is made as short as the part that is moved. -/
def cutV (s : S) (v : V) : Tr Ef := match v with
  | .w (.one (.vw r lo n)) => match find s.bx r with
    | some (.row te xs) => if lo = 0 then .ret { v := .w (.one (.row r)), nb := [(r, .row te (xs.take n))], D := [r], dead := [r, nid r] } else .fail
    | _ => .fail
  | _ => .fail

def appendE (E : Env) (h : Hint) (site : Nat) (T : Nat) (s : S) (a b : V) : Tr Ef :=
  match a, find E.te T with
  | .w (.one (.row r)), some (.sl t) => match find s.bx r with
    | some (.row te xs) => if te = t ∨ te = .fz t then match b with
        | .w (.one .nil) => .ret { v := .w (.one (.row r)) }
        | b => match srcOf s te b with
          | some (ys, ds) =>
            if ds.contains r then .fail else
            .tst (decide (xs.length + ys.length ≤ lim))
              (.ret { v := .w (.one (.row r)), nb := [(r, .row te (xs ++ ys))], D := r :: ds, dead := nid r :: r :: ds }) .fail
          | none => .fail
      else .fail
    | _ => .fail
  | .w (.one .nil), some (.sl t) => match srcOf s (elT h t) b with
    | some (ys, ds) => if ds.contains site then .fail else
        .tst (decide (ys.length ≤ lim))
          (.ret { v := .w (.one (.row site)), nb := [(site, .row (elT h t) ys)], D := ds, dead := ds }) .fail
    | none => .fail
  | .w (.one (.nrow r i off)), some (.sl t) => match find s.bx r with
    | some (.row tb xs) => if tb.slAt off = some t ∧ t.noOwn then match tb.slGet off (xs.getD i tb.zero) t, srcOf s t b with
        | some zs, some (ys, []) => .tst (decide (zs.length + ys.length ≤ lim))
            (.ret { v := .w (.one (.row site)), nb := [(r, .hole tb xs i off .un), (site, .row t (zs ++ ys))], D := [r], dead := [nid r] }) .fail
        | _, _ => .fail
      else .fail
    | _ => .fail
  | _, _ => .fail

def V.vw? : V → Option (Nat × Nat × Nat)
  | .w (.one (.vw r lo n)) => some (r, lo, n)
  | _ => none

/-- append, onto a part of a row behind which there is room in the row. -/
def appendV (E : Env) (T : Nat) (s : S) (p : Nat × Nat × Nat) (b : V) : Tr Ef :=
  match find s.bx p.1, find E.te T with
  | some (.row te xs), some (.sl t) => if (te = t ∨ te = .fz t) ∧ te.noOwn = true ∧ p.2.1 = 0 then match srcOf s te b with
      | some (ys, []) => .tst (decide (p.2.2 + ys.length ≤ xs.length))
          (.ret { v := .w (.one (.vw p.1 0 (p.2.2 + ys.length))), nb := [(p.1, .row te (lay xs p.2.2 ys))], D := [p.1] }) .fail
      | _ => .fail
    else .fail
  | _, _ => .fail

def lenOk (t : Option Ty) (l : L) : Bool :=
  match l, t with
  | .val .str _, some .str => true
  | .val (.sl _) _, some (.sl _) => true
  | .row _, some (.sl _) => true
  | .vw _ _ _, some (.sl _) => true
  | .nrow _ _ _, some (.sl _) => true
  | .nvw _ _ _ _ _, some (.sl _) => true
  | .nil, some (.sl _) => true
  | _, _ => false

def S.setB (s : S) (c : Operand) (b : Bool) : S :=
  match c with
  | .tmp r => { s with regs := s.regs.set r (vB b) }
  | _ => s

def _root_.Go.Operand.same : Operand → Operand → Bool
  | .tmp a, .tmp b => a == b
  | .const (.int k a), .const (.int k' b) => k == k' && a == b
  | _, _ => false

/-! ### Steps -/

def partsL (E : Env) (s : S) (t : Ty) : List (Nat × Operand) → List L → Option (List L)
  | [], ls => some ls
  | (k, x) :: r, ls => match s.opv x, t.fldTy k with
    | .w v, some f => let n := v.leaves
      if n.length = f.sz then partsL E s t r (ls.take (t.fldOff k) ++ n ++ ls.drop (t.fldOff k + f.sz)) else none
    | _, _ => none

/-- The parts of a slice's literal, one behind the other. -/
def elemsL (s : S) (t : Ty) : Nat → List (Nat × Operand) → Option (List t.den × List Nat)
  | _, [] => some ([], [])
  | i, (j, x) :: r => if i = j then match s.opv x with
      | .w v => (ownW s.bx t v).bind fun p => (elemsL s t (i + 1) r).map fun q => (p.1 :: q.1, p.2 ++ q.2)
      | _ => none
    else none

/-- The function that is called, and what it is handed. -/
def callee (E : Env) (h : Hint) (s : S) (f : Operand) (args : List Operand) : Option (Con × List V) :=
  match s.opv f, E.cs[h.con]? with
  | .w (.one (.clo g caps)), some k => if g = k.f then some (k, args.map s.opv ++ caps.map capV) else none
  | _, _ => none

/-- The bounds of a part. -/
def cutB (s : S) (len : Int) (lo hi : Option Operand) (K : Nat → Nat → Tr Ef) : Tr Ef :=
  let go (l h : Int) : Tr Ef := .tst (decide (0 ≤ h)) (.tst (decide (h ≤ len)) (.tst (decide (0 ≤ l)) (.tst (decide (l ≤ h)) (K l.toNat h.toNat) .fail) .fail) .fail) .fail
  match lo, hi with
  | none, none => go 0 len
  | some x, none => match s.opv x with
    | .w (.one (.val (.int _) l)) => go l len
    | _ => .fail
  | none, some y => match s.opv y with
    | .w (.one (.val (.int _) h)) => go 0 h
    | _ => .fail
  | some x, some y => match s.opv x, s.opv y with
    | .w (.one (.val (.int _) l)), .w (.one (.val (.int _) h)) => go l h
    | _, _ => .fail

def sliceE (E : Env) (h : Hint) (T : Nat) (s : S) (v : V) (lo hi : Option Operand) : Tr Ef :=
  match v, find E.te T with
  | .w (.one (.val (.sl t) xs)), some (.sl t') => if t = t' then cutB s ((show List t.den from xs).length : Int) lo hi fun a b => .ret { v := .w (.one (.val (.sl t) (((show List t.den from xs).drop a).take (b - a)))) } else .fail
  | .w (.one (.val .str z)), some .str => cutB s ((show ByteArray from z).size : Int) lo hi fun a b => .ret { v := .w (.one (.val .str ((show ByteArray from z).extract a b))) }
  | .w (.one .nil), some (.sl _) => cutB s 0 lo hi fun _ _ => .ret { v := .w (.one .nil) }
  | .w (.one (.row r)), some (.sl t) => match find s.bx r with
    | some (.row te xs) => if te = t ∨ te = .fz t then cutB s (xs.length : Int) lo hi fun a b =>
          if h.dp then .ret { v := .w (.one (.row r)), nb := [(r, .row te ((xs.drop a).take (b - a)))], D := [r], dead := [r, nid r] } else .ret { v := .w (.one (.vw r a (b - a))) }
      else .fail
    | _ => .fail
  | .w (.one (.nrow r i off)), some (.sl t) => match lo, nrowOf s.bx r i off t with
    | none, some ys => cutB s (ys.length : Int) lo hi fun _ b => .ret { v := .w (.one (.nvw r i off 0 b)) }
    | _, _ => .fail
  | _, _ => .fail

/-- A part of a part. -/
def sliceV (E : Env) (T : Nat) (s : S) (p : Nat × Nat × Nat) (lo hi : Option Operand) : Tr Ef :=
  match find s.bx p.1, find E.te T with
  | some (.row te xs), some (.sl t) => if (te = t ∨ te = .fz t) ∧ p.2.1 = 0 then
      cutB s ((match hi with | none => p.2.2 | some _ => xs.length : Nat) : Int) lo hi fun a b => .ret { v := .w (.one (.vw p.1 a (b - a))) }
    else .fail
  | _, _ => .fail

/-- A part with a bound on its room: only that it is right is told. -/
def slice3E (E : Env) (T : Nat) (s : S) (v l h m : V) : Tr Ef :=
  match v, find E.te T, l, h, m with
  | .w (.one (.row r)), some (.sl t), .w (.one (.val (.int _) l)), .w (.one (.val (.int _) h)), .w (.one (.val (.int _) m)) => match find s.bx r with
    | some (.row te xs) => if te = t ∨ te = .fz t then
        .tst (decide (0 ≤ l)) (.tst (decide (l ≤ h)) (.tst (decide (h ≤ m)) (.tst (decide (m ≤ (xs.length : Int))) (.ret { v := .w (.one .un) }) .fail) .fail) .fail) .fail
      else .fail
    | _ => .fail
  | _, _, _, _, _ => .fail

def callB (E : Env) (h : Hint) (site : Nat) (s : S) (b : Builtin) (args : List Operand) (Ts : List Nat) : Tr Ef :=
  match b, args, Ts with
  | .len, [x], T :: _ => match s.opv x with
    | .w (.one l) => match find E.te T with
      | some t => if !lenOk (some t) l then .fail else Tr.ofOpt ((lenL s.bx t l).map fun n => { v := vI .i64 n })
      | none => .fail
    | _ => .fail
  | .cap, [x], T :: _ => match s.opv x, find E.te T with
    | .w (.one .nil), some (.sl _) => .ret { v := vI .i64 0 }
    | _, _ => .fail
  | .append, [x, y], [T, U] => match find E.te U with
    | some (.sl _) => match (s.opv x).vw? with
      | some p => appendV E T s p (s.opv y)
      | none => appendE E h site T s (s.opv x) (s.opv y)
    | some (.int .i64) => makeApp E h site T (s.opv x) (s.opv y)
    | _ => .fail
  | .copy, [x, y], [T, U] => match find E.te U with
    | some (.sl _) => copyE E T s (s.opv x) (s.opv y)
    | _ => .fail
  | .clear, [x], [T] => clearE E T s (s.opv x)
  | .min, [x, y], _ => match s.opv x, s.opv y with
    | .w (.one (.val (.int k) a)), .w (.one (.val (.int k') b)) => if k = k' then .ret { v := vI k (if (b : Int) < a then b else a) } else .fail
    | _, _ => .fail
  | .max, [x, y], _ => match s.opv x, s.opv y with
    | .w (.one (.val (.int k) a)), .w (.one (.val (.int k') b)) => if k = k' then .ret { v := vI k (if (b : Int) > a then b else a) } else .fail
    | _, _ => .fail
  | _, _, _ => .fail

/-- An operation, in whatever order: what it comes to. -/
def eOp (E : Env) (h : Hint) (site : Nat) (o : Oper) (s : S) : Tr Ef :=
  match o.op with
  | .move x | .assign x => if h.dp then cutV s (s.opv x) else .ret (nilV h site (s.opv x))
  | .pick c a b => match s.opv c with
    | .w (.one (.val .bool v)) => .tst v (.ret { v := s.opv a }) (.ret { v := s.opv b })
    | _ => .fail
  | .alloc T => match find E.te T with
    | some t => let p := nilRows site h.nl t.zeros; .ret { v := .w (.one (.ptr site 0)), nb := (site, .var p.1) :: p.2 }
    | none => .fail
  | .box T x => match find E.te T, s.opv x with
    | some t, .w v => if h.fz then .bnd _ (rdW [] t v) fun y => .ret { v := .w (.one (.fpt t y)) }
      else if v.leaves.length = t.sz ∧ t.sz ≠ 0 then let p := nilRows site h.nl v.leaves; .ret { v := .w (.one (.ptr site 0)), nb := (site, .var p.1) :: p.2 } else .fail
    | _, _ => .fail
  | .build T ps => match find E.te T with
    | some t => if t.one then .fail else Tr.ofOpt ((partsL E s t ps.toList t.zeros).map fun ls => nilV h site (.w (.agg ls)))
    | none => .fail
  | .buildSlice T n ps => match find E.te T with
    | some (.sl t) => match elemsL s (elT h t) 0 ps.toList with
      | some (xs, ds) => if nodupB ds && !ds.contains site && xs.length == n && decide (n * t.sz ≤ 16777216) then .ret { v := .w (.one (.row site)), nb := [(site, .row (elT h t) xs)], D := ds, dead := ds } else .fail
      | _ => .fail
    | _ => .fail
  | .load T x => match find E.te T, s.opv x with
    | some t, .w (.one l) => Tr.ofOpt ((loadP s.bx t l).map fun v => { v := .w v })
    | _, _ => .fail
  | .nilCheck x => match s.opv x with
    | .w (.one l) => match l with
      | .ptr .. | .fpt .. | .ept .. | .nept .. => .ret { v := .w (.one l) }
      | _ => .fail
    | _ => .fail
  | .binOp op T x y _ => match eqW E op T (s.opv x) (s.opv y) with
    | some v => .ret { v }
    | none => match s.opv x, s.opv y with
      | .w (.one l), .w (.one m) => match find E.te T with
        | some (.hnd false) => Tr.ofOpt ((ptrNil op l m).map fun v => { v })
        | _ => (binL (find E.te T) op l m).bind fun v => .ret { v }
      | _, _ => .fail
  | .unOp op _ x => match s.opv x with
    | .w (.one l) => Tr.ofOpt ((unL op l).map fun v => { v })
    | _ => .fail
  | .makeFunc (.func f) first caps => if first.isEmpty then
      Tr.ofOpt ((caps.toList.mapM fun x => match s.opv x with
        | .w (.one (.ptr b 0)) => some (Cap.ptr b)
        | .w (.one (.fpt t y)) => some (Cap.fpt t y)
        | _ => none).map fun cs => { v := .w (.one (.clo f cs)) })
    else .fail
  | .makeSlice T l c => match find E.te T, s.opv l with
    | some (.sl t), .w (.one (.val (.int _) n)) => if !(l.same c) || !(elT h t).noMp then .fail else
        .tst (decide (0 ≤ n)) (.tst (decide (n.toNat ≤ lim)) (.ret { v := .w (.one (.row site)), nb := [(site, .row (elT h t) (List.replicate n.toNat (elT h t).zero))] }) .fail) .fail
    | _, _ => .fail
  | .fieldAddr T x k => match find E.te T, s.opv x with
    | some t, .w (.one l) => Tr.ofOpt ((fieldP t k l).map fun l' => { v := .w (.one l') })
    | _, _ => .fail
  | .field T x k => match find E.te T, s.opv x with
    | some t, .w v => Tr.ofOpt ((fieldW t k v).map fun v' => { v := .w v' })
    | _, _ => .fail
  | .indexAddr T x i => match find E.te T, s.opv x, s.opv i with
    | some (.sl t), .w (.one l), .w (.one (.val (.int _) n)) => (indexP s.bx t n l).bind fun l' => .ret { v := .w (.one l') }
    | _, _, _ => .fail
  | .index T x i => match find E.te T, s.opv x, s.opv i with
    | some .str, .w (.one (.val .str z)), .w (.one (.val (.int _) n)) =>
        .tst (decide (0 ≤ n)) (.tst (decide (n.toNat < z.size)) (.ret { v := vI .u8 ((z.data.getD n.toNat 0).toNat : Int) }) .fail) .fail
    | _, _, _ => .fail
  | .extract x k => match s.opv x with
    | .tup xs => Tr.ofOpt ((xs[k]?).map fun v => nilV h site (.w v))
    | _ => .fail
  | .store T x y => match find E.te T, s.opv x, s.opv y with
    | some t, .w (.one l), .w v => storeP h site s t v l
    | _, _, _ => .fail
  | .slice T x lo hi none => match (s.opv x).vw? with
    | some p => sliceV E T s p lo hi
    | none => sliceE E h T s (s.opv x) lo hi
  | .slice T x (some lo) (some hi) (some mx) => slice3E E T s (s.opv x) (s.opv lo) (s.opv hi) (s.opv mx)
  | .convert T U x => match find E.te T, find E.te U, s.opv x with
    | some (.int _), some (.int k), .w (.one (.val (.int _) n)) => .ret { v := vI k (k.wrap n) }
    | some (.sl (.int .u8)), some .str, v => match srcOf s (.int .u8) v with
      | some (ys, _) => .ret { v := .w (.one (.val .str (bstr ys))) }
      | none => .fail
    | _, _, _ => .fail
  | .makeMap T none => match find E.te T with
    | some (.mp t) => .ret { v := .w (.one (.mrow site)), nb := [(site, .mp t [])] }
    | _ => .fail
  | .lookup T x k c => match find E.te T, s.opv x, s.opv k with
    | some (.mp t), .w (.one l), .w (.one (.val (.int .i64) n)) => match mapOf s.bx t l with
      | some m => .ret { v := if c then .tup [.one (.val t ((mget m n).getD t.zero)), .one (.val .bool (mget m n).isSome)] else .w (.one (.val t ((mget m n).getD t.zero))) }
      | none => .fail
    | _, _, _ => .fail
  | .mapUpdate T x k y => match find E.te T, s.opv x, s.opv k, s.opv y with
    | some (.mp t), .w (.one (.mrow b)), .w (.one (.val (.int .i64) n)), .w v => match find s.bx b, rdW [] t v with
      | some (.mp t' m), some y => match castT t t' y with
        | some y => .ret (unE [(b, .mp t' (mset m n y))] [b] [])
        | none => .fail
      | _, _ => .fail
    | _, _, _, _ => .fail
  | .range T x => match find E.te T, s.opv x with
    | some (.mp t), .w (.one (.val (.mp t') m)) => if t = t' then .ret { v := .w (.one (.it site)), nb := [(site, .it t' m none)] } else .fail
    | _, _ => .fail
  | .entry x => match s.opv x with
    | .w (.one (.it b)) => match find s.bx b with
      | some (.it t _ (some (k, y))) => .ret { v := .tup [.one (.val (.int .i64) k), .one (.val t y)] }
      | _ => .fail
    | _ => .fail
  | .call c => match c.callee with
    | .builtin b => callB E h site s b c.args.toList c.argTypes.toList
    | .value f => match callee E h s f c.args.toList with
      | some (k, vs) => callE k h site s vs
      | none => .fail
    | _ => .fail
  | _ => .fail

end Go.Fl
/- The abstract evaluator: code, loops, functions. -/
namespace Go.Fl
open Go

/-! ### Ghost steps -/

/-- A box is let go: what it holds is only read from now on. -/
def S.frz (s : S) (b : Nat) : S :=
  let fr := s.bx.filter fun p => p.1 == b
  let s' : S := { regs := s.regs.map (·.frz fr), pins := s.pins.map (·.frz fr), bx := s.bx.map fun p => (p.1, match p.2 with | .var ls => .var (ls.map (·.frz fr)) | x => x) }
  s'.reb [] (· == b) (fun k => k == b || k == nid b)

def gs1 (s : S) : Gs → Option S
  | .drop b => some (s.reb [] (· == b) (fun k => k == b || k == nid b))
  | .freeze b => match find s.bx b with
    | some (.row _ _) => some (s.frz b)
    | some (.mp _ _) => some (s.frz b)
    | _ => none
  | .take r site => match s.get r with
    | .w (.one (.nrow b i off)) => match find s.bx b with
      | some (.row tb xs) => match tb.slAt off with
        | some te => match tb.slGet off (xs.getD i tb.zero) te with
          | some ys => if (find s.bx site).isSome || site == b || site == nid b then none else
              some ((s.reb [(b, .hole tb xs i off (.row site)), (site, .row te ys)] (· == b) (· == nid b)).put (some r) (.w (.one (.row site))))
          | none => none
        | none => none
      | _ => none
    | _ => none
  | .give site b => match find s.bx b, find s.bx site with
    | some (.hole tb xs i off (.row c)), some (.row te ys) => if c = site ∧ tb.slAt off = some te ∧ site ≠ b then match tb.slSet off (xs.getD i tb.zero) te ys with
        | some y => some (s.reb [(b, .row tb (xs.set i y))] (fun k => k == b || k == site) (fun k => k == site || k == nid site || k == nid b))
        | none => none
      else none
    | _, _ => none

def gsAll : List Gs → S → Option S
  | [], s => some s
  | g :: r, s => (gs1 s g).bind (gsAll r)

/-! ### Regions -/

abbrev Hints := List (Nat × List (Nat × Hint))

def hintAt (H : Hints) (r i : Nat) : Hint :=
  match find H r with
  | some l => (find l i).getD {}
  | none => {}

def siteOf (r i : Nat) : Nat := 1000000 + (r * 200 + i) * 64

/-- The name of what an operation makes. -/
def siteAt (H : Hints) (r i : Nat) : Nat := match (hintAt H r i).nm with
  | 0 => siteOf r i
  | n => n

def stepE (E : Env) (h : Hint) (site : Nat) (o : Oper) (s : S) : Tr S :=
  match o.op with
  | .pick c a b => match s.opv c with
    | .w (.one (.val .bool v)) => .tst v (.ret ((s.setB c true).put o.dst ((s.setB c true).opv a))) (.ret ((s.setB c false).put o.dst ((s.setB c false).opv b)))
    | _ => .fail
  | _ => (eOp E h site o s).bind fun e => if e.okB s.bx then .ret (s.app o.dst e) else .fail

def stepG (E : Env) (h : Hint) (site : Nat) (o : Oper) (s : S) : Tr S :=
  match h.pre, h.post with
  | [], [] => stepE E h site o s
  | pre, post => (Tr.ofOpt (gsAll pre s)).bind fun s1 => (stepE E h site o s1).bind fun s2 => Tr.ofOpt (gsAll post s2)

def opTr (E : Env) (h : Hint) (site : Nat) (ops : Array Oper) (o : Oper) (s : S) : Tr S :=
  match o.guard with
  | none => stepG E h site o s
  | some (g, b) => match (ops[g]?).bind (·.dst) with
    | some d => match s.get d with
      | .w (.one (.val .bool v)) =>
        .tst v (if b then stepG E h site o (s.setB (.tmp d) true) else .ret ((s.setB (.tmp d) true).put o.dst (.w (.one .ud))))
          (if b then .ret ((s.setB (.tmp d) false).put o.dst (.w (.one .ud))) else stepG E h site o (s.setB (.tmp d) false))
      | .w (.one .ud) => .ret (s.put o.dst (.w (.one .ud)))
      | _ => .fail
    | none => .fail

/-- What comes out the same whichever way it goes. -/
noncomputable def anyOf {ρ : Type} (n : Nat) (f : Nat → Option ρ) : Option ρ :=
  open Classical in if h : ∃ r, 0 < n ∧ ∀ i, i < n → f i = some r then some (Classical.choose h) else none

theorem anyOf_some {ρ : Type} {n : Nat} {f : Nat → Option ρ} {r : ρ} (h : anyOf n f = some r) : 0 < n ∧ ∀ i, i < n → f i = some r := by
  unfold anyOf at h
  split at h
  · rename_i hx
    cases h
    exact Classical.choose_spec hx
  · cases h

theorem anyOf_eq {ρ : Type} {n : Nat} {f : Nat → Option ρ} {r : ρ} (h0 : 0 < n) (h : ∀ i, i < n → f i = some r) : anyOf n f = some r := by
  have hx : ∃ r, 0 < n ∧ ∀ i, i < n → f i = some r := ⟨r, h0, h⟩
  unfold anyOf
  rw [dif_pos hx]
  have := (Classical.choose_spec hx).2 0 h0
  rw [h 0 h0] at this
  exact this.symm

/-- Operations that may go one way or another. -/
inductive Sp where
  | next (b : Nat)
  | isNil (l : L) (neq : Bool)

def spOf (E : Env) (o : Oper) (s : S) : Option Sp :=
  match o.guard with
  | some _ => none
  | none => match o.op with
    | .next x false => match s.opv x with
      | .w (.one (.it b)) => some (.next b)
      | _ => none
    | .binOp op T x (.const (.slice none 0 0)) _ => match s.opv x, find E.te T with
      | .w (.one l), some (.sl _) => match op with
        | .eql => some (.isNil l false)
        | .neq => some (.isNil l true)
        | _ => none
      | _, _ => none
    | _ => none

/-- Whether a slice that looks so can be nil, and whether it must be. -/
def nilP (bx : Bxs) : L → Option (Bool × Bool)
  | .nil => some (true, true)
  | .val (.sl _) xs => some ((show List _ from xs).isEmpty, false)
  | .row b => match find bx b with
    | some (.row _ xs) => some (xs.isEmpty, false)
    | _ => none
  | _ => none

noncomputable def evSp {ρ : Type} (s : S) (dst : Option Nat) (K : S → Option ρ) : Sp → Option ρ
  | .next b => match find s.bx b with
    | some (.it t rest _) => bif rest.isEmpty then K (s.put dst (.tup [.one (.val .bool false)]))
        else anyOf rest.length fun i => K ((s.reb [(b, .it t (rest.eraseIdx i) (some (rest.getD i (0, t.zero))))] (· == b) noB).put dst
          (.tup [.one (.val .bool true), .one (.val (.int .i64) (rest.getD i (0, t.zero)).1), .one (.val t (rest.getD i (0, t.zero)).2)]))
    | _ => none
  | .isNil l neq => match nilP s.bx l with
    | some (_, true) => K (s.put dst (vB (!neq)))
    | some (c, false) => bif c then anyOf 2 fun i => K (s.put dst (vB (bif i == 0 then neq else !neq))) else K (s.put dst (vB neq))
    | none => none

noncomputable def evOps {ρ : Type} (E : Env) (H : Hints) (r : Nat) (ops : Array Oper) : Nat → List Oper → (S → Option ρ) → S → Option ρ
  | _, [], K, s => K s
  | i, o :: rest, K, s => match spOf E o s with
    | some sp => evSp s o.dst (evOps E H r ops (i + 1) rest K) sp
    | none => (opTr E (hintAt H r i) (siteAt H r i) ops o s).run (evOps E H r ops (i + 1) rest K)

/-! ### Regions whose order is drawn -/

def Cap.ids : Cap → List Nat
  | .ptr b => [b]
  | _ => []

def L.ids : L → List Nat
  | .row b | .ptr b _ | .ept b _ _ | .vw b _ _ | .mrow b | .it b => [b]
  | .nrow b _ _ | .nept b _ _ _ _ | .nvw b _ _ _ _ => [b, nid b]
  | .clo _ cs => cs.flatMap (·.ids)
  | _ => []

def W.ids : W → List Nat
  | .one l => l.ids
  | .agg ls => ls.flatMap (·.ids)

def V.ids : V → List Nat
  | .w x => x.ids
  | .tup xs => xs.flatMap (·.ids)

def Box.ids : Box → List Nat
  | .var ls => ls.flatMap (·.ids)
  | .hole _ _ _ _ l => l.ids
  | _ => []

def idsOf (bx : Bxs) (ids : List Nat) : List Nat := ids.flatMap fun b => match find bx b with
  | some x => x.ids
  | none => []

/-- What an operation is taken to look at. -/
def lookIds (s : S) (o : Oper) : List Nat :=
  let u := (o.op.operands.toList.map fun x => (s.opv x).ids).flatten
  match o.op with
  | .move _ | .assign _ | .pick .. | .extract .. | .fieldAddr .. | .field .. | .build .. | .binOp .. | .unOp .. | .nilCheck _ | .alloc _ | .makeFunc .. => []
  | .load .. | .indexAddr .. => u
  | _ => let v := u ++ idsOf s.bx u; v ++ idsOf s.bx v

def S.only (s : S) (l : List Nat) : S := { s with bx := s.bx.filter fun p => l.contains p.1 }

/-- An operation that was done: what it came to, and what it leans on. -/
structure Rec where
  dst : Option Nat
  e : Ef
  /-- Boxes whose contents, or whose names, count. -/
  fd : List Nat
  /-- Boxes whose places count. -/
  fh : List Nat

def footD (look : List Nat) (e : Ef) : List Nat := look ++ e.nb.map (·.1)
def footH (s : S) (ops : Array Oper) (o : Oper) (look : List Nat) (e : Ef) : List Nat :=
  ((o.looksAt ops).map fun t => (s.get t).ids).flatten ++ idsOf s.bx look ++ e.v.ids ++ e.nb.flatMap (·.2.ids)

def disj (a b : List Nat) : Bool := a.all fun x => !b.contains x

/-- What must go before each operation. -/
def maskOf (ms : List Nat) : List Edge → Nat
  | [] => 0
  | e :: r => bif Region.binds .any e then (2 ^ e.on ||| ms.getD e.on 0) ||| maskOf ms r else maskOf ms r

def masks : List Oper → List Nat → List Nat
  | [], ms => ms
  | o :: r, ms => masks r (ms ++ [maskOf ms o.after.toList])

/-- The state in which only some of the operations have been done. -/
def inS (L : Nat → Bool) (s : S) : List Rec → Nat → S
  | [], _ => s
  | e :: r, i => inS L (bif L i then s.app e.dst e.e else s) r (i + 1)

def allB : Nat → Bool := fun _ => true

/-- The boxes that are new. -/
def newIds (e : Ef) : List Nat := (e.nb.map (·.1)).filter fun b => !e.D.contains b

def newsOk (bx : Bxs) (es : List Rec) : Bool :=
  let l := es.flatMap fun r => newIds r.e
  nodupB l && l.all fun b => (find bx b).isNone

def opE (E : Env) (h : Hint) (site : Nat) (ops : Array Oper) (o : Oper) (s : S) : Tr Ef :=
  match o.guard with
  | none => eOp E h site o s
  | some (g, b) => match (ops[g]?).bind (·.dst) with
    | some d => match s.get d with
      | .w (.one (.val .bool v)) => .tst v (if b then eOp E h site o s else .ret { v := .w (.one .ud) }) (if b then .ret { v := .w (.one .ud) } else eOp E h site o s)
      | .w (.one .ud) => .ret { v := .w (.one .ud) }
      | _ => .fail
    | none => .fail

def apartL (ops : Array Oper) (x y : Oper) : Bool :=
  (match x.dst with
    | some d => !(y.looksAt ops).contains d && !(y.dst == some d)
    | none => true) &&
  (match y.dst with
    | some d => !(x.looksAt ops).contains d
    | none => true)

/-- Operations that are not ordered do not look at each other, and do each other no harm. -/
def apartAll (ops : Array Oper) (m : Nat) (o : Oper) (r : Rec) : List Oper → List Rec → Nat → Bool
  | x :: xs, q :: qs, i => (m.testBit i || (apartL ops x o && disj q.fd r.e.D && disj q.fh r.e.dead && disj r.fd q.e.D && disj r.fh q.e.dead)) && apartAll ops m o r xs qs (i + 1)
  | [], [], _ => true
  | _, _, _ => false

/-- What is known of a guard is laid down. -/
def known {ρ : Type} (o : Oper) (es : List Rec) (go : List Rec → Option ρ) : Option ρ := match o.guard with
  | none => go es
  | some (g, _) => match es[g]? with
    | some r => match r.e.v with
      | .w (.one (.val .bool v)) => bif v then go (es.set g { r with e := { r.e with v := vB true } }) else go (es.set g { r with e := { r.e with v := vB false } })
      | _ => go es
    | none => go es

theorem known_eq {ρ : Type} {o : Oper} {es : List Rec} {go : List Rec → Option ρ} : known o es go = go es := by
  have set_self : ∀ (es : List Rec) (g : Nat) (r : Rec), es[g]? = some r → es.set g r = es := by
    intro es g r h
    apply List.ext_getElem?
    intro i
    rw [List.getElem?_set]
    split
    · rename_i hi
      subst hi
      split
      · exact h.symm
      · rename_i hl
        rw [List.getElem?_eq_none (by omega)] at h
        cases h
    · rfl
  unfold known
  split
  · rfl
  · rename_i g b hg
    split
    · rename_i r hr
      split
      · rename_i v hv
        have : es.set g { r with e := { r.e with v := vB v } } = es := by
          have he : { r with e := { r.e with v := vB v } } = r := by
            obtain ⟨d, ⟨v0, nb, D, dead⟩, f, f2⟩ := r
            simp only at hv
            subst hv
            rfl
          rw [he]
          exact set_self es g r hr
        cases v with
        | true => rw [cond_true, this]
        | false => rw [cond_false, this]
      · rfl
    · rfl

def evD {ρ : Type} (E : Env) (H : Hints) (r : Nat) (ops : Array Oper) (ms : List Nat) : Nat → List Oper → List Oper → List Rec → (S → Option ρ) → S → Option ρ
  | _, [], _, es, K, s => bif newsOk s.bx es then K (inS allB s es 0) else none
  | j, o :: rest, seg, es, K, s => known o es fun es =>
    let m := ms.getD j 0
    let h := hintAt H r j
    let sj := inS m.testBit s es 0
    let look := lookIds sj o
    bif (o.after.toList.all fun e => !Region.binds .any e || decide (e.on < j)) then
      (opE E h (siteAt H r j) ops o (sj.only look)).run fun e =>
        let rc : Rec := ⟨o.dst, e, footD look e, footH sj ops o look e⟩
        bif nodupB (e.nb.map (·.1)) && e.D.all (fun d => (find sj.bx d).isSome) && apartAll ops m o rc seg es 0 then evD E H r ops ms (j + 1) rest (seg ++ [o]) (es ++ [rc]) K s else none
    else none

/-! ### Code -/

def outK {ρ : Type} (K : Exit → S → Option ρ) : (os : Outs) → outT os → Option ρ
  | [], _ => none
  | [(e, d)], v => K e (d.mk' v)
  | (e, d) :: o :: r, v => Sum.elim (fun a => K e (d.mk' a)) (fun b => outK K (o :: r) b) v

def _root_.Go.Exit.is : Exit → Exit → Bool
  | .exit i, .exit j => i == j
  | .ret, .ret => true
  | .normal, .normal => true
  | _, _ => false

/-- The first way to tell an end that serves. -/
def outOf (e : Exit) (s : S) : (os : Outs) → Option (outT os)
  | [] => none
  | [(e', d)] => bif e'.is e then ext d s else none
  | (e', d) :: o :: r => match (bif e'.is e then ext d s else none) with
    | some v => some (.inl v)
    | none => (outOf e s (o :: r)).map .inr

/-- A loop, told: its head, its ends, and what it comes to. -/
structure Lp where
  hd : Desc
  outs : Outs
  run : (tupT hd.ts).den → Option (outT outs)

/-- One round. -/
def roundK (d : Desc) (os : Outs) (next : (tupT d.ts).den → Option (outT os)) : Exit → S → Option (outT os)
  | .normal, s => (ext d s).bind next
  | e, s => outOf e s os

structure Ctx where
  E : Env
  H : Hints
  lp : List (Nat × Lp)
  /-- Stretches whose ends are told before it goes on: by the region that comes next. -/
  jn : List (Nat × Outs) := []

def evBlock {ρ : Type} (id : Nat) (K : Exit → S → Option ρ) : Exit → S → Option ρ
  | .exit j, s => bif j == id then K .normal s else K (.exit j) s
  | e, s => K e s

def evSeq {ρ : Type} (k : S → Option ρ) (K : Exit → S → Option ρ) : Exit → S → Option ρ
  | .normal, s => k s
  | e, s => K e s

/-- The region that a code begins with. -/
def _root_.Go.Code.first : Code → Option Nat
  | .region r _ _ => some r
  | .seq a _ => a.first
  | .block _ c => c.first
  | .loop c => c.first
  | .cond _ a b => match a.first with
    | some r => some r
    | none => b.first
  | _ => none

def jnOf (X : Ctx) (b : Code) : Option Outs := match X.jn with
  | [] => none
  | l => b.first.bind (find l)

noncomputable def ev (X : Ctx) : {ρ : Type} → Code → (Exit → S → Option ρ) → S → Option ρ
  | _, .skip, K, s => K .normal s
  | _, .region r ops draw, K, s => (gsAll (hintAt X.H r 999).pre s).bind fun s => bif draw then evD X.E X.H r ops (masks ops.toList []) 0 ops.toList [] [] (K .normal) s else evOps X.E X.H r ops 0 ops.toList (K .normal) s
  | _, .seq a b, K, s => match jnOf X b with
    | none => ev X a (evSeq (ev X b K) K) s
    | some os => (ev X a (fun e s => outOf e s os) s).bind (outK (evSeq (ev X b K) K) os)
  | _, .cond c t e, K, s => match s.opv c with
    | .w (.one (.val .bool v)) => bif v then ev X t K (s.setB c true) else ev X e K (s.setB c false)
    | _ => none
  | _, .block id (.loop _), K, s => match find X.lp id with
    | some l => (ext l.hd s).bind fun v => (l.run v).bind (outK (evBlock id K) l.outs)
    | none => none
  | _, .block id b, K, s => ev X b (evBlock id K) s
  | _, .exit id, K, s => K (.exit id) s
  | _, .ret, K, s => K .ret s
  | _, _, _, _ => none

/-! ### Functions -/

/-- A function's results, out of its slots. -/
def resultsOf (E : Env) (s : S) : List ResultVar → Option (List W)
  | [] => some []
  | .tmp t :: r => match s.get t with
    | .w v => (resultsOf E s r).map (v :: ·)
    | _ => none
  | .cell a T :: r => match find E.te T, s.get a with
    | some t, .w (.one l) => (loadP s.bx t l).bind fun v => (resultsOf E s r).map (v :: ·)
    | _, _ => none

def finish (E : Env) (rvs : List ResultVar) (os : Outs) : Exit → S → Option (outT os)
  | .normal, s | .ret, s => (resultsOf E s rvs).bind fun vs => outOf .ret { s with regs := vs.map .w } os
  | _, _ => none

def L.hold : L → L
  | .ptr b o => .ptr b o
  | .clo f cs => if cs.all (fun c => match c with | .ptr _ => true | .fpt _ _ => false) then .clo f cs else .un
  | _ => .un

def bxPins : Bxs → List V
  | [] => []
  | (_, .var ls) :: r => ls.map (fun l => .w (.one l.hold)) ++ bxPins r
  | _ :: r => bxPins r

/-- The state in which a function begins. -/
def entryS (n : Nat) (s : S) : S := { regs := s.regs ++ List.replicate (n - s.regs.length) (.w (.one .un)), bx := s.bx, pins := s.regs ++ bxPins s.bx }

noncomputable def evFn (X : Ctx) (fn : Func) (din : Desc) (os : Outs) (x : (tupT din.ts).den) : Option (outT os) :=
  match fn.body with
  | some c => bif Nat.ble din.n fn.ntmps && os.all (fun p => p.2.n == fn.results.toList.length) then ev X c (finish X.E fn.results.toList os) (entryS fn.ntmps (din.mk' x)) else none
  | none => none

end Go.Fl
/- How states go on: slots, new boxes, boxes that are turned, dropped or forgotten. -/
namespace Go.Fl
open Go

theorem find_mem {α : Type} : ∀ {bx : List (Nat × α)} {b : Nat} {x : α}, find bx b = some x → (b, x) ∈ bx := by
  intro bx
  induction bx with
  | nil => intro b x h; simp [find] at h
  | cons p r ih =>
    intro b x h
    obtain ⟨k, y⟩ := p
    simp only [find] at h
    by_cases hk : k = b
    · subst hk; simp at h; simp [h]
    · have : (k == b) = false := by simpa using hk
      simp only [this, cond_false] at h
      exact List.mem_cons_of_mem _ (ih h)

theorem find_none {α : Type} : ∀ {bx : List (Nat × α)} {b : Nat}, find bx b = none → ∀ p ∈ bx, p.1 ≠ b := by
  intro bx
  induction bx with
  | nil => intro b _ p hp; simp at hp
  | cons q r ih =>
    intro b h p hp
    obtain ⟨k, y⟩ := q
    simp only [find] at h
    by_cases hk : k = b
    · subst hk; simp at h
    · have : (k == b) = false := by simpa using hk
      simp only [this, cond_false] at h
      rcases List.mem_cons.1 hp with rfl | hp
      · exact hk
      · exact ih h p hp

theorem find_cons {α : Type} (k : Nat) (x : α) (bx : List (Nat × α)) (b : Nat) : find ((k, x) :: bx) b = if k = b then some x else find bx b := by
  simp only [find]
  by_cases h : k = b
  · simp [h]
  · have : (k == b) = false := by simpa using h
    simp [this, h]

theorem find_of_mem {α : Type} : ∀ {bx : List (Nat × α)} {b : Nat} {x : α}, (bx.map (·.1)).Nodup → (b, x) ∈ bx → find bx b = some x := by
  intro bx
  induction bx with
  | nil => intro b x _ h; simp at h
  | cons p r ih =>
    intro b x hn h
    obtain ⟨k, y⟩ := p
    rw [find_cons]
    simp only [List.map_cons, List.nodup_cons] at hn
    rcases List.mem_cons.1 h with h | h
    · simp at h; simp [h.1, h.2]
    · have : k ≠ b := fun e => hn.1 (e ▸ List.mem_map.2 ⟨_, h, rfl⟩)
      rw [if_neg this]
      exact ih hn.2 h

theorem mem_owned {bx : Bxs} {γ : Nat → Gh} {b : Nat} {x : Box} (h : find bx b = some x) {n : Nat} (hn : n ∈ (γ b).F) : n ∈ owned bx γ :=
  List.mem_flatten.2 ⟨_, List.mem_map.2 ⟨_, find_mem h, rfl⟩, hn⟩

theorem mem_owned_iff {bx : Bxs} {γ : Nat → Gh} {n : Nat} : n ∈ owned bx γ ↔ ∃ p ∈ bx, n ∈ (γ p.1).F := by
  constructor
  · intro h
    obtain ⟨l, hl, hn⟩ := List.mem_flatten.1 h
    obtain ⟨p, hp, rfl⟩ := List.mem_map.1 hl
    exact ⟨p, hp, hn⟩
  · rintro ⟨p, hp, hn⟩
    exact List.mem_flatten.2 ⟨_, List.mem_map.2 ⟨p, hp, rfl⟩, hn⟩

theorem owned_congr {bx : Bxs} {γ γ' : Nat → Gh} (h : ∀ p ∈ bx, γ' p.1 = γ p.1) : owned bx γ' = owned bx γ := by
  unfold owned
  congr 1
  exact List.map_congr_left fun p hp => by rw [h p hp]

/-! ### A slot -/

theorem getD_set (xs : Array Value) (d r : Nat) (v : Value) (hd : d < xs.size) : (xs.setIfInBounds d v).getD r undef = if d = r then v else xs.getD r undef := by
  simp only [Array.getD_eq_getD_getElem?, Array.getElem?_setIfInBounds]
  by_cases h : d = r
  · subst h; simp [hd]
  · simp [h]

theorem StG.put {w0 w : World} {own0 : Ow} {s : S} {γ : Gam} {a : Act} (h : StG w0 own0 s γ a w) (d : Option Nat) {v : V} {cv : Value}
    (hv : VRel w (okOf w s.bx γ) s.bx γ v cv) : StG w0 own0 (s.put d v) γ (a.put d cv) w := by
  cases d with
  | none => exact h
  | some d =>
    refine ⟨h.inv, fun r u hr => ?_, ?_, h.pins, h.hid, h.hidb, h.fr, h.sub, h.defers⟩
    · simp only [S.put, List.getElem?_set] at hr
      by_cases hd : d = r
      · subst hd
        by_cases hl : d < s.regs.length
        · simp [hl] at hr
          subst hr
          have := h.len
          show VRel w _ _ γ v ((a.tmps.setIfInBounds d cv).getD d undef)
          rw [getD_set _ _ _ _ (by omega), if_pos rfl]; exact hv
        · simp [hl] at hr
      · simp [hd] at hr
        have hh := h.regs r u hr
        have : d < a.tmps.size ∨ ¬ d < a.tmps.size := Nat.lt_or_ge d a.tmps.size |>.imp id Nat.not_lt.2
        show VRel w _ _ γ u ((a.tmps.setIfInBounds d cv).getD r undef)
        rcases this with hs | hs
        · rw [getD_set _ _ _ _ hs, if_neg hd]; exact hh
        · rw [Array.setIfInBounds_eq_of_size_le (Nat.not_lt.1 hs)]; exact hh
    · simp only [S.put, List.length_set, Act.put, Array.size_setIfInBounds]; exact h.len

theorem VRel.un {w : World} {ok : Nat → Prop} {bx : Bxs} {γ : Gam} (cv : Value) : VRel w ok bx γ (.w (.one .un)) cv := trivial

theorem StG.get {w0 w : World} {own0 : Ow} {s : S} {γ : Gam} {a : Act} (h : StG w0 own0 s γ a w) (r : Nat) :
    VRel w (okOf w s.bx γ) s.bx γ (s.get r) (a.tmps.getD r undef) := by
  unfold S.get
  cases hr : s.regs[r]? with
  | none => simp only [List.getD_eq_getElem?_getD, hr]; exact VRel.un _
  | some v => simp only [List.getD_eq_getElem?_getD, hr]; exact h.regs r v hr

theorem constL_rel {w : World} {ok : Nat → Prop} {bx : Bxs} {γ : Gam} (c : Value) : LRel w ok bx γ (constL c) c := by
  cases c with
  | int k n => exact ⟨_, rfl, rfl⟩
  | bool b => exact ⟨_, rfl, rfl⟩
  | string x => exact ⟨_, rfl, rfl⟩
  | slice a n c =>
    cases a with
    | some a => trivial
    | none =>
      cases n with
      | succ n => trivial
      | zero =>
        cases c with
        | succ c => trivial
        | zero => rfl
  | map r =>
    cases r with
    | some r => trivial
    | none => rfl
  | pointer r =>
    cases r with
    | some r => trivial
    | none => rfl
  | _ => trivial

theorem StG.opv {w0 w : World} {own0 : Ow} {s : S} {γ : Gam} {a : Act} (h : StG w0 own0 s γ a w) (x : Operand) :
    VRel w (okOf w s.bx γ) s.bx γ (s.opv x) (a.eval x) := by
  cases x with
  | tmp t => exact h.get t
  | const c => exact constL_rel c
  | global g => trivial
  | func f => exact ⟨[], rfl, .nil⟩

/-! ### A step of the world -/

theorem okOf.mono {w w' : World} {bx bx' : Bxs} {γ γ' : Gam} (hh : γ'.hid = γ.hid) (hs : w.heap.size ≤ w'.heap.size)
    (hk : ∀ n, n < w.heap.size → n ∉ owned bx γ → n ∉ owned bx' γ') : ∀ n, okOf w bx γ n → okOf w' bx' γ' n :=
  fun n h => ⟨Nat.lt_of_lt_of_le h.1 hs, hk n h.1 h.2.1, hh ▸ h.2.2⟩

/-- Another world, other boxes: the slots whose handles are alive are seen as before. -/
theorem StG.step {w0 w w' : World} {own0 : Ow} {s : S} {γ γ' : Gam} {a : Act} {bx' : Bxs} {dead : Nat → Bool} {regs' pins' : List V} (h : StG w0 own0 s γ a w) (hh : γ'.hid = γ.hid)
    (hos : w'.os = w.os) (htape : w'.tape = w.tape) (hout : w'.output = w.output) (hsize : w.heap.size ≤ w'.heap.size)
    (hkeep : ∀ n, n < w.heap.size → n ∉ owned s.bx γ → w'.heap[n]? = w.heap[n]? ∧ n ∉ owned bx' γ')
    (hinv : BInv w' bx' γ') (hown : ∀ n ∈ owned bx' γ', n ∈ owned s.bx γ ∨ w.heap.size ≤ n)
    (hp : Pres id w s.bx γ w' bx' γ' dead)
    (hregs : ∀ (r : Nat) (v : V), regs'[r]? = some v → v = .w (.one .un) ∨ (s.regs[r]? = some v ∧ ∀ b, v.uses b = true → dead b = false) ∨
      VRel w' (okOf w' bx' γ') bx' γ' v (a.tmps.getD r undef)) (hlen : regs'.length ≤ s.regs.length)
    (hpins : ∀ (r : Nat) (v : V), pins'[r]? = some v → v = .w (.one .un) ∨ (s.pins[r]? = some v ∧ ∀ b, v.uses b = true → dead b = false) ∨
      VRel w' (okOf w' bx' γ') bx' γ' v (own0.vals.getD r undef)) :
    StG w0 own0 { regs := regs', bx := bx', pins := pins' } γ' a w' := by
  refine ⟨hinv, fun r v hr => ?_, Nat.le_trans hlen h.len, fun r v hr => ?_, hh.trans h.hid, h.hidb, ?_, fun n hn => ?_, h.defers⟩
  · rcases hregs r v hr with rfl | ⟨h1, h2⟩ | h1
    · trivial
    · exact VRel.mono (fun b hb => (hkeep b hb.1 hb.2.1).1) (okOf.mono hh hsize fun n h1 h2 => (hkeep n h1 h2).2) hp h2 (h.regs r v h1)
    · exact h1
  · rcases hpins r v hr with rfl | ⟨h1, h2⟩ | h1
    · trivial
    · exact VRel.mono (fun b hb => (hkeep b hb.1 hb.2.1).1) (okOf.mono hh hsize fun n h1 h2 => (hkeep n h1 h2).2) hp h2 (h.pins r v h1)
    · exact h1
  · refine h.fr.trans (o' := owned s.bx γ) ⟨hos, htape, hout, hsize, fun k hk hn => (hkeep k hk hn).1⟩ ?_
    exact fun n hn => h.sub n hn
  · rcases hown n hn with h1 | h1
    · exact h.sub n h1
    · exact .inr (Nat.le_trans h.fr.size h1)

theorem heap_push_lt (w : World) (o : Obj) {n : Nat} (h : n < w.heap.size) : ({ w with heap := w.heap.push o } : World).heap[n]? = w.heap[n]? := by
  show (w.heap.push o)[n]? = _
  rw [Array.getElem?_push, if_neg (by omega)]

theorem heap_push_new (w : World) (o : Obj) : ({ w with heap := w.heap.push o } : World).heap[w.heap.size]? = some o := by
  show (w.heap.push o)[w.heap.size]? = _
  simp

theorem StG.hid_lt {w0 w : World} {own0 : Ow} {s : S} {γ : Gam} {a : Act} (h : StG w0 own0 s γ a w) {n : Nat} (hn : n ∈ γ.hid) : n < w.heap.size :=
  Nat.lt_of_lt_of_le (h.hidb.1 n (h.hid ▸ hn)).1 h.fr.size

theorem StG.hid_own {w0 w : World} {own0 : Ow} {s : S} {γ : Gam} {a : Act} (h : StG w0 own0 s γ a w) {n : Nat} (hn : n ∈ γ.hid) : n ∉ owned s.bx γ := by
  have hh := h.hidb.1 n (h.hid ▸ hn)
  intro hm
  rcases h.sub n hm with h1 | h1
  · exact hh.2 h1
  · exact Nat.not_lt.2 h1 hh.1

theorem StG.gk {w0 w : World} {own0 : Ow} {s : S} {γ : Gam} {a : Act} (h : StG w0 own0 s γ a w) : GK w ∧ ∀ n, n < GKn → n < w.heap.size ∧ n ∉ owned s.bx γ := by
  obtain ⟨_, h1, h2⟩ := h.hidb
  refine ⟨GK_mono (fun n hn => h.fr.block n (h2 n hn).1 (h2 n hn).2) h.fr.size h1, fun n hn => ⟨Nat.lt_of_lt_of_le (h2 n hn).1 h.fr.size, fun hm => ?_⟩⟩
  rcases h.sub n hm with h3 | h3
  · exact (h2 n hn).2 h3
  · exact Nat.not_lt.2 h3 (h2 n hn).1

end Go.Fl
/- Types of the program, and the plain operations. -/
namespace Go.Fl
open Go

def zeroCells : Ty → List Value
  | .int k => [.int k 0]
  | .bool => [.bool false]
  | .str => [.string ByteArray.empty]
  | .unit => []
  | .pair a b => zeroCells a ++ zeroCells b
  | .sl _ => [.slice none 0 0]
  | .mp _ => [.map none]
  | .fz t => zeroCells t
  | .hnd f => [hz f]

def FieldsOk (te : List (Nat × Ty)) : List Field → Nat → Ty → Prop
  | [], _, .unit => True
  | f :: fs, off, .pair a b => f.offset = off ∧ find te f.type = some a ∧ a.sz ≠ 0 ∧ FieldsOk te fs (off + a.sz) b
  | _, _, _ => False

def DescOk (P : Program) (te : List (Nat × Ty)) (T : Nat) : Ty → Prop
  | .int k => P.underlying T = some (.int k)
  | .bool => P.underlying T = some .bool
  | .str => P.underlying T = some .string
  | .sl t => ∃ E, P.underlying T = some (.slice E) ∧ find te E = some t
  | .mp t => ∃ K E, P.underlying T = some (.map K E) ∧ P.underlying K = some (.int .i64) ∧ find te E = some t
  | .fz _ => False
  | .hnd false => ∃ E, P.underlying T = some (.pointer E)
  | .hnd true => ∃ a b c, P.underlying T = some (.func a b c)
  | t => ∃ fs, P.underlying T = some (.struct fs) ∧ FieldsOk te fs.toList 0 t

structure TyFact (P : Program) (te : List (Nat × Ty)) (T : Nat) (t : Ty) : Prop where
  info : ∃ i, P.info? T = some i ∧ i.size = t.sz ∧ i.bytes ≤ 65536 ∧ ∃ z, i.zero = some z ∧ z = pack t (zeroCells t)
  desc : DescOk P te T t
  eqs : t.flat = true → t.one = false → P.eqGuardType P.depth T = false ∧ P.stoodInHeld T = false ∧ t.rk ≤ 10000 ∧ ∀ fs, P.underlying T = some (.struct fs) → ∀ f ∈ fs.toList, f.name ≠ "_"

def TyOk (P : Program) (te : List (Nat × Ty)) : Prop := ∀ T t, find te T = some t → TyFact P te T t

section
variable {P : Program} {te : List (Nat × Ty)} {T : Nat} {t : Ty} {w : World}

theorem TyFact.size (h : TyFact P te T t) : (sizeOf T).run P w = .ok t.sz w := by
  obtain ⟨i, hi, hs, _⟩ := h.info
  simp [sizeOf, typeInfo, hi, hs]

theorem TyFact.agg (h : TyFact P te T t) : (isAgg T).run P w = .ok (!t.one) w := by
  have hd := h.desc
  cases t with
  | sl t => obtain ⟨E, h1, _⟩ := hd; simp [isAgg, run_underlying h1, Ty.one]
  | mp t => obtain ⟨K, E, h1, _⟩ := hd; simp [isAgg, run_underlying h1, Ty.one]
  | fz t => exact hd.elim
  | unit => obtain ⟨E, h1, _⟩ := hd; simp [isAgg, run_underlying h1, Ty.one]
  | pair a b => obtain ⟨E, h1, _⟩ := hd; simp [isAgg, run_underlying h1, Ty.one]
  | int k => simp [isAgg, run_underlying (show _ = some _ from hd), Ty.one]
  | bool => simp [isAgg, run_underlying (show _ = some _ from hd), Ty.one]
  | str => simp [isAgg, run_underlying (show _ = some _ from hd), Ty.one]
  | hnd f => cases f with
    | false => obtain ⟨E, h1⟩ := hd; simp [isAgg, run_underlying h1, Ty.one]
    | true => obtain ⟨x, y, z, h1⟩ := hd; simp [isAgg, run_underlying h1, Ty.one]

theorem Ty.one_sz (h : t.one = true) : t.sz = 1 := by
  induction t with
  | fz t ih => exact ih h
  | _ => simp_all [Ty.one, Ty.sz]

theorem pack_cells (cs : List Value) (hl : cs.length = t.sz) (h1 : t.one = true → ∀ v ∈ cs, v.oneCell' = true) : (pack t cs).cells = cs.toArray := by
  unfold pack
  by_cases h : t.one = true
  · rw [if_pos h]
    rw [Ty.one_sz h] at hl
    match cs, hl with
    | [v], _ =>
      have := h1 h v (by simp)
      cases v <;> simp_all [Value.cells, Value.oneCell']
  · rw [if_neg h]; rfl

theorem Rdf.oneCell {ok : Nat → Prop} : ∀ {t : Ty} {x : t.den} {vs : List Value}, Rdf w ok t x vs → ∀ v ∈ vs, v.oneCell' = true := by
  intro t
  induction t with
  | int k => intro x vs h v hv; simp [Rdf] at h; subst h; simp at hv; simp [hv, Value.oneCell']
  | bool => intro x vs h v hv; simp [Rdf] at h; subst h; simp at hv; simp [hv, Value.oneCell']
  | str => intro x vs h v hv; simp [Rdf] at h; subst h; simp at hv; simp [hv, Value.oneCell']
  | unit => intro x vs h v hv; simp [Rdf] at h; subst h; simp at hv
  | pair a b iha ihb =>
    intro x vs h v hv
    obtain ⟨u1, u2, rfl, h1, h2⟩ := h
    rcases List.mem_append.1 hv with hv | hv
    · exact iha h1 v hv
    · exact ihb h2 v hv
  | sl t _ => intro x vs h v hv; obtain ⟨A, c, rfl, _⟩ := h; simp at hv; simp [hv, Value.oneCell']
  | mp t _ => intro x vs h v hv; rcases h with ⟨_, rfl⟩ | ⟨r, es, ck, rfl, _⟩ <;> (simp at hv; simp [hv, Value.oneCell'])
  | fz t ih => intro x vs h v hv; exact ih h v hv
  | hnd f => intro x vs h v hv; simp [Rdf] at h; subst h; simp at hv; subst hv; cases f <;> rfl

theorem Rdo.oneCell {ok : Nat → Prop} : ∀ {t : Ty} {x : t.den} {vs : List Value} {F : List Nat}, Rdo w ok t x vs F → ∀ v ∈ vs, v.oneCell' = true := by
  intro t
  induction t with
  | int k => intro x vs F h v hv; obtain ⟨rfl, _⟩ := h; simp at hv; simp [hv, Value.oneCell']
  | bool => intro x vs F h v hv; obtain ⟨rfl, _⟩ := h; simp at hv; simp [hv, Value.oneCell']
  | str => intro x vs F h v hv; obtain ⟨rfl, _⟩ := h; simp at hv; simp [hv, Value.oneCell']
  | unit => intro x vs F h v hv; obtain ⟨rfl, _⟩ := h; simp at hv
  | pair a b iha ihb =>
    intro x vs F h v hv
    obtain ⟨u1, u2, G, H, rfl, rfl, h1, h2⟩ := h
    rcases List.mem_append.1 hv with hv | hv
    · exact iha h1 v hv
    · exact ihb h2 v hv
  | sl t _ => intro x vs F h v hv; obtain ⟨A, c, rfl, _⟩ := h; simp at hv; simp [hv, Value.oneCell']
  | mp t _ => intro x vs F h; exact h.elim
  | fz t _ => intro x vs F h; exact h.1.oneCell
  | hnd f => intro x vs F h v hv; obtain ⟨rfl, _⟩ := h; simp at hv; subst hv; cases f <;> rfl

theorem LRel.oneCell {ok : Nat → Prop} {bx : Bxs} {γ : Gam} {l : L} {cv : Value} (hu : l ≠ .un) (h : LRel w ok bx γ l cv) (h1 : l.one = true) : cv.oneCell' = true := by
  cases l with
  | un => exact absurd rfl hu
  | ud => cases h1
  | val t x =>
    obtain ⟨cs, hr, rfl⟩ := h
    have hl := hr.len
    rw [Ty.one_sz h1] at hl
    have := hr.oneCell
    unfold pack
    rw [if_pos (show t.one = true from h1)]
    match cs, hl with
    | [v], _ => exact this v (by simp)
  | nil => subst h; rfl
  | mnil => subst h; rfl
  | pnil => subst h; rfl
  | row b => obtain ⟨x, t, n, _, _, rfl⟩ := h; rfl
  | ptr b off => obtain ⟨ls, bl, _, _, rfl⟩ := h; rfl
  | ept b i off => obtain ⟨x, t, n, a, _, _, _, _, rfl⟩ := h; rfl
  | fpt t x => obtain ⟨a, cs, rfl, _⟩ := h; rfl
  | fpp t x => obtain ⟨a, pv, rfl, _⟩ := h; rfl
  | clo f cs => obtain ⟨cvs, rfl, _⟩ := h; rfl
  | vw b lo n => obtain ⟨x, t, m, _, _, _, ⟨_, rfl⟩ | ⟨a, _, k, _, _, rfl⟩⟩ := h <;> rfl
  | mrow b => obtain ⟨t, m, r, _, _, rfl⟩ := h; rfl
  | it b => obtain ⟨t, m, c, r, _, _, rfl⟩ := h; rfl
  | nrow b i off => obtain ⟨x, t, te, n, a, _, _, _, _, _, _, h⟩ := h; exact h
  | nept b i off j o => obtain ⟨a, m, c, te, x, t, n, _, _, _, _, _, _, rfl⟩ := h; rfl
  | nvw b i off lo n => obtain ⟨a, m, c, te, x, t, k, _, _, _, _, _, _, rfl⟩ := h; rfl

/-! ### One operation -/

def OpSim (P : Program) (o : Oper) (s s' : S) : Prop :=
  ∀ (w0 : World) (own0 : Ow) (a : Act) (w : World), St w0 own0 s a w → ∀ (next : Act → World → Prop) (Q : Exit → Act → World → Prop),
    (∀ a' w', St w0 own0 s' a' w' → next a' w') → o.wp P a w next Q

theorem wp_value {o : Oper} {a : Act} {w' : World} {v : Value} {next : Act → World → Prop} {Q : Exit → Act → World → Prop}
    (h : (execOp a.eval o).run P w = .ok (.value v) w') (hn : next (a.put o.dst v) w') : o.wp P a w next Q := by
  simp only [Oper.wp, h, Oper.upon]; exact hn

theorem wp_skip' {o : Oper} {a : Act} {w' : World} {next : Act → World → Prop} {Q : Exit → Act → World → Prop}
    (h : (execOp a.eval o).run P w = .ok .skip w') (hn : next (a.put o.dst undef) w') : o.wp P a w next Q := by
  simp only [Oper.wp, h, Oper.upon]; exact hn

/-- An operation that gives a value and turns nothing. -/
theorem OpSim.pureV {o : Oper} {s : S} {v : V}
    (h : ∀ (w0 : World) (own0 : Ow) (γ : Gam) (a : Act) (w : World), StG w0 own0 s γ a w →
      ∃ cv, (execOp a.eval o).run P w = .ok (.value cv) w ∧ VRel w (okOf w s.bx γ) s.bx γ v cv) : OpSim P o s (s.put o.dst v) := by
  intro w0 own0 a w ⟨γ, hst⟩ next Q hn
  obtain ⟨cv, hr, hv⟩ := h w0 own0 γ a w hst
  exact wp_value hr (hn _ _ ⟨γ, hst.put o.dst hv⟩)

theorem sim_move {o : Oper} {s : S} {x : Operand} (ho : o.op = .move x ∨ o.op = .assign x) : OpSim P o s (s.put o.dst (s.opv x)) := by
  refine OpSim.pureV fun w0 own0 γ a w h => ⟨a.eval x, ?_, h.opv x⟩
  rcases ho with ho | ho <;> simp [execOp, ho]

theorem setB_eq {s : S} {c : Operand} {b : Bool} (h : s.opv c = .w (.one (.val .bool b))) : s.setB c b = s := by
  cases c with
  | tmp r =>
    simp only [S.setB, vB]
    have : s.regs.set r (.w (.one (.val .bool b))) = s.regs := by
      have hg : s.get r = .w (.one (.val .bool b)) := h
      unfold S.get at hg
      apply List.ext_getElem?
      intro i
      rw [List.getElem?_set]
      by_cases hi : r = i
      · subst hi
        by_cases hl : r < s.regs.length
        · simp only [hl, if_true]
          rw [List.getD_eq_getElem?_getD, List.getElem?_eq_getElem hl] at hg
          simp at hg
          rw [List.getElem?_eq_getElem hl, hg]
        · simp [hl]
      · simp [hi]
    rw [this]
  | const c => rfl
  | global g => rfl
  | func f => rfl

theorem bool_of {ok : Nat → Prop} {bx : Bxs} {γ : Gam} {b : Bool} {cv : Value} (h : VRel w ok bx γ (.w (.one (.val .bool b))) cv) : cv = .bool b := by
  obtain ⟨cs, h1, h2⟩ := h
  simp [Rdf] at h1
  subst h1
  simpa [pack, Ty.one] using h2

theorem int_of {ok : Nat → Prop} {bx : Bxs} {γ : Gam} {k : IntKind} {n : Int} {cv : Value} (h : VRel w ok bx γ (.w (.one (.val (.int k) n))) cv) : cv = .int k n := by
  obtain ⟨cs, h1, h2⟩ := h
  simp [Rdf] at h1
  subst h1
  simpa [pack, Ty.one] using h2

theorem str_of {ok : Nat → Prop} {bx : Bxs} {γ : Gam} {z : ByteArray} {cv : Value} (h : VRel w ok bx γ (.w (.one (.val .str z))) cv) : cv = .string z := by
  obtain ⟨cs, h1, h2⟩ := h
  simp [Rdf] at h1
  subst h1
  simpa [pack, Ty.one] using h2

theorem rel_int {ok : Nat → Prop} {bx : Bxs} {γ : Gam} (k : IntKind) (n : Int) : VRel w ok bx γ (vI k n) (.int k n) := ⟨_, rfl, rfl⟩
theorem rel_bool {ok : Nat → Prop} {bx : Bxs} {γ : Gam} (b : Bool) : VRel w ok bx γ (vB b) (.bool b) := ⟨_, rfl, rfl⟩

theorem sim_pick {o : Oper} {s : S} {c x y : Operand} {v : Bool} (ho : o.op = .pick c x y) (hc : s.opv c = .w (.one (.val .bool v))) :
    OpSim P o s (s.put o.dst (if v then s.opv x else s.opv y)) := by
  refine OpSim.pureV fun w0 own0 γ a w h => ⟨if v then a.eval x else a.eval y, ?_, ?_⟩
  · have hb := h.opv c
    rw [hc] at hb
    simp [execOp, ho, bool_of hb, asBool]
  · cases v
    · exact h.opv y
    · exact h.opv x

theorem run_bin {o : Oper} {op : BinOp} {T T2 : Nat} {x y : Operand} {ρ : Operand → Value} {u v r : Value} (ho : o.op = .binOp op T x y T2) (hx : ρ x = u) (hy : ρ y = v)
    (hg : eqGuard op T x y u v = pure ()) (hr : (binOp op T u v).run P w = .ok r w) : (execOp ρ o).run P w = .ok (.value r) w := by
  simp [execOp, ho, hx, hy, hg, hr]

theorem run_equal_bool {p q : Bool} (hu : P.underlying T = some .bool) : (Op.equal T (.bool p) (.bool q)).run P w = .ok (p == q) w := by
  have : ∀ d, (Op.equalIn (d + 1) T (.bool p) (.bool q)).run P w = .ok (p == q) w := by
    intro d
    simp only [Op.equalIn, Sem.run_bind, run_underlying hu, Result.andThen_ok]
    rfl
  exact this 9999

theorem run_add_str (p q : ByteArray) (h : p.size + q.size ≤ lim) : (binOp .add T (.string p) (.string q)).run P w = .ok (.string (p ++ q)) w := by
  have h' : p.size + q.size ≤ 2147483648 := h
  have : ¬ (((p.size + q.size : Nat) : Int) > IntKind.i64.max) := by rw [IntKind.max_i64]; omega
  simp only [binOp, Op.stringOp, if_neg this, Sem.run_pure]

theorem sim_bin {o : Oper} {s : S} {op : BinOp} {T T2 : Nat} {x y : Operand} {l m : L} {v : V} (ho : o.op = .binOp op T x y T2)
    (hte : TyOk P te)
    (hx : s.opv x = .w (.one l)) (hy : s.opv y = .w (.one m)) (h : (binL (find te T) op l m).can v) : OpSim P o s (s.put o.dst v) := by
  refine OpSim.pureV fun w0 own0 γ a w hst => ?_
  have rx := hst.opv x
  have ry := hst.opv y
  rw [hx] at rx
  rw [hy] at ry
  unfold binL at h
  split at h
  · rename_i k p k' q
    split at h
    · obtain ⟨hz, h⟩ | ⟨_, h⟩ := h
      · have hz' : ¬ q < 0 := by simpa using hz
        have h := h.symm
        subst h
        exact ⟨_, run_bin ho (int_of rx) (int_of ry) (by rfl) (by simp only [binOp, Op.shift, if_neg hz', Sem.run_pure]; rfl), ⟨_, rfl, rfl⟩⟩
      · exact h.elim
    · obtain ⟨hz, h⟩ | ⟨_, h⟩ := h
      · have hz' : ¬ q < 0 := by simpa using hz
        have h := h.symm
        subst h
        exact ⟨_, run_bin ho (int_of rx) (int_of ry) (by rfl) (by simp only [binOp, Op.shift, if_neg hz', Sem.run_pure]; rfl), ⟨_, rfl, rfl⟩⟩
      · exact h.elim
    split at h
    · rename_i hk
      subst hk
      have ex := int_of rx
      have ey := int_of ry
      unfold intBin at h
      cases op <;> simp only [Tr.can] at h
      all_goals first
        | (subst h; exact ⟨_, run_bin ho ex ey (eqGuard_at_int ..) (by simp [binOp, Op.intCmp, Op.intArith]; rfl), ⟨_, rfl, rfl⟩⟩)
        | (subst h; exact ⟨_, run_bin ho ex ey (eqGuard_at_int ..) (by simp [binOp, Op.intCmp, Op.intArith]), ⟨_, rfl, rfl⟩⟩)
        | (obtain ⟨_, h⟩ | ⟨hz, h⟩ := h
           · exact h.elim
           · have hz' : q ≠ 0 := by simpa using hz
             subst h
             exact ⟨_, run_bin ho ex ey (eqGuard_at_int ..) (by simp [binOp, Op.intDiv, hz']; rfl), ⟨_, rfl, rfl⟩⟩)
        | exact h.elim
    · exact h.elim
  · rename_i p q
    have ex := bool_of rx
    have ey := bool_of ry
    split at h
    · rename_i ht
      have hu : P.underlying T = some .bool := (hte T .bool ht).desc
      cases op <;> simp only [Tr.can] at h <;> first
        | (subst h; exact ⟨_, run_bin ho ex ey (eqGuard_at_bool ..) (by simp only [binOp, Sem.run_bind, run_equal_bool hu, Result.andThen_ok]; rfl), ⟨_, rfl, rfl⟩⟩)
        | exact h.elim
    · exact h.elim
  · rename_i p q
    have ex := str_of rx
    have ey := str_of ry
    cases op <;> simp only [Tr.can] at h <;> first
      | (subst h; exact ⟨_, run_bin ho ex ey (eqGuard_at_string ..) (by simp [binOp, Op.stringOp]; rfl), ⟨_, rfl, rfl⟩⟩)
      | (obtain ⟨hz, h⟩ | ⟨_, h⟩ := h
         · have hr := run_add_str (P := P) (w := w) (T := T) p q (by simpa using hz)
           subst h
           exact ⟨_, run_bin ho ex ey (eqGuard_at_string ..) hr, ⟨_, rfl, rfl⟩⟩
         · exact h.elim)
      | exact h.elim
  · exact h.elim

end
end Go.Fl
/- Operations that read. -/
namespace Go.Fl
open Go

theorem add_eq {a : Addr} (h : a.spot = none) (n : Nat) : a.add n = ⟨a.block, a.off + n, none⟩ := by
  obtain ⟨b, o, s⟩ := a
  simp at h
  subst h
  unfold Addr.add
  split
  · simp_all
  · rfl

theorem CellsAt.shift {w : World} {a : Addr} {o : Nat} {u v z : List Value} (h : CellsAt w a o (u ++ v ++ z)) : CellsAt w a (o + u.length) v := by
  intro j x hj
  have hlt : j < v.length := by
    rcases Nat.lt_or_ge j v.length with h | h
    · exact h
    · rw [List.getElem?_eq_none h] at hj; cases hj
  have := h (u.length + j) x (by
    rw [List.append_assoc, List.getElem?_append_right (by omega), Nat.add_sub_cancel_left, List.getElem?_append_left hlt]
    exact hj)
  rw [← this]
  congr 1
  congr 1
  omega

theorem CellsAt.move {w : World} {a : Addr} {o : Nat} {us : List Value} (h : CellsAt w a o us) : CellsAt w ⟨a.block, a.off + o, none⟩ 0 us := by
  intro j x hj
  have := h j x hj
  rw [← this]
  rfl

section
variable {P : Program} {te : List (Nat × Ty)} {T : Nat} {t : Ty} {w : World}

theorem run_loadVar {a : Addr} {cs : List Value} (hf : TyFact P te T t) (hl : cs.length = t.sz) (hs : a.spot = none) (hc : CellsAt w a 0 cs) :
    (loadVar T a).run P w = .ok (pack t cs) w := by
  have hcell : ∀ j v, cs[j]? = some v → w.cell? (a.add j) = some v := by
    intro j v hj
    rw [add_eq hs]
    simpa using hc j v hj
  by_cases h1 : t.one = true
  · have hsz := Ty.one_sz h1
    rw [hsz] at hl
    match cs, hl with
    | [v], _ =>
      have hv := hcell 0 v rfl
      have ha : a.add 0 = a := by simp [Addr.add]
      rw [ha] at hv
      simp [loadVar, hf.agg, h1, hv, pack]
  · have h0 : t.one = false := by simpa using h1
    simp only [loadVar, Sem.run_bind, hf.agg, h0, Bool.not_false, Result.andThen_ok, if_true]
    simp only [hf.size, Result.andThen_ok, ← hl, run_loadCells_list w a cs hcell, Sem.run_pure]
    simp [pack, h0]

theorem FieldsOk.at : ∀ {fs : List Field} {off : Nat} {t ft : Ty} {k : Nat}, FieldsOk te fs off t → t.fldTy k = some ft →
    ∃ f, fs[k]? = some f ∧ f.offset = off + t.fldOff k ∧ find te f.type = some ft ∧ ft.sz ≠ 0 := by
  intro fs
  induction fs with
  | nil =>
    intro off t ft k h hk
    cases t <;> first | exact h.elim | (simp [Ty.fldTy] at hk)
  | cons f fs ih =>
    intro off t ft k h hk
    cases t with
    | pair a b =>
      obtain ⟨h1, h2, h3, h4⟩ := h
      cases k with
      | zero => simp [Ty.fldTy] at hk; subst hk; exact ⟨f, rfl, by simp [Ty.fldOff, h1], h2, h3⟩
      | succ k =>
        obtain ⟨g, hg, ho, ht, hz⟩ := ih h4 (show b.fldTy k = some ft from hk)
        exact ⟨g, hg, by rw [ho]; simp [Ty.fldOff]; omega, ht, hz⟩
    | _ => exact h.elim

theorem desc_struct (hf : TyFact P te T t) {ft : Ty} {k : Nat} (hk : t.fldTy k = some ft) :
    ∃ fs, P.underlying T = some (.struct fs) ∧ ∃ f, fs[k]? = some f ∧ f.offset = t.fldOff k ∧ find te f.type = some ft ∧ ft.sz ≠ 0 := by
  have hd := hf.desc
  cases t with
  | pair a b =>
    obtain ⟨fs, h1, h2⟩ := hd
    obtain ⟨f, h3, h4, h5, h6⟩ := h2.at hk
    exact ⟨fs, h1, f, by simpa using h3, by simpa using h4, h5, h6⟩
  | _ => simp [Ty.fldTy] at hk

theorem run_fieldAt (hte : TyOk P te) (hf : TyFact P te T t) {ft : Ty} {k : Nat} (hk : t.fldTy k = some ft) {a : Addr} (hs : a.spot = none) :
    (Instr.fieldAt T (.pointer (some a)) k).run P w = .ok (.pointer (some ⟨a.block, a.off + t.fldOff k, none⟩)) w := by
  obtain ⟨fs, h1, f, h2, h3, h4, h5⟩ := desc_struct hf hk
  simp [Instr.fieldAt, run_underlying h1, h2, Instr.sureAddr, fieldPlace, (hte _ _ h4).size, h5, h3, add_eq hs]

theorem Rdf.fld {ok : Nat → Prop} : ∀ {t : Ty} {x : t.den} {cs : List Value} {k : Nat} {l : L}, Rdf w ok t x cs → t.fldL k x = some l →
    ∃ (ft : Ty) (y : ft.den) (u v z : List Value), l = .val ft y ∧ t.fldTy k = some ft ∧ cs = u ++ v ++ z ∧ u.length = t.fldOff k ∧ Rdf w ok ft y v := by
  intro t
  induction t with
  | pair a b _ ihb =>
    intro x cs k l h hl
    obtain ⟨u, v, rfl, h1, h2⟩ := h
    cases k with
    | zero => simp [Ty.fldL] at hl; exact ⟨a, x.1, [], u, v, hl.symm, rfl, by simp, rfl, h1⟩
    | succ k =>
      obtain ⟨ft, y, u', v', z', h3, h4, h5, h6, h7⟩ := ihb h2 (show b.fldL k x.2 = some l from hl)
      exact ⟨ft, y, u ++ u', v', z', h3, h4, by simp [h5, List.append_assoc], by simp [Ty.fldOff, h1.len, h6], h7⟩
  | _ => intro x cs k l h hl; simp [Ty.fldL] at hl

theorem ex_fieldAddr {o : Oper} {x : Operand} {k : Nat} {ρ : Operand → Value} {v r : Value} (ho : o.op = .fieldAddr T x k) (hv : ρ x = v)
    (hr : (Instr.fieldAt T v k).run P w = .ok r w) : (execOp ρ o).run P w = .ok (.value r) w := by
  simp [execOp, ho, hv, hr]

theorem ex_indexAddr {o : Oper} {x i : Operand} {ρ : Operand → Value} {v u r : Value} (ho : o.op = .indexAddr T x i) (hv : ρ x = v) (hu : ρ i = u)
    (hr : (Instr.indexAt T v u).run P w = .ok r w) : (execOp ρ o).run P w = .ok (.value r) w := by
  simp [execOp, ho, hv, hu, hr]

theorem ex_load {o : Oper} {x : Operand} {ρ : Operand → Value} {v r : Value} (ho : o.op = .load T x) (hv : ρ x = v)
    (hr : (Instr.loadAt T v).run P w = .ok r w) : (execOp ρ o).run P w = .ok (.value r) w := by
  simp [execOp, ho, hv, hr]

theorem sim_fieldAddr {o : Oper} {s : S} {x : Operand} {k : Nat} {l l' : L} (hte : TyOk P te) (ho : o.op = .fieldAddr T x k) (ht : find te T = some t)
    (hx : s.opv x = .w (.one l)) (h : fieldP t k l = some l') : OpSim P o s (s.put o.dst (.w (.one l'))) := by
  refine OpSim.pureV fun w0 own0 γ a w hst => ?_
  have rx := hst.opv x
  rw [hx] at rx
  have hf := hte T t ht
  cases l with
  | ptr b off =>
    simp only [fieldP, Option.map_eq_some_iff] at h
    obtain ⟨ft, hk, rfl⟩ := h
    obtain ⟨ls, bl, h1, h2, h3⟩ := rx
    exact ⟨_, ex_fieldAddr ho h3 (run_fieldAt hte hf hk (a := ⟨bl, off, none⟩) rfl), ⟨ls, bl, h1, h2, rfl⟩⟩
  | ept b i off =>
    simp only [fieldP, Option.map_eq_some_iff] at h
    obtain ⟨ft, hk, rfl⟩ := h
    obtain ⟨z, t', n, ad, h1, h2, h3, h4, h5⟩ := rx
    exact ⟨_, ex_fieldAddr ho h5 (run_fieldAt hte hf hk (a := ⟨ad.block, ad.off + i * t'.sz + off, none⟩) rfl), ⟨z, t', n, ad, h1, h2, h3, h4, by simp [Nat.add_assoc]⟩⟩
  | nept b i off j q =>
    simp only [fieldP, Option.map_eq_some_iff] at h
    obtain ⟨ft, hk, rfl⟩ := h
    obtain ⟨ad, m, c, te', z, t', n, h1, h2, h3, h4, h5, h6, h7⟩ := rx
    exact ⟨_, ex_fieldAddr ho h7 (run_fieldAt hte hf hk (a := ⟨ad.block, ad.off + j * te'.sz + q, none⟩) rfl), ⟨ad, m, c, te', z, t', n, h1, h2, h3, h4, h5, h6, by simp [Nat.add_assoc]⟩⟩
  | fpt t' y =>
    simp only [fieldP] at h
    split at h
    · rename_i ht'
      subst ht'
      simp only [Option.bind_eq_some_iff] at h
      obtain ⟨m, hm, h⟩ := h
      obtain ⟨ad, cs, h1, h2, h3, h4, h5⟩ := rx
      obtain ⟨ft, z, u, v, q, rfl, hk, rfl, hu, hr⟩ := h4.fld hm
      simp at h
      subst h
      refine ⟨_, ex_fieldAddr ho h1 (run_fieldAt hte hf hk h2), ⟨⟨ad.block, ad.off + t'.fldOff k, none⟩, v, rfl, rfl, h3, hr, ?_⟩⟩
      have := h5.shift.move
      rw [hu] at this
      simpa using this
    · cases h
  | _ => simp [fieldP] at h

theorem run_indexAt {E : Nat} {A : Option Addr} {n c : Nat} {k : IntKind} {i : Int} {a : Addr} (hu : P.underlying T = some (.slice E)) (hf : TyFact P te E t) (hA : A = some a) (hs : a.spot = none)
    (h0 : 0 ≤ i) (h1 : i.toNat < n) : (Instr.indexAt T (.slice A n c) (.int k i)).run P w = .ok (.pointer (some ⟨a.block, a.off + i.toNat * t.sz, none⟩)) w := by
  subst hA
  have h2 : i < n := by omega
  simp [Instr.indexAt, run_underlying hu, asIntOf, h0, h2, hf.size, add_eq hs]

theorem desc_sl (hf : TyFact P te T (.sl t)) : ∃ E, P.underlying T = some (.slice E) ∧ find te E = some t := hf.desc

theorem own_head {α : Type} {sz : Nat} {R : α → List Value → List Nat → Prop} {xs : List α} {A : Option Addr} {c : Nat} {F : List Nat} (h : OwnG w sz R xs A c F) {i : Nat} (hi : i < xs.length) :
    ∃ (bl off : Nat) (cells : Array Value) (e : TypeId) (Fs : List (List Nat)), A = some ⟨bl, off, none⟩ ∧ F = bl :: Fs.flatten ∧ w.heap[bl]? = some (.cells cells e (0, 0)) ∧
    xs.length ≤ c ∧ off + c * sz ≤ cells.size ∧ Fs.length = xs.length ∧
    ∀ i (h : i < xs.length) (h' : i < Fs.length), ∃ us, R xs[i] us Fs[i] ∧ us.length = sz ∧ ∀ j v, us[j]? = some v → cells[off + i * sz + j]? = some v := by
  rcases h with ⟨rfl, _⟩ | h
  · simp at hi
  · exact h

/-- The row in an element of a row. -/
theorem nest_row {ok : Nat → Prop} {bx : Bxs} {γ : Nat → Gh} {b i off : Nat} {cv : Value} {tb te' : Ty} {xs : List tb.den} (hinv : OwnG w tb.sz (Rdo w ok tb) xs (γ b).A (γ b).c (γ b).F) {ys : List te'.den} (hn : NestAt w bx γ b i off cv) (hb : find bx b = some (.row tb xs))
    (hg : tb.slGet off (xs.getD i tb.zero) te' = some ys) : ∃ (hi : i < xs.length) (A' : Option Addr) (c' : Nat) (F1 G : List Nat), cv = .slice A' ys.length c' ∧ HoleG w ok tb xs i off cv (γ b).A (γ b).c G ∧
      OwnG w te'.sz (Rdo w ok te') ys A' c' F1 ∧ (γ b).F.Perm (F1 ++ G) ∧ (∃ ad, (γ b).A = some ad ∧ ad.block ∈ G) ∧ tb.slGet off xs[i] te' = some ys := by
  obtain ⟨x, t, t2, n, a, h1, h2, h3, h4, h5, h6, _⟩ := hn
  rw [hb] at h1
  cases h1
  simp [Box.hd] at h2
  obtain ⟨rfl, rfl⟩ := h2
  have hget : xs.getD i tb.zero = xs[i] := by simp [List.getD, h3]
  rw [hget] at hg
  obtain ⟨A', c', F1, G, e1, e2, e3, e4⟩ := OwnG.takeH hinv h3 hg
  have hcv : cv = .slice A' ys.length c' := by
    obtain ⟨bl, o0, cells, e, Fs, hA, _, hh, _, _, _, _, _, hcell, _⟩ := e1
    rw [h4] at hA
    cases hA
    simp only [World.cell?, hh] at h6
    rw [hcell] at h6
    simpa using h6.symm
  subst hcv
  exact ⟨h3, A', c', F1, G, rfl, e1, e2, e3, e4, hg⟩

theorem tr_tst {α : Type} {b : Bool} {t : Tr α} {x : α} (h : (Tr.tst b t .fail).can x) : b = true ∧ t.can x := by
  rcases h with h | ⟨_, h⟩
  · exact h
  · exact h.elim

theorem sim_indexAddr {o : Oper} {s : S} {x i : Operand} {k : IntKind} {n : Int} {l l' : L} (hte : TyOk P te) (ho : o.op = .indexAddr T x i) (ht : find te T = some (.sl t))
    (hx : s.opv x = .w (.one l)) (hi : s.opv i = .w (.one (.val (.int k) n))) (h : (indexP s.bx t n l).can l') : OpSim P o s (s.put o.dst (.w (.one l'))) := by
  refine OpSim.pureV fun w0 own0 γ a w hst => ?_
  have rx := hst.opv x
  have ri := hst.opv i
  rw [hx] at rx
  rw [hi] at ri
  have ei := int_of ri
  obtain ⟨E, hu, hE⟩ := desc_sl (hte T _ ht)
  have hf := hte E _ hE
  cases l with
  | row b =>
    simp only [indexP] at h
    obtain ⟨x2, t2, n2, hb2, hd2, hcv⟩ := rx
    split at h
    · rename_i te' xs hb
      split at h
      · rename_i htt
        have hts : te'.sz = t.sz := by rcases htt with rfl | rfl <;> rfl
        obtain ⟨h0, h⟩ := tr_tst h
        obtain ⟨h1, h⟩ := tr_tst h
        have h0' : 0 ≤ n := by simpa using h0
        have h1' : n.toNat < xs.length := by simpa using h1
        obtain rfl : L.ept b n.toNat 0 = l' := h
        rw [hb] at hb2
        cases hb2
        simp [Box.hd] at hd2
        obtain ⟨rfl, rfl⟩ := hd2
        have hbox := hst.inv.boxes b _ hb
        obtain ⟨bl, off, cells, e, Fs, hA, _⟩ := own_head hbox h1'
        exact ⟨_, ex_indexAddr ho hcv ei (run_indexAt hu hf hA rfl h0' h1'), ⟨_, te', _, _, hb, rfl, h1', hA, by simp [hts]⟩⟩
      · exact h.elim
    · rename_i te' xs k0 o0 l0 hb
      split at h
      · rename_i htt
        subst htt
        obtain ⟨h0, h⟩ := tr_tst h
        obtain ⟨h1, h⟩ := tr_tst h
        have h0' : 0 ≤ n := by simpa using h0
        have h1' : n.toNat < xs.length := by simpa using h1
        obtain rfl : L.ept b n.toNat 0 = l' := h
        rw [hb] at hb2
        cases hb2
        simp [Box.hd] at hd2
        obtain ⟨rfl, rfl⟩ := hd2
        obtain ⟨cv0, hole, _⟩ := hst.inv.boxes b _ hb
        obtain ⟨bl, off, cells, e, Fs, hA, _⟩ := hole
        exact ⟨_, ex_indexAddr ho hcv ei (run_indexAt hu hf hA rfl h0' h1'), ⟨_, te', _, _, hb, rfl, h1', hA, by simp⟩⟩
      · exact h.elim
    · exact h.elim
  | vw b lo m =>
    simp only [indexP] at h
    obtain ⟨x2, t2, n2, hb2, hd2, hle, hcv⟩ := rx
    split at h
    · rename_i te' xs hb
      split at h
      · rename_i htt
        have hts : te'.sz = t.sz := by rcases htt with rfl | rfl <;> rfl
        obtain ⟨h0, h⟩ := tr_tst h
        obtain ⟨h1, h⟩ := tr_tst h
        have h0' : 0 ≤ n := by simpa using h0
        have h1' : n.toNat < m := by simpa using h1
        obtain rfl : L.ept b (lo + n.toNat) 0 = l' := h
        rw [hb] at hb2
        cases hb2
        simp [Box.hd] at hd2
        obtain ⟨rfl, rfl⟩ := hd2
        have hlt : lo + n.toNat < xs.length := by omega
        have hbox := hst.inv.boxes b _ hb
        obtain ⟨bl, off, cells, e, Fs, hA, _⟩ := own_head hbox hlt
        rcases hcv with ⟨rfl, hcv⟩ | ⟨ad, hA2, k2, hk1, hk2, hcv⟩
        · refine ⟨_, ex_indexAddr ho hcv ei (run_indexAt hu hf hA rfl h0' h1'), ⟨_, te', _, _, hb, rfl, hlt, hA, by simp [hts]⟩⟩
        · rw [hA] at hA2
          cases hA2
          have hne : k2 ≠ lo := by omega
          rw [if_neg hne] at hcv
          refine ⟨_, ex_indexAddr ho hcv ei (run_indexAt hu hf (a := ⟨bl, off + lo * te'.sz, none⟩) rfl rfl h0' h1'), ⟨_, te', _, _, hb, rfl, hlt, hA, by simp [hts, Nat.add_mul]; omega⟩⟩
      · exact h.elim
    · exact h.elim
  | nrow b i0 off =>
    simp only [indexP] at h
    split at h
    · rename_i ys hys
      obtain ⟨h0, h⟩ := tr_tst h
      obtain ⟨h1, h⟩ := tr_tst h
      have h0' : 0 ≤ n := by simpa using h0
      have h1' : n.toNat < ys.length := by simpa using h1
      obtain rfl : L.nept b i0 off n.toNat 0 = l' := h
      unfold nrowOf at hys
      split at hys
      · rename_i tb xs hb
        obtain ⟨hi0, A', c', F1, G, hcv, hole, hown, _, _, hget⟩ := nest_row (hst.inv.boxes b _ hb) rx hb hys
        obtain ⟨bl, o2, cells, e, Fs, hA, _⟩ := own_head hown h1'
        subst hA
        exact ⟨_, ex_indexAddr ho hcv ei (run_indexAt hu hf rfl rfl h0' h1'), ⟨_, _, _, t, _, _, _, hcv ▸ rx, rfl, hb, rfl, slGet_at hget, h1', by simp⟩⟩
      · cases hys
    · exact h.elim
  | val t' xs =>
    cases t' with
    | sl te' =>
      simp only [indexP] at h
      split at h
      · rename_i htt
        subst htt
        obtain ⟨h0, h⟩ := tr_tst h
        obtain ⟨h1, h⟩ := tr_tst h
        have h0' : 0 ≤ n := by simpa using h0
        have h1' : n.toNat < List.length xs := by simpa using h1
        obtain rfl : L.fpt te' (List.getD xs n.toNat te'.zero) = l' := h
        obtain ⟨cs, ⟨A, c, rfl, hc, hel⟩, hcv⟩ := rx
        obtain ⟨ad, us, hA, hs, hok, hr, hcell⟩ := hel n.toNat h1'
        have hcv' : a.eval x = .slice A (List.length xs) c := by simpa [pack, Ty.one] using hcv
        refine ⟨_, ex_indexAddr ho hcv' ei (run_indexAt hu hf hA hs h0' h1'), ⟨⟨ad.block, ad.off + n.toNat * te'.sz, none⟩, us, rfl, rfl, hok, ?_, hcell.move⟩⟩
        have : List.getD xs n.toNat te'.zero = xs[n.toNat] := by simp [List.getD, h1']
        rw [this]; exact hr
      · exact h.elim
    | _ => exact h.elim
  | _ => exact h.elim

theorem sim_len {o : Oper} {s : S} {x : Operand} {ts : Array Nat} {l : L} {n : Int} {t : Ty} (ho : o.op = .call { callee := .builtin .len, args := #[x], argTypes := ts })
    (hte : TyOk P te) (hT : ts[0]? = some T) (ht : find te T = some t) (hm : lenOk (some t) l = true)
    (hx : s.opv x = .w (.one l)) (h : lenL s.bx t l = some n) : OpSim P o s (s.put o.dst (vI .i64 n)) := by
  refine OpSim.pureV fun w0 own0 γ a w hst => ?_
  have rx := hst.opv x
  rw [hx] at rx
  have key : ∀ (v : Value) (hv : a.eval x = v) (hr : (Builtin.len_ ts o.type #[v]).run P w = .ok (.int .i64 n) w),
      ∃ cv, (execOp a.eval o).run P w = .ok (.value cv) w ∧ VRel w (okOf w s.bx γ) s.bx γ (vI .i64 n) cv := by
    intro v hv hr
    refine ⟨.int .i64 n, ?_, rel_int _ _⟩
    simp [execOp, ho, resolve, invoke, builtin, hv, hr]
  have hsl : ∀ (A : Option Addr) (m c : Nat), (∃ t', t = .sl t') → (Builtin.len_ ts o.type #[.slice A m c]).run P w = .ok (.int .i64 m) w := by
    rintro A m c ⟨t', rfl⟩
    obtain ⟨E, hu, _⟩ := desc_sl (hte T _ ht)
    simp [Builtin.len_, hT, run_underlying hu, goInt]
  cases l with
  | row b =>
    have hs : ∃ t', t = .sl t' := by cases t <;> first | exact ⟨_, rfl⟩ | (simp [lenOk] at hm)
    obtain ⟨x2, t2, n2, hb2, hd2, hcv⟩ := rx
    simp [lenL, hb2, hd2] at h
    subst h
    exact key _ hcv (hsl _ _ _ hs)
  | vw b lo m =>
    have hs : ∃ t', t = .sl t' := by cases t <;> first | exact ⟨_, rfl⟩ | (simp [lenOk] at hm)
    obtain ⟨x2, t2, n2, hb2, hd2, hle, hcv⟩ := rx
    simp [lenL] at h
    subst h
    rcases hcv with ⟨_, hcv⟩ | ⟨ad, _, k, _, _, hcv⟩
    · exact key _ hcv (hsl _ _ _ hs)
    · exact key _ hcv (hsl _ _ _ hs)
  | nvw b i off lo m =>
    have hs : ∃ t', t = .sl t' := by cases t <;> first | exact ⟨_, rfl⟩ | (simp [lenOk] at hm)
    obtain ⟨ad, m2, c, te2, z, t2, k, _, _, _, _, _, _, hcv⟩ := rx
    simp [lenL] at h
    subst h
    exact key _ hcv (hsl _ _ _ hs)
  | nrow b i off =>
    have hs : ∃ t', t = .sl t' := by cases t <;> first | exact ⟨_, rfl⟩ | (simp [lenOk] at hm)
    obtain ⟨t', rfl⟩ := hs
    simp only [lenL, Option.map_eq_some_iff] at h
    obtain ⟨ys, hys, rfl⟩ := h
    unfold nrowOf at hys
    split at hys
    · rename_i tb xs hb
      obtain ⟨hi0, A', c', F1, G, hcv, _⟩ := nest_row (hst.inv.boxes b _ hb) rx hb hys
      exact key _ hcv (hsl _ _ _ ⟨_, rfl⟩)
    · cases hys
  | nil =>
    have hs : ∃ t', t = .sl t' := by cases t <;> first | exact ⟨_, rfl⟩ | (simp [lenOk] at hm)
    simp [lenL] at h
    subst h
    exact key _ rx (hsl _ _ _ hs)
  | val t' y =>
    cases t' with
    | sl te' =>
      have hs : ∃ t', t = .sl t' := by cases t <;> first | exact ⟨_, rfl⟩ | (simp [lenOk] at hm)
      simp [lenL] at h
      subst h
      obtain ⟨cs, ⟨A, c, rfl, hc, hel⟩, hcv⟩ := rx
      exact key _ (by simpa [pack, Ty.one] using hcv) (hsl _ _ _ hs)
    | str =>
      have hs : t = .str := by cases t <;> first | rfl | (simp [lenOk] at hm)
      subst hs
      simp [lenL] at h
      subst h
      have hu : P.underlying T = some .string := (hte T _ ht).desc
      refine key _ (str_of rx) ?_
      simp [Builtin.len_, hT, run_underlying hu, goInt]
    | _ => simp [lenL] at h
  | _ => simp [lenL] at h

theorem run_loadAt {a : Addr} {r : Value} (h : (loadVar T a).run P w = .ok r w) : (Instr.loadAt T (.pointer (some a))).run P w = .ok r w := by
  simp [Instr.loadAt, Instr.sureAddr, h]

theorem Rdo.noOwn {ok : Nat → Prop} : ∀ {t : Ty} {x : t.den} {vs : List Value} {F : List Nat}, t.noOwn = true → Rdo w ok t x vs F → F = [] ∧ Rdf w ok t x vs := by
  intro t
  induction t with
  | int k => intro x vs F _ h; exact ⟨h.2, h.1⟩
  | bool => intro x vs F _ h; exact ⟨h.2, h.1⟩
  | str => intro x vs F _ h; exact ⟨h.2, h.1⟩
  | unit => intro x vs F _ h; exact ⟨h.2, h.1⟩
  | pair a b iha ihb =>
    intro x vs F hf h
    obtain ⟨u, v, G, H, hv, rfl, h1, h2⟩ := h
    simp only [Ty.noOwn, Bool.and_eq_true] at hf
    obtain ⟨rfl, h3⟩ := iha hf.1 h1
    obtain ⟨rfl, h4⟩ := ihb hf.2 h2
    exact ⟨rfl, u, v, hv, h3, h4⟩
  | sl t _ => intro x vs F hf _; simp [Ty.noOwn] at hf
  | mp t _ => intro x vs F hf _; simp [Ty.noOwn] at hf
  | fz t _ => intro x vs F _ h; exact ⟨h.2, h.1⟩
  | hnd f => intro x vs F hf _; simp [Ty.noOwn] at hf

theorem Rdf.noOwnO {ok : Nat → Prop} : ∀ {t : Ty} {x : t.den} {vs : List Value}, t.noOwn = true → Rdf w ok t x vs → Rdo w ok t x vs [] := by
  intro t
  induction t with
  | int k => intro x vs _ h; exact ⟨h, rfl⟩
  | bool => intro x vs _ h; exact ⟨h, rfl⟩
  | str => intro x vs _ h; exact ⟨h, rfl⟩
  | unit => intro x vs _ h; exact ⟨h, rfl⟩
  | pair a b iha ihb =>
    intro x vs hf h
    obtain ⟨u, v, hv, h1, h2⟩ := h
    simp only [Ty.noOwn, Bool.and_eq_true] at hf
    exact ⟨u, v, [], [], hv, rfl, iha hf.1 h1, ihb hf.2 h2⟩
  | sl t _ => intro x vs hf _; simp [Ty.noOwn] at hf
  | mp t _ => intro x vs hf _; simp [Ty.noOwn] at hf
  | fz t _ => intro x vs _ h; exact ⟨h, rfl⟩
  | hnd f => intro x vs hf _; simp [Ty.noOwn] at hf

theorem Ty.flat_noOwn : ∀ {t : Ty}, t.flat = true → t.noOwn = true := by
  intro t
  induction t with
  | pair a b iha ihb =>
    intro h
    simp only [Ty.flat, Bool.and_eq_true] at h
    simp [Ty.noOwn, iha h.1, ihb h.2]
  | sl t _ => intro h; simp [Ty.flat] at h
  | mp t _ => intro h; simp [Ty.flat] at h
  | hnd f => intro h; simp [Ty.flat] at h
  | _ => intro _; rfl

theorem Rdf.okAny {ok ok' : Nat → Prop} : ∀ {t : Ty} {x : t.den} {cs : List Value}, t.flat = true → Rdf w ok t x cs → Rdf w ok' t x cs := by
  intro t
  induction t with
  | pair a b iha ihb =>
    intro x cs hf h
    obtain ⟨u, v, hv, h1, h2⟩ := h
    simp only [Ty.flat, Bool.and_eq_true] at hf
    exact ⟨u, v, hv, iha hf.1 h1, ihb hf.2 h2⟩
  | sl t _ => intro x cs hf _; simp [Ty.flat] at hf
  | mp t _ => intro x cs hf _; simp [Ty.flat] at hf
  | fz t _ => intro x cs hf _; simp [Ty.flat] at hf
  | _ => intro x cs _ h; exact h

theorem Rdo.okAny {ok ok' : Nat → Prop} : ∀ {t : Ty} {x : t.den} {vs : List Value} {F : List Nat}, t.free = true → Rdo w ok t x vs F → Rdo w ok' t x vs F := by
  intro t
  induction t with
  | pair a b iha ihb =>
    intro x vs F hf h
    obtain ⟨u, v, G, H, hv, hF, h1, h2⟩ := h
    simp only [Ty.free, Bool.and_eq_true] at hf
    exact ⟨u, v, G, H, hv, hF, iha hf.1 h1, ihb hf.2 h2⟩
  | sl t ih =>
    intro x vs F hf h
    obtain ⟨A, c, hv, h⟩ := h
    refine ⟨A, c, hv, ?_⟩
    rcases h with h | ⟨bl, off, cells, e, Fs, hA, hF, hh, hc, hsz, hl, h⟩
    · exact .inl h
    · refine .inr ⟨bl, off, cells, e, Fs, hA, hF, hh, hc, hsz, hl, fun i hi hi' => ?_⟩
      obtain ⟨us, h1, h2, h3⟩ := h i hi hi'
      exact ⟨us, ih hf h1, h2, h3⟩
  | fz t _ => intro x vs F hf _; simp [Ty.free] at hf
  | _ => intro x vs F _ h; exact h

theorem OwnG.okAny {ok ok' : Nat → Prop} {t : Ty} {xs : List t.den} {A : Option Addr} {c : Nat} {F : List Nat} (hf : t.free = true) (h : OwnG w t.sz (Rdo w ok t) xs A c F) : OwnG w t.sz (Rdo w ok' t) xs A c F := by
  obtain ⟨A', c', he, h'⟩ := Rdo.okAny (ok' := ok') (t := .sl t) (x := xs) (vs := [.slice A xs.length c]) hf ⟨A, c, rfl, h⟩
  simp at he
  obtain ⟨rfl, rfl⟩ := he
  exact h'

theorem Rdo.flat {ok ok' : Nat → Prop} {t : Ty} {x : t.den} {vs : List Value} {F : List Nat} (hf : t.flat = true) (h : Rdo w ok t x vs F) : F = [] ∧ Rdf w ok' t x vs :=
  let ⟨h1, h2⟩ := Rdo.noOwn (Ty.flat_noOwn hf) h
  ⟨h1, h2.okAny hf⟩

theorem Rdf.flatO {ok ok' : Nat → Prop} {t : Ty} {x : t.den} {vs : List Value} (hf : t.flat = true) (h : Rdf w ok t x vs) : Rdo w ok' t x vs [] := Rdf.noOwnO (Ty.flat_noOwn hf) (h.okAny hf)

theorem Rdf.leaf {ok : Nat → Prop} : ∀ {t : Ty} {x : t.den} {cs : List Value} {o : Nat} {l : L}, Rdf w ok t x cs → t.leafL o x = some l →
    ∃ (ft : Ty) (y : ft.den) (v : Value), l = .val ft y ∧ ft.one = true ∧ cs[o]? = some v ∧ Rdf w ok ft y [v] := by
  intro t
  induction t with
  | pair a b iha ihb =>
    intro x cs o l h hl
    obtain ⟨u, v, rfl, h1, h2⟩ := h
    simp only [Ty.leafL] at hl
    split at hl
    · rename_i ho
      obtain ⟨ft, y, c, h3, h4, h5, h6⟩ := iha h1 hl
      exact ⟨ft, y, c, h3, h4, by rw [List.getElem?_append_left (by rw [h1.len]; exact ho)]; exact h5, h6⟩
    · rename_i ho
      obtain ⟨ft, y, c, h3, h4, h5, h6⟩ := ihb h2 hl
      exact ⟨ft, y, c, h3, h4, by rw [List.getElem?_append_right (by rw [h1.len]; omega), h1.len]; exact h5, h6⟩
  | unit => intro x cs o l h hl; simp [Ty.leafL] at hl
  | int k =>
    intro x cs o l h hl
    cases o with
    | succ o => simp [Ty.leafL] at hl
    | zero => simp [Ty.leafL] at hl; have h' := h; simp [Rdf] at h'; subst h'; exact ⟨.int k, x, _, hl.symm, rfl, rfl, h⟩
  | bool =>
    intro x cs o l h hl
    cases o with
    | succ o => simp [Ty.leafL] at hl
    | zero => simp [Ty.leafL] at hl; have h' := h; simp [Rdf] at h'; subst h'; exact ⟨.bool, x, _, hl.symm, rfl, rfl, h⟩
  | str =>
    intro x cs o l h hl
    cases o with
    | succ o => simp [Ty.leafL] at hl
    | zero => simp [Ty.leafL] at hl; have h' := h; simp [Rdf] at h'; subst h'; exact ⟨.str, x, _, hl.symm, rfl, rfl, h⟩
  | sl t _ =>
    intro x cs o l h hl
    cases o with
    | succ o => simp [Ty.leafL] at hl
    | zero => simp [Ty.leafL] at hl; have h' := h; obtain ⟨A, c, rfl, _⟩ := h'; exact ⟨.sl t, x, _, hl.symm, rfl, rfl, h⟩
  | mp t _ =>
    intro x cs o l h hl
    cases o with
    | succ o => simp [Ty.leafL] at hl
    | zero => simp [Ty.leafL] at hl; have h' := h; rcases h' with ⟨_, rfl⟩ | ⟨r, es, ck, rfl, _⟩ <;> exact ⟨.mp t, x, _, hl.symm, rfl, rfl, h⟩
  | fz t ih => intro x cs o l h hl; exact ih h hl
  | hnd f => intro x cs o l h hl; simp [Ty.leafL] at hl

theorem Rdo.leaf {ok : Nat → Prop} : ∀ {t : Ty} {x : t.den} {cs : List Value} {F : List Nat} {o : Nat} {ft : Ty} {y : ft.den}, Rdo w ok t x cs F → t.leafL o x = some (.val ft y) → ft.flat = true →
    ∃ (v : Value), ft.one = true ∧ cs[o]? = some v ∧ Rdf w ok ft y [v] := by
  intro t
  induction t with
  | pair a b iha ihb =>
    intro x cs F o ft y h hl hf
    obtain ⟨u, v, G, H, rfl, rfl, h1, h2⟩ := h
    simp only [Ty.leafL] at hl
    split at hl
    · rename_i ho
      obtain ⟨c, h4, h5, h6⟩ := iha h1 hl hf
      exact ⟨c, h4, by rw [List.getElem?_append_left (by rw [h1.len]; exact ho)]; exact h5, h6⟩
    · rename_i ho
      obtain ⟨c, h4, h5, h6⟩ := ihb h2 hl hf
      exact ⟨c, h4, by rw [List.getElem?_append_right (by rw [h1.len]; omega), h1.len]; exact h5, h6⟩
  | unit => intro x cs F o ft y h hl; simp [Ty.leafL] at hl
  | int k =>
    intro x cs F o ft y h hl hf
    cases o with
    | succ o => simp [Ty.leafL] at hl
    | zero => simp [Ty.leafL] at hl; obtain ⟨rfl, hl⟩ := hl; cases hl; obtain ⟨rfl, _⟩ := h; exact ⟨_, rfl, rfl, rfl⟩
  | bool =>
    intro x cs F o ft y h hl hf
    cases o with
    | succ o => simp [Ty.leafL] at hl
    | zero => simp [Ty.leafL] at hl; obtain ⟨rfl, hl⟩ := hl; cases hl; obtain ⟨rfl, _⟩ := h; exact ⟨_, rfl, rfl, rfl⟩
  | str =>
    intro x cs F o ft y h hl hf
    cases o with
    | succ o => simp [Ty.leafL] at hl
    | zero => simp [Ty.leafL] at hl; obtain ⟨rfl, hl⟩ := hl; cases hl; obtain ⟨rfl, _⟩ := h; exact ⟨_, rfl, rfl, rfl⟩
  | sl t _ =>
    intro x cs F o ft y h hl hf
    cases o with
    | succ o => simp [Ty.leafL] at hl
    | zero => simp [Ty.leafL] at hl; obtain ⟨rfl, hl⟩ := hl; simp [Ty.flat] at hf
  | mp t _ => intro x cs F o ft y h; exact h.elim
  | fz t _ =>
    intro x cs F o ft y h hl hf
    obtain ⟨ft', z, v, he, h1, h2, h3⟩ := h.1.leaf hl
    cases he
    exact ⟨v, h1, h2, h3⟩
  | hnd f => intro x cs F o ft y h hl; simp [Ty.leafL] at hl

theorem pack_one {v : Value} (h : t.one = true) : pack t [v] = v := by simp [pack, h]

theorem run_load1 (hf : TyFact P te T t) (h1 : t.one = true) {a : Addr} {v : Value} (hc : w.cell? a = some v) : (loadVar T a).run P w = .ok v w := by
  simp [loadVar, hf.agg, h1, hc]

theorem loadP_rel {bx : Bxs} {γ : Gam} {l : L} {v : W} {cv : Value} (hf : TyFact P te T t) (hinv : BInv w bx γ) (hl : LRel w (okOf w bx γ) bx γ l cv) (h : loadP bx t l = some v) :
    ∃ r, (Instr.loadAt T cv).run P w = .ok r w ∧ WRel w (okOf w bx γ) bx γ v r := by
  cases l with
  | ptr b off =>
    simp only [loadP] at h
    split at h
    · rename_i ls hb
      split at h
      · rename_i hlen
        obtain ⟨ls2, bl, hb2, hA, rfl⟩ := hl
        rw [hb] at hb2
        cases hb2
        obtain ⟨bl2, cs, e, hA2, hF, hh, hone, hcell1, hrel⟩ := hinv.boxes b _ hb
        rw [hA] at hA2
        simp at hA2
        subst hA2
        have hcell : ∀ j c, cs.toList[j]? = some c → w.cell? ⟨bl, j, none⟩ = some c := by
          intro j c hj
          simp only [World.cell?, hh]
          simpa using hj
        have hlc : cs.toList.length = ls.length := (All2.length hrel).symm
        split at h
        · rename_i h1
          simp only [Option.map_eq_some_iff] at h
          obtain ⟨m, hm, rfl⟩ := h
          obtain ⟨c, hc, hr⟩ := All2.get hrel off m hm
          exact ⟨c, run_loadAt (run_load1 hf h1 (hcell _ _ hc)), hr⟩
        · rename_i h1
          cases h
          have hlen2 : ((cs.toList.drop off).take t.sz).length = t.sz := by simp only [List.length_take, List.length_drop]; omega
          have hrun := run_loadVar (P := P) (w := w) (a := ⟨bl, off, none⟩) hf hlen2 rfl (by
            intro j c hj
            have : cs.toList[off + j]? = some c := by
              rw [List.getElem?_take] at hj
              split at hj
              · rwa [List.getElem?_drop] at hj
              · cases hj
            simpa using hcell _ _ this)
          refine ⟨_, run_loadAt hrun, fun m hm => hone m (List.mem_of_mem_drop (List.mem_of_mem_take hm)), _, ?_, fun c hc => hcell1 c (List.mem_of_mem_drop (List.mem_of_mem_take hc)), All2.take (All2.drop hrel off) t.sz⟩
          simp [pack, h1]
      · cases h
    · cases h
  | fpt t' x =>
    simp only [loadP] at h
    split at h
    · rename_i ht
      subst ht
      cases h
      obtain ⟨a, cs, rfl, hs, hok, hr, hc⟩ := hl
      exact ⟨_, run_loadAt (run_loadVar hf hr.len hs hc), cs, hr, rfl⟩
    · cases h
  | fpp t' x =>
    simp only [loadP] at h
    split at h
    · rename_i ht
      subst ht
      cases h
      obtain ⟨a, pv, rfl, hs, hok, hc, hr⟩ := hl
      have hcell : w.cell? a = some pv := by
        have := hc 0 pv rfl
        obtain ⟨bl, of, sp⟩ := a
        simp only at hs
        subst hs
        simpa using this
      exact ⟨pv, run_loadAt (run_load1 hf rfl hcell), hr⟩
    · cases h
  | ept b i off =>
    simp only [loadP] at h
    split at h
    · rename_i te' xs hb
      obtain ⟨x2, t2, n2, ad, hb2, hd2, hi, hA, rfl⟩ := hl
      rw [hb] at hb2
      cases hb2
      simp [Box.hd] at hd2
      obtain ⟨rfl, rfl⟩ := hd2
      obtain ⟨bl, o, cells, e, Fs, hA2, hF, hh, hc, hsz, hFl, hel⟩ := own_head (hinv.boxes b _ hb) hi
      rw [hA] at hA2
      simp at hA2
      subst hA2
      obtain ⟨us, hr, hul, hcs⟩ := hel i hi (by omega)
      have hget : xs.getD i te'.zero = xs[i] := by simp [List.getD, hi]
      have hcell : ∀ j c, us[j]? = some c → w.cell? ⟨bl, o + i * te'.sz + j, none⟩ = some c := by
        intro j c hj
        simp only [World.cell?, hh]
        simpa using hcs j c hj
      split at h
      · rename_i hflat
        obtain ⟨_, hrf⟩ := hr.noOwn hflat
        split at h
        · rename_i ht
          split at h
          · rename_i ho
            subst ho
            simp only [Option.map_eq_some_iff] at h
            obtain ⟨y, hy, rfl⟩ := h
            rw [hget] at hy
            have hts : te'.sz = t.sz := by rcases ht with rfl | rfl <;> rfl
            refine ⟨_, run_loadAt (run_loadVar hf (by rw [← hts]; exact hul) rfl (by intro j c hj; simpa using hcell j c hj)), us, ?_, rfl⟩
            rcases castE_some hy with ⟨h1, rfl⟩ | ⟨h1, rfl⟩ <;> subst h1 <;> exact hrf
          · cases h
        · split at h
          · rename_i h1
            simp only [Option.bind_eq_some_iff] at h
            obtain ⟨m, hm, h⟩ := h
            rw [hget] at hm
            obtain ⟨ft, y, c, rfl, hone, hcc, hrr⟩ := hrf.leaf hm
            simp only at h
            split at h
            · rename_i hft
              subst hft
              cases h
              exact ⟨c, run_loadAt (run_load1 hf h1 (hcell _ _ hcc)), [c], hrr, (pack_one h1).symm⟩
            · cases h
          · cases h
      · split at h
        · rename_i h1
          split at h
          · rename_i hfl
            simp only [Option.bind_eq_some_iff] at h
            obtain ⟨m, hm, h⟩ := h
            rw [hget] at hm
            cases m with
            | val ft y =>
              simp only at h
              split at h
              · rename_i hft
                subst hft
                cases h
                obtain ⟨c, hone, hcc, hrr⟩ := hr.leaf hm hfl
                exact ⟨c, run_loadAt (run_load1 hf h1 (hcell _ _ hcc)), [c], hrr, (pack_one h1).symm⟩
              · cases h
            | _ => cases h
          · split at h
            · rename_i t' hnf
              split at h
              · rename_i hsl
                cases h
                have hsg : ∃ ys, te'.slGet off xs[i] t' = some ys := slAt_get hsl
                obtain ⟨ys, hys⟩ := hsg
                obtain ⟨A', c', F1, G, e1, _⟩ := hr.takeH hys
                have hcc := hcell _ _ e1
                exact ⟨_, run_loadAt (run_load1 hf h1 hcc), _, _, _, _, _, hb, rfl, hi, hA, hsl, hcc, rfl⟩
              · cases h
            · cases h
        · cases h
    · cases h
  | nept b i off j q =>
    simp only [loadP] at h
    split at h
    · rename_i tb xs hb
      split at h
      · rename_i te' hsl
        split at h
        · rename_i hno
          simp only [Option.bind_eq_some_iff] at h
          obtain ⟨ys, hys, h⟩ := h
          obtain ⟨ad, m, c, t3, x2, t2, n2, hn, hsp, hb2, hd2, hsl2, hjm, rfl⟩ := hl
          rw [hb] at hb2
          cases hb2
          simp [Box.hd] at hd2
          obtain ⟨rfl, rfl⟩ := hd2
          rw [hsl] at hsl2
          cases hsl2
          obtain ⟨hi0, A', c', F1, G, hcv, hole, hown, _, _, hget⟩ := nest_row (hinv.boxes b _ hb) hn hb hys
          simp at hcv
          obtain ⟨rfl, rfl, rfl⟩ := hcv
          obtain ⟨bl, o, cells, e, Fs, hA2, hF, hh, hc, hsz, hFl, hel⟩ := own_head hown hjm
          cases hA2
          obtain ⟨us, hr, hul, hcs⟩ := hel j hjm (by omega)
          obtain ⟨_, hrf⟩ := hr.noOwn hno
          have hgj : ys.getD j te'.zero = ys[j] := by simp [List.getD, hjm]
          have hcell : ∀ k c, us[k]? = some c → w.cell? ⟨bl, o + j * te'.sz + k, none⟩ = some c := by
            intro k c hk
            simp only [World.cell?, hh]
            simpa using hcs k c hk
          split at h
          · rename_i ht
            subst ht
            split at h
            · rename_i hq
              subst hq
              cases h
              refine ⟨_, run_loadAt (run_loadVar hf hul rfl (by intro j c hj; simpa using hcell j c hj)), us, ?_, rfl⟩
              rw [hgj]
              simpa [castT] using hrf
            · cases h
          · split at h
            · rename_i h1
              simp only [Option.bind_eq_some_iff] at h
              obtain ⟨m, hm, h⟩ := h
              rw [hgj] at hm
              obtain ⟨ft, y, c, rfl, hone, hcc, hrr⟩ := hrf.leaf hm
              simp only at h
              split at h
              · rename_i hft
                subst hft
                cases h
                exact ⟨c, run_loadAt (run_load1 hf h1 (hcell _ _ hcc)), [c], hrr, (pack_one h1).symm⟩
              · cases h
            · cases h
        · cases h
      · cases h
    · cases h
  | _ => simp [loadP] at h

theorem sim_load {o : Oper} {s : S} {x : Operand} {l : L} {v : W} (hte : TyOk P te) (ho : o.op = .load T x) (ht : find te T = some t)
    (hx : s.opv x = .w (.one l)) (h : loadP s.bx t l = some v) : OpSim P o s (s.put o.dst (.w v)) := by
  refine OpSim.pureV fun w0 own0 γ a w hst => ?_
  have rx := hst.opv x
  rw [hx] at rx
  obtain ⟨r, hr, hv⟩ := loadP_rel (hte T _ ht) hst.inv rx h
  exact ⟨r, ex_load ho rfl hr, hv⟩

end
end Go.Fl
/- More operations that read; operations that make something new. -/
namespace Go.Fl
open Go

section
variable {P : Program} {te : List (Nat × Ty)} {T : Nat} {t : Ty} {w : World}

theorem sim_un {o : Oper} {s : S} {op : UnOp} {x : Operand} {l : L} {v : V} (ho : o.op = .unOp op T x) (hx : s.opv x = .w (.one l)) (h : unL op l = some v) :
    OpSim P o s (s.put o.dst v) := by
  refine OpSim.pureV fun w0 own0 γ a w hst => ?_
  have rx := hst.opv x
  rw [hx] at rx
  unfold unL at h
  split at h
  · rename_i b
    split at h
    · cases h
      refine ⟨.bool (!b), ?_, rel_bool _⟩
      have ex := bool_of rx
      simp [execOp, ho, ex, Op.unary]
    · cases h
  · rename_i k n
    split at h
    · cases h
      have ex := int_of rx
      exact ⟨.int k (k.wrap (0 - n)), by simp [execOp, ho, ex, Op.unary, Op.intArith], rel_int _ _⟩
    · cases h
  · cases h

theorem sim_index {o : Oper} {s : S} {x i : Operand} {k : IntKind} {n : Int} {z : ByteArray} (ho : o.op = .index T x i) (hu : P.underlying T = some .string)
    (hx : s.opv x = .w (.one (.val .str z))) (hi : s.opv i = .w (.one (.val (.int k) n))) (h0 : 0 ≤ n) (h1 : n.toNat < z.size) :
    OpSim P o s (s.put o.dst (vI .u8 ((z.data.getD n.toNat 0).toNat : Int))) := by
  refine OpSim.pureV fun w0 own0 γ a w hst => ?_
  have rx := hst.opv x
  have ri := hst.opv i
  rw [hx] at rx
  rw [hi] at ri
  have ex := str_of rx
  have ei := int_of ri
  refine ⟨.int .u8 ((z.data.getD n.toNat 0).toNat : Int), ?_, rel_int _ _⟩
  have hg : z[n.toNat]? = some (z.data.getD n.toNat 0) := by
    have hsz : n.toNat < z.data.size := h1
    rw [show z[n.toNat]? = (if h : n.toNat < z.size then some z[n.toNat] else none) from rfl, dif_pos h1]
    simp only [Array.getD_eq_getD_getElem?, Array.getElem?_eq_getElem hsz, Option.getD_some]
    rfl
  simp [execOp, ho, ex, ei, Instr.index, asIntOf, run_underlying hu, h0, hg]

theorem sim_extract {o : Oper} {s : S} {x : Operand} {k : Nat} {xs : List W} {v : W} (ho : o.op = .extract x k) (hx : s.opv x = .tup xs) (h : xs[k]? = some v) :
    OpSim P o s (s.put o.dst (.w v)) := by
  refine OpSim.pureV fun w0 own0 γ a w hst => ?_
  have rx := hst.opv x
  rw [hx] at rx
  obtain ⟨cvs, h1, h2⟩ := rx
  obtain ⟨c, hc, hr⟩ := All2.get h2 k v h
  refine ⟨c, ?_, hr⟩
  have : cvs.toArray[k]? = some c := by simpa using hc
  simp [execOp, ho, h1, Instr.extract, hc]

theorem sim_nil {o : Oper} {s : S} {x : Operand} {l : L} (ho : o.op = .nilCheck x) (hx : s.opv x = .w (.one l))
    (h : (∃ b off, l = .ptr b off) ∨ (∃ t y, l = .fpt t y) ∨ (∃ b i off, l = .ept b i off) ∨ ∃ b i off j q, l = .nept b i off j q) : OpSim P o s (s.put o.dst (.w (.one l))) := by
  refine OpSim.pureV fun w0 own0 γ a w hst => ?_
  have rx := hst.opv x
  rw [hx] at rx
  refine ⟨a.eval x, ?_, rx⟩
  have : ∃ ad, a.eval x = .pointer (some ad) := by
    rcases h with ⟨b, off, rfl⟩ | ⟨t, y, rfl⟩ | ⟨b, i, off, rfl⟩ | ⟨b, i, off, j, q, rfl⟩
    · obtain ⟨ls, bl, _, _, h⟩ := rx; exact ⟨_, h⟩
    · obtain ⟨ad, cs, h, _⟩ := rx; exact ⟨_, h⟩
    · obtain ⟨z, t, n, ad, _, _, _, _, h⟩ := rx; exact ⟨_, h⟩
    · obtain ⟨ad, m, c, te, z, t, n, _, _, _, _, _, _, h⟩ := rx; exact ⟨_, h⟩
  obtain ⟨ad, had⟩ := this
  simp [execOp, ho, had]

/-- A closure's captured variables. -/
def capOf (s : S) (x : Operand) : Option Cap :=
  match s.opv x with
  | .w (.one (.ptr b 0)) => some (Cap.ptr b)
  | .w (.one (.fpt t y)) => some (Cap.fpt t y)
  | _ => none

theorem caps_rel {w0 : World} {own0 : Ow} {s : S} {γ : Gam} {a : Act} (hst : StG w0 own0 s γ a w) : ∀ {caps : List Operand} {cs : List Cap},
    caps.mapM (capOf s) = some cs → All2 (CapRel w (okOf w s.bx γ) s.bx γ) cs (caps.map a.eval) := by
  intro caps
  induction caps with
  | nil => intro cs h; simp at h; subst h; exact .nil
  | cons x r ih =>
    intro cs h
    simp only [List.mapM_cons, Option.bind_eq_bind, Option.bind_eq_some_iff, Option.pure_def, Option.some.injEq] at h
    obtain ⟨c, hc, ds, hds, rfl⟩ := h
    refine .cons ?_ (ih hds)
    have rx := hst.opv x
    unfold capOf at hc
    split at hc
    · rename_i b hb; cases hc; rw [hb] at rx; exact rx
    · rename_i t y hb; cases hc; rw [hb] at rx; exact rx
    · cases hc

theorem sim_makeFunc {o : Oper} {s : S} {f : Nat} {caps : Array Operand} {cs : List Cap} (ho : o.op = .makeFunc (.func f) #[] caps)
    (h : caps.toList.mapM (capOf s) = some cs) : OpSim P o s (s.put o.dst (.w (.one (.clo f cs)))) := by
  refine OpSim.pureV fun w0 own0 γ a w hst => ?_
  refine ⟨.func (.func f) #[] (caps.map a.eval), by simp [execOp, ho, Instr.makeFunc], (caps.toList.map a.eval), ?_, caps_rel hst h⟩
  rw [← Array.toList_map, Array.toArray_toList]

/-! ### Structs by value -/

theorem Ty.one_fld {t : Ty} {k : Nat} {f : Ty} (h : t.fldTy k = some f) : t.one = false := by
  cases t <;> first | rfl | (simp [Ty.fldTy] at h)

theorem fldOff_le : ∀ {t : Ty} {k : Nat} {f : Ty}, t.fldTy k = some f → t.fldOff k + f.sz ≤ t.sz := by
  intro t
  induction t with
  | pair a b _ ihb =>
    intro k f h
    cases k with
    | zero => simp [Ty.fldTy] at h; subst h; simp [Ty.fldOff, Ty.sz]
    | succ k => have := ihb (show b.fldTy k = some f from h); simp [Ty.fldOff, Ty.sz]; omega
  | _ => intro k f h; simp [Ty.fldTy] at h

theorem run_field (hte : TyOk P te) (hf : TyFact P te T t) {ft : Ty} {k : Nat} (hk : t.fldTy k = some ft) {cs v : List Value} (hv : (cs.drop (t.fldOff k)).take ft.sz = v) (hl : v.length = ft.sz) :
    (Instr.field T (.agg cs.toArray) k).run P w = .ok (pack ft v) w := by
  obtain ⟨fs, h1, f, h2, h3, h4, h5⟩ := desc_struct hf hk
  have hff := hte _ _ h4
  by_cases hone : ft.one = true
  · have hsz := Ty.one_sz hone
    rw [hsz] at hl hv
    match v, hl with
    | [x], _ =>
      have hx : cs[t.fldOff k]? = some x := by
        have := congrArg (fun l => l[0]?) hv
        simpa [List.getElem?_take, List.getElem?_drop] using this
      simp [Instr.field, run_underlying h1, h2, asAgg, part, hff.agg, hone, h3, hx, pack]
  · have hone' : ft.one = false := by simpa using hone
    simp only [Instr.field, Sem.run_bind, run_underlying h1, Result.andThen_ok, h2, asAgg, Sem.run_pure, part, hff.agg, hone', Bool.not_false, if_true, hff.size, h3]
    simp only [pack, hone', Bool.false_eq_true, if_false]
    congr 2
    rw [← hv]
    simp [List.extract_eq_take_drop]

theorem All2.len_eq {α β : Type} {R : α → β → Prop} {xs : List α} {ys : List β} (h : All2 R xs ys) : ys.length = xs.length := h.length.symm

theorem sim_field {o : Oper} {s : S} {x : Operand} {k : Nat} {v v' : W} (hte : TyOk P te) (ho : o.op = .field T x k) (ht : find te T = some t)
    (hx : s.opv x = .w v) (h : fieldW t k v = some v') : OpSim P o s (s.put o.dst (.w v')) := by
  refine OpSim.pureV fun w0 own0 γ a w hst => ?_
  have rx := hst.opv x
  rw [hx] at rx
  have hf := hte T t ht
  have ex : ∀ {u r : Value}, a.eval x = u → (Instr.field T u k).run P w = .ok r w → (execOp a.eval o).run P w = .ok (.value r) w := by
    intro u r hu hr
    simp [execOp, ho, hu, hr]
  cases v with
  | one l =>
    cases l with
    | val t' y =>
      simp only [fieldW] at h
      split at h
      · rename_i htt
        subst htt
        simp only [Option.map_eq_some_iff] at h
        obtain ⟨m, hm, rfl⟩ := h
        obtain ⟨cs, hr, hcv⟩ := rx
        obtain ⟨ft, z, u, q, r, rfl, hk, rfl, hu, hrr⟩ := hr.fld hm
        have hone := Ty.one_fld hk
        simp only [pack, hone, Bool.false_eq_true, if_false] at hcv
        refine ⟨_, ex hcv (run_field hte hf hk ?_ hrr.len), q, hrr, rfl⟩
        rw [← hu, List.append_assoc, List.drop_left, List.take_append_of_le_length (by rw [hrr.len]; omega), ← hrr.len, List.take_length]
      · cases h
    | _ => simp [fieldW] at h
  | agg ls =>
    simp only [fieldW] at h
    split at h
    · rename_i hls
      simp only [Option.bind_eq_some_iff] at h
      obtain ⟨ft, hk, h⟩ := h
      obtain ⟨hone, cvs, hcv, hcell1, hrel⟩ := rx
      have hle := fldOff_le hk
      have hlc := hrel.len_eq
      have hl : ((cvs.drop (t.fldOff k)).take ft.sz).length = ft.sz := by simp only [List.length_take, List.length_drop]; omega
      refine ⟨_, ex hcv (run_field hte hf hk rfl hl), ?_⟩
      split at h
      · rename_i h1
        simp only [Option.map_eq_some_iff] at h
        obtain ⟨m, hm, rfl⟩ := h
        obtain ⟨c, hc, hr⟩ := All2.get hrel _ m hm
        have hsz := Ty.one_sz h1
        have : (cvs.drop (t.fldOff k)).take ft.sz = [c] := by
          rw [hsz]
          rw [hsz] at hl
          match hq : (cvs.drop (t.fldOff k)).take 1, hl with
          | [y], _ =>
            have := congrArg (fun l => l[0]?) hq
            simp [List.getElem?_take, List.getElem?_drop, hc] at this
            rw [this]
        rw [this, pack_one h1]
        exact hr
      · rename_i h1
        cases h
        refine ⟨fun m hm => hone m (List.mem_of_mem_drop (List.mem_of_mem_take hm)), _, ?_, fun c hc => hcell1 c (List.mem_of_mem_drop (List.mem_of_mem_take hc)), All2.take (All2.drop hrel _) _⟩
        simp [pack, h1]
    · cases h

end
end Go.Fl
/- New boxes in the place of old ones. -/
namespace Go.Fl
open Go

theorem uses_eq {b k : Nat} {d : Nat → Bool} (hb : d b = false) (h : (b == k) = true) : d k = false := by
  have : b = k := by simpa using h
  subst this
  exact hb

theorem L.dead_uses {d : Nat → Bool} {l : L} (h : l.dead d = false) : ∀ b, l.uses b = true → d b = false := by
  intro k hk
  cases l with
  | row b => exact uses_eq h hk
  | ptr b o => exact uses_eq h hk
  | ept b i o => exact uses_eq h hk
  | vw b i o => exact uses_eq h hk
  | mrow b => exact uses_eq h hk
  | it b => exact uses_eq h hk
  | nrow b i o =>
    simp only [L.dead, Bool.or_eq_false_iff] at h
    simp only [L.uses, Bool.or_eq_true] at hk
    exact hk.elim (uses_eq h.1) (uses_eq h.2)
  | nept b i o j q =>
    simp only [L.dead, Bool.or_eq_false_iff] at h
    simp only [L.uses, Bool.or_eq_true] at hk
    exact hk.elim (uses_eq h.1) (uses_eq h.2)
  | nvw b i o j q =>
    simp only [L.dead, Bool.or_eq_false_iff] at h
    simp only [L.uses, Bool.or_eq_true] at hk
    exact hk.elim (uses_eq h.1) (uses_eq h.2)
  | clo f cs =>
    simp only [L.uses, List.any_eq_true] at hk
    obtain ⟨c, hc, hk⟩ := hk
    simp only [L.dead, List.any_eq_false] at h
    have := h c hc
    cases c with
    | ptr b => exact uses_eq (by simpa [Cap.dead] using this) hk
    | fpt t x => simp [Cap.uses] at hk
  | _ => simp [L.uses] at hk

theorem L.kill_cases (d : Nat → Bool) (l : L) : l.kill d = .un ∨ (l.kill d = l ∧ ∀ b, l.uses b = true → d b = false) := by
  unfold L.kill
  cases h : l.dead d with
  | true => exact .inl rfl
  | false => exact .inr ⟨rfl, L.dead_uses h⟩

theorem L.kill_one (d : Nat → Bool) (l : L) (h : l.one = true) : (l.kill d).one = true := by
  rcases L.kill_cases d l with h' | ⟨h', _⟩
  · rw [h']; rfl
  · rw [h']; exact h

section
variable {w w' : World} {ok ok' : Nat → Prop} {bx bx' : Bxs} {γ γ' : Gam} {dead : Nat → Bool}
variable (hw : ∀ b, ok b → w'.heap[b]? = w.heap[b]?) (hok : ∀ b, ok b → ok' b) (hp : Pres id w bx γ w' bx' γ' dead)
include hw hok hp

theorem LRel.kill {l : L} {cv : Value} (h : LRel w ok bx γ l cv) : LRel w' ok' bx' γ' (l.kill dead) cv := by
  rcases L.kill_cases dead l with h' | ⟨h', hd⟩
  · rw [h']; trivial
  · rw [h']; exact LRel.mono hw hok hp hd h

theorem LsRel.kill {ls : List L} {cvs : List Value} (h : LsRel w ok bx γ ls cvs) : LsRel w' ok' bx' γ' (ls.map (·.kill dead)) cvs := by
  unfold LsRel at *
  induction h with
  | nil => exact .nil
  | cons hc _ ih => exact .cons (LRel.kill hw hok hp hc) ih

theorem WRel.kill {x : W} {cv : Value} (h : WRel w ok bx γ x cv) : WRel w' ok' bx' γ' (x.kill dead) cv := by
  cases x with
  | one l => exact LRel.kill hw hok hp h
  | agg ls =>
    obtain ⟨h0, cvs, h1, hc, h2⟩ := h
    refine ⟨fun l hl => ?_, cvs, h1, hc, LsRel.kill hw hok hp h2⟩
    obtain ⟨m, hm, rfl⟩ := List.mem_map.1 hl
    exact L.kill_one _ _ (h0 m hm)

theorem VRel.kill {x : V} {cv : Value} (h : VRel w ok bx γ x cv) : VRel w' ok' bx' γ' (x.kill dead) cv := by
  cases x with
  | w x => exact WRel.kill hw hok hp h
  | tup xs =>
    obtain ⟨cvs, h1, h2⟩ := h
    refine ⟨cvs, h1, ?_⟩
    clear h1
    induction h2 with
    | nil => exact .nil
    | cons hc _ ih => exact .cons (WRel.kill hw hok hp hc) ih

theorem BoxRel.kill {b : Nat} {x : Box} (hg : γ' b = γ b) (hF : ∀ n ∈ (γ b).F, w'.heap[n]? = w.heap[n]?) (h : BoxRel w ok bx γ b x) :
    BoxRel w' ok' bx' γ' b (x.kill dead) := by
  cases x with
  | row t xs => simp only [BoxRel, Box.kill, hg] at h ⊢; exact OwnG.mono (OkTo.of hw hok) hF h
  | var ls =>
    obtain ⟨bl, cs, e, h1, h2, h3, h4, hc, h5⟩ := h
    refine ⟨bl, cs, e, by rw [hg]; exact h1, by rw [hg]; exact h2, by rw [hF bl (by simp [h2])]; exact h3, fun l hl => ?_, hc, LsRel.kill hw hok hp h5⟩
    obtain ⟨m, hm, rfl⟩ := List.mem_map.1 hl
    exact L.kill_one _ _ (h4 m hm)
  | mp t m =>
    obtain ⟨r, es, ck, h1, h2, h3, h4, h5⟩ := h
    exact ⟨r, es, ck, by rw [hg]; exact h1, by rw [hg]; exact h2, by rw [hF r (by simp [h2])]; exact h3, h4, h5.imp fun e _ x hx => hx.mono hw hok⟩
  | it t rest cur =>
    obtain ⟨bl, src, since, last, seen, h1, h2, h3, h4⟩ := h
    refine ⟨bl, src, since, last, seen, by rw [hg]; exact h1, by rw [hg]; exact h2, by rw [hF bl (by simp [h2])]; exact h3, ?_⟩
    rcases h4 with h4 | ⟨r, es, ck, g1, g2, g3, g4, g5, g6, g7, g8⟩
    · exact .inl h4
    · refine .inr ⟨r, es, ck, g1, hok _ g2, by rw [hw _ g2]; exact g3, g4, g5, g6.imp fun e _ x hx => hx.mono hw hok, g7, ?_⟩
      rcases g8 with g8 | ⟨x, e, e1, e2, e3, e4⟩
      · exact .inl g8
      · exact .inr ⟨x, e, e1, e2, e3.mono hw hok, e4⟩
  | hole t xs i o l =>
    obtain ⟨cv, h1, h2, h3, h4⟩ := h
    refine ⟨cv, ?_, LRel.kill hw hok hp h2, h3, L.kill_one _ _ h4⟩
    rw [hg]
    exact h1.mono (OkTo.of hw hok) hF
end

theorem Box.like_kill (d : Nat → Bool) (x : Box) : x.like (x.kill d) := by cases x <;> simp [Box.like, Box.kill, Box.hd]

/-- Where a row's elements lie. -/
theorem row_block {w : World} {ok : Nat → Prop} {bx : Bxs} {γ : Nat → Gh} {b : Nat} {x : Box} {t : Ty} {n i : Nat} (h : BoxRel w ok bx γ b x) (hd : x.hd = some (t, n)) (hi : i < n) :
    ∃ a, (γ b).A = some a ∧ a.block ∈ (γ b).F := by
  cases x with
  | row t' xs =>
    simp [Box.hd] at hd
    obtain ⟨rfl, rfl⟩ := hd
    obtain ⟨bl, off, cells, e, Fs, hA, hF, _⟩ := own_head h hi
    exact ⟨_, hA, by simp [hF]⟩
  | hole t' xs k o l =>
    obtain ⟨cv, ⟨bl, off, cells, e, Fs, hA, hF, _⟩, _⟩ := h
    exact ⟨_, hA, by simp [hF]⟩
  | _ => simp [Box.hd] at hd

theorem Hs.of {w w' : World} {ok : Nat → Prop} {bx : Bxs} {γ : Nat → Gh} {b : Nat} {x : Box} (h : BoxRel w ok bx γ b x) (hF : ∀ n ∈ (γ b).F, w'.heap[n]? = w.heap[n]?) : Hs w w' (γ b) x := by
  intro t n hd a ha i off te hi _
  obtain ⟨a', ha', hm⟩ := row_block h hd hi
  rw [ha] at ha'
  cases ha'
  exact cell_same (hF _ hm) _

theorem find_append {α : Type} (xs ys : List (Nat × α)) (b : Nat) : find (xs ++ ys) b = (find xs b).or (find ys b) := by
  induction xs with
  | nil => rfl
  | cons p r ih =>
    obtain ⟨k, x⟩ := p
    simp only [List.cons_append, find_cons, ih]
    split <;> rfl

theorem find_filter_map {α : Type} (D : Nat → Bool) (f : α → α) : ∀ (xs : List (Nat × α)) (b : Nat),
    find ((xs.filter fun p => !D p.1).map fun p => (p.1, f p.2)) b = if D b then none else (find xs b).map f := by
  intro xs
  induction xs with
  | nil => intro b; simp [find]
  | cons p r ih =>
    intro b
    obtain ⟨k, x⟩ := p
    rw [find_cons]
    by_cases hk : D k = true
    · simp only [List.filter_cons, hk, Bool.not_true, Bool.false_eq_true, if_false, ih]
      by_cases hkb : k = b
      · subst hkb; simp [hk]
      · simp [hkb]
    · have hk' : D k = false := by simpa using hk
      simp only [List.filter_cons, hk', Bool.not_false, if_true, List.map_cons, find_cons, ih]
      by_cases hkb : k = b
      · subst hkb; simp [hk']
      · simp [hkb]

/-! ### What is owned is owned once -/

theorem owned_append (xs ys : Bxs) (γ : Nat → Gh) : owned (xs ++ ys) γ = owned xs γ ++ owned ys γ := by simp [owned]

theorem owned_cons (p : Nat × Box) (ys : Bxs) (γ : Nat → Gh) : owned (p :: ys) γ = (γ p.1).F ++ owned ys γ := by simp [owned]

theorem owned_map (f : Box → Box) (xs : Bxs) (γ : Nat → Gh) : owned (xs.map fun p => (p.1, f p.2)) γ = owned xs γ := by
  unfold owned
  rw [List.map_map]
  rfl

theorem owned_filter_mem {xs : Bxs} {γ : Nat → Gh} {q : Nat × Box → Bool} {n : Nat} (h : n ∈ owned (xs.filter q) γ) : n ∈ owned xs γ := by
  obtain ⟨p, hp, hn⟩ := mem_owned_iff.1 h
  exact mem_owned_iff.2 ⟨p, (List.mem_filter.1 hp).1, hn⟩

theorem owned_filter_nodup {xs : Bxs} {γ : Nat → Gh} (q : Nat × Box → Bool) (h : (owned xs γ).Nodup) : (owned (xs.filter q) γ).Nodup := by
  induction xs with
  | nil => simpa using h
  | cons p r ih =>
    rw [owned_cons, List.nodup_append] at h
    by_cases hq : q p = true
    · simp only [List.filter_cons, hq, if_true, owned_cons, List.nodup_append]
      exact ⟨h.1, ih h.2.1, fun a ha b hb => h.2.2 a ha b (owned_filter_mem hb)⟩
    · simp only [List.filter_cons, hq, Bool.false_eq_true, if_false]
      exact ih h.2.1

theorem owned_split {xs : Bxs} {γ : Nat → Gh} {q : Nat × Box → Bool} (h : (owned xs γ).Nodup) {n : Nat} (h1 : n ∈ owned (xs.filter q) γ) (h2 : n ∈ owned (xs.filter fun p => !q p) γ) : False := by
  induction xs with
  | nil => simp [owned] at h1
  | cons p r ih =>
    rw [owned_cons, List.nodup_append] at h
    by_cases hq : q p = true
    · simp only [List.filter_cons, hq, Bool.not_true, if_true, Bool.false_eq_true, if_false, owned_cons, List.mem_append] at h1 h2
      rcases h1 with h1 | h1
      · exact h.2.2 n h1 n (owned_filter_mem h2) rfl
      · exact ih h.2.1 h1 h2
    · have hq' : q p = false := by simpa using hq
      simp only [List.filter_cons, hq', Bool.not_false, if_true, Bool.false_eq_true, if_false, owned_cons, List.mem_append] at h1 h2
      rcases h2 with h2 | h2
      · exact h.2.2 n h2 n (owned_filter_mem h1) rfl
      · exact ih h.2.1 h1 h2

theorem owned_cases {xs : Bxs} {γ : Nat → Gh} (q : Nat × Box → Bool) {n : Nat} (h : n ∈ owned xs γ) : n ∈ owned (xs.filter q) γ ∨ n ∈ owned (xs.filter fun p => !q p) γ := by
  obtain ⟨p, hp, hn⟩ := mem_owned_iff.1 h
  cases hq : q p
  · exact .inr (mem_owned_iff.2 ⟨p, List.mem_filter.2 ⟨hp, by simp [hq]⟩, hn⟩)
  · exact .inl (mem_owned_iff.2 ⟨p, List.mem_filter.2 ⟨hp, hq⟩, hn⟩)

/-- The ghosts of new boxes over the old ones. -/
def over (nb : Bxs) (g : Nat → Gh) (γ : Gam) : Gam := ⟨fun k => if (find nb k).isSome then g k else γ k, γ.hid⟩

theorem over_new {nb : Bxs} {g : Nat → Gh} {γ : Gam} {k : Nat} {x : Box} (h : find nb k = some x) : over nb g γ k = g k := by simp [over, h]
theorem over_old {nb : Bxs} {g : Nat → Gh} {γ : Gam} {k : Nat} (h : find nb k = none) : over nb g γ k = γ k := by simp [over, h]

theorem find_isSome {α : Type} {bx : List (Nat × α)} {p : Nat × α} (h : p ∈ bx) : ∃ x, find bx p.1 = some x := by
  cases hf : find bx p.1 with
  | some x => exact ⟨x, rfl⟩
  | none => exact absurd rfl (find_none hf p h)

theorem StG.reb {w0 w w' : World} {own0 : Ow} {s : S} {γ : Gam} {a : Act} (h : StG w0 own0 s γ a w) {nb : Bxs} {D dead : Nat → Bool} {g : Nat → Gh}
    (hos : w'.os = w.os) (htape : w'.tape = w.tape) (hout : w'.output = w.output) (hsize : w.heap.size ≤ w'.heap.size)
    (hkeep : ∀ n, n < w.heap.size → n ∉ owned (s.bx.filter fun p => D p.1) γ → w'.heap[n]? = w.heap[n]?)
    (hsites : (nb.map (·.1)).Nodup) (hnew : ∀ p ∈ nb, D p.1 = true ∨ find s.bx p.1 = none)
    (hgn : (owned nb g).Nodup) (hgs : ∀ n ∈ owned nb g, n < w'.heap.size ∧ (w.heap.size ≤ n ∨ n ∈ owned (s.bx.filter fun p => D p.1) γ))
    (hlike : ∀ b x, dead b = false → D b = true → find s.bx b = some x → ∃ y, find nb b = some y ∧ x.like y ∧ (g b).A = (γ b).A ∧ (x.hd.isSome = true → (g b).c = (γ b).c) ∧ (dead (nid b) = false → Hs w w' (γ b) x))
    (hbox : (∀ n, okOf w s.bx γ n → okOf w' (s.reb nb D dead).bx (over nb g γ) n) → (∀ n, okOf w s.bx γ n → w'.heap[n]? = w.heap[n]?) →
      Pres id w s.bx γ w' (s.reb nb D dead).bx (over nb g γ) dead →
      ∀ b x, find nb b = some x → BoxRel w' (okOf w' (s.reb nb D dead).bx (over nb g γ)) (s.reb nb D dead).bx (over nb g γ) b x) :
    StG w0 own0 (s.reb nb D dead) (over nb g γ) a w' ∧ (∀ n, okOf w s.bx γ n → okOf w' (s.reb nb D dead).bx (over nb g γ) n) ∧ (∀ n, okOf w s.bx γ n → w'.heap[n]? = w.heap[n]?) ∧
      Pres id w s.bx γ w' (s.reb nb D dead).bx (over nb g γ) dead := by
  have hold : ∀ p ∈ s.bx.filter (fun p => !D p.1), find nb p.1 = none := by
    intro p hp
    obtain ⟨hp, hD⟩ := List.mem_filter.1 hp
    have hD' : D p.1 = false := by simpa using hD
    cases hf : find nb p.1 with
    | none => rfl
    | some x =>
      rcases hnew _ (find_mem hf) with h1 | h1
      · simp [hD'] at h1
      · obtain ⟨y, hy⟩ := find_isSome hp
        simp only at h1
        rw [h1] at hy; cases hy
  have hownN : owned nb (over nb g γ) = owned nb g := owned_congr fun p hp => by
    obtain ⟨x, hx⟩ := find_isSome hp
    exact over_new hx
  have hownO : owned (s.bx.filter fun p => !D p.1) (over nb g γ) = owned (s.bx.filter fun p => !D p.1) γ := owned_congr fun p hp => over_old (hold p hp)
  have hown : owned (s.reb nb D dead).bx (over nb g γ) = owned nb g ++ owned (s.bx.filter fun p => !D p.1) γ := by
    simp only [S.reb, owned_append, owned_map, hownN, hownO]
  have hk : ∀ n, n < w.heap.size → n ∉ owned s.bx γ → w'.heap[n]? = w.heap[n]? ∧ n ∉ owned (s.reb nb D dead).bx (over nb g γ) := by
    intro n hn hno
    refine ⟨hkeep n hn fun hm => hno (owned_filter_mem hm), fun hm => ?_⟩
    rw [hown, List.mem_append] at hm
    rcases hm with hm | hm
    · rcases (hgs n hm).2 with h1 | h1
      · omega
      · exact hno (owned_filter_mem h1)
    · exact hno (owned_filter_mem hm)
  have hfind : ∀ b, find (s.reb nb D dead).bx b = (find nb b).or (if D b then none else (find s.bx b).map (·.kill dead)) := by
    intro b
    simp only [S.reb, find_append, find_filter_map D (fun x : Box => x.kill dead)]
  have hp : Pres id w s.bx γ w' (s.reb nb D dead).bx (over nb g γ) dead := by
    intro b x hd hx
    cases hD : D b with
    | true =>
      obtain ⟨y, hy, hl, hA, hc, hs⟩ := hlike b x hd hD hx
      exact ⟨y, by rw [id, hfind, hy]; rfl, hl, by rw [id, over_new hy]; exact hA, by rw [id, over_new hy]; exact hc, hs⟩
    | false =>
      have hn : find nb b = none := hold (b, x) (List.mem_filter.2 ⟨find_mem hx, by simp [hD]⟩)
      refine ⟨x.kill dead, by rw [id, hfind, hn, hD, hx]; rfl, Box.like_kill dead x, by rw [id, over_old hn], fun _ => by rw [id, over_old hn], fun _ => Hs.of (h.inv.boxes b x hx) fun n hnF => ?_⟩
      have hlt := h.inv.below n (mem_owned hx hnF)
      refine hkeep n hlt fun hm => ?_
      exact owned_split (q := fun p => D p.1) h.inv.apart hm (mem_owned_iff.2 ⟨(b, x), List.mem_filter.2 ⟨find_mem hx, by simp [hD]⟩, hnF⟩)
  have hok := okOf.mono (γ := γ) (γ' := over nb g γ) rfl hsize fun n h1 h2 => (hk n h1 h2).2
  have hwk : ∀ n, okOf w s.bx γ n → w'.heap[n]? = w.heap[n]? := fun n hn => (hk n hn.1 hn.2.1).1
  refine ⟨?_, hok, hwk, hp⟩
  refine h.step (dead := dead) (γ' := over nb g γ) rfl hos htape hout hsize hk ?_ ?_ hp ?_ (by simp) (regs' := s.regs.map (·.kill dead)) (pins' := s.pins.map (·.kill dead)) ?_
  · refine ⟨?_, ?_, ?_, ?_⟩
    · simp only [S.reb, List.map_append, List.map_map]
      refine List.nodup_append.2 ⟨hsites, ?_, ?_⟩
      · have : ((s.bx.filter fun p => !D p.1).map (·.1)).Nodup := (List.Sublist.map _ List.filter_sublist).nodup h.inv.sites
        exact this
      · intro x hx y hy hxy
        subst hxy
        obtain ⟨p, hp', rfl⟩ := List.mem_map.1 hx
        obtain ⟨q, hq, he⟩ := List.mem_map.1 hy
        obtain ⟨z, hz⟩ := find_isSome hp'
        have := hold q hq
        simp only [Function.comp] at he
        rw [he, hz] at this; cases this
    · show (owned (s.reb nb D dead).bx (over nb g γ)).Nodup
      rw [hown]
      refine List.nodup_append.2 ⟨hgn, owned_filter_nodup _ h.inv.apart, fun x hx y hy hxy => ?_⟩
      subst hxy
      rcases (hgs x hx).2 with h1 | h1
      · have := h.inv.below x (owned_filter_mem hy); omega
      · exact owned_split (q := fun p => D p.1) h.inv.apart h1 hy
    · intro n hn
      replace hn : n ∈ owned (s.reb nb D dead).bx (over nb g γ) := hn
      rw [hown, List.mem_append] at hn
      rcases hn with hn | hn
      · exact (hgs n hn).1
      · exact Nat.lt_of_lt_of_le (h.inv.below n (owned_filter_mem hn)) hsize
    · intro b x hx
      replace hx : find (s.reb nb D dead).bx b = some x := hx
      rw [hfind] at hx
      cases hn : find nb b with
      | some y =>
        rw [hn] at hx
        simp at hx
        subst hx
        exact hbox hok hwk hp b y hn
      | none =>
        rw [hn] at hx
        simp only [Option.none_or] at hx
        cases hD : D b with
        | true => simp [hD] at hx
        | false =>
          simp only [hD, Bool.false_eq_true, if_false, Option.map_eq_some_iff] at hx
          obtain ⟨y, hy, rfl⟩ := hx
          refine BoxRel.kill hwk hok hp (over_old hn) (fun n hnF => ?_) (h.inv.boxes b y hy)
          have hlt := h.inv.below n (mem_owned hy hnF)
          refine hkeep n hlt fun hm => ?_
          exact owned_split (q := fun p => D p.1) h.inv.apart hm (mem_owned_iff.2 ⟨(b, y), List.mem_filter.2 ⟨find_mem hy, by simp [hD]⟩, hnF⟩)
  · intro n hn
    replace hn : n ∈ owned (s.reb nb D dead).bx (over nb g γ) := hn
    rw [hown, List.mem_append] at hn
    rcases hn with hn | hn
    · rcases (hgs n hn).2 with h1 | h1
      · exact .inr h1
      · exact .inl (owned_filter_mem h1)
    · exact .inl (owned_filter_mem hn)
  · intro r v hr
    simp only [List.getElem?_map, Option.map_eq_some_iff] at hr
    obtain ⟨u, hu, rfl⟩ := hr
    exact .inr (.inr (VRel.kill hwk hok hp (h.regs r u hu)))
  · intro r v hr
    simp only [List.getElem?_map, Option.map_eq_some_iff] at hr
    obtain ⟨u, hu, rfl⟩ := hr
    exact .inr (.inr (VRel.kill hwk hok hp (h.pins r u hu)))

end Go.Fl
/- Operations that make something new, and stores. -/
namespace Go.Fl
open Go

theorem L.dead_noB (l : L) : l.dead noB = false := by
  cases l with
  | clo f cs =>
    simp only [L.dead, List.any_eq_false]
    intro c _
    cases c <;> simp [Cap.dead, noB]
  | _ => simp [L.dead, noB]

theorem L.kill_noB (l : L) : l.kill noB = l := by simp [L.kill, L.dead_noB]

theorem map_kill_noB (ls : List L) : ls.map (·.kill noB) = ls := by
  induction ls with
  | nil => rfl
  | cons l r ih => simp [L.kill_noB, ih]

theorem W.kill_noB (x : W) : x.kill noB = x := by
  cases x with
  | one l => simp [W.kill, L.kill_noB]
  | agg ls => simp only [W.kill, map_kill_noB]

theorem V.kill_noB (v : V) : v.kill noB = v := by
  cases v with
  | w x => simp [V.kill, W.kill_noB]
  | tup xs =>
    have : xs.map (·.kill noB) = xs := by
      induction xs with
      | nil => rfl
      | cons l r ih => simp [W.kill_noB, ih]
    simp only [V.kill, this]

theorem Box.kill_noB (x : Box) : x.kill noB = x := by
  cases x with
  | var ls => simp only [Box.kill, map_kill_noB]
  | hole t xs i o l => simp only [Box.kill, L.kill_noB]
  | _ => rfl

theorem re0_eq (s : S) (nb : Bxs) (D : Nat → Bool) : s.re0 nb D = s.reb nb D noB := by
  unfold S.re0 S.reb
  have h1 : ∀ l : List V, l.map (·.kill noB) = l := by
    intro l
    induction l with
    | nil => rfl
    | cons l r ih => simp [V.kill_noB]
  have h2 : ∀ l : Bxs, (l.map fun p => (p.1, p.2.kill noB)) = l := by
    intro l
    induction l with
    | nil => rfl
    | cons p r ih => simp [Box.kill_noB]
  rw [h1, h1, h2]

section
variable {P : Program} {te : List (Nat × Ty)} {T : Nat} {t : Ty} {w : World}

/-! ### The cells of a value -/

theorem Ty.leaves_rel {ok : Nat → Prop} {bx : Bxs} {γ : Gam} : ∀ {t : Ty} {x : t.den} {cs : List Value}, Rdf w ok t x cs → LsRel w ok bx γ (t.leaves x) cs ∧ ∀ l ∈ t.leaves x, l.one = true := by
  intro t
  induction t with
  | pair a b iha ihb =>
    intro x cs h
    obtain ⟨u, v, rfl, h1, h2⟩ := h
    obtain ⟨r1, o1⟩ := iha h1
    obtain ⟨r2, o2⟩ := ihb h2
    exact ⟨All2.append r1 r2, fun l hl => (List.mem_append.1 hl).elim (o1 l) (o2 l)⟩
  | unit => intro x cs h; simp [Rdf] at h; subst h; exact ⟨.nil, fun l hl => by simp [Ty.leaves] at hl⟩
  | int k => intro x cs h; have h' := h; simp [Rdf] at h'; subst h'; exact ⟨.cons ⟨_, h, rfl⟩ .nil, fun l hl => by simp [Ty.leaves] at hl; subst hl; rfl⟩
  | bool => intro x cs h; have h' := h; simp [Rdf] at h'; subst h'; exact ⟨.cons ⟨_, h, rfl⟩ .nil, fun l hl => by simp [Ty.leaves] at hl; subst hl; rfl⟩
  | str => intro x cs h; have h' := h; simp [Rdf] at h'; subst h'; exact ⟨.cons ⟨_, h, rfl⟩ .nil, fun l hl => by simp [Ty.leaves] at hl; subst hl; rfl⟩
  | sl t _ => intro x cs h; have h' := h; obtain ⟨A, c, rfl, _⟩ := h'; exact ⟨.cons ⟨_, h, rfl⟩ .nil, fun l hl => by simp [Ty.leaves] at hl; subst hl; rfl⟩
  | mp t _ =>
    intro x cs h
    have hone : ∀ l ∈ Ty.leaves (.mp t) x, l.one = true := fun l hl => by simp [Ty.leaves] at hl; subst hl; rfl
    have h' := h
    rcases h' with ⟨_, rfl⟩ | ⟨r, es, ck, rfl, _⟩
    · exact ⟨.cons ⟨_, h, rfl⟩ .nil, hone⟩
    · exact ⟨.cons ⟨_, h, rfl⟩ .nil, hone⟩
  | fz t ih => intro x cs h; exact ih h
  | hnd f => intro x cs h; simp [Rdf] at h; subst h; exact ⟨.cons trivial .nil, fun l hl => by simp [Ty.leaves] at hl; subst hl; rfl⟩

theorem W.leaves_rel {ok : Nat → Prop} {bx : Bxs} {γ : Gam} {v : W} {cv : Value} (h : WRel w ok bx γ v cv) (hl : v.leaves ≠ [] ∨ ∃ t x, v = .one (.val t x) ∨ ∃ ls, v = .agg ls) :
    ∃ cs, cv.cells = cs.toArray ∧ LsRel w ok bx γ v.leaves cs ∧ (∀ l ∈ v.leaves, l.one = true) ∧ (∀ c ∈ cs, c.oneCell' = true) ∧ (cv = .agg cs.toArray ∨ cs = [cv]) := by
  cases v with
  | agg ls =>
    obtain ⟨h0, cvs, rfl, h1, h2⟩ := h
    exact ⟨cvs, rfl, h2, h0, h1, .inl rfl⟩
  | one l =>
    have key : ∀ (hone : l.one = true) (hu : l ≠ .un) (hlv : (W.one l).leaves = [l]), ∃ cs, cv.cells = cs.toArray ∧ LsRel w ok bx γ (W.one l).leaves cs ∧ (∀ m ∈ (W.one l).leaves, m.one = true) ∧ (∀ c ∈ cs, c.oneCell' = true) ∧ (cv = .agg cs.toArray ∨ cs = [cv]) := by
      intro hone hu hlv
      have h1 := LRel.oneCell hu h hone
      refine ⟨[cv], ?_, by rw [hlv]; exact .cons h .nil, by rw [hlv]; simpa using hone, by simpa using h1, .inr rfl⟩
      cases cv <;> simp_all [Value.cells, Value.oneCell']
    cases l with
    | val t x =>
      obtain ⟨cs, hr, rfl⟩ := h
      obtain ⟨h1, h2⟩ := Ty.leaves_rel (bx := bx) (γ := γ) hr
      refine ⟨cs, pack_cells cs hr.len fun _ => hr.oneCell, h1, h2, hr.oneCell, ?_⟩
      by_cases ho : t.one = true
      · right
        have hlen := hr.len
        rw [Ty.one_sz ho] at hlen
        match cs, hlen with
        | [c], _ => rw [pack_one ho]
      · left; simp [pack, ho]
    | un =>
      exfalso
      rcases hl with hl | ⟨t, x, hl⟩
      · simp [W.leaves] at hl
      · rcases hl with hl | ⟨ls, hl⟩ <;> cases hl
    | ud =>
      exfalso
      rcases hl with hl | ⟨t, x, hl⟩
      · simp [W.leaves] at hl
      · rcases hl with hl | ⟨ls, hl⟩ <;> cases hl
    | _ => exact key rfl (by simp) rfl

theorem Ty.zeros_rel {ok : Nat → Prop} {bx : Bxs} {γ : Gam} : ∀ (t : Ty), LsRel w ok bx γ t.zeros (zeroCells t) ∧ (∀ l ∈ t.zeros, l.one = true) ∧ ∀ c ∈ zeroCells t, c.oneCell' = true := by
  intro t
  induction t with
  | pair a b iha ihb =>
    obtain ⟨r1, o1, c1⟩ := iha
    obtain ⟨r2, o2, c2⟩ := ihb
    exact ⟨All2.append r1 r2, fun l hl => (List.mem_append.1 hl).elim (o1 l) (o2 l), fun l hl => (List.mem_append.1 hl).elim (c1 l) (c2 l)⟩
  | unit => exact ⟨.nil, fun l hl => by simp [Ty.zeros] at hl, fun l hl => by simp [zeroCells] at hl⟩
  | int k => exact ⟨.cons ⟨_, rfl, rfl⟩ .nil, fun l hl => by simp [Ty.zeros] at hl; subst hl; rfl, fun l hl => by simp [zeroCells] at hl; subst hl; rfl⟩
  | bool => exact ⟨.cons ⟨_, rfl, rfl⟩ .nil, fun l hl => by simp [Ty.zeros] at hl; subst hl; rfl, fun l hl => by simp [zeroCells] at hl; subst hl; rfl⟩
  | str => exact ⟨.cons ⟨_, rfl, rfl⟩ .nil, fun l hl => by simp [Ty.zeros] at hl; subst hl; rfl, fun l hl => by simp [zeroCells] at hl; subst hl; rfl⟩
  | sl t _ => exact ⟨.cons rfl .nil, fun l hl => by simp [Ty.zeros] at hl; subst hl; rfl, fun l hl => by simp [zeroCells] at hl; subst hl; rfl⟩
  | mp t _ => exact ⟨.cons rfl .nil, fun l hl => by simp [Ty.zeros] at hl; subst hl; rfl, fun l hl => by simp [zeroCells] at hl; subst hl; rfl⟩
  | fz t ih => exact ih
  | hnd f =>
    cases f with
    | false => exact ⟨.cons rfl .nil, fun l hl => by simp [Ty.zeros] at hl; subst hl; rfl, fun l hl => by simp [zeroCells] at hl; subst hl; rfl⟩
    | true => exact ⟨.cons trivial .nil, fun l hl => by simp [Ty.zeros] at hl; subst hl; rfl, fun l hl => by simp [zeroCells] at hl; subst hl; rfl⟩

theorem zeroCells_len : ∀ (t : Ty), (zeroCells t).length = t.sz := by
  intro t
  induction t with
  | pair a b iha ihb => simp [zeroCells, Ty.sz, iha, ihb]
  | fz t ih => exact ih
  | _ => rfl

/-! ### New variables -/

theorem run_newVar {T : Nat} {v : Value} : (newVar T v).run P w = .ok ⟨w.heap.size, 0, none⟩ { w with heap := w.heap.push (.cells v.cells T) } := by
  simp [newVar, newRow]

/-- A new box with a new block. -/
theorem StG.new {w0 : World} {own0 : Ow} {s : S} {γ : Gam} {a : Act} (h : StG w0 own0 s γ a w) {site : Nat} (hs : find s.bx site = none) (o : Obj) (x : Box) (g : Gh)
    (hg : g.F = [w.heap.size] ∨ g.F = [])
    (hx : ∀ (ok' : Nat → Prop) (bx' : Bxs) (γ' : Gam), (∀ n, okOf w s.bx γ n → ok' n) → (∀ n, okOf w s.bx γ n → ({ w with heap := w.heap.push o } : World).heap[n]? = w.heap[n]?) →
      Pres id w s.bx γ { w with heap := w.heap.push o } bx' γ' noB → γ' site = g → BoxRel { w with heap := w.heap.push o } ok' bx' γ' site x) :
    ∃ γ', γ' site = g ∧ StG w0 own0 (s.re0 [(site, x)] noB) γ' a { w with heap := w.heap.push o } ∧ find (s.re0 [(site, x)] noB).bx site = some x := by
  rw [re0_eq]
  have hD : s.bx.filter (fun p => noB p.1) = [] := by simp [noB]
  have hfind : find [(site, x)] site = some x := by simp [find]
  have hownn : owned [(site, x)] (fun _ => g) = g.F := by simp [owned]
  refine ⟨over [(site, x)] (fun _ => g) γ, over_new hfind, ?_, by simp [S.reb, find]⟩
  refine (h.reb (w' := { w with heap := w.heap.push o }) (nb := [(site, x)]) (D := noB) (dead := noB) (g := fun _ => g) rfl rfl rfl (by simp) ?_ (by simp) ?_ ?_ ?_ ?_ ?_).1
  · intro n hn _; exact heap_push_lt w o hn
  · intro p hp; simp at hp; subst hp; exact .inr hs
  · rw [hownn]; rcases hg with hg | hg <;> simp [hg]
  · rw [hownn]; intro n hn
    rcases hg with hg | hg
    · rw [hg] at hn; simp at hn; subst hn; simp
    · rw [hg] at hn; simp at hn
  · intro b y _ hb; simp [noB] at hb
  · intro hok hwk hp b y hb
    simp only [find_cons] at hb
    split at hb
    · rename_i hsb; subst hsb; cases hb; exact hx _ _ _ hok hwk hp (over_new hfind)
    · simp [find] at hb

/-! ### Reading values -/

/-- Boxes that may be read: they are boxes of the state, and what they own counts as readable. -/
structure Rdb (w : World) (ok ok' : Nat → Prop) (bx BX : Bxs) (γ : Gam) : Prop where
  sub : ∀ b x, find bx b = some x → find BX b = some x
  box : ∀ b x, find bx b = some x → BoxRel w ok BX γ b x
  blk : ∀ b x, find bx b = some x → ∀ n ∈ (γ b).F, ok' n

theorem Rdb.nil (w : World) (ok ok' : Nat → Prop) (BX : Bxs) (γ : Gam) : Rdb w ok ok' [] BX γ := ⟨fun b x h => by simp [find] at h, fun b x h => by simp [find] at h, fun b x h => by simp [find] at h⟩

/-- What a part of a row is, as a slice. -/
def PartHd (A : Option Addr) (c sz lo n : Nat) (cv : Value) : Prop :=
  (lo = 0 ∧ cv = .slice A n c) ∨ ∃ a, A = some a ∧ ∃ k, lo + n ≤ k ∧ k = c ∧ cv = .slice (some (if k = lo then a else ⟨a.block, a.off + lo * sz, none⟩)) n (k - lo)

theorem Rdf.part {ok : Nat → Prop} {xs : List t.den} {A : Option Addr} {c lo n : Nat} {cv : Value} (h : Rdf w ok (.sl t) xs [.slice A (List.length xs) c]) (hle : lo + n ≤ List.length xs) (hp : PartHd A c t.sz lo n cv) :
    Rdf w ok (.sl t) ((xs.drop lo).take n) [cv] := by
  obtain ⟨A', c', he, hc, hel⟩ := h
  simp at he
  obtain ⟨rfl, rfl⟩ := he
  have hlen : ((xs.drop lo).take n).length = n := by simp; omega
  have hgi : ∀ i (hi : i < ((xs.drop lo).take n).length), ((xs.drop lo).take n)[i] = xs[lo + i]'(by omega) := by
    intro i hi
    simp
  rcases hp with ⟨rfl, rfl⟩ | ⟨a, rfl, k, hk1, hk2, rfl⟩
  · refine ⟨A, c, by rw [hlen], by rw [hlen]; omega, fun i hi => ?_⟩
    obtain ⟨a, us, e1, e2, e3, e4, e5⟩ := hel (0 + i) (by omega)
    refine ⟨a, us, e1, e2, e3, by rw [hgi i hi]; exact e4, ?_⟩
    simpa using e5
  · refine ⟨some (if k = lo then a else ⟨a.block, a.off + lo * t.sz, none⟩), k - lo, by rw [hlen], by rw [hlen]; omega, fun i hi => ?_⟩
    have hne : k ≠ lo := by omega
    rw [if_neg hne]
    obtain ⟨a', us, e1, e2, e3, e4, e5⟩ := hel (lo + i) (by omega)
    cases e1
    refine ⟨_, us, rfl, rfl, e3, by rw [hgi i hi]; exact e4, fun j v hj => ?_⟩
    have := e5 j v hj
    rw [← this]
    congr 2
    simp [Nat.add_mul]; omega

section
variable {ok ok' : Nat → Prop} {bx BX : Bxs} {γ : Gam} (hb : Rdb w ok ok' bx BX γ) (hok : ∀ n, ok n → ok' n)
include hb hok

omit hb hok in
theorem castRow_rdf {te' : Ty} {xs : List te'.den} {y : t.den} {A : Option Addr} {c : Nat} (hr : Rdf w ok' (.sl te') xs [.slice A (List.length xs) c]) (h : castRow te' t xs = some y) :
    ∃ cs, Rdf w ok' t y cs ∧ .slice A (List.length xs) c = pack t cs := by
  rcases castRow_some h with ⟨h1, rfl⟩ | ⟨t1, h1, h2, rfl⟩
  · subst h1; exact ⟨_, hr, by simp [pack, Ty.one]⟩
  · subst h2 h1; exact ⟨_, hr, by simp [pack, Ty.one]⟩

theorem rdL_rel {l : L} {cv : Value} {y : t.den} (hv : LRel w ok BX γ l cv) (h : rdL bx t l = some y) : ∃ cs, Rdf w ok' t y cs ∧ cv = pack t cs := by
  have hrow : ∀ {b te' xs}, find bx b = some (.row te' xs) → Rdf w ok' (.sl te') xs [.slice (γ b).A (List.length xs) (γ b).c] := by
    intro b te' xs hbx
    have this : Rdo w ok (.sl te') xs [.slice (γ b).A (List.length xs) (γ b).c] (γ b).F := ⟨_, _, rfl, hb.box _ _ hbx⟩
    exact this.freeze hok (hb.blk _ _ hbx)
  cases l with
  | val t' x =>
    obtain ⟨rfl, rfl⟩ := castT_some h
    obtain ⟨cs, h1, h2⟩ := hv
    exact ⟨cs, h1.mono (fun _ _ => rfl) hok, h2⟩
  | row b =>
    simp only [rdL] at h
    split at h
    · rename_i te' xs hbx
      obtain ⟨x2, t2, n2, hb2, hd2, hcv⟩ := hv
      rw [hb.sub _ _ hbx] at hb2
      cases hb2
      simp [Box.hd] at hd2
      obtain ⟨rfl, rfl⟩ := hd2
      rw [hcv]
      exact castRow_rdf (hrow hbx) h
    · cases h
  | vw b lo n =>
    simp only [rdL] at h
    split at h
    · rename_i te' xs hbx
      obtain ⟨x2, t2, n2, hb2, hd2, hle, hcv⟩ := hv
      rw [hb.sub _ _ hbx] at hb2
      cases hb2
      simp [Box.hd] at hd2
      obtain ⟨rfl, rfl⟩ := hd2
      have hr := Rdf.part (hrow hbx) hle hcv
      have hr0 := hr
      obtain ⟨A', c', he, _⟩ := hr0
      simp only [List.cons.injEq, and_true] at he
      rw [he] at hr ⊢
      exact castRow_rdf hr h
    · cases h
  | nrow b i off =>
    simp only [rdL] at h
    split at h
    · rename_i tb xs hbx
      split at h
      · rename_i te'
        obtain ⟨hi0, A', c', F1, G, rfl, hole, hown, hperm, _, _⟩ := nest_row (hb.box _ _ hbx) hv (hb.sub _ _ hbx) h
        have this : Rdo w ok (.sl te') y [.slice A' (List.length y) c'] F1 := ⟨_, _, rfl, hown⟩
        exact ⟨_, this.freeze hok fun n hn => hb.blk _ _ hbx n (hperm.mem_iff.2 (List.mem_append_left _ hn)), by simp [pack, Ty.one]⟩
      · cases h
    · cases h
  | mrow b =>
    simp only [rdL] at h
    split at h
    · rename_i te' m hbx
      obtain ⟨t2, m2, r, hb2, hA, rfl⟩ := hv
      rw [hb.sub _ _ hbx] at hb2
      cases hb2
      obtain ⟨rfl, rfl⟩ := castT_some h
      obtain ⟨r', es, ck, h1, h2, h3, h4, h5⟩ := hb.box _ _ hbx
      rw [hA] at h1
      cases h1
      have hl := h5.length
      refine ⟨[.map (some r)], .inr ⟨r, es, ck, rfl, hb.blk _ _ hbx r (by simp [h2]), h3, h4, by simpa using hl, fun i hi hi' => ?_⟩, by simp [pack, Ty.one]⟩
      obtain ⟨e, he, hk, us, hu, hvv⟩ := h5.get i es[i] (by simp [hi'])
      rw [List.getElem?_eq_getElem hi] at he
      cases he
      exact ⟨hk, us, hu.mono (fun _ _ => rfl) hok, hvv⟩
    · cases h
  | nil =>
    cases t with
    | sl t =>
      simp [rdL] at h
      subst h
      exact ⟨[.slice none 0 0], ⟨none, 0, rfl, Nat.le_refl _, fun i hi => absurd hi (Nat.not_lt_zero _)⟩, by simp only [LRel] at hv; simp [pack, Ty.one, hv]⟩
    | _ => simp [rdL] at h
  | mnil =>
    cases t with
    | mp t =>
      simp [rdL] at h
      subst h
      exact ⟨[.map none], .inl ⟨rfl, rfl⟩, by simp only [LRel] at hv; simp [pack, Ty.one, hv]⟩
    | _ => simp [rdL] at h
  | _ => simp [rdL] at h

theorem rdL_one (h1 : t.one = true) {l : L} {cv : Value} {y : t.den} (hv : LRel w ok BX γ l cv) (h : rdL bx t l = some y) : Rdf w ok' t y [cv] := by
  obtain ⟨cs, hr, rfl⟩ := rdL_rel hb hok hv h
  have hl := hr.len
  rw [Ty.one_sz h1] at hl
  match cs, hl with
  | [c], _ => rw [pack_one h1]; exact hr

theorem rdLs_rel : ∀ {t : Ty} {ls : List L} {cvs : List Value} {p : t.den × List L}, LsRel w ok BX γ ls cvs → rdLs bx t ls = some p →
    ∃ u v, cvs = u ++ v ∧ Rdf w ok' t p.1 u ∧ LsRel w ok BX γ p.2 v := by
  intro t
  have one : ∀ {t : Ty} (h1 : t.one = true) {ls : List L} {cvs : List Value} {p : t.den × List L}, LsRel w ok BX γ ls cvs →
      (match ls with | l :: r => (rdL bx t l).map (·, r) | [] => none) = some p → ∃ u v, cvs = u ++ v ∧ Rdf w ok' t p.1 u ∧ LsRel w ok BX γ p.2 v := by
    intro t h1 ls cvs p hr h
    cases ls with
    | nil => cases h
    | cons l r =>
      simp only [Option.map_eq_some_iff] at h
      obtain ⟨y, hy, rfl⟩ := h
      cases hr with
      | cons h0 ht => exact ⟨[_], _, rfl, rdL_one hb hok h1 h0 hy, ht⟩
  induction t with
  | unit => intro ls cvs p hr h; simp [rdLs] at h; subst h; exact ⟨[], cvs, rfl, rfl, hr⟩
  | pair a b iha ihb =>
    intro ls cvs p hr h
    simp only [rdLs, Option.bind_eq_some_iff, Option.map_eq_some_iff] at h
    obtain ⟨q, hq, r, hr', rfl⟩ := h
    obtain ⟨u, v, rfl, h1, h2⟩ := iha hr hq
    obtain ⟨u', v', rfl, h3, h4⟩ := ihb h2 hr'
    exact ⟨u ++ u', v', by simp, ⟨u, u', rfl, h1, h3⟩, h4⟩
  | int k => intro ls cvs p hr h; exact one rfl hr h
  | bool => intro ls cvs p hr h; exact one rfl hr h
  | str => intro ls cvs p hr h; exact one rfl hr h
  | sl t _ => intro ls cvs p hr h; exact one rfl hr h
  | mp t _ => intro ls cvs p hr h; exact one rfl hr h
  | fz t ih => intro ls cvs p hr h; exact ih hr h
  | hnd f => intro ls cvs p hr h; simp [rdLs] at h

theorem rdW_rel {v : W} {cv : Value} {y : t.den} (hv : WRel w ok BX γ v cv) (h : rdW bx t v = some y) : ∃ cs, Rdf w ok' t y cs ∧ cv = pack t cs := by
  cases v with
  | one l => exact rdL_rel hb hok hv h
  | agg ls =>
    simp only [rdW] at h
    split at h
    · cases h
    · rename_i h1
      simp only [Option.bind_eq_some_iff] at h
      obtain ⟨p, hp, h⟩ := h
      obtain ⟨_, cvs, rfl, _, hrel⟩ := hv
      obtain ⟨u, v, rfl, h2, h3⟩ := rdLs_rel hb hok hrel hp
      split at h
      · rename_i hp2
        cases h
        rw [hp2] at h3
        cases h3
        refine ⟨u, h2, ?_⟩
        simp [pack, h1]
      · cases h

theorem rdV_rel {v : V} {cv : Value} {y : t.den} (hv : VRel w ok BX γ v cv) (h : rdV bx t v = some y) : ∃ cs, Rdf w ok' t y cs ∧ cv = pack t cs := by
  cases v with
  | w x => exact rdW_rel hb hok hv h
  | tup xs => simp [rdV] at h
end

/-! ### Reading what is owned -/

def FsOf (γ : Nat → Gh) (ds : List Nat) : List Nat := (ds.map fun d => (γ d).F).flatten

section
variable {ok : Nat → Prop} {bx : Bxs} {γ : Gam} (hinv : ∀ b t xs, find bx b = some (.row t xs) → OwnG w t.sz (Rdo w ok t) xs (γ b).A (γ b).c (γ b).F)
include hinv

theorem ownL_rel {l : L} {cv : Value} {p : t.den × List Nat} (hv : LRel w ok bx γ l cv) (h : ownL bx t l = some p) :
    ∃ cs, Rdo w ok t p.1 cs (FsOf γ p.2) ∧ cv = pack t cs ∧ ∀ d ∈ p.2, ∃ te xs, find bx d = some (.row te xs) := by
  cases l with
  | val t' x =>
    simp only [ownL] at h
    split at h
    · rename_i hfl
      simp only [Option.map_eq_some_iff] at h
      obtain ⟨y, hy, rfl⟩ := h
      obtain ⟨rfl, rfl⟩ := castT_some hy
      obtain ⟨cs, h1, h2⟩ := hv
      exact ⟨cs, h1.flatO hfl, h2, fun d hd => by simp at hd⟩
    · cases h
  | row b =>
    simp only [ownL] at h
    split at h
    · rename_i te' xs hbx
      simp only [Option.map_eq_some_iff] at h
      obtain ⟨y, hy, rfl⟩ := h
      obtain ⟨rfl, rfl⟩ := castT_some hy
      obtain ⟨x2, t2, n2, hb2, hd2, hcv⟩ := hv
      rw [hbx] at hb2
      cases hb2
      simp [Box.hd] at hd2
      obtain ⟨rfl, rfl⟩ := hd2
      exact ⟨[.slice (γ b).A (List.length y) (γ b).c], ⟨_, _, rfl, by simpa [FsOf] using hinv _ _ _ hbx⟩, by simp [pack, Ty.one, hcv], fun d hd => by simp at hd; subst hd; exact ⟨_, _, hbx⟩⟩
    · cases h
  | nil =>
    cases t with
    | sl t =>
      simp [ownL] at h
      subst h
      exact ⟨[.slice none 0 0], ⟨none, 0, rfl, .inl ⟨rfl, rfl, rfl⟩⟩, by simp only [LRel] at hv; simp [pack, Ty.one, hv], fun d hd => by simp at hd⟩
    | _ => simp [ownL] at h
  | _ => simp [ownL] at h

theorem ownL_one (h1 : t.one = true) {l : L} {cv : Value} {p : t.den × List Nat} (hv : LRel w ok bx γ l cv) (h : ownL bx t l = some p) :
    Rdo w ok t p.1 [cv] (FsOf γ p.2) ∧ ∀ d ∈ p.2, ∃ te xs, find bx d = some (.row te xs) := by
  obtain ⟨cs, hr, rfl, hd⟩ := ownL_rel hinv hv h
  have hl := hr.len
  rw [Ty.one_sz h1] at hl
  match cs, hl with
  | [c], _ => rw [pack_one h1]; exact ⟨hr, hd⟩

omit hinv in
theorem FsOf_append (a b : List Nat) : FsOf γ (a ++ b) = FsOf γ a ++ FsOf γ b := by simp [FsOf]

theorem ownLs_rel : ∀ {t : Ty} {ls : List L} {cvs : List Value} {p : (t.den × List Nat) × List L}, LsRel w ok bx γ ls cvs → ownLs bx t ls = some p →
    ∃ u v, cvs = u ++ v ∧ Rdo w ok t p.1.1 u (FsOf γ p.1.2) ∧ LsRel w ok bx γ p.2 v ∧ ∀ d ∈ p.1.2, ∃ te xs, find bx d = some (.row te xs) := by
  intro t
  have one : ∀ {t : Ty} (h1 : t.one = true) {ls : List L} {cvs : List Value} {p : (t.den × List Nat) × List L}, LsRel w ok bx γ ls cvs →
      (match ls with | l :: r => (ownL bx t l).map (·, r) | [] => none) = some p →
      ∃ u v, cvs = u ++ v ∧ Rdo w ok t p.1.1 u (FsOf γ p.1.2) ∧ LsRel w ok bx γ p.2 v ∧ ∀ d ∈ p.1.2, ∃ te xs, find bx d = some (.row te xs) := by
    intro t h1 ls cvs p hr h
    cases ls with
    | nil => cases h
    | cons l r =>
      simp only [Option.map_eq_some_iff] at h
      obtain ⟨y, hy, rfl⟩ := h
      cases hr with
      | cons h0 ht =>
        obtain ⟨h2, h3⟩ := ownL_one hinv h1 h0 hy
        exact ⟨[_], _, rfl, h2, ht, h3⟩
  induction t with
  | unit => intro ls cvs p hr h; simp [ownLs] at h; subst h; exact ⟨[], cvs, rfl, ⟨rfl, rfl⟩, hr, fun d hd => by simp at hd⟩
  | pair a b iha ihb =>
    intro ls cvs p hr h
    simp only [ownLs, Option.bind_eq_some_iff, Option.map_eq_some_iff] at h
    obtain ⟨q, hq, r, hr', rfl⟩ := h
    obtain ⟨u, v, rfl, h1, h2, h5⟩ := iha hr hq
    obtain ⟨u', v', rfl, h3, h4, h6⟩ := ihb h2 hr'
    exact ⟨u ++ u', v', by simp, ⟨u, u', _, _, rfl, FsOf_append _ _, h1, h3⟩, h4, fun d hd => (List.mem_append.1 hd).elim (h5 d) (h6 d)⟩
  | int k => intro ls cvs p hr h; exact one rfl hr h
  | bool => intro ls cvs p hr h; exact one rfl hr h
  | str => intro ls cvs p hr h; exact one rfl hr h
  | sl t _ => intro ls cvs p hr h; exact one rfl hr h
  | mp t _ => intro ls cvs p hr h; exact one rfl hr h
  | fz t _ => intro ls cvs p hr h; simp [ownLs] at h
  | hnd f => intro ls cvs p hr h; simp [ownLs] at h

theorem ownW'_rel {v : W} {cv : Value} {p : t.den × List Nat} (hv : WRel w ok bx γ v cv) (h : ownW' bx t v = some p) :
    ∃ cs, Rdo w ok t p.1 cs (FsOf γ p.2) ∧ cv = pack t cs ∧ ∀ d ∈ p.2, ∃ te xs, find bx d = some (.row te xs) := by
  cases v with
  | one l =>
    have : ownL bx t l = some p := by cases l <;> exact h
    exact ownL_rel hinv hv this
  | agg ls =>
    simp only [ownW'] at h
    split at h
    · cases h
    · rename_i h1
      simp only [Option.bind_eq_some_iff] at h
      obtain ⟨q, hq, h⟩ := h
      obtain ⟨_, cvs, rfl, _, hrel⟩ := hv
      obtain ⟨u, v, rfl, h2, h3, h4⟩ := ownLs_rel hinv hrel hq
      split at h
      · rename_i hp2
        cases h
        rw [hp2] at h3
        cases h3
        exact ⟨u, h2, by simp [pack, h1], h4⟩
      · cases h

theorem ownW_rel {v : W} {cv : Value} {p : t.den × List Nat} (hv : WRel w ok bx γ v cv) (h : ownW bx t v = some p) :
    ∃ cs, Rdo w ok t p.1 cs (FsOf γ p.2) ∧ cv = pack t cs ∧ ∀ d ∈ p.2, ∃ te xs, find bx d = some (.row te xs) := by
  cases t with
  | fz t =>
    simp only [ownW, Option.map_eq_some_iff] at h
    obtain ⟨y, hy, rfl⟩ := h
    obtain ⟨cs, h1, h2⟩ := rdW_rel (ok' := ok) (Rdb.nil w ok ok bx γ) (fun _ h => h) hv hy
    exact ⟨cs, ⟨h1, by simp [FsOf]⟩, h2, fun d hd => by simp at hd⟩
  | _ => exact ownW'_rel hinv hv h
end

end
end Go.Fl
/- Reading in a larger memory. -/
namespace Go.Fl
open Go

section
variable {bx bx' : Bxs} (hb : ∀ b x, find bx b = some x → find bx' b = some x)
include hb

theorem rdL_mono {t : Ty} {l : L} {y : t.den} (h : rdL bx t l = some y) : rdL bx' t l = some y := by
  cases l with
  | row b =>
    simp only [rdL] at h ⊢
    split at h
    · rename_i hf; rw [hb _ _ hf]; exact h
    · cases h
  | vw b lo n =>
    simp only [rdL] at h ⊢
    split at h
    · rename_i hf; rw [hb _ _ hf]; exact h
    · cases h
  | nrow b i off =>
    simp only [rdL] at h ⊢
    split at h
    · rename_i hf; rw [hb _ _ hf]; exact h
    · cases h
  | mrow b =>
    simp only [rdL] at h ⊢
    split at h
    · rename_i hf; rw [hb _ _ hf]; exact h
    · cases h
  | _ => exact h

theorem rdLs_mono : ∀ {t : Ty} {ls : List L} {p : t.den × List L}, rdLs bx t ls = some p → rdLs bx' t ls = some p := by
  intro t
  have one : ∀ {t : Ty} {ls : List L} {p : t.den × List L}, (match ls with | l :: r => (rdL bx t l).map (·, r) | [] => none) = some p → (match ls with | l :: r => (rdL bx' t l).map (·, r) | [] => none) = some p := by
    intro t ls p h
    cases ls with
    | nil => cases h
    | cons l r =>
      simp only [Option.map_eq_some_iff] at h ⊢
      obtain ⟨y, hy, he⟩ := h
      exact ⟨y, rdL_mono hb hy, he⟩
  induction t with
  | unit => intro ls p h; exact h
  | pair a b iha ihb =>
    intro ls p h
    simp only [rdLs, Option.bind_eq_some_iff, Option.map_eq_some_iff] at h ⊢
    obtain ⟨q, hq, r, hr, he⟩ := h
    exact ⟨q, iha hq, r, ihb hr, he⟩
  | int k => intro ls p h; exact one h
  | bool => intro ls p h; exact one h
  | str => intro ls p h; exact one h
  | sl t _ => intro ls p h; exact one h
  | mp t _ => intro ls p h; exact one h
  | fz t ih => intro ls p h; exact ih h
  | hnd f => intro ls p h; simp [rdLs] at h

theorem rdW_mono {t : Ty} {v : W} {y : t.den} (h : rdW bx t v = some y) : rdW bx' t v = some y := by
  cases v with
  | one l => exact rdL_mono hb h
  | agg ls =>
    simp only [rdW] at h ⊢
    split at h
    · cases h
    · rename_i h1
      rw [if_neg h1]
      simp only [Option.bind_eq_some_iff] at h ⊢
      obtain ⟨p, hp, h⟩ := h
      exact ⟨p, rdLs_mono hb hp, h⟩

theorem rdV_mono {t : Ty} {v : V} {y : t.den} (h : rdV bx t v = some y) : rdV bx' t v = some y := by
  cases v with
  | w x => exact rdW_mono hb h
  | tup xs => exact h

theorem ownL_mono {t : Ty} {l : L} {y : t.den × List Nat} (h : ownL bx t l = some y) : ownL bx' t l = some y := by
  cases l with
  | row b =>
    simp only [ownL] at h ⊢
    split at h
    · rename_i hf; rw [hb _ _ hf]; exact h
    · cases h
  | _ => exact h

theorem ownLs_mono : ∀ {t : Ty} {ls : List L} {p : (t.den × List Nat) × List L}, ownLs bx t ls = some p → ownLs bx' t ls = some p := by
  intro t
  have one : ∀ {t : Ty} {ls : List L} {p : (t.den × List Nat) × List L}, (match ls with | l :: r => (ownL bx t l).map (·, r) | [] => none) = some p → (match ls with | l :: r => (ownL bx' t l).map (·, r) | [] => none) = some p := by
    intro t ls p h
    cases ls with
    | nil => cases h
    | cons l r =>
      simp only [Option.map_eq_some_iff] at h ⊢
      obtain ⟨y, hy, he⟩ := h
      exact ⟨y, ownL_mono hb hy, he⟩
  induction t with
  | unit => intro ls p h; exact h
  | pair a b iha ihb =>
    intro ls p h
    simp only [ownLs, Option.bind_eq_some_iff, Option.map_eq_some_iff] at h ⊢
    obtain ⟨q, hq, r, hr, he⟩ := h
    exact ⟨q, iha hq, r, ihb hr, he⟩
  | int k => intro ls p h; exact one h
  | bool => intro ls p h; exact one h
  | str => intro ls p h; exact one h
  | sl t _ => intro ls p h; exact one h
  | mp t _ => intro ls p h; exact one h
  | fz t _ => intro ls p h; simp [ownLs] at h
  | hnd f => intro ls p h; simp [ownLs] at h

theorem ownW'_mono {t : Ty} {v : W} {y : t.den × List Nat} (h : ownW' bx t v = some y) : ownW' bx' t v = some y := by
  cases v with
  | one l =>
    cases l with
    | row b => exact ownL_mono (l := .row b) hb h
    | _ => exact h
  | agg ls =>
    simp only [ownW'] at h ⊢
    split at h
    · cases h
    · rename_i h1
      rw [if_neg h1]
      simp only [Option.bind_eq_some_iff] at h ⊢
      obtain ⟨p, hp, h⟩ := h
      exact ⟨p, ownLs_mono hb hp, h⟩

theorem ownW_mono {t : Ty} {v : W} {y : t.den × List Nat} (h : ownW bx t v = some y) : ownW bx' t v = some y := by
  cases t <;> first | exact ownW'_mono hb h | exact h

end
end Go.Fl
/- Structs, compared. -/
namespace Go.Fl
open Go

section
variable {P : Program} {te : List (Nat × Ty)} {T : Nat} {w : World}

theorem run_part {ft : Ty} {cs : List Value} {off : Nat} (hff : TyFact P te T ft) (hl : off + ft.sz ≤ cs.length) : (part T cs.toArray off).run P w = .ok (pack ft ((cs.drop off).take ft.sz)) w := by
  by_cases hone : ft.one = true
  · have hsz := Ty.one_sz hone
    rw [hsz] at hl ⊢
    have hx : cs[off]? = some cs[off] := List.getElem?_eq_getElem (by omega)
    have hd : (cs.drop off).take 1 = [cs[off]] := by
      rw [List.drop_eq_getElem_cons (by omega)]; rfl
    simp [part, hff.agg, hone, hx, hd, pack]
  · have hone' : ft.one = false := by simpa using hone
    simp only [part, Sem.run_bind, hff.agg, hone', Bool.not_false, Result.andThen_ok, if_true, hff.size, Sem.run_pure]
    simp only [pack, hone', Bool.false_eq_true, if_false]
    congr 2
    simp [List.extract_eq_take_drop]

theorem run_eqFields {ok : Nat → Prop} (hte : TyOk P te) {d : Nat} {cs ds : List Value}
    (ih : ∀ (t : Ty) (T : Nat) (x y : t.den) (u v : List Value), t.rk ≤ d → find te T = some t → t.flat = true → Rdf w ok t x u → Rdf w ok t y v → (Op.equalIn d T (pack t u) (pack t v)).run P w = .ok (eqT t x y) w) :
    ∀ (t : Ty) (fs : List Field) (off : Nat) (x y : t.den), FieldsOk te fs off t → t.flat = true → t.rk ≤ d + 1 → (∀ f ∈ fs, f.name ≠ "_") → cs.length = off + t.sz → ds.length = off + t.sz →
      Rdf w ok t x (cs.drop off) → Rdf w ok t y (ds.drop off) → (Op.eqFields d cs.toArray ds.toArray fs).run P w = .ok (eqT t x y) w := by
  intro t
  induction t with
  | unit => intro fs off x y hf _ _ _ _ _ _ _; cases fs with
    | nil => rfl
    | cons f fs => exact hf.elim
  | pair a b _ ihb =>
    intro fs off x y hf hfl hr hn hc hd hx hy
    cases fs with
    | nil => exact hf.elim
    | cons f fs =>
      obtain ⟨ho, hfi, hsz, hrest⟩ := hf
      obtain ⟨u1, u2, hu, r1, r2⟩ := hx
      obtain ⟨v1, v2, hv, s1, s2⟩ := hy
      simp only [Ty.flat, Bool.and_eq_true] at hfl
      simp only [Ty.rk] at hr
      simp only [Ty.sz] at hc hd
      have l1 := r1.len
      have l2 := s1.len
      have e1 : (cs.drop off).take a.sz = u1 := by rw [hu, ← l1]; simp
      have e2 : (ds.drop off).take a.sz = v1 := by rw [hv, ← l2]; simp
      have e3 : cs.drop (off + a.sz) = u2 := by rw [← List.drop_drop, hu, ← l1]; simp
      have e4 : ds.drop (off + a.sz) = v2 := by rw [← List.drop_drop, hv, ← l2]; simp
      have hb1 : 0 < b.rk := by cases b <;> simp [Ty.rk]
      have key := ih a f.type x.1 y.1 u1 v1 (by omega) hfi hfl.1 r1 s1
      simp only [Op.eqFields, ne_eq, hn f (by simp), not_false_eq_true, if_true, Sem.run_bind]
      rw [ho, run_part (hte _ _ hfi) (by omega), Result.andThen_ok, run_part (hte _ _ hfi) (by omega), Result.andThen_ok, e1, e2, key, Result.andThen_ok]
      cases he : eqT a x.1 y.1 with
      | false => simp [eqT, he]
      | true =>
        simp only [Bool.not_true, Bool.false_eq_true, if_false]
        rw [ihb fs (off + a.sz) x.2 y.2 hrest hfl.2 (by omega) (fun g hg => hn g (by simp [hg])) (by omega) (by omega) (by rw [e3]; exact r2) (by rw [e4]; exact s2)]
        simp [eqT, he]
  | _ => intro fs off x y hf; cases fs <;> exact hf.elim

theorem run_eqT {ok : Nat → Prop} (hte : TyOk P te) : ∀ (d : Nat) (t : Ty) (T : Nat) (x y : t.den) (u v : List Value), t.rk ≤ d → find te T = some t → t.flat = true → Rdf w ok t x u → Rdf w ok t y v →
    (Op.equalIn d T (pack t u) (pack t v)).run P w = .ok (eqT t x y) w := by
  intro d
  induction d with
  | zero => intro t T x y u v h; cases t <;> simp [Ty.rk] at h
  | succ d ih =>
    intro t T x y u v hr hf hfl hx hy
    have hd := (hte _ _ hf).desc
    cases t with
    | int k =>
      have hd : P.underlying T = some (.int k) := hd
      simp only [Rdf] at hx hy
      subst hx hy
      simp only [pack, Ty.one, if_true, List.headD_cons]
      rw [run_equalIn_int w d T k k x y hd]
      rfl
    | bool =>
      have hd : P.underlying T = some .bool := hd
      simp only [Rdf] at hx hy
      subst hx hy
      simp only [pack, Ty.one, if_true, List.headD_cons]
      rw [Go.run_equalIn_bool w d T x y hd]
      rfl
    | str =>
      have hd : P.underlying T = some .string := hd
      simp only [Rdf] at hx hy
      subst hx hy
      simp only [pack, Ty.one, if_true, List.headD_cons]
      rw [run_equalIn_string w d T x y hd]
      rfl
    | unit =>
      obtain ⟨_, hst, _, hnm⟩ := (hte _ _ hf).eqs hfl rfl
      obtain ⟨fs, hu, hfo⟩ := hd
      simp only [Rdf] at hx hy
      subst hx hy
      have hfe : P.fieldsOf T = fs := by simp [Program.fieldsOf, hu]
      simp only [pack, Ty.one, Bool.false_eq_true, if_false]
      rw [run_equalIn_struct w d T _ _ (by rw [hfe]; exact hu) hst, hfe]
      exact run_eqFields hte (fun t T x y u v h1 h2 h3 h4 h5 => ih t T x y u v h1 h2 h3 h4 h5) .unit fs.toList 0 () () hfo rfl hr (hnm fs hu) rfl rfl rfl rfl
    | pair a b =>
      obtain ⟨_, hst, _, hnm⟩ := (hte _ _ hf).eqs hfl rfl
      obtain ⟨fs, hu, hfo⟩ := hd
      have hfe : P.fieldsOf T = fs := by simp [Program.fieldsOf, hu]
      simp only [pack, Ty.one, Bool.false_eq_true, if_false]
      rw [run_equalIn_struct w d T _ _ (by rw [hfe]; exact hu) hst, hfe]
      exact run_eqFields hte (fun t T x y u v h1 h2 h3 h4 h5 => ih t T x y u v h1 h2 h3 h4 h5) (.pair a b) fs.toList 0 x y hfo hfl hr (hnm fs hu) (by simpa using hx.len) (by simpa using hy.len) (by simpa using hx) (by simpa using hy)
    | sl t => simp [Ty.flat] at hfl
    | mp t => simp [Ty.flat] at hfl
    | fz t => simp [Ty.flat] at hfl
    | hnd f => simp [Ty.flat] at hfl

theorem eqGuard_agg {op : BinOp} {x y : Operand} {xs ys : Array Value} (h : P.eqGuardType P.depth T = false) : (eqGuard op T x y (.agg xs) (.agg ys)).run P w = .ok () w := by
  cases op <;> simp [eqGuard, h, run_program]

theorem sim_eqW {E : Env} {o : Oper} {s : S} {op : BinOp} {T2 : Nat} {x y : Operand} {v : V} (hte : TyOk P E.te) (ho : o.op = .binOp op T x y T2) (h : eqW E op T (s.opv x) (s.opv y) = some v) : OpSim P o s (s.put o.dst v) := by
  unfold eqW at h
  split at h
  · rename_i t ht
    split at h
    · rename_i hc
      simp only [Bool.and_eq_true, Bool.not_eq_true'] at hc
      split at h
      · rename_i p q hx hy
        simp only [Option.bind_eq_some_iff] at h
        obtain ⟨a, ha, b, hb, h⟩ := h
        refine OpSim.pureV fun w0 own0 γ ac w hst => ?_
        have rx := hst.opv x
        have ry := hst.opv y
        rw [hx] at rx
        rw [hy] at ry
        have hb0 := Rdb.nil w (okOf w s.bx γ) (okOf w s.bx γ) s.bx γ
        obtain ⟨cs, r1, e1⟩ := rdW_rel hb0 (fun _ h => h) rx ha
        obtain ⟨ds, r2, e2⟩ := rdW_rel hb0 (fun _ h => h) ry hb
        obtain ⟨hg, hst', hrk, _⟩ := (hte _ _ ht).eqs hc.1 hc.2
        have key := run_eqT hte (w := w) 10000 t T a b cs ds hrk ht hc.1 r1 r2
        have p1 : pack t cs = .agg cs.toArray := by simp [pack, hc.2]
        have p2 : pack t ds = .agg ds.toArray := by simp [pack, hc.2]
        rw [p1] at e1 key
        rw [p2] at e2 key
        cases op with
        | eql =>
          cases h
          refine ⟨.bool (eqT t a b), ?_, ⟨_, rfl, rfl⟩⟩
          simp only [execOp, ho, e1, e2, Sem.run_bind, eqGuard_agg hg, Result.andThen_ok, run_eql_struct, key, Sem.run_pure]
        | neq =>
          cases h
          refine ⟨.bool (!(eqT t a b)), ?_, ⟨_, rfl, rfl⟩⟩
          simp only [execOp, ho, e1, e2, Sem.run_bind, eqGuard_agg hg, Result.andThen_ok, run_neq_struct, key, Sem.run_pure]
        | _ => cases h
      · cases h
    · cases h
  · cases h
end
end Go.Fl
/- New variables, stores, new rows. -/
namespace Go.Fl
open Go

/-- These boxes are there. -/
def Has (bx : Bxs) (γ : Nat → Gh) (nb : Bxs) (g : Nat → Gh) : Prop := ∀ p ∈ nb, find bx p.1 = some p.2 ∧ γ p.1 = g p.1

/-- New boxes that hold wherever they are put. -/
def NewOk (w : World) (ok : Nat → Prop) (nb : Bxs) (g : Nat → Gh) : Prop := ∀ (bx : Bxs) (γ : Nat → Gh), Has bx γ nb g → ∀ p ∈ nb, BoxRel w ok bx γ p.1 p.2

theorem Has.congr {bx nb : Bxs} {γ g g' : Nat → Gh} (h : Has bx γ nb g) (hg : ∀ p ∈ nb, g' p.1 = g p.1) : Has bx γ nb g' := fun p hp => ⟨(h p hp).1, (h p hp).2.trans (hg p hp).symm⟩

theorem Has.left {bx n1 n2 : Bxs} {γ g : Nat → Gh} (h : Has bx γ (n1 ++ n2) g) : Has bx γ n1 g := fun p hp => h p (List.mem_append_left _ hp)
theorem Has.right {bx n1 n2 : Bxs} {γ g : Nat → Gh} (h : Has bx γ (n1 ++ n2) g) : Has bx γ n2 g := fun p hp => h p (List.mem_append_right _ hp)

def glue (n1 : Bxs) (g1 g2 : Nat → Gh) : Nat → Gh := fun k => if (find n1 k).isSome then g1 k else g2 k

theorem glue_left {n1 : Bxs} {g1 g2 : Nat → Gh} {p : Nat × Box} (hp : p ∈ n1) : glue n1 g1 g2 p.1 = g1 p.1 := by
  obtain ⟨x, hx⟩ := find_isSome hp
  simp [glue, hx]

theorem glue_right {n1 : Bxs} {g1 g2 : Nat → Gh} {k : Nat} (hk : k ∉ n1.map (·.1)) : glue n1 g1 g2 k = g2 k := by
  have : find n1 k = none := by
    cases h : find n1 k with
    | none => rfl
    | some x => exact absurd (List.mem_map.2 ⟨_, find_mem h, rfl⟩) hk
  simp [glue, this]

theorem glue_right' {n1 n2 : Bxs} {g1 g2 : Nat → Gh} (hd : ((n1 ++ n2).map (·.1)).Nodup) : ∀ p ∈ n2, glue n1 g1 g2 p.1 = g2 p.1 := by
  intro p hp
  rw [List.map_append, List.nodup_append] at hd
  exact glue_right fun hm => hd.2.2 _ hm _ (List.mem_map.2 ⟨p, hp, rfl⟩) rfl

theorem owned_glue {n1 n2 : Bxs} {g1 g2 : Nat → Gh} (hd : ((n1 ++ n2).map (·.1)).Nodup) : owned (n1 ++ n2) (glue n1 g1 g2) = owned n1 g1 ++ owned n2 g2 := by
  rw [owned_append, owned_congr (γ' := glue n1 g1 g2) (γ := g1) fun p hp => glue_left hp, owned_congr (γ' := glue n1 g1 g2) (γ := g2) (glue_right' hd)]

theorem NewOk.append {w : World} {ok : Nat → Prop} {n1 n2 : Bxs} {g1 g2 : Nat → Gh} (hd : ((n1 ++ n2).map (·.1)).Nodup) (h1 : NewOk w ok n1 g1) (h2 : NewOk w ok n2 g2) : NewOk w ok (n1 ++ n2) (glue n1 g1 g2) := by
  intro bx γ hh p hp
  rcases List.mem_append.1 hp with hp | hp
  · exact h1 bx γ (hh.left.congr fun p hp => (glue_left hp).symm) p hp
  · exact h2 bx γ (hh.right.congr fun p hp => (glue_right' hd p hp).symm) p hp

theorem NewOk.nil (w : World) (ok : Nat → Prop) (g : Nat → Gh) : NewOk w ok [] g := fun _ _ _ p hp => by simp at hp

theorem NewOk.row {w : World} {ok : Nat → Prop} {b : Nat} {t : Ty} {xs : List t.den} {A : Option Addr} {c : Nat} {F : List Nat} (h : OwnG w t.sz (Rdo w ok t) xs A c F) : NewOk w ok [(b, .row t xs)] (fun _ => ⟨A, c, F⟩) := by
  intro bx γ hh p hp
  have := (hh p hp).2
  simp at hp
  subst hp
  simp only [BoxRel, this]
  exact h

/-! ### Cells that hold nil become rows -/

def gNil : Nat → Gh := fun _ => ⟨none, 0, []⟩

theorem nilRows_len (site : Nat) : ∀ (nl : List (Nat × Ty)) (ls : List L), (nilRows site nl ls).1.length = ls.length := by
  intro nl
  induction nl with
  | nil => intro ls; rfl
  | cons p r ih =>
    intro ls
    obtain ⟨i, t⟩ := p
    simp only [nilRows]
    split
    · rw [ih]; simp
    · exact ih ls

theorem nilRows_owned (site : Nat) : ∀ (nl : List (Nat × Ty)) (ls : List L), owned (nilRows site nl ls).2 gNil = [] := by
  intro nl
  induction nl with
  | nil => intro ls; rfl
  | cons p r ih =>
    intro ls
    obtain ⟨i, t⟩ := p
    simp only [nilRows]
    split
    · rw [owned_cons, ih]; rfl
    · exact ih ls

theorem nilRows_ok (site : Nat) {w : World} {ok : Nat → Prop} : ∀ (nl : List (Nat × Ty)) (ls : List L), ((nilRows site nl ls).2.map (·.1)).Nodup → NewOk w ok (nilRows site nl ls).2 gNil := by
  intro nl
  induction nl with
  | nil => intro ls _; exact NewOk.nil _ _ _
  | cons p r ih =>
    intro ls hd
    obtain ⟨i, t⟩ := p
    simp only [nilRows] at hd ⊢
    split at hd
    · rename_i h
      show NewOk w ok ((site + 1 + i, .row t []) :: (nilRows site r (ls.set i (.row (site + 1 + i)))).2) gNil
      intro bx γ hh q hq
      rcases List.mem_cons.1 hq with rfl | hq
      · have := (hh (site + 1 + i, .row t []) (by simp)).2
        simp only at this
        simp only [BoxRel, this]
        exact .inl ⟨rfl, rfl, rfl⟩
      · exact ih _ (List.nodup_cons.1 hd).2 bx γ (fun q hq => hh q (by simp [hq])) q hq
    · exact ih ls hd

theorem nilRows_rel (site : Nat) {w : World} {ok : Nat → Prop} {bx : Bxs} {γ : Nat → Gh} : ∀ (nl : List (Nat × Ty)) (ls : List L) (cs : List Value), Has bx γ (nilRows site nl ls).2 gNil → LsRel w ok bx γ ls cs →
    LsRel w ok bx γ (nilRows site nl ls).1 cs ∧ ((∀ l ∈ ls, l.one = true) → ∀ l ∈ (nilRows site nl ls).1, l.one = true) := by
  intro nl
  induction nl with
  | nil => intro ls cs _ h; exact ⟨h, fun h => h⟩
  | cons p r ih =>
    intro ls cs hh h
    obtain ⟨i, t⟩ := p
    simp only [nilRows] at hh ⊢
    split at hh
    · rename_i hi
      obtain ⟨c, hc, hr⟩ := h.get i _ hi
      have hr' : c = .slice none 0 0 := hr
      subst hr'
      have hset : cs.set i (.slice none 0 0) = cs := by
        apply List.ext_getElem?
        intro j
        rw [List.getElem?_set]
        split
        · rename_i hij
          subst hij
          rcases Nat.lt_or_ge i cs.length with hl | hl
          · rw [if_pos hl, hc]
          · rw [List.getElem?_eq_none hl] at hc; cases hc
        · rfl
      obtain ⟨e1, e2⟩ := hh (site + 1 + i, .row t []) (by simp)
      have := All2.set h i (x := .row (site + 1 + i)) (y := .slice none 0 0) ⟨_, t, 0, e1, rfl, by rw [e2]; rfl⟩
      rw [hset] at this
      obtain ⟨g1, g2⟩ := ih _ _ (fun q hq => hh q (by simp [hq])) this
      refine ⟨g1, fun h1 => g2 fun l hl => ?_⟩
      rcases List.mem_or_eq_of_mem_set hl with hl | rfl
      · exact h1 l hl
      · rfl
    · exact ih ls cs hh h

/-! ### Effects -/

theorem contains_nil : (fun b => ([] : List Nat).contains b) = noB := by funext b; rfl

theorem app_eq (s : S) (dst : Option Nat) (e : Ef) : s.app dst e = (s.reb e.nb (e.D.contains ·) (e.dead.contains ·)).put dst e.v := by
  unfold S.app
  split
  · rename_i hD hd
    rw [hD, hd]
    have h : s.reb e.nb (fun x => ([] : List Nat).contains x) (fun x => ([] : List Nat).contains x) = { s with bx := e.nb ++ s.bx } := by
      rw [contains_nil, ← re0_eq]
      unfold S.re0
      congr 2
      exact List.filter_eq_self.2 fun _ _ => rfl
    rw [h]
    split
    · rename_i hn; rw [hn]; rfl
    · rfl
  · rfl

/-- Effects that turn nothing. -/
theorem app_put (s : S) (dst : Option Nat) (v : V) : s.app dst { v } = s.put dst v := rfl

theorem nodup_of_okB {e : Ef} {bx : Bxs} (h : e.okB bx = true) : (e.nb.map (·.1)).Nodup ∧ ∀ p ∈ e.nb, e.D.contains p.1 = true ∨ find bx p.1 = none := by
  simp only [Ef.okB, Bool.and_eq_true, List.all_eq_true, Bool.or_eq_true, Option.isNone_iff_eq_none] at h
  refine ⟨?_, h.2⟩
  have : ∀ {l : List Nat}, nodupB l = true → l.Nodup := by
    intro l
    induction l with
    | nil => intro _; exact List.nodup_nil
    | cons x r ih =>
      intro h
      simp only [nodupB, Bool.and_eq_true, Bool.not_eq_true', List.contains_eq_mem, decide_eq_false_iff_not] at h
      exact List.nodup_cons.2 ⟨h.1, ih h.2⟩
  exact this h.1

section
variable {P : Program} {te : List (Nat × Ty)} {T : Nat} {t : Ty} {w : World}

/-- Nothing is owned of a new object. -/
theorem StG.push {w0 : World} {own0 : Ow} {s : S} {γ : Gam} {a : Act} (hst : StG w0 own0 s γ a w) (o : Obj) : StG w0 own0 s γ a { w with heap := w.heap.push o } := by
  have h1 := hst.reb (w' := { w with heap := w.heap.push o }) (nb := []) (D := noB) (dead := noB) (g := γ) rfl rfl rfl (by simp) (fun n hn _ => heap_push_lt w _ hn)
    (by simp) (fun p hp => by simp at hp) (by simp [owned]) (fun n hn => by simp [owned] at hn) (fun b y _ hb => by simp [noB] at hb) (fun _ _ _ b x hb => by simp [find] at hb)
  have h2 : s.reb [] noB noB = s := by
    rw [← re0_eq]
    cases s
    simp [S.re0, noB]
  have h3 : over [] γ γ = γ := by simp [over, find]
  have h4 := h1.1
  rw [h2, h3] at h4
  exact h4

/-- A variable that is never written again: its block is nobody's. -/
theorem sim_box_fz {o : Oper} {s : S} {x : Operand} {v : W} {y : t.den} (ho : o.op = .box T x)
    (hx : s.opv x = .w v) (h : rdW [] t v = some y) : OpSim P o s (s.put o.dst (.w (.one (.fpt t y)))) := by
  intro w0 own0 a w ⟨γ, hst⟩ next Q hn
  have rx := hst.opv x
  rw [hx] at rx
  obtain ⟨cs, hr, hcv⟩ := rdW_rel (Rdb.nil w (okOf w s.bx γ) (okOf w s.bx γ) s.bx γ) (fun _ h => h) rx h
  have hcells : (a.eval x).cells = cs.toArray := by rw [hcv]; exact pack_cells _ hr.len fun _ => hr.oneCell
  have hlt : ∀ n, okOf w s.bx γ n → ({ w with heap := w.heap.push (.cells cs.toArray T) } : World).heap[n]? = w.heap[n]? := fun n hn => heap_push_lt w _ hn.1
  have hstep := hst.push (.cells cs.toArray T)
  refine wp_value (v := .pointer (some ⟨w.heap.size, 0, none⟩)) (w' := { w with heap := w.heap.push (.cells cs.toArray T) }) ?_ (hn _ _ ⟨γ, hstep.put o.dst ⟨⟨w.heap.size, 0, none⟩, cs, rfl, rfl, ⟨by simp, fun hm => ?_, fun hm => ?_⟩, ?_, ?_⟩⟩)
  · simp [execOp, ho, Instr.box, run_newVar, hcells]
  · have := hst.inv.below _ hm; simp at this
  · have := hst.hid_lt hm; simp at this
  · exact hr.mono hlt fun n hn => ⟨by have := hn.1; simp; omega, hn.2⟩
  · intro j c hj
    simp only [World.cell?, Nat.zero_add]
    rw [heap_push_new]
    simpa using hj

/-- A new variable, some of whose cells are rows from now on. -/
theorem StG.newVar {w0 : World} {own0 : Ow} {s : S} {γ : Gam} {a : Act} (hst : StG w0 own0 s γ a w) {site : Nat} {nl : List (Nat × Ty)} {ls : List L} {cs : List Value} {T : Nat}
    (hrel : LsRel w (okOf w s.bx γ) s.bx γ ls cs) (hone : ∀ l ∈ ls, l.one = true) (hc1 : ∀ c ∈ cs, c.oneCell' = true) {v : V} (hok : ({ v, nb := (site, .var (nilRows site nl ls).1) :: (nilRows site nl ls).2 } : Ef).okB s.bx = true) :
    ∃ γ', StG w0 own0 (s.reb ((site, .var (nilRows site nl ls).1) :: (nilRows site nl ls).2) noB noB) γ' a { w with heap := w.heap.push (.cells cs.toArray T) } ∧ γ' site = ⟨some ⟨w.heap.size, 0, none⟩, 0, [w.heap.size]⟩ ∧
      find (s.reb ((site, .var (nilRows site nl ls).1) :: (nilRows site nl ls).2) noB noB).bx site = some (.var (nilRows site nl ls).1) := by
  obtain ⟨hnd, hfr⟩ := nodup_of_okB hok
  simp only [List.map_cons] at hnd
  have hfr' : ∀ p ∈ (site, Box.var (nilRows site nl ls).1) :: (nilRows site nl ls).2, find s.bx p.1 = none := fun p hp => by simpa using hfr p hp
  have hns : site ∉ (nilRows site nl ls).2.map (·.1) := (List.nodup_cons.1 hnd).1
  have hg : ∀ p ∈ (nilRows site nl ls).2, (fun k => if k = site then (⟨some ⟨w.heap.size, 0, none⟩, 0, [w.heap.size]⟩ : Gh) else gNil k) p.1 = gNil p.1 := by
    intro p hp
    have : p.1 ≠ site := fun e => hns (List.mem_map.2 ⟨p, hp, e⟩)
    simp [this]
  have hown : owned ((site, Box.var (nilRows site nl ls).1) :: (nilRows site nl ls).2) (fun k => if k = site then ⟨some ⟨w.heap.size, 0, none⟩, 0, [w.heap.size]⟩ else gNil k) = [w.heap.size] := by
    rw [owned_cons, owned_congr hg, nilRows_owned]; simp
  have hf1 : find ((site, Box.var (nilRows site nl ls).1) :: (nilRows site nl ls).2) site = some (.var (nilRows site nl ls).1) := by rw [find_cons, if_pos rfl]
  refine ⟨over ((site, .var (nilRows site nl ls).1) :: (nilRows site nl ls).2) (fun k => if k = site then ⟨some ⟨w.heap.size, 0, none⟩, 0, [w.heap.size]⟩ else gNil k) γ, ?_, by rw [over_new hf1]; simp, by
    show find (_ ++ _) site = _; rw [find_append, hf1]; rfl⟩
  refine (hst.reb (w' := { w with heap := w.heap.push (.cells cs.toArray T) }) (D := noB) (dead := noB) rfl rfl rfl (by simp) (fun n hn _ => heap_push_lt w _ hn) (by simpa using hnd) (fun p hp => .inr (hfr' p hp)) (by rw [hown]; simp) ?_ (fun b y _ hb => by simp [noB] at hb) ?_).1
  · rw [hown]; intro n hn; simp at hn; subst hn; simp
  · intro hok' hwk hp b x hb
    have hHas : ∀ p ∈ (nilRows site nl ls).2, find (s.reb ((site, .var (nilRows site nl ls).1) :: (nilRows site nl ls).2) noB noB).bx p.1 = some p.2 ∧
        over ((site, .var (nilRows site nl ls).1) :: (nilRows site nl ls).2) (fun k => if k = site then ⟨some ⟨w.heap.size, 0, none⟩, 0, [w.heap.size]⟩ else gNil k) γ p.1 = gNil p.1 := by
      intro p hp
      have hfp : find ((site, Box.var (nilRows site nl ls).1) :: (nilRows site nl ls).2) p.1 = some p.2 := find_of_mem (by simpa using hnd) (List.mem_cons_of_mem _ hp)
      refine ⟨?_, ?_⟩
      · show find (_ ++ _) p.1 = _; rw [find_append, hfp]; rfl
      · rw [over_new hfp]; exact hg p hp
    rw [find_cons] at hb
    split at hb
    · rename_i hsb
      subst hsb
      cases hb
      have hr := LsRel.mono hwk hok' hp (fun _ _ _ _ => rfl) hrel
      obtain ⟨g1, g2⟩ := nilRows_rel site nl ls cs hHas hr
      have hgs : over ((site, Box.var (nilRows site nl ls).1) :: (nilRows site nl ls).2) (fun k => if k = site then (⟨some ⟨w.heap.size, 0, none⟩, 0, [w.heap.size]⟩ : Gh) else gNil k) γ site = ⟨some ⟨w.heap.size, 0, none⟩, 0, [w.heap.size]⟩ := by rw [over_new hf1]; simp
      exact ⟨w.heap.size, cs.toArray, T, by rw [hgs], by rw [hgs], heap_push_new w _, g2 hone, by simpa using hc1, by simpa using g1⟩
    · exact nilRows_ok site nl ls (List.nodup_cons.1 hnd).2 _ _ hHas (b, x) (find_mem hb)

theorem sim_box_var {o : Oper} {s : S} {x : Operand} {v : W} {site : Nat} {nl : List (Nat × Ty)} (ho : o.op = .box T x)
    (hx : s.opv x = .w v) (hl : v.leaves ≠ []) {e : Ef} (he : e = { v := .w (.one (.ptr site 0)), nb := (site, .var (nilRows site nl v.leaves).1) :: (nilRows site nl v.leaves).2 }) (hok : e.okB s.bx = true) : OpSim P o s (s.app o.dst e) := by
  intro w0 own0 a w ⟨γ, hst⟩ next Q hn
  subst he
  rw [app_eq] at hn
  have rx := hst.opv x
  rw [hx] at rx
  obtain ⟨cs, hcells, hrel, hone, hc1, _⟩ := W.leaves_rel rx (.inl hl)
  obtain ⟨γ', hst', hg, hf⟩ := hst.newVar (T := T) hrel hone hc1 hok
  refine wp_value (v := .pointer (some ⟨w.heap.size, 0, none⟩)) (w' := { w with heap := w.heap.push (.cells cs.toArray T) }) ?_ (hn _ _ ⟨γ', hst'.put o.dst ⟨_, w.heap.size, hf, by rw [hg], rfl⟩⟩)
  simp [execOp, ho, Instr.box, run_newVar, hcells]

theorem sim_alloc {o : Oper} {s : S} {site : Nat} {nl : List (Nat × Ty)} (hte : TyOk P te) (ho : o.op = .alloc T) (ht : find te T = some t)
    {e : Ef} (he : e = { v := .w (.one (.ptr site 0)), nb := (site, .var (nilRows site nl t.zeros).1) :: (nilRows site nl t.zeros).2 }) (hok : e.okB s.bx = true) : OpSim P o s (s.app o.dst e) := by
  intro w0 own0 a w ⟨γ, hst⟩ next Q hn
  subst he
  rw [app_eq] at hn
  obtain ⟨i, hi, hsz, hby, z, hz, hzz⟩ := (hte T t ht).info
  obtain ⟨z1, z2, z3⟩ := Ty.zeros_rel (w := w) (ok := okOf w s.bx γ) (bx := s.bx) (γ := γ) t
  have hcells : z.cells = (zeroCells t).toArray := by rw [hzz]; exact pack_cells _ (zeroCells_len t) fun _ => z3
  obtain ⟨γ', hst', hg, hf⟩ := hst.newVar (T := T) z1 z2 z3 hok
  refine wp_value (v := .pointer (some ⟨w.heap.size, 0, none⟩)) (w' := { w with heap := w.heap.push (.cells (zeroCells t).toArray T) }) ?_ (hn _ _ ⟨γ', hst'.put o.dst ⟨_, w.heap.size, hf, by rw [hg], rfl⟩⟩)
  simp [execOp, ho, Instr.alloc, zeroValue, typeInfo, hi, hz, run_newVar, hcells]

theorem zeroCells_rdf {ok : Nat → Prop} : ∀ (t : Ty), Rdf w ok t t.zero (zeroCells t) := by
  intro t
  induction t with
  | pair a b iha ihb => exact ⟨_, _, rfl, iha, ihb⟩
  | mp t _ => exact .inl ⟨rfl, rfl⟩
  | sl t _ => exact ⟨none, 0, rfl, Nat.le_refl _, fun i hi => absurd hi (Nat.not_lt_zero _)⟩
  | fz t ih => exact ih
  | _ => rfl

theorem zeroCells_rdo {ok : Nat → Prop} : ∀ (t : Ty), t.noMp = true → Rdo w ok t t.zero (zeroCells t) [] := by
  intro t
  induction t with
  | pair a b iha ihb =>
    intro h
    simp only [Ty.noMp, Bool.and_eq_true] at h
    exact ⟨_, _, [], [], rfl, rfl, iha h.1, ihb h.2⟩
  | mp t _ => intro h; simp [Ty.noMp] at h
  | sl t _ => intro _; exact ⟨none, 0, rfl, .inl ⟨rfl, rfl, rfl⟩⟩
  | fz t _ => intro _; exact ⟨zeroCells_rdf t, rfl⟩
  | _ => intro _; exact ⟨rfl, rfl⟩

theorem ex_makeSlice {o : Oper} {l c : Operand} {ρ : Operand → Value} {u v r : Value} {w' : World} (ho : o.op = .makeSlice T l c) (hl : ρ l = u) (hc : ρ c = v)
    (hr : (Instr.makeSlice T u v).run P w = .ok r w') : (execOp ρ o).run P w = .ok (.value r) w' := by
  simp [execOp, ho, hl, hc, hr]

theorem madeCells_get (z : Array Value) (n sz i j : Nat) (hz : z.size = sz) (hi : i < n) (hj : j < sz) : (madeCells z (n * sz))[i * sz + j]? = z[j]? := by
  have hlt : i * sz + j < n * sz := by
    have : (i + 1) * sz ≤ n * sz := Nat.mul_le_mul_right _ hi
    rw [Nat.add_mul] at this
    omega
  have hj' : j < z.size := by omega
  unfold madeCells
  rw [Array.getElem?_map, Array.getElem?_range, if_pos hlt]
  simp only [Option.map_some]
  rw [hz, Nat.mul_add_mod_self_right, Nat.mod_eq_of_lt hj, getElem!_pos z j hj', Array.getElem?_eq_getElem hj']

theorem sim_makeSlice {o : Oper} {s : S} {te' : Ty} (het : te' = t ∨ te' = .fz t) {l c : Operand} {k : IntKind} {n : Int} {site : Nat} (hte : TyOk P te) (ho : o.op = .makeSlice T l c) (ht : find te T = some (.sl t))
    (hl : s.opv l = .w (.one (.val (.int k) n))) (hc : l.same c = true) (hm : te'.noMp = true) (hs : find s.bx site = none) (h0 : 0 ≤ n) (h1 : n.toNat ≤ lim) :
    OpSim P o s ((s.re0 [(site, .row te' (List.replicate n.toNat te'.zero))] noB).put o.dst (.w (.one (.row site)))) := by
  intro w0 own0 a w ⟨γ, hst⟩ next Q hn
  have hts : te'.sz = t.sz := by rcases het with rfl | rfl <;> rfl
  have htz : zeroCells te' = zeroCells t := by rcases het with rfl | rfl <;> rfl
  have rl := hst.opv l
  rw [hl] at rl
  have el := int_of rl
  have ec : a.eval c = .int k n := by
    cases l with
    | tmp x => cases c with
      | tmp y => simp [Operand.same] at hc; subst hc; exact el
      | _ => simp [Operand.same] at hc
    | const x => cases c with
      | const y => cases x <;> cases y <;> first | (simp [Operand.same] at hc; obtain ⟨rfl, rfl⟩ := hc; exact el) | (simp [Operand.same] at hc)
      | _ => cases x <;> simp [Operand.same] at hc
    | _ => simp [Operand.same] at hc
  obtain ⟨E, hu, hE⟩ := desc_sl (hte T _ ht)
  obtain ⟨i, hi, hsz, hby, z, hz, hzz⟩ := (hte E _ hE).info
  have hlim : n.toNat ≤ 2147483648 := h1
  have hb : (i.bytes : Int) * n ≤ 281474976710656 := by
    have h2 : i.bytes * n.toNat ≤ 65536 * 2147483648 := Nat.mul_le_mul hby hlim
    have h3 : ((i.bytes * n.toNat : Nat) : Int) ≤ 281474976710656 := by omega
    rw [Int.natCast_mul, Int.toNat_of_nonneg h0] at h3
    exact h3
  have hrun := run_make (P := P) w T E i z hu hi hz k k n n h0 (Int.le_refl _) hb (by omega)
  obtain ⟨_, _, z3⟩ := Ty.zeros_rel (w := w) (ok := fun _ => True) (bx := []) (γ := γ) t
  have hcells : z.cells = (zeroCells t).toArray := by rw [hzz]; exact pack_cells _ (zeroCells_len t) fun _ => z3
  rw [hsz, hcells] at hrun
  have hzl := zeroCells_len t
  obtain ⟨γ', hg, hst', hf⟩ := hst.new hs (.cells (madeCells (zeroCells t).toArray (n.toNat * t.sz)) E) (.row te' (List.replicate n.toNat te'.zero)) ⟨some ⟨w.heap.size, 0, none⟩, n.toNat, [w.heap.size]⟩ (.inl rfl) (by
    intro ok' bx' γ' hok hwk hp hg
    simp only [BoxRel, hg]
    refine .inr ⟨w.heap.size, 0, _, E, List.replicate n.toNat [], rfl, by simp, heap_push_new w _, by simp, by simp [size_madeCells, hts], by simp, fun j hj hj' => ?_⟩
    refine ⟨zeroCells t, ?_, by rw [hts]; exact hzl, fun m v hmv => ?_⟩
    · have hz0 := zeroCells_rdo (w := { w with heap := w.heap.push (.cells (madeCells (zeroCells t).toArray (n.toNat * t.sz)) E) }) (ok := ok') te' hm
      rw [htz] at hz0
      simpa using hz0
    · have hml : m < t.sz := by
        rw [← hzl]
        rcases Nat.lt_or_ge m (zeroCells t).length with h | h
        · exact h
        · rw [List.getElem?_eq_none h] at hmv; cases hmv
      rw [hts, Nat.zero_add, madeCells_get _ _ _ _ _ (by simpa using hzl) (by simpa using hj) hml]
      simpa using hmv)
  refine wp_value (v := .slice (some ⟨w.heap.size, 0, none⟩) n.toNat n.toNat) (w' := w.alloc (.cells (madeCells (zeroCells t).toArray (n.toNat * t.sz)) E)) (ex_makeSlice ho el ec hrun) (hn _ _ ⟨γ', hst'.put o.dst ⟨_, te', n.toNat, hf, by simp [Box.hd], by rw [hg]⟩⟩)

end
end Go.Fl

/- An evaluator of loaded functions, and that it is sound (part 4); no conditions. -/
import Derived.Test.YtemafmecjmgafaaDoorK3
import Derived.Shelf.Strings.Cut
import Derived.Shelf.Strings.Split
import Derived.Lib.SplitLaws
import Derived.Shelf.Strings.OnBuilder
import Derived.RegionTactic
import Derived.ChangeAlike
import Derived.BigRegion
import Derived.WalkKit
import Derived.Test.YtemafmecjmgafaaDoorProg
import Derived.LoopTactic
import Derived.BigFrame
import Derived.Laws.ResultCell
import Derived.Test.YtemafmecjmgafaaDoorK1
import Derived.Test.YtemafmecjmgafaaDoorRows
import Derived.Stop.LaidErr
import Derived.Shelf.Lay
import Derived.Shelf.LaysM
import Derived.Shelf.Strings.Shaped
set_option linter.all false
namespace Go.Fl
open Go Go.Proofs Go.Shelf Go.RowKit
-- laid: Lays.n145 Nm 145 at Tryd as Tryd.lays145
def Tryd.lays145_ren : Go.Shelf.Ren := ⟨fun | 145 => 48 | 220 => 71 | 219 => 82 | 217 => 93 | 225 => 94 | 224 => 95 | 267 => 96 | 266 => 109 | 314 => 110 | n => n, fun | 9 => 9 | 4 => 4 | 59 => 78 | 3 => 3 | 5 => 5 | 46 => 106 | 146 => 117 | 51 => 116 | n => n, fun | 1 => 0 | n => n⟩
theorem Tryd.lays145 : Go.Proofs.Lays.n145 Tryd.prog Tryd.lays145_ren where
  mixed := by kernel_rfl
  f145 := Tryd.func48.trans (congrArg some (by kernel_rfl))
  f217 := Tryd.func93.trans (congrArg some (by kernel_rfl))
  f219 := Tryd.func82.trans (congrArg some (by kernel_rfl))
  f220 := Tryd.func71.trans (congrArg some (by kernel_rfl))
  f224 := Tryd.func95.trans (congrArg some (by kernel_rfl))
  f225 := Tryd.func94.trans (congrArg some (by kernel_rfl))
  f266 := Tryd.func109.trans (congrArg some (by kernel_rfl))
  f267 := Tryd.func96.trans (congrArg some (by kernel_rfl))
  f314 := Tryd.func110.trans (congrArg some (by kernel_rfl))
  t3 := Tryd.underlying3
  a3 := Tryd.isAgg3
  z3 := Tryd.sizeOf3
  v3 := Tryd.zeroValue3
  t4 := Tryd.underlying4
  a4 := Tryd.isAgg4
  z4 := Tryd.sizeOf4
  v4 := Tryd.zeroValue4
  t5 := Tryd.underlying5
  a5 := Tryd.isAgg5
  z5 := Tryd.sizeOf5
  v5 := Tryd.zeroValue5
  t9 := Tryd.underlying9
  a9 := Tryd.isAgg9
  z9 := Tryd.sizeOf9
  v9 := Tryd.zeroValue9
  t46 := Tryd.underlying106
  a46 := Tryd.isAgg106
  z46 := Tryd.sizeOf106
  v46 := Tryd.zeroValue106
  t51 := Tryd.underlying116
  a51 := Tryd.isAgg116
  z51 := Tryd.sizeOf116
  v51 := Tryd.zeroValue116
  t59 := Tryd.underlying78
  a59 := Tryd.isAgg78
  z59 := Tryd.sizeOf78
  v59 := Tryd.zeroValue78
  t146 := Tryd.underlying117
  a146 := Tryd.isAgg117
  z146 := Tryd.sizeOf117
  v146 := Tryd.zeroValue117
  g1 := by kernel_rfl
-- end of Tryd.lays145
-- laid: Lays.n146 Nm 146 at Tryd as Tryd.lays146
def Tryd.lays146_ren : Go.Shelf.Ren := ⟨fun | 146 => 43 | 221 => 68 | 268 => 78 | 138 => 79 | 143 => 80 | 195 => 90 | 197 => 91 | 218 => 92 | 219 => 82 | 260 => 108 | 217 => 93 | 225 => 94 | 224 => 95 | 267 => 96 | 266 => 109 | 314 => 110 | n => n, fun | 9 => 9 | 31 => 68 | 3 => 3 | 4 => 4 | 0 => 0 | 105 => 124 | 21 => 21 | 5 => 5 | 46 => 106 | 119 => 150 | 139 => 153 | 138 => 152 | 146 => 117 | 51 => 116 | n => n, fun | 1 => 0 | 3 => 4 | 4 => 5 | n => n⟩
theorem Tryd.lays146 : Go.Proofs.Lays.n146 Tryd.prog Tryd.lays146_ren where
  mixed := by kernel_rfl
  f138 := Tryd.func79.trans (congrArg some (by kernel_rfl))
  f143 := Tryd.func80.trans (congrArg some (by kernel_rfl))
  f146 := Tryd.func43.trans (congrArg some (by kernel_rfl))
  f195 := Tryd.func90.trans (congrArg some (by kernel_rfl))
  f197 := Tryd.func91.trans (congrArg some (by kernel_rfl))
  f217 := Tryd.func93.trans (congrArg some (by kernel_rfl))
  f218 := Tryd.func92.trans (congrArg some (by kernel_rfl))
  f219 := Tryd.func82.trans (congrArg some (by kernel_rfl))
  f221 := Tryd.func68.trans (congrArg some (by kernel_rfl))
  f224 := Tryd.func95.trans (congrArg some (by kernel_rfl))
  f225 := Tryd.func94.trans (congrArg some (by kernel_rfl))
  f260 := Tryd.func108.trans (congrArg some (by kernel_rfl))
  f266 := Tryd.func109.trans (congrArg some (by kernel_rfl))
  f267 := Tryd.func96.trans (congrArg some (by kernel_rfl))
  f268 := Tryd.func78.trans (congrArg some (by kernel_rfl))
  f314 := Tryd.func110.trans (congrArg some (by kernel_rfl))
  t0 := Tryd.underlying0
  a0 := Tryd.isAgg0
  z0 := Tryd.sizeOf0
  v0 := Tryd.zeroValue0
  t3 := Tryd.underlying3
  a3 := Tryd.isAgg3
  z3 := Tryd.sizeOf3
  v3 := Tryd.zeroValue3
  t4 := Tryd.underlying4
  a4 := Tryd.isAgg4
  z4 := Tryd.sizeOf4
  v4 := Tryd.zeroValue4
  t5 := Tryd.underlying5
  a5 := Tryd.isAgg5
  z5 := Tryd.sizeOf5
  v5 := Tryd.zeroValue5
  t9 := Tryd.underlying9
  a9 := Tryd.isAgg9
  z9 := Tryd.sizeOf9
  v9 := Tryd.zeroValue9
  t21 := Tryd.underlying21
  a21 := Tryd.isAgg21
  z21 := Tryd.sizeOf21
  v21 := Tryd.zeroValue21
  t31 := Tryd.underlying68
  a31 := Tryd.isAgg68
  z31 := Tryd.sizeOf68
  v31 := Tryd.zeroValue68
  t46 := Tryd.underlying106
  a46 := Tryd.isAgg106
  z46 := Tryd.sizeOf106
  v46 := Tryd.zeroValue106
  t51 := Tryd.underlying116
  a51 := Tryd.isAgg116
  z51 := Tryd.sizeOf116
  v51 := Tryd.zeroValue116
  t105 := Tryd.underlying124
  a105 := Tryd.isAgg124
  z105 := Tryd.sizeOf124
  v105 := Tryd.zeroValue124
  t119 := Tryd.underlying150
  a119 := Tryd.isAgg150
  z119 := Tryd.sizeOf150
  t138 := Tryd.underlying152
  a138 := Tryd.isAgg152
  z138 := Tryd.sizeOf152
  v138 := Tryd.zeroValue152
  t139 := Tryd.underlying153
  a139 := Tryd.isAgg153
  z139 := Tryd.sizeOf153
  v139 := Tryd.zeroValue153
  t146 := Tryd.underlying117
  a146 := Tryd.isAgg117
  z146 := Tryd.sizeOf117
  v146 := Tryd.zeroValue117
  g1 := by kernel_rfl
  g3 := by kernel_rfl
  g4 := by kernel_rfl
-- end of Tryd.lays146

theorem GK.cell {w : World} (g : GK w) : ∃ m, w.cell? ⟨0, 0, none⟩ = some (.int .i64 m) := g.max

theorem flat_str2 {w : World} {ok : Nat → Prop} {γ : Gam} {z y : ByteArray} {vals : List Value} (h : All2 (VRel w ok [] γ) [.w (.one (.val .str z)), .w (.one (.val .str y))] vals) : vals = [.string z, .string y] := by
  cases h with
  | cons h1 h2 => cases h2 with
    | cons h3 h4 => cases h4; rw [str_of h1, str_of h3]

def dinkCut : Desc := { n := 2, regs := [.one (.val .str), .one (.val .str)], bx := [], pins := [] }
def oukCut : Desc := { n := 3, regs := [.one (.val .str), .one (.val .str), .one (.val .bool)], bx := [], pins := [] }
noncomputable def FkCut (x : ByteArray × ByteArray × Unit) : Option (ByteArray × ByteArray × Bool × Unit) :=
  bif decide (x.1.size < 4294967281) then some (⟨(Lib.cut x.1.data.toList x.2.1.data.toList).1.toArray⟩, ⟨(Lib.cut x.1.data.toList x.2.1.data.toList).2.1.toArray⟩, (Lib.cut x.1.data.toList x.2.1.data.toList).2.2, ()) else none
noncomputable def conkCut : Con := ⟨48, dinkCut, [(.ret, oukCut)], FkCut⟩
theorem speckCut : Spec Tryd.prog conkCut := by
  refine Spec.flat ⟨Tryd.f48, by kernel_rfl, by kernel_rfl, by kernel_rfl⟩ (by kernel_rfl) rfl rfl rfl fun x o hx w ok γ vals hk hg hr => ?_
  obtain ⟨s, sep, ⟨⟩⟩ : ByteArray × ByteArray × Unit := x
  simp only [FkCut] at hx
  have hv := flat_str2 (z := s) (y := sep) hr
  subst hv
  by_cases hs : s.size < 4294967281
  · simp only [hs, decide_true, cond_true] at hx
    obtain rfl := Option.some.inj hx
    obtain ⟨m, hm⟩ := hg.cell
    refine (Any.strings_Cut Tryd.lays145 s sep m w hs hm).mono fun e w' he => ?_
    obtain ⟨rfl, n, rfl⟩ := he
    exact ⟨[_, _, _], rfl, fun ok' => .cons ⟨_, rfl, rfl⟩ (.cons ⟨_, rfl, rfl⟩ (.cons ⟨_, rfl, rfl⟩ .nil)), ⟨rfl, rfl, rfl, Nat.le_refl _, fun _ _ _ => rfl⟩⟩
  · simp only [hs, decide_false, cond_false] at hx
    cases hx

/-- No memory is handed over, a fresh row of strings comes back. -/
def oukRow : Desc := { n := 1, regs := [.one (.lit (.row 1012928))], bx := [(1012928, .row .str)], pins := [] }
theorem Spec.fresh {P : Program} {f : Nat} {d : Desc} {F : (tupT d.ts).den → Option (outT [(.ret, oukRow)])} (hc : Callable P f) (hok : Con.okB ⟨f, d, [(.ret, oukRow)], F⟩ = true) (hb : d.bx = [])
    (h : ∀ (x : (tupT d.ts).den) (xs : List ByteArray), F x = some (xs, ()) → ∀ (w : World) (ok : Nat → Prop) (γ : Gam) (vals : List Value), GK w → All2 (VRel w ok [] γ) (d.mk' x).regs vals →
      Calls P f vals.toArray w fun e w' => ∃ t, e = .returned (.slice (some ⟨w.heap.size, 0, none⟩) xs.length xs.length) ∧ w' = w.alloc (.cells (xs.map Value.string).toArray t)) : Spec P ⟨f, d, [(.ret, oukRow)], F⟩ := by
  refine ⟨hc, hok, fun x o hx w γ vals hat => ?_⟩
  obtain ⟨xs, ⟨⟩⟩ : List ByteArray × Unit := o
  have hbx : (d.mk' x).bx = [] := by simp [Desc.mk', hb, mkBx]
  have hr := hat.regs
  rw [hbx] at hr
  refine (h x xs hx w _ γ vals hat.hid.2.1 hr).mono fun e w' he => ?_
  obtain ⟨t, rfl, rfl⟩ := he
  intro d' s1 hd
  obtain ⟨rfl, rfl⟩ := hd
  change ∃ γ1 vals', _ = retV vals' ∧ After w γ (owned (d.mk' x).bx γ.f) _ ({ regs := [.w (.one (.row 1012928))], bx := [(1012928, .row .str xs)], pins := [] } : S) γ1 vals' _
  have hsz : (w.alloc (.cells (xs.map Value.string).toArray t)).heap.size = w.heap.size + 1 := by rw [Go.Sort.alloc_eq_grow]; simp [Go.Sort.grow]
  have hown : owned [(1012928, Box.row .str xs)] (⟨fun _ => ⟨some ⟨w.heap.size, 0, none⟩, xs.length, [w.heap.size]⟩, γ.hid⟩ : Gam) = [w.heap.size] := by simp [owned]
  refine ⟨⟨fun _ => ⟨some ⟨w.heap.size, 0, none⟩, xs.length, [w.heap.size]⟩, γ.hid⟩, [_], rfl, ?_, ?_, ?_, ?_, ?_, rfl⟩
  · refine ⟨by simp, by rw [hown]; simp, by rw [hown, hsz]; simp, fun b x hb => ?_⟩
    have : b = 1012928 ∧ x = .row .str xs := by
      simp only [find] at hb
      cases hc : (1012928 == b) with
      | true => rw [hc] at hb; exact ⟨by have := beq_iff_eq.1 hc; exact this.symm, by simpa using hb.symm⟩
      | false => rw [hc] at hb; cases hb
    obtain ⟨rfl, rfl⟩ := this
    refine .inr ⟨w.heap.size, 0, (xs.map Value.string).toArray, t, List.replicate xs.length [], rfl, by simp, (by rw [Go.Sort.alloc_eq_grow]; simp only [Go.Sort.grow]; simp), Nat.le_refl _, by simp [Ty.sz], by simp, fun i h1 h2 => ?_⟩
    refine ⟨[.string xs[i]], ⟨rfl, by simp⟩, rfl, fun j v hj => ?_⟩
    have hj0 : j = 0 := by
      have := (List.getElem?_eq_some_iff.1 hj).1
      simpa using this
    subst hj0
    simp at hj
    subst hj
    simp [Ty.sz, h1]
  · exact .cons ⟨.row .str xs, .str, xs.length, rfl, rfl, rfl⟩ .nil
  · intro i v hi
    simp at hi
  · rw [hbx]
    exact ⟨rfl, rfl, rfl, by rw [hsz]; omega, fun k hk _ => by rw [Go.Sort.alloc_eq_grow]; simp only [Go.Sort.grow]; rw [Array.getElem?_append_left hk]⟩
  · rw [hown]; intro n hn; simp at hn; exact .inr (Nat.le_of_eq hn.symm)

noncomputable def FkSplit (x : ByteArray × ByteArray × Unit) : Option (List ByteArray × Unit) :=
  bif decide (x.1.size < 4294967281) && decide (1 ≤ x.2.1.size) then some (Lib.splitB x.2.1 0 (Lib.countB x.1 x.2.1) x.1, ()) else none
noncomputable def conkSplit : Con := ⟨43, dinkCut, [(.ret, oukRow)], FkSplit⟩
theorem speckSplit : Spec Tryd.prog conkSplit := by
  refine Spec.fresh ⟨Tryd.f43, by kernel_rfl, by kernel_rfl, by kernel_rfl⟩ (by kernel_rfl) rfl fun x xs hx w ok γ vals hg hr => ?_
  obtain ⟨s, sep, ⟨⟩⟩ : ByteArray × ByteArray × Unit := x
  simp only [FkSplit] at hx
  have hv := flat_str2 (z := s) (y := sep) hr
  subst hv
  by_cases hs : s.size < 4294967281 ∧ 1 ≤ sep.size
  · simp only [hs.1, hs.2, decide_true, Bool.and_self, cond_true] at hx
    have hxs : Lib.splitB sep 0 (Lib.countB s sep) s = xs := (Prod.mk.inj (Option.some.inj hx)).1
    subst hxs
    obtain ⟨m, hm⟩ := hg.cell
    refine (Any.strings_Split Tryd.lays146 (by kernel_rfl) s sep m w hs.1 hm hs.2).mono fun e w' he => ?_
    obtain ⟨rfl, rfl⟩ := he
    rw [Lib.splitB_all sep hs.2 0 _ s rfl]
    exact ⟨_, rfl, rfl⟩
  · have hn : (decide (s.size < 4294967281) && decide (1 ≤ sep.size)) = false := by
      simp only [Bool.and_eq_false_iff, decide_eq_false_iff_not]
      omega
    simp only [hn, cond_false] at hx
    cases hx
end Go.Fl
namespace Go.Fl
open Go Go.Proofs Go.Shelf Go.RowKit
def dinkJoin : Desc := { n := 2, regs := [.one (.val (.sl .str)), .one (.val .str)], bx := [], pins := [] }
noncomputable def joinF (xs : List ByteArray) (sep : ByteArray) : ByteArray := ⟨(Lib.join (xs.map fun x => x.data.toList) sep.data.toList).toArray⟩
noncomputable def FkJoin (x : List ByteArray × ByteArray × Unit) : Option (ByteArray × Unit) :=
  bif decide (x.1.length ≤ 140737488355328) && decide ((joinF x.1 x.2.1).size ≤ 140737488355328) then some (joinF x.1 x.2.1, ()) else none
noncomputable def conkJoin : Con := ⟨56, dinkJoin, [(.ret, oukItoa)], FkJoin⟩
theorem speckJoin : Spec Tryd.prog conkJoin := by
  refine Spec.flat ⟨Tryd.f56, by kernel_rfl, by kernel_rfl, by kernel_rfl⟩ (by kernel_rfl) rfl rfl rfl fun x o hx w ok γ vals hk hg hr => ?_
  obtain ⟨xs, sep, ⟨⟩⟩ : List ByteArray × ByteArray × Unit := x
  simp only [FkJoin] at hx
  have hv : ∃ (A : Option Addr) (c : Nat), vals = [.slice A xs.length c, .string sep] ∧ xs.length ≤ c ∧
      ∀ i (h : i < xs.length), ∃ (a : Addr) (us : List Value), A = some a ∧ a.spot = none ∧ ok a.block ∧ Rdf w ok .str xs[i] us ∧ CellsAt w a (i * Ty.str.sz) us := by
    have hr' : All2 (VRel w ok [] γ) [.w (.one (.val (.sl .str) xs)), .w (.one (.val .str sep))] vals := hr
    cases hr' with
    | cons h1 h2 => cases h2 with
      | cons h3 h4 =>
        cases h4
        rw [str_of h3]
        obtain ⟨cs, ⟨A, c, rfl, hc, hel⟩, rfl⟩ := h1
        exact ⟨A, c, rfl, hc, hel⟩
  obtain ⟨A, c, rfl, hc, hel⟩ := hv
  by_cases hs : xs.length ≤ 140737488355328 ∧ (joinF xs sep).size ≤ 140737488355328
  · simp only [hs.1, hs.2, decide_true, Bool.and_self, cond_true] at hx
    obtain rfl := Option.some.inj hx
    have fin : ∀ {w' : World} {e : Ending}, e = .returned (.string (joinF xs sep)) ∧ Below w.heap.size w w' → (match e, w' with
        | .returned v, w' => ∃ vals', v = retV vals' ∧ (∀ ok', All2 (VRel w' ok' [] γ) (oukItoa.mk' (joinF xs sep, ())).regs vals') ∧ Fr [] w w'
        | _, _ => False) := by
      rintro w' e ⟨rfl, hb⟩
      exact ⟨[_], rfl, fun ok' => .cons ⟨_, rfl, rfl⟩ .nil, Fr.below hb⟩
    cases xs with
    | nil =>
      refine (Any.strings_Join_none Tryd.lays156 Tryd.Builder_Extra A c sep w).mono fun e w' he => ?_
      obtain ⟨rfl, rfl⟩ := he
      exact fin ⟨rfl, Below.refl _ _⟩
    | cons x r =>
      obtain ⟨a, us, rfl, hsp, hok, _, _⟩ := hel 0 (by simp)
      obtain ⟨bk, o, sp⟩ := a
      cases hsp
      refine (Any.strings_Join Tryd.lays156 Tryd.Builder_Extra bk o c (x :: r) sep w (fun j y hj => ?_) (hk _ hok) hs.1 hc (by have := hs.2; simpa [joinF, ByteArray.size] using this)).mono fun e w' he => fin he
      obtain ⟨hj1, rfl⟩ := List.getElem?_eq_some_iff.1 hj
      obtain ⟨a', us, ha, _, _, h1, h2⟩ := hel j hj1
      cases ha
      cases h1
      have := h2 0 _ rfl
      simpa [Ty.sz, Addr.add] using this
  · have hn : (decide (xs.length ≤ 140737488355328) && decide ((joinF xs sep).size ≤ 140737488355328)) = false := by
      simp only [Bool.and_eq_false_iff, decide_eq_false_iff_not]
      omega
    simp only [hn, cond_false] at hx
    cases hx
end Go.Fl
namespace Go.Fl
open Go Go.Proofs
noncomputable abbrev Fhfigure (_N : Nat) := Fifigure
noncomputable def conhfigure (_N : Nat) : Con := conifigure
theorem spechfigure (N : Nat) : Spec Tryd.prog (conhfigure N) := specifigure
noncomputable abbrev FhCut (_N : Nat) := FkCut
noncomputable def conhCut (_N : Nat) : Con := conkCut
theorem spechCut (N : Nat) : Spec Tryd.prog (conhCut N) := speckCut
noncomputable abbrev FhSplit (_N : Nat) := FkSplit
noncomputable def conhSplit (_N : Nat) : Con := conkSplit
theorem spechSplit (N : Nat) : Spec Tryd.prog (conhSplit N) := speckSplit
noncomputable abbrev FhJoin (_N : Nat) := FkJoin
noncomputable def conhJoin (_N : Nat) : Con := conkJoin
theorem spechJoin (N : Nat) : Spec Tryd.prog (conhJoin N) := speckJoin
end Go.Fl
namespace Go.Fl
open Go Go.Proofs Go.Shelf Go.RowKit
set_option maxRecDepth 100000

/-- The words of the kinds of operations, and where their numbers stand. -/
def kWord : Nat → List UInt8
  | 1 => [110, 101, 119]
  | 2 => [108, 111, 97, 100]
  | 3 => [115, 116, 111, 114, 101]
  | 4 => [112, 117, 116]
  | 5 => [103, 101, 116]
  | 6 => [115, 97, 109, 101]
  | 7 => [99, 97, 115]
  | 8 => [100, 114, 111, 112]
  | 9 => [100, 117, 112]
  | 10 => [112, 105, 110]
  | 11 => [117, 110, 112, 105, 110]
  | _ => []
def kOffs : Nat → List Nat
  | 1 => [6, 7]
  | 2 => [1, 4]
  | 3 => [1, 4, 2]
  | 4 => [1, 4, 5]
  | 5 => [1, 4]
  | 6 => [1, 2]
  | 7 => [1, 4, 2, 3]
  | 8 => []
  | 9 => [1]
  | 10 => [1]
  | 11 => [1]
  | _ => []

/-- A row of pointers into block b. -/
def PtrRow (b : Nat) (offs : List Nat) (w w' : World) (sl : Value) : Prop :=
  Below w.heap.size w w' ∧ ∃ A : Option Addr, sl = .slice A offs.length offs.length ∧ ∀ i (h : i < offs.length), ∃ B, A = some ⟨B, 0, none⟩ ∧ w.heap.size ≤ B ∧ B < w'.heap.size ∧ w'.cell? ⟨B, i, none⟩ = some (.pointer (some ⟨b, offs[i], none⟩))

theorem PtrRow.made {b : Nat} {offs : List Nat} {w : World} {t : TypeId} : PtrRow b offs w (w.alloc (.cells (offs.map fun o => Value.pointer (some ⟨b, o, none⟩)).toArray t)).drew (.slice (some ⟨w.heap.size, 0, none⟩) offs.length offs.length) := by
  have hh : (w.alloc (.cells (offs.map fun o => Value.pointer (some ⟨b, o, none⟩)).toArray t)).drew.heap = w.heap.push (.cells (offs.map fun o => Value.pointer (some ⟨b, o, none⟩)).toArray t) := rfl
  refine ⟨⟨rfl, rfl, rfl, by rw [hh, Array.size_push]; omega, fun n hn => by rw [hh, Array.getElem?_push_lt hn, Array.getElem?_eq_getElem hn]⟩, _, rfl, fun i h => ⟨_, rfl, Nat.le_refl _, by rw [hh, Array.size_push]; omega, ?_⟩⟩
  unfold World.cell?
  rw [hh, Array.getElem?_push_size]
  simp [h]
theorem PtrRow.none {b : Nat} {w w' : World} (h : Below w.heap.size w w') : PtrRow b [] w w' (.slice none 0 0) := ⟨h, _, rfl, fun i h => absurd h (Nat.not_lt_zero _)⟩

theorem Tryd.spoken1 (b : Nat) (w : World) (h : w.cell? ⟨b, 0, none⟩ = some (.int .i64 1)) :
    Calls Tryd.prog 61 #[.pointer (some ⟨b, 0, none⟩)] w fun e w' => ∃ sl, e = .returned (.tuple #[.string (ByteArray.mk (kWord 1).toArray), sl]) ∧ PtrRow b (kOffs 1) w w' sl := by
  go_enter Tryd.func61, Tryd.ntmps61
  go_wp2
  go_region
  all_goals (go_wp2; go_ret2)
  exact ⟨_, rfl, PtrRow.made (offs := kOffs 1)⟩
theorem Tryd.spoken2 (b : Nat) (w : World) (h : w.cell? ⟨b, 0, none⟩ = some (.int .i64 2)) :
    Calls Tryd.prog 61 #[.pointer (some ⟨b, 0, none⟩)] w fun e w' => ∃ sl, e = .returned (.tuple #[.string (ByteArray.mk (kWord 2).toArray), sl]) ∧ PtrRow b (kOffs 2) w w' sl := by
  go_enter Tryd.func61, Tryd.ntmps61
  go_wp2
  go_region
  all_goals (go_wp2; go_ret2)
  exact ⟨_, rfl, PtrRow.made (offs := kOffs 2)⟩
theorem Tryd.spoken3 (b : Nat) (w : World) (h : w.cell? ⟨b, 0, none⟩ = some (.int .i64 3)) :
    Calls Tryd.prog 61 #[.pointer (some ⟨b, 0, none⟩)] w fun e w' => ∃ sl, e = .returned (.tuple #[.string (ByteArray.mk (kWord 3).toArray), sl]) ∧ PtrRow b (kOffs 3) w w' sl := by
  go_enter Tryd.func61, Tryd.ntmps61
  go_wp2
  go_region
  all_goals (go_wp2; go_ret2)
  exact ⟨_, rfl, PtrRow.made (offs := kOffs 3)⟩
theorem Tryd.spoken4 (b : Nat) (w : World) (h : w.cell? ⟨b, 0, none⟩ = some (.int .i64 4)) :
    Calls Tryd.prog 61 #[.pointer (some ⟨b, 0, none⟩)] w fun e w' => ∃ sl, e = .returned (.tuple #[.string (ByteArray.mk (kWord 4).toArray), sl]) ∧ PtrRow b (kOffs 4) w w' sl := by
  go_enter Tryd.func61, Tryd.ntmps61
  go_wp2
  go_region
  all_goals (go_wp2; go_ret2)
  exact ⟨_, rfl, PtrRow.made (offs := kOffs 4)⟩
theorem Tryd.spoken5 (b : Nat) (w : World) (h : w.cell? ⟨b, 0, none⟩ = some (.int .i64 5)) :
    Calls Tryd.prog 61 #[.pointer (some ⟨b, 0, none⟩)] w fun e w' => ∃ sl, e = .returned (.tuple #[.string (ByteArray.mk (kWord 5).toArray), sl]) ∧ PtrRow b (kOffs 5) w w' sl := by
  go_enter Tryd.func61, Tryd.ntmps61
  go_wp2
  go_region
  all_goals (go_wp2; go_ret2)
  exact ⟨_, rfl, PtrRow.made (offs := kOffs 5)⟩
theorem Tryd.spoken6 (b : Nat) (w : World) (h : w.cell? ⟨b, 0, none⟩ = some (.int .i64 6)) :
    Calls Tryd.prog 61 #[.pointer (some ⟨b, 0, none⟩)] w fun e w' => ∃ sl, e = .returned (.tuple #[.string (ByteArray.mk (kWord 6).toArray), sl]) ∧ PtrRow b (kOffs 6) w w' sl := by
  go_enter Tryd.func61, Tryd.ntmps61
  go_wp2
  go_region
  all_goals (go_wp2; go_ret2)
  exact ⟨_, rfl, PtrRow.made (offs := kOffs 6)⟩
theorem Tryd.spoken7 (b : Nat) (w : World) (h : w.cell? ⟨b, 0, none⟩ = some (.int .i64 7)) :
    Calls Tryd.prog 61 #[.pointer (some ⟨b, 0, none⟩)] w fun e w' => ∃ sl, e = .returned (.tuple #[.string (ByteArray.mk (kWord 7).toArray), sl]) ∧ PtrRow b (kOffs 7) w w' sl := by
  go_enter Tryd.func61, Tryd.ntmps61
  go_wp2
  go_region
  all_goals (go_wp2; go_ret2)
  exact ⟨_, rfl, PtrRow.made (offs := kOffs 7)⟩
theorem Tryd.spoken8 (b : Nat) (w : World) (h : w.cell? ⟨b, 0, none⟩ = some (.int .i64 8)) :
    Calls Tryd.prog 61 #[.pointer (some ⟨b, 0, none⟩)] w fun e w' => ∃ sl, e = .returned (.tuple #[.string (ByteArray.mk (kWord 8).toArray), sl]) ∧ PtrRow b (kOffs 8) w w' sl := by
  go_enter Tryd.func61, Tryd.ntmps61
  go_wp2
  all_goals (first | (go_region; go_wp2; go_ret2) | go_ret2)
  exact ⟨_, rfl, PtrRow.none (by first | exact Below.refl _ _ | exact (Below.refl _ _).drew)⟩
theorem Tryd.spoken9 (b : Nat) (w : World) (h : w.cell? ⟨b, 0, none⟩ = some (.int .i64 9)) :
    Calls Tryd.prog 61 #[.pointer (some ⟨b, 0, none⟩)] w fun e w' => ∃ sl, e = .returned (.tuple #[.string (ByteArray.mk (kWord 9).toArray), sl]) ∧ PtrRow b (kOffs 9) w w' sl := by
  go_enter Tryd.func61, Tryd.ntmps61
  go_wp2
  go_region
  all_goals (go_wp2; go_ret2)
  exact ⟨_, rfl, PtrRow.made (offs := kOffs 9)⟩
theorem Tryd.spoken10 (b : Nat) (w : World) (h : w.cell? ⟨b, 0, none⟩ = some (.int .i64 10)) :
    Calls Tryd.prog 61 #[.pointer (some ⟨b, 0, none⟩)] w fun e w' => ∃ sl, e = .returned (.tuple #[.string (ByteArray.mk (kWord 10).toArray), sl]) ∧ PtrRow b (kOffs 10) w w' sl := by
  go_enter Tryd.func61, Tryd.ntmps61
  go_wp2
  go_region
  all_goals (go_wp2; go_ret2)
  exact ⟨_, rfl, PtrRow.made (offs := kOffs 10)⟩
theorem Tryd.spoken11 (b : Nat) (w : World) (h : w.cell? ⟨b, 0, none⟩ = some (.int .i64 11)) :
    Calls Tryd.prog 61 #[.pointer (some ⟨b, 0, none⟩)] w fun e w' => ∃ sl, e = .returned (.tuple #[.string (ByteArray.mk (kWord 11).toArray), sl]) ∧ PtrRow b (kOffs 11) w w' sl := by
  go_enter Tryd.func61, Tryd.ntmps61
  go_wp2
  go_region
  all_goals (go_wp2; go_ret2)
  exact ⟨_, rfl, PtrRow.made (offs := kOffs 11)⟩
theorem Tryd.spoken (k : Nat) (h1 : 1 ≤ k) (h11 : k ≤ 11) (b : Nat) (w : World) (h : w.cell? ⟨b, 0, none⟩ = some (.int .i64 k)) :
    Calls Tryd.prog 61 #[.pointer (some ⟨b, 0, none⟩)] w fun e w' => ∃ sl, e = .returned (.tuple #[.string (ByteArray.mk (kWord k).toArray), sl]) ∧ PtrRow b (kOffs k) w w' sl := by
  have : k = 1 ∨ k = 2 ∨ k = 3 ∨ k = 4 ∨ k = 5 ∨ k = 6 ∨ k = 7 ∨ k = 8 ∨ k = 9 ∨ k = 10 ∨ k = 11 := by omega
  rcases this with rfl | rfl | rfl | rfl | rfl | rfl | rfl | rfl | rfl | rfl | rfl
  · exact Tryd.spoken1 b w h
  · exact Tryd.spoken2 b w h
  · exact Tryd.spoken3 b w h
  · exact Tryd.spoken4 b w h
  · exact Tryd.spoken5 b w h
  · exact Tryd.spoken6 b w h
  · exact Tryd.spoken7 b w h
  · exact Tryd.spoken8 b w h
  · exact Tryd.spoken9 b w h
  · exact Tryd.spoken10 b w h
  · exact Tryd.spoken11 b w h
end Go.Fl
-- FUNCS qShapeOk qOpOk qsized
set_option maxRecDepth 100000
set_option linter.all false
namespace Go.Fl
open Go Go.Proofs
noncomputable def TEq : List (Nat × Ty) := [(3, (.int .i64)),
  (33, (.pair (.int .i64) (.pair (.int .i64) .unit))),
  (35, (.pair (.int .i64) (.pair (.int .i64) (.pair (.int .i64) (.pair (.int .i64) (.pair (.int .i64) (.pair (.int .i64) (.pair (.pair (.int .i64) (.pair (.int .i64) .unit)) .unit))))))))]
theorem TEq_ok : TyOk Tryd.prog TEq := tysB_spec (by kernel_rfl)
theorem mixedq : Tryd.prog.follows .mixedOrders = true := by kernel_rfl

/-! ### 69: impl.ShapeOk -/

noncomputable def dinqShapeOk : Desc := { n := 1, regs := [.one (.val (.pair (.int .i64) (.pair (.int .i64) .unit)))], bx := [], pins := [] }
noncomputable def outqShapeOk : Outs := [(.ret, { n := 1, regs := [.one (.val .bool)], bx := [], pins := [] })]
noncomputable def HqShapeOk : Hints := [(0, [(0, { fz := true })])]
noncomputable def EqShapeOk (_N : Nat) : Env := { te := TEq, cs := [] }
noncomputable def FqShapeOk (N : Nat) (x : ((Int × (Int × Unit)) × Unit)) : Option (Bool × Unit) :=
  bif decide (x.1.1 ≥ (0 : Int)) then
   bif decide (x.1.1 ≤ (4 : Int)) then
    bif decide (x.1.2.1 ≥ (0 : Int)) then
     some (decide (x.1.2.1 ≤ (4 : Int)), ())
    else
    some (false, ())
   else
   some (false, ())
  else
  some (false, ())
noncomputable def conqShapeOk (N : Nat) : Con := { f := 69, din := dinqShapeOk, outs := outqShapeOk, F := FqShapeOk N }
noncomputable def XqShapeOk (N : Nat) : Ctx := { E := EqShapeOk N, H := HqShapeOk, lp := [], jn := [] }
theorem FqShapeOk_eq (N : Nat) (x : ((Int × (Int × Unit)) × Unit)) : evFn (XqShapeOk N) Tryd.f69 dinqShapeOk outqShapeOk x = FqShapeOk N x := by kernel_rfl
theorem cxqShapeOk (N : Nat) : CtxOk Tryd.prog (XqShapeOk N) := ⟨⟨TEq_ok, fun k hk => absurd hk List.not_mem_nil⟩, mixedq⟩
theorem specqShapeOk (N : Nat) : Spec Tryd.prog (conqShapeOk N) :=
  Spec.of_eq (fn_spec (cxqShapeOk N) (f := 69) (fn := Tryd.f69) (c := codeOf Tryd.f69) (by kernel_rfl) (by kernel_rfl) (by kernel_rfl) (loops_at (ids := []) (by kernel_rfl) (trivial)) (by kernel_rfl)) (fun x r h => (FqShapeOk_eq N x).trans h)

/-! ### 44: impl.OpOk -/

noncomputable def dinqOpOk : Desc := { n := 1, regs := [.one (.val (.pair (.int .i64) (.pair (.int .i64) (.pair (.int .i64) (.pair (.int .i64) (.pair (.int .i64) (.pair (.int .i64) (.pair (.pair (.int .i64) (.pair (.int .i64) .unit)) .unit))))))))], bx := [], pins := [] }
noncomputable def outqOpOk : Outs := [(.ret, { n := 1, regs := [.one (.val .bool)], bx := [], pins := [] })]
noncomputable def HqOpOk : Hints := [(0, [(0, { fz := true })])]
noncomputable def EqOpOk (N : Nat) : Env := { te := TEq, cs := [conqShapeOk N] }
noncomputable def FqOpOk (N : Nat) (x : ((Int × (Int × (Int × (Int × (Int × (Int × ((Int × (Int × Unit)) × Unit))))))) × Unit)) : Option (Bool × Unit) :=
  bif decide (x.1.1 ≥ (1 : Int)) then
   bif decide (x.1.1 ≤ (11 : Int)) then
    bif x.1.1 != (1 : Int) then
     some (true, ())
    else
    (FqShapeOk N (x.1.2.2.2.2.2.2.1, ())).bind fun r1 =>
    some (r1.1, ())
   else
   some (false, ())
  else
  some (false, ())
noncomputable def conqOpOk (N : Nat) : Con := { f := 44, din := dinqOpOk, outs := outqOpOk, F := FqOpOk N }
noncomputable def XqOpOk (N : Nat) : Ctx := { E := EqOpOk N, H := HqOpOk, lp := [], jn := [] }
theorem FqOpOk_eq (N : Nat) (x : ((Int × (Int × (Int × (Int × (Int × (Int × ((Int × (Int × Unit)) × Unit))))))) × Unit)) : evFn (XqOpOk N) Tryd.f44 dinqOpOk outqOpOk x = FqOpOk N x := by kernel_rfl
theorem cxqOpOk (N : Nat) : CtxOk Tryd.prog (XqOpOk N) := ⟨⟨TEq_ok, List.forall_mem_cons.2 ⟨(specqShapeOk N), fun k hk => absurd hk List.not_mem_nil⟩⟩, mixedq⟩
theorem specqOpOk (N : Nat) : Spec Tryd.prog (conqOpOk N) :=
  Spec.of_eq (fn_spec (cxqOpOk N) (f := 44) (fn := Tryd.f44) (c := codeOf Tryd.f44) (by kernel_rfl) (by kernel_rfl) (by kernel_rfl) (loops_at (ids := []) (by kernel_rfl) (trivial)) (by kernel_rfl)) (fun x r h => (FqOpOk_eq N x).trans h)

/-! ### 54: impl.sized -/

noncomputable def dinqsized : Desc := { n := 1, regs := [.one (.val (.int .i64))], bx := [], pins := [] }
noncomputable def outqsized : Outs := [(.ret, { n := 1, regs := [.one (.val .bool)], bx := [], pins := [] })]
noncomputable def Hqsized : Hints := []
noncomputable def Eqsized (_N : Nat) : Env := { te := TEq, cs := [] }
noncomputable def Fqsized (N : Nat) (x : (Int × Unit)) : Option (Bool × Unit) :=
  bif decide (x.1 ≥ (-999999999 : Int)) then
   some (decide (x.1 ≤ (999999999 : Int)), ())
  else
  some (false, ())
noncomputable def conqsized (N : Nat) : Con := { f := 54, din := dinqsized, outs := outqsized, F := Fqsized N }
noncomputable def Xqsized (N : Nat) : Ctx := { E := Eqsized N, H := Hqsized, lp := [], jn := [] }
theorem Fqsized_eq (N : Nat) (x : (Int × Unit)) : evFn (Xqsized N) Tryd.f54 dinqsized outqsized x = Fqsized N x := by kernel_rfl
theorem cxqsized (N : Nat) : CtxOk Tryd.prog (Xqsized N) := ⟨⟨TEq_ok, fun k hk => absurd hk List.not_mem_nil⟩, mixedq⟩
theorem specqsized (N : Nat) : Spec Tryd.prog (conqsized N) :=
  Spec.of_eq (fn_spec (cxqsized N) (f := 54) (fn := Tryd.f54) (c := codeOf Tryd.f54) (by kernel_rfl) (by kernel_rfl) (by kernel_rfl) (loops_at (ids := []) (by kernel_rfl) (trivial)) (by kernel_rfl)) (fun x r h => (Fqsized_eq N x).trans h)

end Go.Fl
/- Contracts used in walks by hand. -/
namespace Go.Fl
open Go Go.Proofs Go.Shelf Go.RowKit
set_option maxRecDepth 100000

/-- A contract, where nothing is handed over but what is only read. -/
theorem Spec.use {P : Program} {f : Nat} {din od : Desc} {F : (tupT din.ts).den → Option (outT [(.ret, od)])} (hs : Spec P ⟨f, din, [(.ret, od)], F⟩)
    {x : (tupT din.ts).den} {o : (tupT od.ts).den} (hx : F x = some o) (hbx : (din.mk' x).bx = []) {w : World} (hg : GK w) {vals : List Value}
    (hA : All2 (VRel w (· < w.heap.size) [] (fun _ => default)) (din.mk' x).regs vals) :
    Calls P f vals.toArray w fun e w' => ∃ γ1 vals', e = .returned (retV vals') ∧ After w ⟨fun _ => default, []⟩ [] (vals ++ []) (od.mk' o) γ1 vals' w' := by
  obtain ⟨_, _, h⟩ := hs
  refine (h x _ hx w ⟨fun _ => default, []⟩ vals ⟨⟨by rw [hbx]; simp, by rw [hbx]; simp [owned], by rw [hbx]; simp [owned], by rw [hbx]; intro b y hy; simp [find] at hy⟩, ?_, by simp, hg, fun n hn => ⟨Nat.lt_of_lt_of_le hn hg.size, by rw [hbx]; simp [owned]⟩⟩).mono fun e W' he => ?_
  · refine hA.imp fun v _ y hy => ?_
    have e : okOf w (din.mk' x).bx ⟨fun _ => default, []⟩ = (· < w.heap.size) := by
      funext n; rw [hbx]; simp [okOf, owned]
    rw [e, hbx]
    exact hy
  · cases e with
    | returned v =>
      obtain ⟨γ1, vals', rfl, ha⟩ := he od _ ⟨rfl, rfl⟩
      rw [hbx] at ha
      exact ⟨γ1, vals', rfl, by simpa [owned, cvals] using ha⟩
    | _ => exact he.elim
theorem After.below {w w' : World} {γ γ1 : Gam} {vals vals' : List Value} {s1 : S} (h : After w γ [] vals s1 γ1 vals' w') : Below w.heap.size w w' := ⟨h.fr.os, h.fr.tape, h.fr.output, h.fr.size, fun n hn => h.fr.block n hn (by simp)⟩

abbrev OpD := Int × Int × Int × Int × Int × Int × (Int × Int × Unit) × Unit
def opL (o : OpD) : List Int := [o.1, o.2.1, o.2.2.1, o.2.2.2.1, o.2.2.2.2.1, o.2.2.2.2.2.1, o.2.2.2.2.2.2.1.1, o.2.2.2.2.2.2.1.2.1]
def opV (o : OpD) : Value := .agg ((opL o).map (Value.int .i64)).toArray

theorem Tryd.opOk (o : OpD) (c : Bool) (hc : FqOpOk 0 (o, ()) = some (c, ())) (w : World) (hg : GK w) :
    Calls Tryd.prog 44 #[opV o] w fun e w' => e = .returned (.bool c) ∧ Below w.heap.size w w' := by
  obtain ⟨a0, a1, a2, a3, a4, a5, ⟨a6, a7, ⟨⟩⟩, ⟨⟩⟩ := o
  refine (Spec.use (specqOpOk 0) hc rfl hg (vals := [opV (a0, a1, a2, a3, a4, a5, (a6, a7, ()), ())]) (.cons ⟨[.int .i64 a0, .int .i64 a1, .int .i64 a2, .int .i64 a3, .int .i64 a4, .int .i64 a5, .int .i64 a6, .int .i64 a7], ?_, rfl⟩ .nil)).mono fun e w' he => ?_
  · exact ⟨[_], [_, _, _, _, _, _, _], rfl, rfl, [_], [_, _, _, _, _, _], rfl, rfl, [_], [_, _, _, _, _], rfl, rfl, [_], [_, _, _, _], rfl, rfl, [_], [_, _, _], rfl, rfl, [_], [_, _], rfl, rfl, [_, _], [], rfl, ⟨[_], [_], rfl, rfl, [_], [], rfl, rfl, rfl⟩, rfl⟩
  · obtain ⟨γ1, vals', rfl, ha⟩ := he
    refine ⟨?_, ha.below⟩
    have hr := ha.regs
    cases hr with
    | cons h1 h2 =>
      cases h2
      obtain ⟨cs, hcs, rfl⟩ := h1
      have : cs = [.bool c] := hcs
      subst this
      rfl
def szd (n : Int) : Bool := decide (-999999999 ≤ n) && decide (n ≤ 999999999)
theorem Tryd.sized (n : Int) (w : World) (hg : GK w) :
    Calls Tryd.prog 54 #[.int .i64 n] w fun e w' => e = .returned (.bool (szd n)) ∧ Below w.heap.size w w' := by
  have hc : Fqsized 0 (n, ()) = some (szd n, ()) := by
    unfold szd
    by_cases h : -999999999 ≤ n
    · have : n ≥ -999999999 := h
      simp only [Fqsized, this, h, decide_true, cond_true, Bool.true_and]
    · have : ¬ n ≥ -999999999 := h
      simp only [Fqsized, this, h, decide_false, cond_false, Bool.false_and]
  refine (Spec.use (specqsized 0) hc rfl hg (vals := [.int .i64 n]) (.cons ⟨[.int .i64 n], rfl, rfl⟩ .nil)).mono fun e w' he => ?_
  obtain ⟨γ1, vals', rfl, ha⟩ := he
  refine ⟨?_, ha.below⟩
  have hr := ha.regs
  cases hr with
  | cons h1 h2 =>
    cases h2
    obtain ⟨cs, hcs, rfl⟩ := h1
    have : cs = [.bool (szd n)] := hcs
    subst this
    rfl
theorem itoaLen {v : Int} (h1 : -9223372036854775808 ≤ v) (h2 : v ≤ 9223372036854775807) : (Lib.itoa v).length ≤ 21 := by
  have key : ∀ (k n : Nat), n < 10 ^ (k + 1) → Lib.nDigits n ≤ k + 1 := by
    intro k
    induction k with
    | zero => intro n hn; rw [Lib.nDigits_small (by simpa using hn)]; omega
    | succ k ih =>
      intro n hn
      by_cases h : n < 10
      · rw [Lib.nDigits_small h]; omega
      · rw [Lib.nDigits_big h]
        have := ih (n / 10) (by rw [Nat.pow_succ] at hn; omega)
        omega
  have h20 : (10 : Nat) ^ (19 + 1) = 100000000000000000000 := by decide
  unfold Lib.itoa
  split
  · rw [List.length_cons, Lib.decDigits_length]
    have := key 19 v.natAbs (by omega); omega
  · rw [Lib.decDigits_length]
    have := key 19 v.toNat (by omega); omega
end Go.Fl
namespace Go.Fl
open Go Go.Proofs Go.Shelf Go.RowKit
set_option maxRecDepth 100000
/-- Numbers, each with a blank ahead. -/
def numsT (ns : List Int) : List UInt8 := (ns.map fun n => 32 :: Lib.itoa n).flatten
def opNums (o : OpD) : List Int := (kOffs o.1.toNat).map fun j => (opL o).getD j 0
theorem ba_app (a b : List UInt8) : ByteArray.mk a.toArray ++ ByteArray.mk b.toArray = ByteArray.mk (a ++ b).toArray := by
  apply ByteArray.ext
  simp
theorem numsT_len : ∀ ns : List Int, (∀ n ∈ ns, -9223372036854775808 ≤ n ∧ n ≤ 9223372036854775807) → (numsT ns).length ≤ 22 * ns.length
  | [], _ => by simp [numsT]
  | n :: ns, h => by
    have h1 := numsT_len ns (fun x hx => h x (List.mem_cons_of_mem _ hx))
    have h2 := h n (by simp)
    have h3 := itoaLen h2.1 h2.2
    simp only [numsT, List.map_cons, List.flatten_cons, List.length_append, List.length_cons] at h1 ⊢
    omega
theorem szd_rng {n : Int} (h : szd n = true) : -9223372036854775808 ≤ n ∧ n ≤ 9223372036854775807 := by
  simp only [szd, Bool.and_eq_true, decide_eq_true_eq] at h; omega
theorem kOffs_len (k : Nat) : (kOffs k).length ≤ 4 := by
  unfold kOffs; split <;> simp
theorem kWord_len (k : Nat) : (kWord k).length ≤ 5 := by
  unfold kWord; split <;> simp
theorem numsT_take {ns : List Int} {i : Nat} (h : i < ns.length) : numsT (ns.take (i + 1)) = numsT (ns.take i) ++ 32 :: Lib.itoa ns[i] := by
  have e : ns.take (i + 1) = ns.take i ++ [ns[i]] := by rw [List.take_add_one, List.getElem?_eq_getElem h]; rfl
  rw [e]
  simp only [numsT, List.map_append, List.flatten_append, List.map_cons, List.map_nil, List.flatten_cons, List.flatten_nil, List.append_nil]
theorem Tryd.OpText (o : OpD) (k : Nat) (hk : o.1 = k) (h1 : 1 ≤ k) (h11 : k ≤ 11) (hok : FqOpOk 0 (o, ()) = some (true, ())) (w : World) (hg : GK w) :
    Calls Tryd.prog 32 #[opV o] w fun e w' => e = .returned (.string (if (opNums o).all szd = true then ByteArray.mk (kWord k ++ numsT (opNums o)).toArray else ByteArray.mk #[])) ∧ Below w.heap.size w w' := by
  have hcall := Tryd.opOk o true hok
  obtain ⟨a0, a1, a2, a3, a4, a5, ⟨a6, a7, ⟨⟩⟩, ⟨⟩⟩ := o
  simp only at hk
  subst hk
  generalize hns : opNums ((k : Int), a1, a2, a3, a4, a5, (a6, a7, ()), ()) = ns
  have hcells : opV ((k : Int), a1, a2, a3, a4, a5, (a6, a7, ()), ()) = .agg #[.int .i64 k, .int .i64 a1, .int .i64 a2, .int .i64 a3, .int .i64 a4, .int .i64 a5, .int .i64 a6, .int .i64 a7] := rfl
  rw [hcells] at hcall ⊢
  generalize hR : (if ns.all szd = true then ByteArray.mk (kWord k ++ numsT ns).toArray else ByteArray.mk #[]) = R
  have hnl : ns.length = (kOffs k).length := by rw [← hns]; simp [opNums]
  have hn4 : (kOffs k).length ≤ 4 := by
    have : k = 1 ∨ k = 2 ∨ k = 3 ∨ k = 4 ∨ k = 5 ∨ k = 6 ∨ k = 7 ∨ k = 8 ∨ k = 9 ∨ k = 10 ∨ k = 11 := by omega
    rcases this with rfl | rfl | rfl | rfl | rfl | rfl | rfl | rfl | rfl | rfl | rfl <;> decide
  go_enter Tryd.func32, Tryd.ntmps32
  go_wp2_with (go_at_call 44; refine (hcall _ ?_).mono ?_)
  · exact GK_mono (fun n hn => Below.heap_alloc _ _ _ (Nat.lt_of_lt_of_le hn hg.size)) (by simp) hg
  · rintro e W1 ⟨rfl, hb⟩
    have hc : ∀ (j : Nat) (v : Value), #[Value.int .i64 k, .int .i64 a1, .int .i64 a2, .int .i64 a3, .int .i64 a4, .int .i64 a5, .int .i64 a6, .int .i64 a7][j]? = some v → W1.cell? ⟨w.heap.size, j, none⟩ = some v := by
      intro j v hj
      rw [hb.cell (by simp)]
      rw [← hj]
      exact World.cell?_alloc_new _ _ _ _
    have hb0 : Below w.heap.size w W1 := Below.trans' ((Below.refl _ w).alloc (Nat.le_refl _) _) hb
    have hg1 : GK W1 := GK_mono (fun n hn => hb0.block n (Nat.lt_of_lt_of_le hn hg.size)) hb0.size hg
    have hsz : w.heap.size < W1.heap.size := by have := hb.size; simp at this; omega
    generalize (w.alloc (.cells #[Value.int .i64 k, .int .i64 a1, .int .i64 a2, .int .i64 a3, .int .i64 a4, .int .i64 a5, .int .i64 a6, .int .i64 a7] 35)) = w1 at *
    go_wp2_with (go_at_call 61; refine (Tryd.spoken k h1 h11 w.heap.size _ ?_).mono ?_)
    · exact hc 0 _ rfl
    · rintro e W2 ⟨sl, rfl, hb2, A, rfl, hA⟩
      have hg2 : GK W2 := GK_mono (fun n hn => hb2.block n (Nat.lt_of_lt_of_le hn hg1.size)) hb2.size hg1
      go_wp2
      have hcell2 : ∀ (j : Nat) (hj : j < ns.length) (x : Nat), x = (kOffs k)[j]'(by omega) → W2.cell? ⟨w.heap.size, x, none⟩ = some (.int .i64 ns[j]) := by
        intro j hj x hx
        rw [hb2.cell (by simpa using hsz)]
        have hx8 : x < 8 := by
          have hm : x ∈ kOffs k := by rw [hx]; exact List.getElem_mem _
          have : k = 1 ∨ k = 2 ∨ k = 3 ∨ k = 4 ∨ k = 5 ∨ k = 6 ∨ k = 7 ∨ k = 8 ∨ k = 9 ∨ k = 10 ∨ k = 11 := by omega
          rcases this with rfl | rfl | rfl | rfl | rfl | rfl | rfl | rfl | rfl | rfl | rfl <;> simp [kOffs] at hm <;> omega
        have e : ns[j] = (opL ((k : Int), a1, a2, a3, a4, a5, (a6, a7, ()), ())).getD x 0 := by
          simp only [← hns, opNums, List.getElem_map, Int.toNat_natCast, hx]
        rw [e]
        apply hc
        have : x = 0 ∨ x = 1 ∨ x = 2 ∨ x = 3 ∨ x = 4 ∨ x = 5 ∨ x = 6 ∨ x = 7 := by omega
        rcases this with h | h | h | h | h | h | h | h <;> rw [h] <;> rfl
      clear hc hcall hok hcells
      go_loopw [3, 16] (fun s i wr => ∃ j : Nat, j ≤ ns.length ∧ i = .int .i64 j ∧ s = .string (ByteArray.mk (kWord k ++ numsT (ns.take j)).toArray) ∧ (ns.take j).all szd = true ∧ Below W2.heap.size W2 wr)
        (fun _ i _ => ns.length - (intOf i).toNat)
      case atStart => exact ⟨0, Nat.zero_le _, rfl, by simp [numsT], by simp, Below.refl _ _⟩
      case round =>
        obtain ⟨j, hj, rfl, rfl, hall, hwr⟩ := hrel
        have hgr : GK wr := GK_mono (fun n hn => hwr.block n (Nat.lt_of_lt_of_le hn hg2.size)) hwr.size hg2
        have hw2 : w.heap.size < W2.heap.size := by have := hb2.size; omega
        by_cases hlt : j < ns.length
        · obtain ⟨B, rfl, hB1, hB2, hBc⟩ := hA j (by omega)
          have hp : wr.cell? ⟨B, j, none⟩ = some (.pointer (some ⟨w.heap.size, (kOffs k)[j]'(by omega), none⟩)) := by rw [hwr.cell (by simpa using hB2)]; exact hBc
          have hv : wr.cell? ⟨w.heap.size, (kOffs k)[j]'(by omega), none⟩ = some (.int .i64 ns[j]) := by rw [hwr.cell (by simpa using hw2)]; exact hcell2 j hlt _ rfl
          generalize (kOffs k)[j]'(by omega) = x at hp hv
          have hjl : (j : Int) < (kOffs k).length := by omega
          have hq2 := kWord_len k
          have hq3 := numsT_len (ns.take j) (fun n hn => szd_rng (List.all_eq_true.1 hall n hn))
          have hq4 : (ns.take j).length ≤ 4 := by simp; omega
          clear hA hcell2 hBc
          have hb02 : Below w.heap.size w W2 := Below.trans' hb0 hb2
          have hb0r : Below w.heap.size w wr := Below.trans' hb02 hwr
          have hsc := Tryd.sized ns[j] wr hgr
          cases hz : szd ns[j] with
          | false =>
            rw [hz] at hsc
            have hna : ns.all szd = false := by
              rw [List.all_eq_false]; exact ⟨ns[j], List.getElem_mem _, by rw [hz]; simp⟩
            rw [if_neg (by rw [hna]; simp)] at hR
            subst hR
            go_wp2_with (go_at_call 54; refine hsc.mono ?_; rintro e W3 ⟨rfl, hb3⟩)
            go_ret
            exact ⟨rfl, Below.trans' hb0r hb3⟩
          | true =>
            have hnj := szd_rng hz
            have hq1 := itoaLen hnj.1 hnj.2
            rw [hz] at hsc
            go_wp2_with (first
              | (go_at_call 54; refine hsc.mono ?_; rintro e W3 ⟨rfl, hb3⟩; have hv3 : W3.cell? ⟨w.heap.size, x, none⟩ = some (.int .i64 ns[j]) := (by rw [hb3.cell (by have := hwr.size; simp; omega)]; exact hv); have hg3 : GK W3 := GK_mono (fun n hn => hb3.block n (Nat.lt_of_lt_of_le hn hgr.size)) hb3.size hgr)
              | (go_at_call 55; refine (Any.strconv_Itoa Tryd.laysM171 ns[j] hnj.1 hnj.2 _ hg3.pow).mono ?_; rintro e W4 ⟨rfl, kk, os, rfl⟩))
            all_goals first
              | (exfalso; omega)
              | skip
            refine ⟨⟨j + 1, by omega, ?_, ?_, ?_, ?_⟩, ?_⟩
            · simp
            · have e32 : ByteArray.mk #[32] = ByteArray.mk ([32] : List UInt8).toArray := rfl
              rw [e32, ba_app, ba_app, numsT_take hlt]
              simp
            · rw [List.take_add_one, List.getElem?_eq_getElem hlt, List.all_append, hall]
              simp [hz]
            · exact Below.trans' hwr (Below.trans' hb3 (grow_below _ _ _))
            · simp [intOf]; omega
        · have hje : j = ns.length := by omega
          subst hje
          have hjl : ¬ ((ns.length : Int) < ((kOffs k).length : Int)) := by omega
          rw [List.take_length] at hall ⊢
          rw [if_pos hall] at hR
          subst hR
          clear hA hcell2
          have hb02 : Below w.heap.size w W2 := Below.trans' hb0 hb2
          have hb0r : Below w.heap.size w wr := Below.trans' hb02 hwr
          go_wp2
          go_ret
          exact ⟨rfl, hb0r⟩
end Go.Fl
-- FUNCS hfigure qfigures
set_option maxRecDepth 100000
set_option linter.all false
namespace Go.Fl
open Go Go.Proofs
noncomputable def TEr : List (Nat × Ty) := [(3, (.int .i64)),
  (9, .str),
  (43, (.sl (.int .i64))),
  (68, (.sl .str))]
theorem TEr_ok : TyOk Tryd.prog TEr := tysB_spec (by kernel_rfl)
theorem mixedr : Tryd.prog.follows .mixedOrders = true := by kernel_rfl

/-! ### 67: impl.figures -/

noncomputable def dinqfigures : Desc := { n := 1, regs := [.one (.val (.sl .str))], bx := [], pins := [] }
noncomputable def outqfigures : Outs := [(.ret, { n := 2, regs := [.one (.lit (.row 1012800)), .one (.val .bool)], bx := [(1012800, .row (.int .i64))], pins := [] })]
noncomputable def Hqfigures : Hints := [(1, [(0, { nl := [(0, (.int .i64))] })]),
  (7, [(0, { nl := [(0, (.int .i64))] })])]
noncomputable def Eqfigures (N : Nat) : Env := { te := TEr, cs := [conhfigure N] }
noncomputable def dqfigures_0 : Desc := { n := 28, regs := [u, u, u, u, .one (.lit (.row 1012800)), u, u, u, u, .one (.val (.sl .str)), .one (.val (.int .i64)), .one (.val (.int .i64))], bx := [(1012800, .row (.int .i64))], pins := [] }
noncomputable def oqfigures_0 : Outs := [(.exit 0, { n := 28, regs := [u, u, u, u, .one (.lit (.row 1012800))], bx := [(1012800, .row (.int .i64))], pins := [] }), (.ret, { n := 28, regs := [u, u, .one (.lit (.row 1089600)), .one (.val .bool)], bx := [(1089600, .row (.int .i64))], pins := [] })]
noncomputable def lqfigures_0 (N : Nat) : Nat → ((List ByteArray) × (Int × (Int × ((List Int) × Unit)))) → Option (((List Int) × Unit) ⊕ (Bool × ((List Int) × Unit)))
  | 0, _ => none
  | n + 1, v =>
    bif decide (v.2.2.1 < v.2.1) then
     bif decide (0 ≤ v.2.2.1) then
     bif decide (v.2.2.1.toNat < v.1.length) then
     let y1 := v.1.getD v.2.2.1.toNat ByteArray.empty
     (Fhfigure N (y1, ())).bind fun r2 =>
     bif !r2.2.1 then
      some (.inr ((false, ([] : (List Int)), ())))
     else
     bif decide (v.2.2.2.1.length + [r2.1].length ≤ lim) then
     lqfigures_0 N n (v.1, v.2.1, w64 (v.2.2.1 + (1 : Int)), v.2.2.2.1 ++ [r2.1], ())
     else none
     else none
     else none
    else
    some (.inl (v.2.2.2.1, ()))
noncomputable def Fqfigures (N : Nat) (x : ((List ByteArray) × Unit)) : Option (Bool × ((List Int) × Unit)) :=
  (lqfigures_0 N N (x.1, (x.1.length : Int), (0 : Int), ([] : (List Int)), ())).bind fun o3 =>
  Sum.elim (fun o4 =>
   some (true, o4.1, ())) (fun o5 =>
   some (o5.1, o5.2.1, ())) o3
noncomputable def conqfigures (N : Nat) : Con := { f := 67, din := dinqfigures, outs := outqfigures, F := Fqfigures N }
noncomputable def Xqfigures (N : Nat) : Ctx := { E := Eqfigures N, H := Hqfigures, lp := [(0, { hd := dqfigures_0, outs := oqfigures_0, run := fun v => lqfigures_0 N N v })], jn := [] }
noncomputable def bqfigures_0 : Code := loopBody (codeOf Tryd.f67) 0
theorem Fqfigures_eq (N : Nat) (x : ((List ByteArray) × Unit)) : evFn (Xqfigures N) Tryd.f67 dinqfigures outqfigures x = Fqfigures N x := by kernel_rfl
theorem lqfigures_0_eq (N n : Nat) (v : ((List ByteArray) × (Int × (Int × ((List Int) × Unit))))) : lqfigures_0 N (n + 1) v = ev (Xqfigures N) bqfigures_0 (roundK dqfigures_0 oqfigures_0 (lqfigures_0 N n)) (dqfigures_0.mk' v) := by kernel_rfl
theorem cxqfigures (N : Nat) : CtxOk Tryd.prog (Xqfigures N) := ⟨⟨TEr_ok, List.forall_mem_cons.2 ⟨(spechfigure N), fun k hk => absurd hk List.not_mem_nil⟩⟩, mixedr⟩
theorem lpqfigures_0 (N : Nat) : LoopOk Tryd.prog { hd := dqfigures_0, outs := oqfigures_0, run := fun v => lqfigures_0 N N v } bqfigures_0 :=
  loop_fuel (d := dqfigures_0) (os := oqfigures_0) (cxqfigures N) (loops_at (ids := []) (by kernel_rfl) (trivial)) (lqfigures_0 N) (fun _ => rfl) (fun n v => lqfigures_0_eq N n v) (fun _ => N)
theorem specqfigures (N : Nat) : Spec Tryd.prog (conqfigures N) :=
  Spec.of_eq (fn_spec (cxqfigures N) (f := 67) (fn := Tryd.f67) (c := codeOf Tryd.f67) (by kernel_rfl) (by kernel_rfl) (by kernel_rfl) (loops_at (ids := [0]) (by kernel_rfl) ⟨lp_of (lpqfigures_0 N), trivial⟩) (by kernel_rfl)) (fun x r h => (Fqfigures_eq N x).trans h)

end Go.Fl
/- impl.figures, by its contract. -/
namespace Go.Fl
open Go Go.Proofs Go.Shelf Go.RowKit
set_option maxRecDepth 100000
theorem Tryd.figures (N : Nat) (ws : List ByteArray) (A : Option Addr) (c : Nat) (ns : List Int) (b : Bool) (hF : Fqfigures N (ws, ()) = some (b, ns, ())) (w : World) (hg : GK w)
    (hrow : Rdf w (· < w.heap.size) (.sl .str) ws [.slice A ws.length c]) :
    Calls Tryd.prog 67 #[.slice A ws.length c] w fun e w' => ∃ (A3 : Option Addr) (c3 : Nat), e = .returned (.tuple #[.slice A3 ns.length c3, .bool b]) ∧ Below w.heap.size w w' ∧
      ∀ i (h : i < ns.length), ∃ B o', A3 = some ⟨B, o', none⟩ ∧ w.heap.size ≤ B ∧ B < w'.heap.size ∧ w'.cell? ⟨B, o' + i, none⟩ = some (.int .i64 ns[i]) := by
  refine (Spec.use (specqfigures N) (od := { n := 2, regs := [.one (.lit (.row 1012800)), .one (.val .bool)], bx := [(1012800, .row (.int .i64))], pins := [] }) hF rfl hg (vals := [.slice A ws.length c]) (.cons ⟨_, hrow, rfl⟩ .nil)).mono fun e w' he => ?_
  obtain ⟨γ1, vals', rfl, ha⟩ := he
  have hr : All2 (VRel w' (okOf w' [(1012800, Box.row (.int .i64) ns)] γ1) [(1012800, Box.row (.int .i64) ns)] γ1) [.w (.one (.row 1012800)), .w (.one (.val .bool b))] vals' := ha.regs
  cases hr with
  | cons h1 h2 =>
    cases h2 with
    | cons h3 h4 =>
      cases h4
      obtain ⟨cs, hcs, rfl⟩ := h3
      have : cs = [.bool b] := hcs
      subst this
      obtain ⟨x, t, n, hx, hd, rfl⟩ := h1
      have hx' : x = Box.row (.int .i64) ns := by simpa [find] using hx.symm
      subst hx'
      simp only [Box.hd, Option.some.injEq, Prod.mk.injEq] at hd
      obtain ⟨rfl, rfl⟩ := hd
      refine ⟨_, _, rfl, ha.below, fun i h => ?_⟩
      have hbx := ha.inv.boxes 1012800 (Box.row (.int .i64) ns) hx
      rcases hbx with ⟨h0, _, _⟩ | ⟨bl, off, cells, e, Fs, hA, hF', hh, hc, hsz, hl, hel⟩
      · rw [h0] at h; simp at h
      · have hown : bl ∈ owned [(1012800, Box.row (.int .i64) ns)] γ1 := by simp [owned, hF']
        have hge : w.heap.size ≤ bl := by
          rcases ha.sub bl hown with h | h
          · simp at h
          · exact h
        have hlt := ha.inv.below bl hown
        refine ⟨bl, off, hA, hge, hlt, ?_⟩
        obtain ⟨us, hus, _, hcell⟩ := hel i h (by omega)
        obtain ⟨rfl, _⟩ := hus
        have := hcell 0 _ rfl
        unfold World.cell?
        rw [hh]
        simpa [Ty.sz] using this
end Go.Fl
namespace Go.Fl
open Go Go.Proofs Go.Shelf Go.RowKit
set_option maxRecDepth 100000
def zeros8 : List Int := [0, 0, 0, 0, 0, 0, 0, 0]
def fillL (k : Nat) (ns : List Int) : List Int := ((kOffs k).zip ns).foldl (fun l p => l.set p.1 p.2) [(k : Int), 0, 0, 0, 0, 0, 0, 0]
noncomputable def opOfK (N : Nat) (ws : List ByteArray) : Nat → Nat → Option (List Int × Bool)
  | 0, _ => some (zeros8, false)
  | f + 1, k => if (kWord k == (ws.headD ByteArray.empty).toList) = true then
      (match Fqfigures N (ws.drop 1, ()) with
        | some (ok, ns, _) => if ok = true ∧ ns.length = (kOffs k).length then some (fillL k ns, true) else some (zeros8, false)
        | none => none)
      else opOfK N ws f (k + 1)
/-- What a store into a block of one's own leaves. -/
structure Wrote (bo : Nat) (w w' : World) : Prop where
  os : w'.os = w.os
  tape : w'.tape = w.tape
  output : w'.output = w.output
  size : w.heap.size ≤ w'.heap.size
  block : ∀ n, n < w.heap.size → n ≠ bo → w'.heap[n]? = w.heap[n]?
theorem Wrote.refl (bo : Nat) (w : World) : Wrote bo w w := ⟨rfl, rfl, rfl, Nat.le_refl _, fun _ _ _ => rfl⟩
theorem Wrote.cell {bo : Nat} {w w' : World} (h : Wrote bo w w') {n : Nat} (hn : n < w.heap.size) (hb : n ≠ bo) (i : Nat) : w'.cell? ⟨n, i, none⟩ = w.cell? ⟨n, i, none⟩ := cell_same (h.block n hn hb) i
theorem Wrote.below {bo : Nat} {w0 w w' : World} (h : Wrote bo w w') (hb : w0.heap.size ≤ bo) (k : Below w0.heap.size w0 w) : Below w0.heap.size w0 w' :=
  ⟨h.os.trans k.os, h.tape.trans k.tape, h.output.trans k.output, Nat.le_trans k.size h.size, fun n hn => (h.block n (Nat.lt_of_lt_of_le hn k.size) (by omega)).trans (k.block n hn)⟩
theorem setCell_same {v : World} {B i : Nat} {x : Value} {cs : Array Value} {t : TypeId} {fr : Nat × Nat} (h : v.heap[B]? = some (.cells cs t fr)) (hi : cs[i]? = some x) : v.setCell ⟨B, i, none⟩ x = v := by
  obtain ⟨hB, hv⟩ := Array.getElem?_eq_some_iff.1 h
  obtain ⟨hi1, hi2⟩ := Array.getElem?_eq_some_iff.1 hi
  unfold World.setCell
  have : v.heap.modify B (fun | .cells c elem frozen => .cells (if (none : Option Nat).isSome then c else c.setIfInBounds i x) elem frozen | o => o) = v.heap := by
    apply Array.ext
    · simp
    · intro j h1 h2
      rw [Array.getElem_modify]
      split
      · rename_i e
        subst e
        rw [hv]
        simp only [Option.isSome_none, Bool.false_eq_true, if_false]
        congr 1
        rw [Array.setIfInBounds, dif_pos hi1, ← hi2, Array.set_getElem_self]
      · rfl
  cases v
  simp only at this ⊢
  exact congrArg (fun h => ({ heap := h, tape := _, drawn := _, os := _, output := _ } : World)) this
theorem setCell_blk {v : World} {B i : Nat} {x : Value} {cs : Array Value} {t : TypeId} {fr : Nat × Nat} (h : v.heap[B]? = some (.cells cs t fr)) : (v.setCell ⟨B, i, none⟩ x).heap[B]? = some (.cells (cs.setIfInBounds i x) t fr) := by
  obtain ⟨hB, hv⟩ := Array.getElem?_eq_some_iff.1 h
  unfold World.setCell
  simp only
  rw [Array.getElem?_modify, if_pos rfl, h]
  simp
theorem fin_cells (v : World) (B : Nat) (c0 c1 c2 c3 c4 c5 c6 c7 : Int) (r : Value) (h : v.heap[B]? = some (.cells #[.int .i64 c0, .int .i64 c1, .int .i64 c2, .int .i64 c3, .int .i64 c4, .int .i64 c5, .int .i64 c6, .int .i64 c7] 35 (0, 0))) (tmps : Array Value)
    (h2 : tmps.getD 2 undef = .pointer (some ⟨B, 0, none⟩)) (h3 : tmps.getD 3 undef = r) :
    (results Tryd.f42 tmps).run Tryd.prog v = .ok (.tuple #[.agg #[.int .i64 c0, .int .i64 c1, .int .i64 c2, .int .i64 c3, .int .i64 c4, .int .i64 c5, .int .i64 c6, .int .i64 c7], r]) v := by
  have k0 : v.cell? ⟨B, 0, none⟩ = some (.int .i64 c0) := by simp [World.cell?, h]
  have k1 : v.cell? ⟨B, 1, none⟩ = some (.int .i64 c1) := by simp [World.cell?, h]
  have k2 : v.cell? ⟨B, 2, none⟩ = some (.int .i64 c2) := by simp [World.cell?, h]
  have k3 : v.cell? ⟨B, 3, none⟩ = some (.int .i64 c3) := by simp [World.cell?, h]
  have k4 : v.cell? ⟨B, 4, none⟩ = some (.int .i64 c4) := by simp [World.cell?, h]
  have k5 : v.cell? ⟨B, 5, none⟩ = some (.int .i64 c5) := by simp [World.cell?, h]
  have k6 : v.cell? ⟨B, 6, none⟩ = some (.int .i64 c6) := by simp [World.cell?, h]
  have k7 : v.cell? ⟨B, 7, none⟩ = some (.int .i64 c7) := by simp [World.cell?, h]
  rw [results_cell_tmp rfl, h2, h3]
  clear h h2 h3
  go_simp
end Go.Fl
namespace Go.Fl
open Go Go.Proofs Go.Shelf Go.RowKit
set_option maxRecDepth 100000
theorem zset (v : World) (B : Nat) (h : v.heap[B]? = some (.cells #[.int .i64 0, .int .i64 0, .int .i64 0, .int .i64 0, .int .i64 0, .int .i64 0, .int .i64 0, .int .i64 0] 35 (0, 0))) (i : Nat) (hi : i < 8) : v.setCell ⟨B, i, none⟩ (.int .i64 0) = v := by
  have : i = 0 ∨ i = 1 ∨ i = 2 ∨ i = 3 ∨ i = 4 ∨ i = 5 ∨ i = 6 ∨ i = 7 := by omega
  rcases this with e | e | e | e | e | e | e | e <;> subst e <;> exact setCell_same h rfl
def fillTo (k : Nat) (ns : List Int) (i : Nat) : List Int := (((kOffs k).zip ns).take i).foldl (fun l p => l.set p.1 p.2) [(k : Int), 0, 0, 0, 0, 0, 0, 0]
theorem fillTo_len (k : Nat) (ns : List Int) (i : Nat) : (fillTo k ns i).length = 8 := by
  unfold fillTo
  have : ∀ (ps : List (Nat × Int)) (l : List Int), (ps.foldl (fun l p => l.set p.1 p.2) l).length = l.length := by
    intro ps
    induction ps with
    | nil => intro l; rfl
    | cons p ps ih => intro l; rw [List.foldl_cons, ih, List.length_set]
  rw [this]; rfl
theorem fillTo_all (k : Nat) (ns : List Int) (h : ns.length = (kOffs k).length) : fillTo k ns (kOffs k).length = fillL k ns := by
  unfold fillTo fillL
  rw [List.take_of_length_le (by simp; omega)]
theorem fillTo_succ (k : Nat) (ns : List Int) (i : Nat) (h1 : i < (kOffs k).length) (h2 : i < ns.length) : fillTo k ns (i + 1) = (fillTo k ns i).set (kOffs k)[i] ns[i] := by
  unfold fillTo
  have : ((kOffs k).zip ns).take (i + 1) = ((kOffs k).zip ns).take i ++ [((kOffs k)[i], ns[i])] := by
    rw [List.take_add_one, List.getElem?_eq_getElem (by simp; omega), List.getElem_zip]; rfl
  rw [this, List.foldl_append]; rfl
theorem kOffs_lt {k x : Nat} (h : x ∈ kOffs k) : x < 8 := by
  unfold kOffs at h
  split at h <;> simp at h <;> omega
theorem Wrote.drew {bo : Nat} {w w' : World} (h : Wrote bo w w') : Wrote bo w w'.drew := ⟨h.os, h.tape, h.output, h.size, h.block⟩
theorem Wrote.setCell {bo : Nat} {w w' : World} (h : Wrote bo w w') (i : Nat) (x : Value) : Wrote bo w (w'.setCell ⟨bo, i, none⟩ x) :=
  ⟨h.os, h.tape, h.output, by rw [World.size_setCell]; exact h.size, fun n hn hb => (Below.heap_setCell _ _ _ _ hb).trans (h.block n hn hb)⟩
theorem eight {l : List Int} (h : l.length = 8) : ∃ c0 c1 c2 c3 c4 c5 c6 c7, l = [c0, c1, c2, c3, c4, c5, c6, c7] := by
  match l, h with
  | [c0, c1, c2, c3, c4, c5, c6, c7], _ => exact ⟨_, _, _, _, _, _, _, _, rfl⟩
theorem drop1_row {ws : List ByteArray} {b o c : Nat} {w : World} (hcap : ws.length ≤ c) (hab : b < w.heap.size) (hs : ∀ i (h : i < ws.length), w.cell? ⟨b, o + i, none⟩ = some (.string ws[i])) :
    Rdf w (· < w.heap.size) (.sl .str) (ws.drop 1) [.slice (if c = 1 then some ⟨b, o, none⟩ else some ⟨b, o + 1, none⟩) (ws.drop 1).length (c - 1)] := by
  refine ⟨_, _, rfl, by simp; omega, fun i h => ?_⟩
  have hi : i + 1 < ws.length := by simp at h; omega
  have hc1 : ¬ c = 1 := by omega
  refine ⟨⟨b, o + 1, none⟩, [.string ws[i + 1]], by rw [if_neg hc1], rfl, hab, ?_, fun j v hj => ?_⟩
  · simp only [List.getElem_drop, Nat.add_comm 1 i]; rfl
  · have hj0 : j = 0 := by
      have := (List.getElem?_eq_some_iff.1 hj).1
      simpa using this
    subst hj0
    simp at hj
    subst hj
    have := hs (i + 1) hi
    simpa [Ty.sz, Nat.add_assoc, Nat.add_comm 1 i] using this
set_option maxHeartbeats 2000000 in
theorem Tryd.opOf (N : Nat) (ws : List ByteArray) (a : Addr) (ha : a.spot = none) (c : Nat) (hne : 0 < ws.length) (hcap : ws.length ≤ c) (cells : List Int) (res : Bool) (hR : opOfK N ws 11 1 = some (cells, res)) (w : World) (hg : GK w) (hab : a.block < w.heap.size)
    (hs : ∀ i (h : i < ws.length), w.cell? ⟨a.block, a.off + i, none⟩ = some (.string ws[i])) :
    Calls Tryd.prog 42 #[.slice (some a) ws.length c] w fun e w' => e = .returned (.tuple #[.agg (cells.map (Value.int .i64)).toArray, .bool res]) ∧ Below w.heap.size w w' := by
  obtain ⟨b, o, sp⟩ := a
  simp only at ha hab hs
  subst ha
  have hhead : ws.headD ByteArray.empty = ws[0] := by
    cases ws with
    | nil => simp at hne
    | cons x r => rfl
  have n0 : ∀ v : World, v.heap[w.heap.size]? = some (.cells #[.int .i64 0, .int .i64 0, .int .i64 0, .int .i64 0, .int .i64 0, .int .i64 0, .int .i64 0, .int .i64 0] 35 (0, 0)) → (∀ i, i < 8 → v.cell? ⟨w.heap.size, i, none⟩ = some (.int .i64 0)) ∧ ∀ i, v.frozen? ⟨w.heap.size, i, none⟩ = false := by
    intro v hv
    refine ⟨fun i hi => ?_, fun i => ?_⟩
    · have : i = 0 ∨ i = 1 ∨ i = 2 ∨ i = 3 ∨ i = 4 ∨ i = 5 ∨ i = 6 ∨ i = 7 := by omega
      unfold World.cell?
      rcases this with h | h | h | h | h | h | h | h <;> subst h <;> simp [hv]
    · unfold World.frozen?
      simp only [hv]
      simp
  go_enter Tryd.func42, Tryd.ntmps42
  go_wp2
  go_loopw [4] (fun s wr => ∃ k : Nat, 1 ≤ k ∧ k ≤ 12 ∧ s = .int .i64 k ∧ opOfK N ws (12 - k) k = some (cells, res) ∧ Below w.heap.size w wr ∧ wr.heap[w.heap.size]? = some (.cells #[.int .i64 0, .int .i64 0, .int .i64 0, .int .i64 0, .int .i64 0, .int .i64 0, .int .i64 0, .int .i64 0] 35 (0, 0)))
    (fun s _ => 12 - (intOf s).toNat)
  case atStart =>
    refine ⟨1, Nat.le_refl _, by omega, rfl, hR, (Below.refl _ w).alloc (Nat.le_refl _) _, ?_⟩
    exact Array.getElem?_push_size
  case round =>
    obtain ⟨k, hk1, hk12, rfl, hRk, hwr, hblk⟩ := hrel
    have hgr : GK wr := GK_mono (fun n hn => hwr.block n (Nat.lt_of_lt_of_le hn hg.size)) hwr.size hg
    have hsz : w.heap.size < wr.heap.size := (Array.getElem?_eq_some_iff.1 hblk).1
    by_cases hk : k ≤ 11
    · have hk' : (k : Int) ≤ 11 := by omega
      have hcell : (wr.alloc (.cells #[Value.int .i64 k, .int .i64 0, .int .i64 0, .int .i64 0, .int .i64 0, .int .i64 0, .int .i64 0, .int .i64 0] 35)).cell? ⟨wr.heap.size, 0, none⟩ = some (.int .i64 k) := World.cell?_alloc_new _ _ _ _
      have hW1 : Below w.heap.size w (wr.alloc (.cells #[Value.int .i64 k, .int .i64 0, .int .i64 0, .int .i64 0, .int .i64 0, .int .i64 0, .int .i64 0, .int .i64 0] 35)) := hwr.alloc hwr.size _
      have hlt1 : wr.heap.size < (wr.alloc (.cells #[Value.int .i64 k, .int .i64 0, .int .i64 0, .int .i64 0, .int .i64 0, .int .i64 0, .int .i64 0, .int .i64 0] 35)).heap.size := by simp
      have hob : (wr.alloc (.cells #[Value.int .i64 k, .int .i64 0, .int .i64 0, .int .i64 0, .int .i64 0, .int .i64 0, .int .i64 0, .int .i64 0] 35)).heap[wr.heap.size]? = some (.cells #[Value.int .i64 k, .int .i64 0, .int .i64 0, .int .i64 0, .int .i64 0, .int .i64 0, .int .i64 0, .int .i64 0] 35 (0, 0)) := Array.getElem?_push_size
      have hb1 : (wr.alloc (.cells #[Value.int .i64 k, .int .i64 0, .int .i64 0, .int .i64 0, .int .i64 0, .int .i64 0, .int .i64 0, .int .i64 0] 35)).heap[w.heap.size]? = some (.cells #[.int .i64 0, .int .i64 0, .int .i64 0, .int .i64 0, .int .i64 0, .int .i64 0, .int .i64 0, .int .i64 0] 35 (0, 0)) := by
        rw [Below.heap_alloc _ _ _ hsz]; exact hblk
      have hsp := Tryd.spoken k hk1 hk wr.heap.size _ hcell
      rw [show 12 - k = (11 - k) + 1 by omega, opOfK, hhead] at hRk
      go_wp2_with (go_at_call 61; refine hsp.mono ?_)
      generalize (wr.alloc (.cells #[Value.int .i64 k, .int .i64 0, .int .i64 0, .int .i64 0, .int .i64 0, .int .i64 0, .int .i64 0, .int .i64 0] 35)) = W1 at *
      rintro e W2 ⟨sl, rfl, hb2, A, rfl, hA⟩
      have hW2 : Below w.heap.size w W2 := Below.trans' hW1 hb2
      have hs2 : ∀ i (h : i < ws.length), W2.cell? ⟨b, o + i, none⟩ = some (.string ws[i]) := fun i h => by rw [hW2.cell (by simpa using hab)]; exact hs i h
      have hs20 : W2.cell? ⟨b, o, none⟩ = some (.string ws[0]) := hs2 0 hne
      have hg2 : GK W2 := GK_mono (fun n hn => hW2.block n (Nat.lt_of_lt_of_le hn hg.size)) hW2.size hg
      have hblk2 : W2.heap[w.heap.size]? = some (.cells #[.int .i64 0, .int .i64 0, .int .i64 0, .int .i64 0, .int .i64 0, .int .i64 0, .int .i64 0, .int .i64 0] 35 (0, 0)) := by rw [hb2.block _ (by omega)]; exact hb1
      have hob2 : W2.heap[wr.heap.size]? = some (.cells #[Value.int .i64 k, .int .i64 0, .int .i64 0, .int .i64 0, .int .i64 0, .int .i64 0, .int .i64 0, .int .i64 0] 35 (0, 0)) := by rw [hb2.block _ hlt1]; exact hob
      cases hwd : (kWord k == ws[0].toList) with
      | true =>
        rw [hwd, if_pos rfl] at hRk
        cases hfig : Fqfigures N (ws.drop 1, ()) with
        | none => rw [hfig] at hRk; cases hRk
        | some r =>
          obtain ⟨ok, ns, ⟨⟩⟩ := r
          rw [hfig] at hRk
          simp only at hRk
          have hfc := Tryd.figures N (ws.drop 1) _ _ ns ok hfig W2 hg2 (drop1_row (c := c) hcap (by have := hW2.size; omega) hs2)
          have hdl : (ws.drop 1).length = ws.length - 1 := by simp
          rw [hdl] at hfc
          obtain ⟨A0, hA0⟩ : ∃ A0 : Option Addr, (if c = 1 then some ⟨b, o, none⟩ else some ⟨b, o + 1, none⟩) = A0 := ⟨_, rfl⟩
          cases ok with
          | false =>
            rw [if_neg (by simp)] at hRk
            cases hRk
            by_cases hc1 : c = 1
            all_goals first | (subst hc1; rw [if_pos rfl, Nat.sub_self, show ws.length - 1 = 0 by omega] at hfc) | rw [if_neg hc1] at hfc
            all_goals
              clear hA0 A0
              go_wp2_with (go_at_call 67; refine hfc.mono ?_; rintro e W3 ⟨A3, c3, rfl, hb3, hn3⟩; have hb3z := (hb3.block w.heap.size (by have := hb2.size; omega)).trans hblk2; obtain ⟨hz3, hf3⟩ := n0 W3 hb3z)
              rw [zset W3 _ hb3z 0 (by omega), zset W3 _ hb3z 1 (by omega), zset W3 _ hb3z 2 (by omega), zset W3 _ hb3z 3 (by omega), zset W3 _ hb3z 4 (by omega), zset W3 _ hb3z 5 (by omega), zset W3 _ hb3z 6 (by omega), zset W3 _ hb3z 7 (by omega)]
              exact bodyPost_ret (fin_cells W3 _ 0 0 0 0 0 0 0 0 _ hb3z _ rfl rfl) rfl ⟨rfl, Below.trans' hW2 hb3⟩
          | true =>
            by_cases hlen : ns.length = (kOffs k).length
            · rw [if_pos ⟨rfl, hlen⟩] at hRk
              have hRk' : fillL k ns = cells ∧ true = res := by simpa using hRk
              obtain ⟨rfl, rfl⟩ := hRk'
              have hlen' : (ns.length : Int) = ((kOffs k).length : Int) := by omega
              by_cases hc1 : c = 1
              all_goals first | (subst hc1; rw [if_pos rfl, Nat.sub_self, show ws.length - 1 = 0 by omega] at hfc) | rw [if_neg hc1] at hfc
              all_goals
                clear hA0 A0
                go_wp2_with (go_at_call 67; refine hfc.mono ?_; rintro e W3 ⟨A3, c3, rfl, hb3, hn3⟩; have hb3z := (hb3.block w.heap.size (by have := hb2.size; omega)).trans hblk2; have hob3 := (hb3.block wr.heap.size (by have := hb2.size; omega)).trans hob2; obtain ⟨hz3, hf3⟩ := n0 W3 hb3z)
                have hk4 := kOffs_len k
                clear hfc hsp hdl hs hs2 hs20 hR
                generalize wr.heap.size = bo at *
                go_loopw [44] (fun s wr => ∃ i : Nat, i ≤ (kOffs k).length ∧ s = .int .i64 i ∧ Wrote bo W3 wr ∧ wr.heap[bo]? = some (.cells ((fillTo k ns i).map (Value.int .i64)).toArray 35 (0, 0)))
                  (fun s _ => (kOffs k).length - (intOf s).toNat)
                case atStart => exact ⟨0, Nat.zero_le _, rfl, Wrote.refl _ _, hob3⟩
                case round =>
                  obtain ⟨i, hi, rfl, hwr, hbv⟩ := hrel
                  by_cases hlt : i < (kOffs k).length
                  · obtain ⟨B, rfl, hB1, hB2, hBc⟩ := hA i hlt
                    obtain ⟨B3, o3, rfl, h31, h32, h3c⟩ := hn3 i (by omega)
                    have hi1 : (i : Int) < ((kOffs k).length : Int) := by omega
                    have hi2 : (i : Int) < (ns.length : Int) := by omega
                    have hx8 : (kOffs k)[i] < 8 := kOffs_lt (List.getElem_mem _)
                    have hsucc := fillTo_succ k ns i hlt (by omega)
                    have e1 : wr.cell? ⟨B, i, none⟩ = some (.pointer (some ⟨bo, (kOffs k)[i], none⟩)) := by
                      rw [hwr.cell (by have := hb3.size; omega) (by omega), hb3.cell (by simpa using hB2)]; exact hBc
                    have e2 : wr.cell? ⟨B3, o3 + i, none⟩ = some (.int .i64 ns[i]) := by
                      rw [hwr.cell h32 (by have := hb2.size; omega)]; exact h3c
                    generalize (kOffs k)[i] = x at *
                    have e3 : ∃ y, wr.cell? ⟨bo, x, none⟩ = some y ∧ y.oneCell' = true := by
                      refine ⟨.int .i64 ((fillTo k ns i).getD x 0), ?_, rfl⟩
                      have hl := fillTo_len k ns i
                      unfold World.cell?
                      rw [hbv]
                      simp [List.getD, List.getElem?_eq_getElem (show x < (fillTo k ns i).length by omega)]
                    have e4 : wr.frozen? ⟨bo, x, none⟩ = false := by
                      unfold World.frozen?
                      simp only [hbv]
                      simp
                    obtain ⟨y, e3, _⟩ := e3
                    have hbs := setCell_blk (i := x) (x := .int .i64 ns[i]) hbv
                    have hws := hwr.setCell x (.int .i64 ns[i])
                    clear hA hn3 n0 hbv hz3 hf3
                    go_wp2
                    go_region
                    all_goals go_wp2
                    refine ⟨⟨i + 1, by omega, by simp, hws.drew, ?_⟩, by simp [intOf]; omega⟩
                    rw [hsucc]
                    refine hbs.trans ?_
                    congr 2
                    simp [List.map_set]
                  · have hie : i = (kOffs k).length := by omega
                    subst hie
                    have hnlt : ¬ (((kOffs k).length : Int) < ((kOffs k).length : Int)) := by omega
                    rw [fillTo_all k ns hlen] at hbv
                    have h8 := fillTo_len k ns (kOffs k).length
                    rw [fillTo_all k ns hlen] at h8
                    obtain ⟨c0, c1, c2, c3', c4, c5, c6, c7, hc8⟩ := eight h8
                    rw [hc8] at hbv
                    have hbv' : wr.heap[bo]? = some (.cells #[.int .i64 c0, .int .i64 c1, .int .i64 c2, .int .i64 c3', .int .i64 c4, .int .i64 c5, .int .i64 c6, .int .i64 c7] 35 (0, 0)) := hbv
                    have k0 : wr.cell? ⟨bo, 0, none⟩ = some (.int .i64 c0) := by simp [World.cell?, hbv']
                    have k1 : wr.cell? ⟨bo, 1, none⟩ = some (.int .i64 c1) := by simp [World.cell?, hbv']
                    have k2 : wr.cell? ⟨bo, 2, none⟩ = some (.int .i64 c2) := by simp [World.cell?, hbv']
                    have k3 : wr.cell? ⟨bo, 3, none⟩ = some (.int .i64 c3') := by simp [World.cell?, hbv']
                    have k4 : wr.cell? ⟨bo, 4, none⟩ = some (.int .i64 c4) := by simp [World.cell?, hbv']
                    have k5 : wr.cell? ⟨bo, 5, none⟩ = some (.int .i64 c5) := by simp [World.cell?, hbv']
                    have k6 : wr.cell? ⟨bo, 6, none⟩ = some (.int .i64 c6) := by simp [World.cell?, hbv']
                    have k7 : wr.cell? ⟨bo, 7, none⟩ = some (.int .i64 c7) := by simp [World.cell?, hbv']
                    have hbw : Below w.heap.size w wr := hwr.below (by omega) (Below.trans' hW2 hb3)
                    have hbz : wr.heap[w.heap.size]? = some (.cells #[.int .i64 0, .int .i64 0, .int .i64 0, .int .i64 0, .int .i64 0, .int .i64 0, .int .i64 0, .int .i64 0] 35 (0, 0)) := by
                      rw [hwr.block _ (Array.getElem?_eq_some_iff.1 hb3z).1 (by omega)]; exact hb3z
                    obtain ⟨hzr, hfr⟩ := n0 wr hbz
                    clear hA hn3 n0 hbv hbv' hz3 hf3 h8
                    go_wp2
                    have hfin := setCell_blk (i := 7) (x := .int .i64 c7) (setCell_blk (i := 6) (x := .int .i64 c6) (setCell_blk (i := 5) (x := .int .i64 c5) (setCell_blk (i := 4) (x := .int .i64 c4) (setCell_blk (i := 3) (x := .int .i64 c3') (setCell_blk (i := 2) (x := .int .i64 c2) (setCell_blk (i := 1) (x := .int .i64 c1) (setCell_blk (i := 0) (x := .int .i64 c0) hbz)))))))
                    refine bodyPost_ret (fin_cells _ _ c0 c1 c2 c3' c4 c5 c6 c7 _ hfin _ rfl rfl) rfl ⟨by first | rfl | (rw [hc8]; rfl), ?_⟩
                    exact (Below.setCell (Below.setCell (Below.setCell (Below.setCell (Below.setCell (Below.setCell (Below.setCell (Below.setCell hbw (Nat.le_refl _) _) (Nat.le_refl _) _) (Nat.le_refl _) _) (Nat.le_refl _) _) (Nat.le_refl _) _) (Nat.le_refl _) _) (Nat.le_refl _) _) (Nat.le_refl _) _)
            · rw [if_neg (fun h => hlen h.2)] at hRk
              cases hRk
              have hlen' : ¬ (ns.length : Int) = ((kOffs k).length : Int) := by omega
              by_cases hc1 : c = 1
              all_goals first | (subst hc1; rw [if_pos rfl, Nat.sub_self, show ws.length - 1 = 0 by omega] at hfc) | rw [if_neg hc1] at hfc
              all_goals
                clear hA0 A0
                go_wp2_with (go_at_call 67; refine hfc.mono ?_; rintro e W3 ⟨A3, c3, rfl, hb3, hn3⟩; have hb3z := (hb3.block w.heap.size (by have := hb2.size; omega)).trans hblk2; obtain ⟨hz3, hf3⟩ := n0 W3 hb3z)
                rw [zset W3 _ hb3z 0 (by omega), zset W3 _ hb3z 1 (by omega), zset W3 _ hb3z 2 (by omega), zset W3 _ hb3z 3 (by omega), zset W3 _ hb3z 4 (by omega), zset W3 _ hb3z 5 (by omega), zset W3 _ hb3z 6 (by omega), zset W3 _ hb3z 7 (by omega)]
                exact bodyPost_ret (fin_cells W3 _ 0 0 0 0 0 0 0 0 _ hb3z _ rfl rfl) rfl ⟨rfl, Below.trans' hW2 hb3⟩
      | false =>
        rw [hwd, if_neg (by simp)] at hRk
        go_wp2
        refine ⟨⟨k + 1, by omega, by omega, by simp, ?_, hW2, hblk2⟩, ?_⟩
        · rw [← hRk]; congr 1; omega
        · simp [intOf]; omega
    · have hk12' : k = 12 := by omega
      subst hk12'
      simp only [Nat.sub_self, opOfK, Option.some.injEq, Prod.mk.injEq] at hRk
      obtain ⟨rfl, rfl⟩ := hRk
      obtain ⟨hz, hfz⟩ := n0 wr hblk
      clear n0
      go_wp2
      rw [zset wr _ hblk 0 (by omega), zset wr _ hblk 1 (by omega), zset wr _ hblk 2 (by omega), zset wr _ hblk 3 (by omega), zset wr _ hblk 4 (by omega), zset wr _ hblk 5 (by omega), zset wr _ hblk 6 (by omega), zset wr _ hblk 7 (by omega)]
      exact bodyPost_ret (fin_cells wr _ 0 0 0 0 0 0 0 0 _ hblk _ rfl rfl) rfl ⟨rfl, hwr⟩
end Go.Fl
/- impl.OpText: its contract. -/
namespace Go.Fl
open Go Go.Proofs Go.Shelf Go.RowKit
set_option maxRecDepth 100000
abbrev opTy : Ty := .pair (.int .i64) (.pair (.int .i64) (.pair (.int .i64) (.pair (.int .i64) (.pair (.int .i64) (.pair (.int .i64) (.pair (.pair (.int .i64) (.pair (.int .i64) .unit)) .unit))))))
def opD (l : List Int) : OpD := (l.getD 0 0, l.getD 1 0, l.getD 2 0, l.getD 3 0, l.getD 4 0, l.getD 5 0, (l.getD 6 0, l.getD 7 0, ()), ())
theorem opD_opL {l : List Int} (h : l.length = 8) : opL (opD l) = l := by
  match l, h with
  | [c0, c1, c2, c3, c4, c5, c6, c7], _ => rfl
theorem opV_rel (w : World) (ok : Nat → Prop) (o : OpD) : ∃ cs, Rdf w ok opTy o cs ∧ opV o = pack opTy cs := by
  obtain ⟨a0, a1, a2, a3, a4, a5, ⟨a6, a7, ⟨⟩⟩, ⟨⟩⟩ := o
  exact ⟨[.int .i64 a0, .int .i64 a1, .int .i64 a2, .int .i64 a3, .int .i64 a4, .int .i64 a5, .int .i64 a6, .int .i64 a7], ⟨[_], [_, _, _, _, _, _, _], rfl, rfl, [_], [_, _, _, _, _, _], rfl, rfl, [_], [_, _, _, _, _], rfl, rfl, [_], [_, _, _, _], rfl, rfl, [_], [_, _, _], rfl, rfl, [_], [_, _], rfl, rfl, [_, _], [], rfl, ⟨[_], [_], rfl, rfl, [_], [], rfl, rfl, rfl⟩, rfl⟩, rfl⟩
theorem opV_of {w : World} {ok : Nat → Prop} {o : OpD} {cs : List Value} (h : Rdf w ok opTy o cs) : pack opTy cs = opV o := by
  obtain ⟨a0, a1, a2, a3, a4, a5, ⟨a6, a7, ⟨⟩⟩, ⟨⟩⟩ := o
  obtain ⟨u0, v0, rfl, h0, u1, v1, rfl, h1, u2, v2, rfl, h2, u3, v3, rfl, h3, u4, v4, rfl, h4, u5, v5, rfl, h5, u6, v6, rfl, ⟨u7, v7, rfl, h7, u8, v8, rfl, h8, h9⟩, h6⟩ := h
  have e0 : u0 = [.int .i64 a0] := h0
  have e1 : u1 = [.int .i64 a1] := h1
  have e2 : u2 = [.int .i64 a2] := h2
  have e3 : u3 = [.int .i64 a3] := h3
  have e4 : u4 = [.int .i64 a4] := h4
  have e5 : u5 = [.int .i64 a5] := h5
  have e6 : v6 = [] := h6
  have e7 : u7 = [.int .i64 a6] := h7
  have e8 : u8 = [.int .i64 a7] := h8
  have e9 : v8 = [] := h9
  subst e0 e1 e2 e3 e4 e5 e6 e7 e8 e9
  rfl
theorem Tryd.OpText_no (o : OpD) (hok : FqOpOk 0 (o, ()) = some (false, ())) (w : World) (hg : GK w) :
    Calls Tryd.prog 32 #[opV o] w fun e w' => e = .returned (.string (ByteArray.mk #[])) ∧ Below w.heap.size w w' := by
  have hcall := Tryd.opOk o false hok
  obtain ⟨a0, a1, a2, a3, a4, a5, ⟨a6, a7, ⟨⟩⟩, ⟨⟩⟩ := o
  have hcells : opV (a0, a1, a2, a3, a4, a5, (a6, a7, ()), ()) = .agg #[.int .i64 a0, .int .i64 a1, .int .i64 a2, .int .i64 a3, .int .i64 a4, .int .i64 a5, .int .i64 a6, .int .i64 a7] := rfl
  rw [hcells] at hcall ⊢
  go_enter Tryd.func32, Tryd.ntmps32
  go_wp2_with (go_at_call 44; refine (hcall _ ?_).mono ?_)
  · exact GK_mono (fun n hn => Below.heap_alloc _ _ _ (Nat.lt_of_lt_of_le hn hg.size)) (by simp) hg
  · rintro e W1 ⟨rfl, hb⟩
    have hb0 : Below w.heap.size w W1 := Below.trans' ((Below.refl _ w).alloc (Nat.le_refl _) _) hb
    go_wp2
    go_ret
    exact ⟨rfl, hb0⟩
def dinhOpText : Desc := { n := 1, regs := [.one (.val opTy)], bx := [], pins := [] }
noncomputable def FhOpText (_N : Nat) (x : OpD × Unit) : Option (ByteArray × Unit) := match FqOpOk 0 (x.1, ()) with
  | some (true, _) => bif decide (1 ≤ x.1.1) && decide (x.1.1 ≤ 11) then
      some (if (opNums x.1).all szd = true then ByteArray.mk (kWord x.1.1.toNat ++ numsT (opNums x.1)).toArray else ByteArray.mk #[], ()) else none
  | some (false, _) => some (ByteArray.mk #[], ())
  | none => none
noncomputable def conhOpText (N : Nat) : Con := ⟨32, dinhOpText, [(.ret, oukItoa)], FhOpText N⟩
theorem spechOpText (N : Nat) : Spec Tryd.prog (conhOpText N) := by
  refine Spec.flat ⟨Tryd.f32, by kernel_rfl, by kernel_rfl, by kernel_rfl⟩ (by kernel_rfl) rfl rfl rfl fun x o hx w ok γ vals hk hg hr => ?_
  obtain ⟨o8, ⟨⟩⟩ : OpD × Unit := x
  have hv : vals = [opV o8] := by
    have hr' : All2 (VRel w ok [] γ) [.w (.one (.val opTy o8))] vals := hr
    cases hr' with
    | cons h1 h2 =>
      cases h2
      obtain ⟨cs, h3, rfl⟩ := h1
      rw [opV_of h3]
  subst hv
  unfold FhOpText at hx
  have fin : ∀ {t : ByteArray} {e : Ending} {w' : World}, e = .returned (.string t) ∧ Below w.heap.size w w' → (match e, w' with
        | .returned v, w' => ∃ vals', v = retV vals' ∧ (∀ ok', All2 (VRel w' ok' [] γ) (oukItoa.mk' (t, ())).regs vals') ∧ Fr [] w w'
        | _, _ => False) := by
    rintro t e w' ⟨rfl, hb⟩
    exact ⟨[_], rfl, fun ok' => .cons ⟨_, rfl, rfl⟩ .nil, Fr.below hb⟩
  cases hq : FqOpOk 0 (o8, ()) with
  | none => simp only [hq] at hx; cases hx
  | some r =>
    obtain ⟨b, ⟨⟩⟩ := r
    cases b with
    | false =>
      simp only [hq] at hx
      obtain rfl := Option.some.inj hx
      exact (Tryd.OpText_no o8 hq w hg).mono fun e w' he => fin he
    | true =>
      simp only [hq] at hx
      by_cases hc : 1 ≤ o8.1 ∧ o8.1 ≤ 11
      · simp only [hc.1, hc.2, decide_true, Bool.and_self, cond_true] at hx
        obtain rfl := Option.some.inj hx
        have hk0 : o8.1 = ((o8.1.toNat : Nat) : Int) := by omega
        exact (Tryd.OpText o8 o8.1.toNat hk0 (by omega) (by omega) hq w hg).mono fun e w' he => fin he
      · have : (decide (1 ≤ o8.1) && decide (o8.1 ≤ 11)) = false := by
          rw [Bool.eq_false_iff]
          intro h
          simp only [Bool.and_eq_true, decide_eq_true_eq] at h
          exact hc h
        simp only [this, cond_false] at hx
        cases hx
end Go.Fl
/- impl.opOf: its contract. -/
namespace Go.Fl
open Go Go.Proofs Go.Shelf Go.RowKit
set_option maxRecDepth 100000
theorem opOfK_len {N : Nat} {ws : List ByteArray} {cells : List Int} {res : Bool} : ∀ (f k : Nat), opOfK N ws f k = some (cells, res) → cells.length = 8
  | 0, k, h => by simp only [opOfK, Option.some.injEq, Prod.mk.injEq] at h; rw [← h.1]; rfl
  | f + 1, k, h => by
    rw [opOfK] at h
    split at h
    · split at h
      · rename_i ok ns _ _
        split at h
        · rename_i hc
          have h' : fillL k ns = cells := (Prod.mk.inj (Option.some.inj h)).1
          rw [← h', ← fillTo_all k ns hc.2]; exact fillTo_len _ _ _
        · have h' : zeros8 = cells := (Prod.mk.inj (Option.some.inj h)).1
          rw [← h']; rfl
      · cases h
    · exact opOfK_len f (k + 1) h

def dinhopOf : Desc := { n := 1, regs := [.one (.val (.sl .str))], bx := [], pins := [] }
def outhopOf : Desc := { n := 2, regs := [.one (.val opTy), .one (.val .bool)], bx := [], pins := [] }
noncomputable def FhopOf (N : Nat) (x : List ByteArray × Unit) : Option (OpD × Bool × Unit) :=
  bif decide (0 < x.1.length) then (opOfK N x.1 11 1).map fun r => (opD r.1, r.2, ()) else none
noncomputable def conhopOf (N : Nat) : Con := ⟨42, dinhopOf, [(.ret, outhopOf)], FhopOf N⟩
theorem spechopOf (N : Nat) : Spec Tryd.prog (conhopOf N) := by
  refine Spec.flat ⟨Tryd.f42, by kernel_rfl, by kernel_rfl, by kernel_rfl⟩ (by kernel_rfl) rfl rfl rfl fun x o hx w ok γ vals hk hg hr => ?_
  obtain ⟨ws, ⟨⟩⟩ : List ByteArray × Unit := x
  simp only [FhopOf] at hx
  by_cases hne : 0 < ws.length
  · simp only [hne, decide_true, cond_true] at hx
    obtain ⟨⟨cells, res⟩, hR, rfl⟩ := Option.map_eq_some_iff.1 hx
    have hv : ∃ (A : Option Addr) (c : Nat), vals = [.slice A ws.length c] ∧ ws.length ≤ c ∧
        ∀ i (h : i < ws.length), ∃ (a : Addr) (us : List Value), A = some a ∧ a.spot = none ∧ ok a.block ∧ Rdf w ok .str ws[i] us ∧ CellsAt w a (i * Ty.str.sz) us := by
      have hr' : All2 (VRel w ok [] γ) [.w (.one (.val (.sl .str) ws))] vals := hr
      cases hr' with
      | cons h1 h2 =>
        cases h2
        obtain ⟨cs, ⟨A, c, rfl, hc, hel⟩, rfl⟩ := h1
        exact ⟨A, c, rfl, hc, hel⟩
    obtain ⟨A, c, rfl, hc, hel⟩ := hv
    obtain ⟨a, us, rfl, hsp, hok, _, _⟩ := hel 0 hne
    refine (Tryd.opOf N ws a hsp c hne hc cells res hR w hg (hk _ hok) (fun i h => ?_)).mono fun e w' he => ?_
    · obtain ⟨a', us, ha, _, _, h1, h2⟩ := hel i h
      cases ha
      cases h1
      have := h2 0 _ rfl
      simpa [Ty.sz] using this
    · obtain ⟨rfl, hb⟩ := he
      refine ⟨[_, _], rfl, fun ok' => .cons ?_ (.cons ⟨_, rfl, rfl⟩ .nil), Fr.below hb⟩
      obtain ⟨cs, h1, h2⟩ := opV_rel w' ok' (opD cells)
      refine ⟨cs, h1, ?_⟩
      rw [← h2]
      unfold opV
      rw [opD_opL (opOfK_len _ _ hR)]
  · simp only [hne, decide_false, cond_false] at hx
    cases hx

end Go.Fl
/- What a row's 'laid' says, as the facts on package-level variables. -/
namespace Go.Fl
open Go Go.Proofs Go.Shelf Go.RowKit Go.Proofs.YtemafmecjmgafaaDoor
-- laid: LaysM.n145 Nm 145 at Tryd as Tryd.laysM145
def Tryd.laysM145_ren : Go.Shelf.Ren := ⟨fun | 145 => 48 | 220 => 71 | 219 => 82 | 217 => 93 | 225 => 94 | 224 => 95 | 267 => 96 | 266 => 109 | 314 => 110 | n => n, fun | 9 => 9 | 4 => 4 | 59 => 78 | 3 => 3 | 5 => 5 | 46 => 106 | 146 => 117 | 51 => 116 | n => n, fun | 1 => 0 | n => n⟩
theorem Tryd.laysM145 : Go.Proofs.LaysM.n145 Tryd.prog Tryd.laysM145_ren where
  mixed := by kernel_rfl
  f145 := Tryd.func48.trans (congrArg some (by kernel_rfl))
  f217 := Tryd.func93.trans (congrArg some (by kernel_rfl))
  f219 := Tryd.func82.trans (congrArg some (by kernel_rfl))
  f220 := Tryd.func71.trans (congrArg some (by kernel_rfl))
  f224 := Tryd.func95.trans (congrArg some (by kernel_rfl))
  f225 := Tryd.func94.trans (congrArg some (by kernel_rfl))
  f266 := Tryd.func109.trans (congrArg some (by kernel_rfl))
  f267 := Tryd.func96.trans (congrArg some (by kernel_rfl))
  f314 := Tryd.func110.trans (congrArg some (by kernel_rfl))
  t3 := Tryd.underlying3
  a3 := Tryd.isAgg3
  z3 := Tryd.sizeOf3
  v3 := Tryd.zeroValue3
  t4 := Tryd.underlying4
  a4 := Tryd.isAgg4
  z4 := Tryd.sizeOf4
  v4 := Tryd.zeroValue4
  t5 := Tryd.underlying5
  a5 := Tryd.isAgg5
  z5 := Tryd.sizeOf5
  v5 := Tryd.zeroValue5
  t9 := Tryd.underlying9
  a9 := Tryd.isAgg9
  z9 := Tryd.sizeOf9
  v9 := Tryd.zeroValue9
  t46 := Tryd.underlying106
  a46 := Tryd.isAgg106
  z46 := Tryd.sizeOf106
  v46 := Tryd.zeroValue106
  t51 := Tryd.underlying116
  a51 := Tryd.isAgg116
  z51 := Tryd.sizeOf116
  v51 := Tryd.zeroValue116
  t59 := Tryd.underlying78
  a59 := Tryd.isAgg78
  z59 := Tryd.sizeOf78
  v59 := Tryd.zeroValue78
  t146 := Tryd.underlying117
  a146 := Tryd.isAgg117
  z146 := Tryd.sizeOf117
  v146 := Tryd.zeroValue117
  g1 := by kernel_rfl
  i3 := by kernel_rfl
  i4 := by kernel_rfl
  i5 := by kernel_rfl
  i9 := by kernel_rfl
  i46 := by kernel_rfl
  i51 := by kernel_rfl
  i59 := by kernel_rfl
  i146 := by kernel_rfl
  m1 := by kernel_rfl
  s1_3 := fun w h => Go.Proofs.cell_of_shapedOpen_int (zero := #[.int .i64 0]) (t := 3) h (of_decide_eq_true (by kernel_rfl)) (by kernel_rfl) rfl (by kernel_rfl) (by kernel_rfl) Tryd.underlying3
-- end of Tryd.laysM145
theorem star_err : "*" ++ "errors.errorString" = "*errors.errorString" := by decide
theorem Tryd.rowErr (u : TypeId) (h : Tryd.prog.typeName? 3 u = some "*errors.errorString") : u = 155 :=
  typeName_ptr_named (nm := "errors.errorString") (by rw [star_err]; kernel_rfl) (by kernel_rfl) (by decide) u (by rw [star_err]; exact h)

theorem gk_of_laid {W : World} {r : List (String × DataW Unit)} {a c : String × DataW Unit} {b : DataW Unit} (h : laidMet Tryd.prog (a :: ("math/bits.deBruijn64tab", b) :: ("internal/strconv.uint64pow10", Rows.laid_internal_strconv_uint64pow10) :: c :: ("strconv.ErrRange", Rows.laid_strconv_ErrRange) :: ("strconv.ErrSyntax", Rows.laid_strconv_ErrSyntax) :: r) W)
    (hs : W.ShapedOpen Tryd.prog) : GK W ∧ ∀ n, n < GKn → n < W.heap.size := by
  have hm := Tryd.laysM145.s1_3 W hs
  have hp : Lib.TabIs Tryd.prog W "internal/strconv.uint64pow10" .u64 Lib.pow10Tab :=
    Lib.tabIs_of_head (g := 3) (t := 147) (n := 20) (e := 119) (by kernel_rfl) (by kernel_rfl) (by kernel_rfl) (by kernel_rfl) (by kernel_rfl) (by kernel_rfl) (show laidMet Tryd.prog (("internal/strconv.uint64pow10", Lib.tabData .u64 Lib.pow10Tab) :: _) W from h.tail.tail)
  obtain ⟨a1, s1, hv1, -, -, -⟩ := laid_sentinel (g := 2) (ti := 60) (tp := 155) (te := 157) (ts := 9) h.tail.tail.tail.tail (by kernel_rfl) (by kernel_rfl) Tryd.underlying60 Tryd.rowErr Tryd.underlying155 Tryd.underlying157 rfl rfl Tryd.underlying9 (by kernel_rfl) (by kernel_rfl)
  obtain ⟨a2, s2, hv2, -, -, -⟩ := laid_sentinel (g := 1) (ti := 60) (tp := 155) (te := 157) (ts := 9) h.tail.tail.tail.tail.tail (by kernel_rfl) (by kernel_rfl) Tryd.underlying60 Tryd.rowErr Tryd.underlying155 Tryd.underlying157 rfl rfl Tryd.underlying9 (by kernel_rfl) (by kernel_rfl)
  have hsz : GKn ≤ W.heap.size := by
    obtain ⟨ps, ⟨g, t, cs, f, p, q, hg, _, hv, _⟩, _⟩ := h.tail
    have h7 : Tryd.prog.globalNamed "math/bits.deBruijn64tab" = some 7 := by kernel_rfl
    unfold World.var? at hv
    rw [h7] at hv
    simp only [Option.bind_some] at hv
    split at hv
    · rename_i hh
      have := (Array.getElem?_eq_some_iff.1 hh).1
      simp only [GKn]; omega
    · cases hv
  exact ⟨⟨hp, ⟨_, _, hv2⟩, ⟨_, _, hv1⟩, hm, hsz⟩, fun n hn => Nat.lt_of_lt_of_le hn hsz⟩
end Go.Fl

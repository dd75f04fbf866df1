/- An evaluator of loaded functions, and that it is sound (part 4); no conditions. -/
import Derived.Test.YtemafmecjmgafaaDoorK3
import Derived.Shelf.Strings.Cut
import Derived.Shelf.Strings.Split
import Derived.Lib.SplitLaws
import Derived.Shelf.Strings.OnBuilder
import Derived.Test.YtemafmecjmgafaaDoorK1
import Derived.Test.YtemafmecjmgafaaDoorRows
import Derived.Stop.LaidErr
import Derived.Shelf.Lay
import Derived.Shelf.LaysM
import Derived.Shelf.Strings.Shaped
set_option linter.all false
namespace Go.Fl
open Go Go.Proofs Go.Shelf Go.RowKit
-- laid: Lays.n145 Nm 145 at Tryd as Tryd.lays145
def Tryd.lays145_ren : Go.Shelf.Ren := ⟨fun | 145 => 48 | 220 => 71 | 219 => 82 | 217 => 93 | 225 => 94 | 224 => 95 | 267 => 96 | 266 => 109 | 314 => 110 | n => n, fun | 9 => 9 | 4 => 4 | 59 => 78 | 3 => 3 | 5 => 5 | 46 => 106 | 146 => 117 | 51 => 116 | n => n, fun | 1 => 0 | n => n⟩
theorem Tryd.lays145 : Go.Proofs.Lays.n145 Tryd.prog Tryd.lays145_ren where
  mixed := by kernel_rfl
  f145 := Tryd.func48.trans (congrArg some (by kernel_rfl))
  f217 := Tryd.func93.trans (congrArg some (by kernel_rfl))
  f219 := Tryd.func82.trans (congrArg some (by kernel_rfl))
  f220 := Tryd.func71.trans (congrArg some (by kernel_rfl))
  f224 := Tryd.func95.trans (congrArg some (by kernel_rfl))
  f225 := Tryd.func94.trans (congrArg some (by kernel_rfl))
  f266 := Tryd.func109.trans (congrArg some (by kernel_rfl))
  f267 := Tryd.func96.trans (congrArg some (by kernel_rfl))
  f314 := Tryd.func110.trans (congrArg some (by kernel_rfl))
  t3 := Tryd.underlying3
  a3 := Tryd.isAgg3
  z3 := Tryd.sizeOf3
  v3 := Tryd.zeroValue3
  t4 := Tryd.underlying4
  a4 := Tryd.isAgg4
  z4 := Tryd.sizeOf4
  v4 := Tryd.zeroValue4
  t5 := Tryd.underlying5
  a5 := Tryd.isAgg5
  z5 := Tryd.sizeOf5
  v5 := Tryd.zeroValue5
  t9 := Tryd.underlying9
  a9 := Tryd.isAgg9
  z9 := Tryd.sizeOf9
  v9 := Tryd.zeroValue9
  t46 := Tryd.underlying106
  a46 := Tryd.isAgg106
  z46 := Tryd.sizeOf106
  v46 := Tryd.zeroValue106
  t51 := Tryd.underlying116
  a51 := Tryd.isAgg116
  z51 := Tryd.sizeOf116
  v51 := Tryd.zeroValue116
  t59 := Tryd.underlying78
  a59 := Tryd.isAgg78
  z59 := Tryd.sizeOf78
  v59 := Tryd.zeroValue78
  t146 := Tryd.underlying117
  a146 := Tryd.isAgg117
  z146 := Tryd.sizeOf117
  v146 := Tryd.zeroValue117
  g1 := by kernel_rfl
-- end of Tryd.lays145
-- laid: Lays.n146 Nm 146 at Tryd as Tryd.lays146
def Tryd.lays146_ren : Go.Shelf.Ren := ⟨fun | 146 => 43 | 221 => 68 | 268 => 78 | 138 => 79 | 143 => 80 | 195 => 90 | 197 => 91 | 218 => 92 | 219 => 82 | 260 => 108 | 217 => 93 | 225 => 94 | 224 => 95 | 267 => 96 | 266 => 109 | 314 => 110 | n => n, fun | 9 => 9 | 31 => 68 | 3 => 3 | 4 => 4 | 0 => 0 | 105 => 124 | 21 => 21 | 5 => 5 | 46 => 106 | 119 => 150 | 139 => 153 | 138 => 152 | 146 => 117 | 51 => 116 | n => n, fun | 1 => 0 | 3 => 4 | 4 => 5 | n => n⟩
theorem Tryd.lays146 : Go.Proofs.Lays.n146 Tryd.prog Tryd.lays146_ren where
  mixed := by kernel_rfl
  f138 := Tryd.func79.trans (congrArg some (by kernel_rfl))
  f143 := Tryd.func80.trans (congrArg some (by kernel_rfl))
  f146 := Tryd.func43.trans (congrArg some (by kernel_rfl))
  f195 := Tryd.func90.trans (congrArg some (by kernel_rfl))
  f197 := Tryd.func91.trans (congrArg some (by kernel_rfl))
  f217 := Tryd.func93.trans (congrArg some (by kernel_rfl))
  f218 := Tryd.func92.trans (congrArg some (by kernel_rfl))
  f219 := Tryd.func82.trans (congrArg some (by kernel_rfl))
  f221 := Tryd.func68.trans (congrArg some (by kernel_rfl))
  f224 := Tryd.func95.trans (congrArg some (by kernel_rfl))
  f225 := Tryd.func94.trans (congrArg some (by kernel_rfl))
  f260 := Tryd.func108.trans (congrArg some (by kernel_rfl))
  f266 := Tryd.func109.trans (congrArg some (by kernel_rfl))
  f267 := Tryd.func96.trans (congrArg some (by kernel_rfl))
  f268 := Tryd.func78.trans (congrArg some (by kernel_rfl))
  f314 := Tryd.func110.trans (congrArg some (by kernel_rfl))
  t0 := Tryd.underlying0
  a0 := Tryd.isAgg0
  z0 := Tryd.sizeOf0
  v0 := Tryd.zeroValue0
  t3 := Tryd.underlying3
  a3 := Tryd.isAgg3
  z3 := Tryd.sizeOf3
  v3 := Tryd.zeroValue3
  t4 := Tryd.underlying4
  a4 := Tryd.isAgg4
  z4 := Tryd.sizeOf4
  v4 := Tryd.zeroValue4
  t5 := Tryd.underlying5
  a5 := Tryd.isAgg5
  z5 := Tryd.sizeOf5
  v5 := Tryd.zeroValue5
  t9 := Tryd.underlying9
  a9 := Tryd.isAgg9
  z9 := Tryd.sizeOf9
  v9 := Tryd.zeroValue9
  t21 := Tryd.underlying21
  a21 := Tryd.isAgg21
  z21 := Tryd.sizeOf21
  v21 := Tryd.zeroValue21
  t31 := Tryd.underlying68
  a31 := Tryd.isAgg68
  z31 := Tryd.sizeOf68
  v31 := Tryd.zeroValue68
  t46 := Tryd.underlying106
  a46 := Tryd.isAgg106
  z46 := Tryd.sizeOf106
  v46 := Tryd.zeroValue106
  t51 := Tryd.underlying116
  a51 := Tryd.isAgg116
  z51 := Tryd.sizeOf116
  v51 := Tryd.zeroValue116
  t105 := Tryd.underlying124
  a105 := Tryd.isAgg124
  z105 := Tryd.sizeOf124
  v105 := Tryd.zeroValue124
  t119 := Tryd.underlying150
  a119 := Tryd.isAgg150
  z119 := Tryd.sizeOf150
  t138 := Tryd.underlying152
  a138 := Tryd.isAgg152
  z138 := Tryd.sizeOf152
  v138 := Tryd.zeroValue152
  t139 := Tryd.underlying153
  a139 := Tryd.isAgg153
  z139 := Tryd.sizeOf153
  v139 := Tryd.zeroValue153
  t146 := Tryd.underlying117
  a146 := Tryd.isAgg117
  z146 := Tryd.sizeOf117
  v146 := Tryd.zeroValue117
  g1 := by kernel_rfl
  g3 := by kernel_rfl
  g4 := by kernel_rfl
-- end of Tryd.lays146

theorem GK.cell {w : World} (g : GK w) : ∃ m, w.cell? ⟨0, 0, none⟩ = some (.int .i64 m) := g.max

theorem flat_str2 {w : World} {ok : Nat → Prop} {γ : Gam} {z y : ByteArray} {vals : List Value} (h : All2 (VRel w ok [] γ) [.w (.one (.val .str z)), .w (.one (.val .str y))] vals) : vals = [.string z, .string y] := by
  cases h with
  | cons h1 h2 => cases h2 with
    | cons h3 h4 => cases h4; rw [str_of h1, str_of h3]

def dinkCut : Desc := { n := 2, regs := [.one (.val .str), .one (.val .str)], bx := [], pins := [] }
def oukCut : Desc := { n := 3, regs := [.one (.val .str), .one (.val .str), .one (.val .bool)], bx := [], pins := [] }
noncomputable def FkCut (x : ByteArray × ByteArray × Unit) : Option (ByteArray × ByteArray × Bool × Unit) :=
  bif decide (x.1.size < 4294967281) then some (⟨(Lib.cut x.1.data.toList x.2.1.data.toList).1.toArray⟩, ⟨(Lib.cut x.1.data.toList x.2.1.data.toList).2.1.toArray⟩, (Lib.cut x.1.data.toList x.2.1.data.toList).2.2, ()) else none
noncomputable def conkCut : Con := ⟨48, dinkCut, [(.ret, oukCut)], FkCut⟩
theorem speckCut : Spec Tryd.prog conkCut := by
  refine Spec.flat ⟨Tryd.f48, by kernel_rfl, by kernel_rfl, by kernel_rfl⟩ (by kernel_rfl) rfl rfl rfl fun x o hx w ok γ vals hk hg hr => ?_
  obtain ⟨s, sep, ⟨⟩⟩ : ByteArray × ByteArray × Unit := x
  simp only [FkCut] at hx
  have hv := flat_str2 (z := s) (y := sep) hr
  subst hv
  by_cases hs : s.size < 4294967281
  · simp only [hs, decide_true, cond_true] at hx
    obtain rfl := Option.some.inj hx
    obtain ⟨m, hm⟩ := hg.cell
    refine (Any.strings_Cut Tryd.lays145 s sep m w hs hm).mono fun e w' he => ?_
    obtain ⟨rfl, n, rfl⟩ := he
    exact ⟨[_, _, _], rfl, fun ok' => .cons ⟨_, rfl, rfl⟩ (.cons ⟨_, rfl, rfl⟩ (.cons ⟨_, rfl, rfl⟩ .nil)), ⟨rfl, rfl, rfl, Nat.le_refl _, fun _ _ _ => rfl⟩⟩
  · simp only [hs, decide_false, cond_false] at hx
    cases hx

/-- No memory is handed over, a fresh row of strings comes back. -/
def oukRow : Desc := { n := 1, regs := [.one (.lit (.row 1012928))], bx := [(1012928, .row .str)], pins := [] }
theorem Spec.fresh {P : Program} {f : Nat} {d : Desc} {F : (tupT d.ts).den → Option (outT [(.ret, oukRow)])} (hc : Callable P f) (hok : Con.okB ⟨f, d, [(.ret, oukRow)], F⟩ = true) (hb : d.bx = [])
    (h : ∀ (x : (tupT d.ts).den) (xs : List ByteArray), F x = some (xs, ()) → ∀ (w : World) (ok : Nat → Prop) (γ : Gam) (vals : List Value), GK w → All2 (VRel w ok [] γ) (d.mk' x).regs vals →
      Calls P f vals.toArray w fun e w' => ∃ t, e = .returned (.slice (some ⟨w.heap.size, 0, none⟩) xs.length xs.length) ∧ w' = w.alloc (.cells (xs.map Value.string).toArray t)) : Spec P ⟨f, d, [(.ret, oukRow)], F⟩ := by
  refine ⟨hc, hok, fun x o hx w γ vals hat => ?_⟩
  obtain ⟨xs, ⟨⟩⟩ : List ByteArray × Unit := o
  have hbx : (d.mk' x).bx = [] := by simp [Desc.mk', hb, mkBx]
  have hr := hat.regs
  rw [hbx] at hr
  refine (h x xs hx w _ γ vals hat.hid.2.1 hr).mono fun e w' he => ?_
  obtain ⟨t, rfl, rfl⟩ := he
  intro d' s1 hd
  obtain ⟨rfl, rfl⟩ := hd
  change ∃ γ1 vals', _ = retV vals' ∧ After w γ (owned (d.mk' x).bx γ.f) _ ({ regs := [.w (.one (.row 1012928))], bx := [(1012928, .row .str xs)], pins := [] } : S) γ1 vals' _
  have hsz : (w.alloc (.cells (xs.map Value.string).toArray t)).heap.size = w.heap.size + 1 := by rw [Go.Sort.alloc_eq_grow]; simp [Go.Sort.grow]
  have hown : owned [(1012928, Box.row .str xs)] (⟨fun _ => ⟨some ⟨w.heap.size, 0, none⟩, xs.length, [w.heap.size]⟩, γ.hid⟩ : Gam) = [w.heap.size] := by simp [owned]
  refine ⟨⟨fun _ => ⟨some ⟨w.heap.size, 0, none⟩, xs.length, [w.heap.size]⟩, γ.hid⟩, [_], rfl, ?_, ?_, ?_, ?_, ?_, rfl⟩
  · refine ⟨by simp, by rw [hown]; simp, by rw [hown, hsz]; simp, fun b x hb => ?_⟩
    have : b = 1012928 ∧ x = .row .str xs := by
      simp only [find] at hb
      cases hc : (1012928 == b) with
      | true => rw [hc] at hb; exact ⟨by have := beq_iff_eq.1 hc; exact this.symm, by simpa using hb.symm⟩
      | false => rw [hc] at hb; cases hb
    obtain ⟨rfl, rfl⟩ := this
    refine .inr ⟨w.heap.size, 0, (xs.map Value.string).toArray, t, List.replicate xs.length [], rfl, by simp, (by rw [Go.Sort.alloc_eq_grow]; simp only [Go.Sort.grow]; simp), Nat.le_refl _, by simp [Ty.sz], by simp, fun i h1 h2 => ?_⟩
    refine ⟨[.string xs[i]], ⟨rfl, by simp⟩, rfl, fun j v hj => ?_⟩
    have hj0 : j = 0 := by
      have := (List.getElem?_eq_some_iff.1 hj).1
      simpa using this
    subst hj0
    simp at hj
    subst hj
    simp [Ty.sz, h1]
  · exact .cons ⟨.row .str xs, .str, xs.length, rfl, rfl, rfl⟩ .nil
  · intro i v hi
    simp at hi
  · rw [hbx]
    exact ⟨rfl, rfl, rfl, by rw [hsz]; omega, fun k hk _ => by rw [Go.Sort.alloc_eq_grow]; simp only [Go.Sort.grow]; rw [Array.getElem?_append_left hk]⟩
  · rw [hown]; intro n hn; simp at hn; exact .inr (Nat.le_of_eq hn.symm)

noncomputable def FkSplit (x : ByteArray × ByteArray × Unit) : Option (List ByteArray × Unit) :=
  bif decide (x.1.size < 4294967281) && decide (1 ≤ x.2.1.size) then some (Lib.splitB x.2.1 0 (Lib.countB x.1 x.2.1) x.1, ()) else none
noncomputable def conkSplit : Con := ⟨43, dinkCut, [(.ret, oukRow)], FkSplit⟩
theorem speckSplit : Spec Tryd.prog conkSplit := by
  refine Spec.fresh ⟨Tryd.f43, by kernel_rfl, by kernel_rfl, by kernel_rfl⟩ (by kernel_rfl) rfl fun x xs hx w ok γ vals hg hr => ?_
  obtain ⟨s, sep, ⟨⟩⟩ : ByteArray × ByteArray × Unit := x
  simp only [FkSplit] at hx
  have hv := flat_str2 (z := s) (y := sep) hr
  subst hv
  by_cases hs : s.size < 4294967281 ∧ 1 ≤ sep.size
  · simp only [hs.1, hs.2, decide_true, Bool.and_self, cond_true] at hx
    have hxs : Lib.splitB sep 0 (Lib.countB s sep) s = xs := (Prod.mk.inj (Option.some.inj hx)).1
    subst hxs
    obtain ⟨m, hm⟩ := hg.cell
    refine (Any.strings_Split Tryd.lays146 (by kernel_rfl) s sep m w hs.1 hm hs.2).mono fun e w' he => ?_
    obtain ⟨rfl, rfl⟩ := he
    rw [Lib.splitB_all sep hs.2 0 _ s rfl]
    exact ⟨_, rfl, rfl⟩
  · have hn : (decide (s.size < 4294967281) && decide (1 ≤ sep.size)) = false := by
      simp only [Bool.and_eq_false_iff, decide_eq_false_iff_not]
      omega
    simp only [hn, cond_false] at hx
    cases hx
end Go.Fl
namespace Go.Fl
open Go Go.Proofs Go.Shelf Go.RowKit
def dinkJoin : Desc := { n := 2, regs := [.one (.val (.sl .str)), .one (.val .str)], bx := [], pins := [] }
noncomputable def joinF (xs : List ByteArray) (sep : ByteArray) : ByteArray := ⟨(Lib.join (xs.map fun x => x.data.toList) sep.data.toList).toArray⟩
noncomputable def FkJoin (x : List ByteArray × ByteArray × Unit) : Option (ByteArray × Unit) :=
  bif decide (x.1.length ≤ 140737488355328) && decide ((joinF x.1 x.2.1).size ≤ 140737488355328) then some (joinF x.1 x.2.1, ()) else none
noncomputable def conkJoin : Con := ⟨56, dinkJoin, [(.ret, oukItoa)], FkJoin⟩
theorem speckJoin : Spec Tryd.prog conkJoin := by
  refine Spec.flat ⟨Tryd.f56, by kernel_rfl, by kernel_rfl, by kernel_rfl⟩ (by kernel_rfl) rfl rfl rfl fun x o hx w ok γ vals hk hg hr => ?_
  obtain ⟨xs, sep, ⟨⟩⟩ : List ByteArray × ByteArray × Unit := x
  simp only [FkJoin] at hx
  have hv : ∃ (A : Option Addr) (c : Nat), vals = [.slice A xs.length c, .string sep] ∧ xs.length ≤ c ∧
      ∀ i (h : i < xs.length), ∃ (a : Addr) (us : List Value), A = some a ∧ a.spot = none ∧ ok a.block ∧ Rdf w ok .str xs[i] us ∧ CellsAt w a (i * Ty.str.sz) us := by
    have hr' : All2 (VRel w ok [] γ) [.w (.one (.val (.sl .str) xs)), .w (.one (.val .str sep))] vals := hr
    cases hr' with
    | cons h1 h2 => cases h2 with
      | cons h3 h4 =>
        cases h4
        rw [str_of h3]
        obtain ⟨cs, ⟨A, c, rfl, hc, hel⟩, rfl⟩ := h1
        exact ⟨A, c, rfl, hc, hel⟩
  obtain ⟨A, c, rfl, hc, hel⟩ := hv
  by_cases hs : xs.length ≤ 140737488355328 ∧ (joinF xs sep).size ≤ 140737488355328
  · simp only [hs.1, hs.2, decide_true, Bool.and_self, cond_true] at hx
    obtain rfl := Option.some.inj hx
    have fin : ∀ {w' : World} {e : Ending}, e = .returned (.string (joinF xs sep)) ∧ Below w.heap.size w w' → (match e, w' with
        | .returned v, w' => ∃ vals', v = retV vals' ∧ (∀ ok', All2 (VRel w' ok' [] γ) (oukItoa.mk' (joinF xs sep, ())).regs vals') ∧ Fr [] w w'
        | _, _ => False) := by
      rintro w' e ⟨rfl, hb⟩
      exact ⟨[_], rfl, fun ok' => .cons ⟨_, rfl, rfl⟩ .nil, Fr.below hb⟩
    cases xs with
    | nil =>
      refine (Any.strings_Join_none Tryd.lays156 Tryd.Builder_Extra A c sep w).mono fun e w' he => ?_
      obtain ⟨rfl, rfl⟩ := he
      exact fin ⟨rfl, Below.refl _ _⟩
    | cons x r =>
      obtain ⟨a, us, rfl, hsp, hok, _, _⟩ := hel 0 (by simp)
      obtain ⟨bk, o, sp⟩ := a
      cases hsp
      refine (Any.strings_Join Tryd.lays156 Tryd.Builder_Extra bk o c (x :: r) sep w (fun j y hj => ?_) (hk _ hok) hs.1 hc (by have := hs.2; simpa [joinF, ByteArray.size] using this)).mono fun e w' he => fin he
      obtain ⟨hj1, rfl⟩ := List.getElem?_eq_some_iff.1 hj
      obtain ⟨a', us, ha, _, _, h1, h2⟩ := hel j hj1
      cases ha
      cases h1
      have := h2 0 _ rfl
      simpa [Ty.sz, Addr.add] using this
  · have hn : (decide (xs.length ≤ 140737488355328) && decide ((joinF xs sep).size ≤ 140737488355328)) = false := by
      simp only [Bool.and_eq_false_iff, decide_eq_false_iff_not]
      omega
    simp only [hn, cond_false] at hx
    cases hx
end Go.Fl
namespace Go.Fl
open Go Go.Proofs
noncomputable abbrev Fhfigure (_N : Nat) := Fifigure
noncomputable def conhfigure (_N : Nat) : Con := conifigure
theorem spechfigure (N : Nat) : Spec Tryd.prog (conhfigure N) := specifigure
noncomputable abbrev FhCut (_N : Nat) := FkCut
noncomputable def conhCut (_N : Nat) : Con := conkCut
theorem spechCut (N : Nat) : Spec Tryd.prog (conhCut N) := speckCut
noncomputable abbrev FhSplit (_N : Nat) := FkSplit
noncomputable def conhSplit (_N : Nat) : Con := conkSplit
theorem spechSplit (N : Nat) : Spec Tryd.prog (conhSplit N) := speckSplit
noncomputable abbrev FhJoin (_N : Nat) := FkJoin
noncomputable def conhJoin (_N : Nat) : Con := conkJoin
theorem spechJoin (N : Nat) : Spec Tryd.prog (conhJoin N) := speckJoin
end Go.Fl
/- What a row's 'laid' says, as the facts on package-level variables. -/
namespace Go.Fl
open Go Go.Proofs Go.Shelf Go.RowKit Go.Proofs.YtemafmecjmgafaaDoor
-- laid: LaysM.n145 Nm 145 at Tryd as Tryd.laysM145
def Tryd.laysM145_ren : Go.Shelf.Ren := ⟨fun | 145 => 48 | 220 => 71 | 219 => 82 | 217 => 93 | 225 => 94 | 224 => 95 | 267 => 96 | 266 => 109 | 314 => 110 | n => n, fun | 9 => 9 | 4 => 4 | 59 => 78 | 3 => 3 | 5 => 5 | 46 => 106 | 146 => 117 | 51 => 116 | n => n, fun | 1 => 0 | n => n⟩
theorem Tryd.laysM145 : Go.Proofs.LaysM.n145 Tryd.prog Tryd.laysM145_ren where
  mixed := by kernel_rfl
  f145 := Tryd.func48.trans (congrArg some (by kernel_rfl))
  f217 := Tryd.func93.trans (congrArg some (by kernel_rfl))
  f219 := Tryd.func82.trans (congrArg some (by kernel_rfl))
  f220 := Tryd.func71.trans (congrArg some (by kernel_rfl))
  f224 := Tryd.func95.trans (congrArg some (by kernel_rfl))
  f225 := Tryd.func94.trans (congrArg some (by kernel_rfl))
  f266 := Tryd.func109.trans (congrArg some (by kernel_rfl))
  f267 := Tryd.func96.trans (congrArg some (by kernel_rfl))
  f314 := Tryd.func110.trans (congrArg some (by kernel_rfl))
  t3 := Tryd.underlying3
  a3 := Tryd.isAgg3
  z3 := Tryd.sizeOf3
  v3 := Tryd.zeroValue3
  t4 := Tryd.underlying4
  a4 := Tryd.isAgg4
  z4 := Tryd.sizeOf4
  v4 := Tryd.zeroValue4
  t5 := Tryd.underlying5
  a5 := Tryd.isAgg5
  z5 := Tryd.sizeOf5
  v5 := Tryd.zeroValue5
  t9 := Tryd.underlying9
  a9 := Tryd.isAgg9
  z9 := Tryd.sizeOf9
  v9 := Tryd.zeroValue9
  t46 := Tryd.underlying106
  a46 := Tryd.isAgg106
  z46 := Tryd.sizeOf106
  v46 := Tryd.zeroValue106
  t51 := Tryd.underlying116
  a51 := Tryd.isAgg116
  z51 := Tryd.sizeOf116
  v51 := Tryd.zeroValue116
  t59 := Tryd.underlying78
  a59 := Tryd.isAgg78
  z59 := Tryd.sizeOf78
  v59 := Tryd.zeroValue78
  t146 := Tryd.underlying117
  a146 := Tryd.isAgg117
  z146 := Tryd.sizeOf117
  v146 := Tryd.zeroValue117
  g1 := by kernel_rfl
  i3 := by kernel_rfl
  i4 := by kernel_rfl
  i5 := by kernel_rfl
  i9 := by kernel_rfl
  i46 := by kernel_rfl
  i51 := by kernel_rfl
  i59 := by kernel_rfl
  i146 := by kernel_rfl
  m1 := by kernel_rfl
  s1_3 := fun w h => Go.Proofs.cell_of_shapedOpen_int (zero := #[.int .i64 0]) (t := 3) h (of_decide_eq_true (by kernel_rfl)) (by kernel_rfl) rfl (by kernel_rfl) (by kernel_rfl) Tryd.underlying3
-- end of Tryd.laysM145
theorem star_err : "*" ++ "errors.errorString" = "*errors.errorString" := by decide
theorem Tryd.rowErr (u : TypeId) (h : Tryd.prog.typeName? 3 u = some "*errors.errorString") : u = 155 :=
  typeName_ptr_named (nm := "errors.errorString") (by rw [star_err]; kernel_rfl) (by kernel_rfl) (by decide) u (by rw [star_err]; exact h)

theorem gk_of_laid {W : World} {r : List (String × DataW Unit)} {a c : String × DataW Unit} {b : DataW Unit} (h : laidMet Tryd.prog (a :: ("math/bits.deBruijn64tab", b) :: ("internal/strconv.uint64pow10", Rows.laid_internal_strconv_uint64pow10) :: c :: ("strconv.ErrRange", Rows.laid_strconv_ErrRange) :: ("strconv.ErrSyntax", Rows.laid_strconv_ErrSyntax) :: r) W)
    (hs : W.ShapedOpen Tryd.prog) : GK W ∧ ∀ n, n < GKn → n < W.heap.size := by
  have hm := Tryd.laysM145.s1_3 W hs
  have hp : Lib.TabIs Tryd.prog W "internal/strconv.uint64pow10" .u64 Lib.pow10Tab :=
    Lib.tabIs_of_head (g := 3) (t := 147) (n := 20) (e := 119) (by kernel_rfl) (by kernel_rfl) (by kernel_rfl) (by kernel_rfl) (by kernel_rfl) (by kernel_rfl) (show laidMet Tryd.prog (("internal/strconv.uint64pow10", Lib.tabData .u64 Lib.pow10Tab) :: _) W from h.tail.tail)
  obtain ⟨a1, s1, hv1, -, -, -⟩ := laid_sentinel (g := 2) (ti := 60) (tp := 155) (te := 157) (ts := 9) h.tail.tail.tail.tail (by kernel_rfl) (by kernel_rfl) Tryd.underlying60 Tryd.rowErr Tryd.underlying155 Tryd.underlying157 rfl rfl Tryd.underlying9 (by kernel_rfl) (by kernel_rfl)
  obtain ⟨a2, s2, hv2, -, -, -⟩ := laid_sentinel (g := 1) (ti := 60) (tp := 155) (te := 157) (ts := 9) h.tail.tail.tail.tail.tail (by kernel_rfl) (by kernel_rfl) Tryd.underlying60 Tryd.rowErr Tryd.underlying155 Tryd.underlying157 rfl rfl Tryd.underlying9 (by kernel_rfl) (by kernel_rfl)
  have hsz : GKn ≤ W.heap.size := by
    obtain ⟨ps, ⟨g, t, cs, f, p, q, hg, _, hv, _⟩, _⟩ := h.tail
    have h7 : Tryd.prog.globalNamed "math/bits.deBruijn64tab" = some 7 := by kernel_rfl
    unfold World.var? at hv
    rw [h7] at hv
    simp only [Option.bind_some] at hv
    split at hv
    · rename_i hh
      have := (Array.getElem?_eq_some_iff.1 hh).1
      simp only [GKn]; omega
    · cases hv
  exact ⟨⟨hp, ⟨_, _, hv2⟩, ⟨_, _, hv1⟩, hm, hsz⟩, fun n hn => Nat.lt_of_lt_of_le hn hsz⟩
end Go.Fl

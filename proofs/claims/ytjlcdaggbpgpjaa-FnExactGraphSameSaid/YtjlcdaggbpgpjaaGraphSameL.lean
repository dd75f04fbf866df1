/- Proved: for every input the law FnExactGraphSame returns true and leaves its arguments as they were. No conditions. -/
import Derived.Test.YtjlcdaggbpgpjaaGraphSameP1
import Derived.Test.YtjlcdaggbpgpjaaK3
import Derived.Test.YtjlcdaggbpgpjaaRows
set_option linter.all false
set_option maxRecDepth 100000
namespace Go.Proofs.Ytjlcdaggbpgpjaa
open Go Go.Fl Go.ChangeShapes Go.WideShapes Go.ChangeAt Go.RowKit

theorem Try.own : ownKnob Try.prog.godebug = none := by kernel_rfl
theorem Try.laidOut : laidOutB Try.prog = true := by kernel_rfl

abbrev tGraph : Ty := .pair (.sl (.pair (.sl (.int .i64)) (.pair (.sl (.int .i64)) .unit))) (.pair (.sl (.sl (.int .i64))) (.pair (.sl (.int .i64)) .unit))
-- #check @Go.Proofs.Try.f4
-- #check @Try.params4
-- #check @Try.underlying21
theorem math4 : ∀ y : (tupT [tGraph, tGraph]).den, Wf (tupT [tGraph, tGraph]) y → ∃ N, FvFnExactGraphSame N y = some (true, ()) := fun y hy => by
  refine ⟨lim + 1, ?_⟩
  obtain ⟨⟨⟨a1, a2⟩, ⟨b1, b2⟩, ⟨c1, _⟩, _⟩, ⟨⟨d1, d2⟩, ⟨e1, e2⟩, ⟨f1, _⟩, _⟩, _⟩ := hy
  exact FnExactGraphSame_ok (by omega) (a := y.1) (b := y.2.1) ⟨a1, fun x hx => ⟨(a2 x hx).1.1, (a2 x hx).2.1.1⟩, b1, fun x hx => (b2 x hx).1, c1⟩
    ⟨d1, fun x hx => ⟨(d2 x hx).1.1, (d2 x hx).2.1.1⟩, e1, fun x hx => (e2 x hx).1, f1⟩
theorem fnExactGraphSame_lifted (os : Os) (started : os.Started) (H : Type) (enc : TypeId × Value → H) :
    ReturnsInHanded {} Try.checked os 4 .any (Rows.fnExactGraphSameSpec.pre6 enc Try.prog Try.f4 Rows.fnExactGraphSameRow.domain false) (Rows.fnExactGraphSameSpec.post enc Try.prog Try.f4 false true false false) :=
  law_row (C := Try.checked) (ts := [tGraph, tGraph]) (Tb := 4) (din := dinvFnExactGraphSame) Try.own started (by kernel_rfl) Try.func4
    (ChangeSpec.witness6 (enc := enc) (C := Try.checked) false ⟨#[], #[.agg #[.slice none 0 0, .slice none 0 0, .slice none 0 0], .agg #[.slice none 0 0, .slice none 0 0, .slice none 0 0]], []⟩ 8 (by kernel_rfl) (by kernel_rfl) (by kernel_rfl) (by kernel_rfl))
    TE_ok Try.laidOut (.cons ⟨by kernel_rfl, rfl, by decide⟩ (.cons ⟨by kernel_rfl, rfl, by decide⟩ .nil))
    (by kernel_rfl) rfl
    (fun ds h => by match ds, h with | [_, _], _ => rfl)
    (by kernel_rfl) (by kernel_rfl) specvFnExactGraphSame (fun y hy => by obtain ⟨N, h⟩ := math4 y hy; exact ⟨N, y, h, rfl, rfl⟩)
theorem fnExactGraphSame_holds : Rows.FnExactGraphSameSaid :=
  OpenClaim.holds_of_wide 4 Try.f4 rfl rfl rfl rfl rfl rfl rfl ⟨rfl, rfl, rfl, rfl, rfl⟩ rfl rfl rfl rfl rfl (by kernel_rfl) Try.func4 (by kernel_rfl)
    (of_decide_eq_true (by kernel_rfl)) (by unfold Func.isWrapper; first | (rw [if_pos (by decide +kernel)]; kernel_rfl) | (rw [if_neg (by decide +kernel)]; exact ⟨rfl, rfl⟩))
    (fun os started H enc _ => fnExactGraphSame_lifted os started H enc)
end Go.Proofs.Ytjlcdaggbpgpjaa

/- Proved: for every input the law FnExactGraphDo returns true and leaves its arguments as they were. No conditions. -/
import Derived.Test.YtjlcdaggbpgpjaaExactGraphDoP2
import Derived.Test.YtjlcdaggbpgpjaaK3
import Derived.Test.YtjlcdaggbpgpjaaRows
set_option linter.all false
set_option maxRecDepth 100000
namespace Go.Proofs.Ytjlcdaggbpgpjaa
open Go Go.Fl Go.ChangeShapes Go.WideShapes Go.ChangeAt Go.RowKit

theorem Try.own : ownKnob Try.prog.godebug = none := by kernel_rfl
theorem Try.laidOut : laidOutB Try.prog = true := by kernel_rfl

theorem fnExactGraphDo_maths : ∀ y : (tupT [.pair (.sl (.pair (.sl (.int .i64)) (.pair (.sl (.int .i64)) .unit))) (.pair (.sl (.sl (.int .i64))) (.pair (.sl (.int .i64)) .unit)), .int .i64, .pair (.int .i64) (.pair (.int .i64) (.pair (.int .i64) (.pair (.int .i64) (.pair (.int .i64) (.pair (.int .i64) (.pair (.pair (.int .i64) (.pair (.int .i64) .unit)) .unit))))))]).den, Wf (tupT [.pair (.sl (.pair (.sl (.int .i64)) (.pair (.sl (.int .i64)) .unit))) (.pair (.sl (.sl (.int .i64))) (.pair (.sl (.int .i64)) .unit)), .int .i64, .pair (.int .i64) (.pair (.int .i64) (.pair (.int .i64) (.pair (.int .i64) (.pair (.int .i64) (.pair (.int .i64) (.pair (.pair (.int .i64) (.pair (.int .i64) .unit)) .unit))))))]) y → ∃ N, FvFnExactGraphDo N y = some (true, ()) := fun y hy => by
  obtain ⟨⟨⟨a1, a2⟩, ⟨b1, b2⟩, ⟨c1, _⟩, _⟩, _⟩ := hy; exact ⟨lim + 1, FnExactGraphDo_ok (by omega) (a := y.1) (t := y.2.1) (o := y.2.2.1) ⟨a1, fun x hx => ⟨(a2 x hx).1.1, (a2 x hx).2.1.1⟩, b1, fun x hx => (b2 x hx).1, c1⟩⟩

theorem fnExactGraphDo_lifted (os : Os) (started : os.Started) (H : Type) (enc : TypeId × Value → H) :
    ReturnsInHanded {} Try.checked os 13 .any (Rows.fnExactGraphDoSpec.pre6 enc Try.prog Try.f13 Rows.fnExactGraphDoRow.domain false) (Rows.fnExactGraphDoSpec.post enc Try.prog Try.f13 false true false false) :=
  law_row (C := Try.checked) (ts := [.pair (.sl (.pair (.sl (.int .i64)) (.pair (.sl (.int .i64)) .unit))) (.pair (.sl (.sl (.int .i64))) (.pair (.sl (.int .i64)) .unit)), .int .i64, .pair (.int .i64) (.pair (.int .i64) (.pair (.int .i64) (.pair (.int .i64) (.pair (.int .i64) (.pair (.int .i64) (.pair (.pair (.int .i64) (.pair (.int .i64) .unit)) .unit))))))]) (Tb := 4) (din := dinvFnExactGraphDo) Try.own started (by kernel_rfl) Try.func13
    (ChangeSpec.witness6 (enc := enc) (C := Try.checked) false ⟨#[], #[.agg #[.slice none 0 0, .slice none 0 0, .slice none 0 0], .int .i64 0, .agg #[.int .i64 0, .int .i64 0, .int .i64 0, .int .i64 0, .int .i64 0, .int .i64 0, .int .i64 0, .int .i64 0]], []⟩ 8 (by kernel_rfl) (by kernel_rfl) (by kernel_rfl) (by kernel_rfl))
    TE_ok Try.laidOut (.cons ⟨by kernel_rfl, rfl, by decide⟩ (.cons ⟨by kernel_rfl, rfl, by decide⟩ (.cons ⟨by kernel_rfl, rfl, by decide⟩ (.nil))))
    (by kernel_rfl) rfl
    (fun ds h => by match ds, h with | [_, _, _], _ => rfl)
    (by kernel_rfl) (by kernel_rfl) specvFnExactGraphDo (fun y hy => by obtain ⟨N, h⟩ := fnExactGraphDo_maths y hy; exact ⟨N, y, h, rfl, rfl⟩)
theorem fnExactGraphDo_holds : Rows.FnExactGraphDoSaid :=
  OpenClaim.holds_of_wide 13 Try.f13 rfl rfl rfl rfl rfl rfl rfl ⟨rfl, rfl, rfl, rfl, rfl⟩ rfl rfl rfl rfl rfl (by kernel_rfl) Try.func13 (by kernel_rfl)
    (of_decide_eq_true (by kernel_rfl)) (by unfold Func.isWrapper; first | (rw [if_pos (by decide +kernel)]; kernel_rfl) | (rw [if_neg (by decide +kernel)]; exact ⟨rfl, rfl⟩))
    (fun os started H enc _ => fnExactGraphDo_lifted os started H enc)
end Go.Proofs.Ytjlcdaggbpgpjaa

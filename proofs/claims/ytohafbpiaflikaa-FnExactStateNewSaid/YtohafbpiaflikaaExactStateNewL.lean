/- Proved: for every input the law FnExactStateNew returns true and leaves its arguments as they were. No conditions. -/
import Derived.Test.YtohafbpiaflikaaExactStateNewP1
import Derived.Test.YtohafbpiaflikaaK3
import Derived.Test.YtohafbpiaflikaaRows
set_option linter.all false
set_option maxRecDepth 100000
namespace Go.Proofs.Ytohafbpiaflikaa
open Go Go.Fl Go.ChangeShapes Go.WideShapes Go.ChangeAt Go.RowKit

theorem Try.own : ownKnob Try.prog.godebug = none := by kernel_rfl
theorem Try.laidOut : laidOutB Try.prog = true := by kernel_rfl

theorem fnExactStateNew_maths : ∀ y : (tupT [tConfig]).den, Wf (tupT [tConfig]) y → ∃ N, FvFnExactStateNew N y = some (true, ()) := fun y hy => by
  exact ⟨lim + 1, FnExactStateNew_ok (by omega) (c := y.1)⟩

theorem fnExactStateNew_lifted (os : Os) (started : os.Started) (H : Type) (enc : TypeId × Value → H) :
    ReturnsInHanded {} Try.checked os 4 .any (Rows.fnExactStateNewSpec.pre6 enc Try.prog Try.f4 Rows.fnExactStateNewRow.domain false) (Rows.fnExactStateNewSpec.post enc Try.prog Try.f4 false true false false) :=
  law_row (C := Try.checked) (ts := [tConfig]) (Tb := 4) (din := dinvFnExactStateNew) Try.own started (by kernel_rfl) Try.func4
    (ChangeSpec.witness6 (enc := enc) (C := Try.checked) false ⟨#[], #[.agg #[.int .i64 0, .int .i64 0, .int .i64 0]], []⟩ 8 (by kernel_rfl) (by kernel_rfl) (by kernel_rfl) (by kernel_rfl))
    TE_ok Try.laidOut (.cons ⟨by kernel_rfl, rfl, by decide⟩ (.nil))
    (by kernel_rfl) rfl
    (fun ds h => by match ds, h with | [_], _ => rfl)
    (by kernel_rfl) (by kernel_rfl) specvFnExactStateNew (fun y hy => by obtain ⟨N, h⟩ := fnExactStateNew_maths y hy; exact ⟨N, y, h, rfl, rfl⟩)
theorem fnExactStateNew_holds : Rows.FnExactStateNewSaid :=
  OpenClaim.holds_of_wide 4 Try.f4 rfl rfl rfl rfl rfl rfl rfl ⟨rfl, rfl, rfl, rfl, rfl⟩ rfl rfl rfl rfl rfl (by kernel_rfl) Try.func4 (by kernel_rfl)
    (of_decide_eq_true (by kernel_rfl)) (by unfold Func.isWrapper; first | (rw [if_pos (by decide +kernel)]; kernel_rfl) | (rw [if_neg (by decide +kernel)]; exact ⟨rfl, rfl⟩))
    (fun os started H enc _ => fnExactStateNew_lifted os started H enc)
end Go.Proofs.Ytohafbpiaflikaa

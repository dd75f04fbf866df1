/- Proved: for every input the law FnExactTableChoose returns true and leaves its arguments as they were. No conditions. -/
import Derived.Test.YtohafbpiaflikaaExactTableChooseP2
import Derived.Test.YtohafbpiaflikaaK3
import Derived.Test.YtohafbpiaflikaaRows
set_option linter.all false
set_option maxRecDepth 100000
namespace Go.Proofs.Ytohafbpiaflikaa
open Go Go.Fl Go.ChangeShapes Go.WideShapes Go.ChangeAt Go.RowKit

theorem Try.own : ownKnob Try.prog.godebug = none := by kernel_rfl
theorem Try.laidOut : laidOutB Try.prog = true := by kernel_rfl

theorem fnExactTableChoose_maths : ∀ y : (tupT [tRegionS, .int .i64, tIntS]).den, Wf (tupT [tRegionS, .int .i64, tIntS]) y → ∃ N, FvFnExactTableChoose N y = some (true, ()) := fun y hy => by
  obtain ⟨h1, _, h2, _⟩ := hy; exact ⟨lim + 1, FnExactTableChoose_ok (by omega) (t := y.1) (left := y.2.1) (held := y.2.2.1) h1 h2⟩

theorem fnExactTableChoose_lifted (os : Os) (started : os.Started) (H : Type) (enc : TypeId × Value → H) :
    ReturnsInHanded {} Try.checked os 3 .any (Rows.fnExactTableChooseSpec.pre6 enc Try.prog Try.f3 Rows.fnExactTableChooseRow.domain false) (Rows.fnExactTableChooseSpec.post enc Try.prog Try.f3 false true false false) :=
  law_row (C := Try.checked) (ts := [tRegionS, .int .i64, tIntS]) (Tb := 4) (din := dinvFnExactTableChoose) Try.own started (by kernel_rfl) Try.func3
    (ChangeSpec.witness6 (enc := enc) (C := Try.checked) false ⟨#[], #[.slice none 0 0, .int .i64 0, .slice none 0 0], []⟩ 8 (by kernel_rfl) (by kernel_rfl) (by kernel_rfl) (by kernel_rfl))
    TE_ok Try.laidOut (.cons ⟨by kernel_rfl, rfl, by decide⟩ (.cons ⟨by kernel_rfl, rfl, by decide⟩ (.cons ⟨by kernel_rfl, rfl, by decide⟩ (.nil))))
    (by kernel_rfl) rfl
    (fun ds h => by match ds, h with | [_, _, _], _ => rfl)
    (by kernel_rfl) (by kernel_rfl) specvFnExactTableChoose (fun y hy => by obtain ⟨N, h⟩ := fnExactTableChoose_maths y hy; exact ⟨N, y, h, rfl, rfl⟩)
theorem fnExactTableChoose_holds : Rows.FnExactTableChooseSaid :=
  OpenClaim.holds_of_wide 3 Try.f3 rfl rfl rfl rfl rfl rfl rfl ⟨rfl, rfl, rfl, rfl, rfl⟩ rfl rfl rfl rfl rfl (by kernel_rfl) Try.func3 (by kernel_rfl)
    (of_decide_eq_true (by kernel_rfl)) (by unfold Func.isWrapper; first | (rw [if_pos (by decide +kernel)]; kernel_rfl) | (rw [if_neg (by decide +kernel)]; exact ⟨rfl, rfl⟩))
    (fun os started H enc _ => fnExactTableChoose_lifted os started H enc)
end Go.Proofs.Ytohafbpiaflikaa

/- Proved: for every input the law FnPathBegins returns true and leaves its arguments as they were. No conditions. -/
import Derived.Test.YtjlcdaggbpgpjaaPathBeginsP2
import Derived.Test.YtjlcdaggbpgpjaaK3
import Derived.Test.YtjlcdaggbpgpjaaRows
set_option linter.all false
set_option maxRecDepth 100000
namespace Go.Proofs.Ytjlcdaggbpgpjaa
open Go Go.Fl Go.ChangeShapes Go.WideShapes Go.ChangeAt Go.RowKit

theorem Try.own : ownKnob Try.prog.godebug = none := by kernel_rfl
theorem Try.laidOut : laidOutB Try.prog = true := by kernel_rfl

theorem fnPathBegins_maths : ∀ y : (tupT [.sl (.int .u8)]).den, Wf (tupT [.sl (.int .u8)]) y → ∃ N, FvFnPathBegins N y = some (true, ()) := fun y hy => by
  obtain ⟨⟨_, h⟩, _⟩ := hy; exact ⟨lim + 1, FnPathBegins_ok (by omega) (code := y.1) (fun x hx => wf_u8 (h x hx))⟩

theorem fnPathBegins_lifted (os : Os) (started : os.Started) (H : Type) (enc : TypeId × Value → H) :
    ReturnsInHanded {} Try.checked os 9 .any (Rows.fnPathBeginsSpec.pre6 enc Try.prog Try.f9 Rows.fnPathBeginsRow.domain false) (Rows.fnPathBeginsSpec.post enc Try.prog Try.f9 false true false false) :=
  law_row (C := Try.checked) (ts := [.sl (.int .u8)]) (Tb := 4) (din := dinvFnPathBegins) Try.own started (by kernel_rfl) Try.func9
    (ChangeSpec.witness6 (enc := enc) (C := Try.checked) false ⟨#[], #[.slice none 0 0], []⟩ 8 (by kernel_rfl) (by kernel_rfl) (by kernel_rfl) (by kernel_rfl))
    TE_ok Try.laidOut (.cons ⟨by kernel_rfl, rfl, by decide⟩ (.nil))
    (by kernel_rfl) rfl
    (fun ds h => by match ds, h with | [_], _ => rfl)
    (by kernel_rfl) (by kernel_rfl) specvFnPathBegins (fun y hy => by obtain ⟨N, h⟩ := fnPathBegins_maths y hy; exact ⟨N, y, h, rfl, rfl⟩)
theorem fnPathBegins_holds : Rows.FnPathBeginsSaid :=
  OpenClaim.holds_of_wide 9 Try.f9 rfl rfl rfl rfl rfl rfl rfl ⟨rfl, rfl, rfl, rfl, rfl⟩ rfl rfl rfl rfl rfl (by kernel_rfl) Try.func9 (by kernel_rfl)
    (of_decide_eq_true (by kernel_rfl)) (by unfold Func.isWrapper; first | (rw [if_pos (by decide +kernel)]; kernel_rfl) | (rw [if_neg (by decide +kernel)]; exact ⟨rfl, rfl⟩))
    (fun os started H enc _ => fnPathBegins_lifted os started H enc)
end Go.Proofs.Ytjlcdaggbpgpjaa

/- Proved: for every input the law FnPathHolds returns true and leaves its arguments as they were. No conditions. -/
import Derived.Test.YtjlcdaggbpgpjaaPathHoldsP2
import Derived.Test.YtjlcdaggbpgpjaaK3
import Derived.Test.YtjlcdaggbpgpjaaRows
set_option linter.all false
set_option maxRecDepth 100000
namespace Go.Proofs.Ytjlcdaggbpgpjaa
open Go Go.Fl Go.ChangeShapes Go.WideShapes Go.ChangeAt Go.RowKit

theorem Try.own : ownKnob Try.prog.godebug = none := by kernel_rfl
theorem Try.laidOut : laidOutB Try.prog = true := by kernel_rfl

theorem fnPathHolds_maths : ∀ y : (tupT [.sl (.int .u8)]).den, Wf (tupT [.sl (.int .u8)]) y → ∃ N, FvFnPathHolds N y = some (true, ()) := fun y hy => by
  obtain ⟨⟨_, h⟩, _⟩ := hy; exact ⟨lim + 1, FnPathHolds_ok (by omega) (code := y.1) (fun x hx => wf_u8 (h x hx))⟩

theorem fnPathHolds_lifted (os : Os) (started : os.Started) (H : Type) (enc : TypeId × Value → H) :
    ReturnsInHanded {} Try.checked os 11 .any (Rows.fnPathHoldsSpec.pre6 enc Try.prog Try.f11 Rows.fnPathHoldsRow.domain false) (Rows.fnPathHoldsSpec.post enc Try.prog Try.f11 false true false false) :=
  law_row (C := Try.checked) (ts := [.sl (.int .u8)]) (Tb := 4) (din := dinvFnPathHolds) Try.own started (by kernel_rfl) Try.func11
    (ChangeSpec.witness6 (enc := enc) (C := Try.checked) false ⟨#[], #[.slice none 0 0], []⟩ 8 (by kernel_rfl) (by kernel_rfl) (by kernel_rfl) (by kernel_rfl))
    TE_ok Try.laidOut (.cons ⟨by kernel_rfl, rfl, by decide⟩ (.nil))
    (by kernel_rfl) rfl
    (fun ds h => by match ds, h with | [_], _ => rfl)
    (by kernel_rfl) (by kernel_rfl) specvFnPathHolds (fun y hy => by obtain ⟨N, h⟩ := fnPathHolds_maths y hy; exact ⟨N, y, h, rfl, rfl⟩)
theorem fnPathHolds_holds : Rows.FnPathHoldsSaid :=
  OpenClaim.holds_of_wide 11 Try.f11 rfl rfl rfl rfl rfl rfl rfl ⟨rfl, rfl, rfl, rfl, rfl⟩ rfl rfl rfl rfl rfl (by kernel_rfl) Try.func11 (by kernel_rfl)
    (of_decide_eq_true (by kernel_rfl)) (by unfold Func.isWrapper; first | (rw [if_pos (by decide +kernel)]; kernel_rfl) | (rw [if_neg (by decide +kernel)]; exact ⟨rfl, rfl⟩))
    (fun os started H enc _ => fnPathHolds_lifted os started H enc)
end Go.Proofs.Ytjlcdaggbpgpjaa

/- Proved: for every input the law FnOpFresh returns true and leaves its arguments as they were. No conditions. -/
import Derived.Test.YtgedeaebclkooaaOpFreshP2
import Derived.Test.YtgedeaebclkooaaK3
import Derived.Test.YtgedeaebclkooaaRows
set_option linter.all false
set_option maxRecDepth 100000
namespace Go.Proofs.Ytgedeaebclkooaa
open Go Go.Fl Go.ChangeShapes Go.WideShapes Go.ChangeAt Go.RowKit

theorem Try.own : ownKnob Try.prog.godebug = none := by kernel_rfl
theorem Try.laidOut : laidOutB Try.prog = true := by kernel_rfl

theorem fnOpFresh_maths : ∀ y : (tupT [.sl (.int .u8)]).den, Wf (tupT [.sl (.int .u8)]) y → ∃ N, FvFnOpFresh N y = some (true, ()) := fun y hy => by
  obtain ⟨⟨_, h⟩, _⟩ := hy; exact ⟨lim + 1, FnOpFresh_ok (by omega) (code := y.1) (fun x hx => wf_u8 (h x hx))⟩

theorem fnOpFresh_lifted (os : Os) (started : os.Started) (H : Type) (enc : TypeId × Value → H) :
    ReturnsInHanded {} Try.checked os 4 .any (Rows.fnOpFreshSpec.pre6 enc Try.prog Try.f4 Rows.fnOpFreshRow.domain false) (Rows.fnOpFreshSpec.post enc Try.prog Try.f4 false true false false) :=
  law_row (C := Try.checked) (ts := [.sl (.int .u8)]) (Tb := 4) (din := dinvFnOpFresh) Try.own started (by kernel_rfl) Try.func4
    (ChangeSpec.witness6 (enc := enc) (C := Try.checked) false ⟨#[], #[.slice none 0 0], []⟩ 8 (by kernel_rfl) (by kernel_rfl) (by kernel_rfl) (by kernel_rfl))
    TE_ok Try.laidOut (.cons ⟨by kernel_rfl, rfl, by decide⟩ (.nil))
    (by kernel_rfl) rfl
    (fun ds h => by match ds, h with | [_], _ => rfl)
    (by kernel_rfl) (by kernel_rfl) specvFnOpFresh (fun y hy => by obtain ⟨N, h⟩ := fnOpFresh_maths y hy; exact ⟨N, y, h, rfl, rfl⟩)
theorem fnOpFresh_holds : Rows.FnOpFreshSaid :=
  OpenClaim.holds_of_wide 4 Try.f4 rfl rfl rfl rfl rfl rfl rfl ⟨rfl, rfl, rfl, rfl, rfl⟩ rfl rfl rfl rfl rfl (by kernel_rfl) Try.func4 (by kernel_rfl)
    (of_decide_eq_true (by kernel_rfl)) (by unfold Func.isWrapper; first | (rw [if_pos (by decide +kernel)]; kernel_rfl) | (rw [if_neg (by decide +kernel)]; exact ⟨rfl, rfl⟩))
    (fun os started H enc _ => fnOpFresh_lifted os started H enc)
end Go.Proofs.Ytgedeaebclkooaa

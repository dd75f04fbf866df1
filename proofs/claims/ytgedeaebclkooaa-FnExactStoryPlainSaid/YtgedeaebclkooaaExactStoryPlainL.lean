/- Proved: for every input the law FnExactStoryPlain returns true and leaves its arguments as they were. No conditions. -/
import Derived.Test.YtgedeaebclkooaaExactStoryPlainP3
import Derived.Test.YtgedeaebclkooaaK3
import Derived.Test.YtgedeaebclkooaaRows
set_option linter.all false
set_option maxRecDepth 100000
namespace Go.Proofs.Ytgedeaebclkooaa
open Go Go.Fl Go.ChangeShapes Go.WideShapes Go.ChangeAt Go.RowKit

theorem Try.own : ownKnob Try.prog.godebug = none := by kernel_rfl
theorem Try.laidOut : laidOutB Try.prog = true := by kernel_rfl

theorem fnExactStoryPlain_maths : ∀ y : (tupT [tConfig, tOpSS, tEventS]).den, Wf (tupT [tConfig, tOpSS, tEventS]) y → ∃ N, FvFnExactStoryPlain N y = some (true, ()) := fun y hy => by
  obtain ⟨_, h1, h2, _⟩ := hy; exact ⟨lim + 1, FnExactStoryPlain_ok (by omega) (c := y.1) (ps := y.2.1) (evs := y.2.2.1) h1 h2⟩

theorem fnExactStoryPlain_lifted (os : Os) (started : os.Started) (H : Type) (enc : TypeId × Value → H) :
    ReturnsInHanded {} Try.checked os 11 .any (Rows.fnExactStoryPlainSpec.pre6 enc Try.prog Try.f11 Rows.fnExactStoryPlainRow.domain false) (Rows.fnExactStoryPlainSpec.post enc Try.prog Try.f11 false true false false) :=
  law_row (C := Try.checked) (ts := [tConfig, tOpSS, tEventS]) (Tb := 4) (din := dinvFnExactStoryPlain) Try.own started (by kernel_rfl) Try.func11
    (ChangeSpec.witness6 (enc := enc) (C := Try.checked) false ⟨#[], #[.agg #[.int .i64 0, .int .i64 0, .int .i64 0], .slice none 0 0, .slice none 0 0], []⟩ 8 (by kernel_rfl) (by kernel_rfl) (by kernel_rfl) (by kernel_rfl))
    TE_ok Try.laidOut (.cons ⟨by kernel_rfl, rfl, by decide⟩ (.cons ⟨by kernel_rfl, rfl, by decide⟩ (.cons ⟨by kernel_rfl, rfl, by decide⟩ (.nil))))
    (by kernel_rfl) rfl
    (fun ds h => by match ds, h with | [_, _, _], _ => rfl)
    (by kernel_rfl) (by kernel_rfl) specvFnExactStoryPlain (fun y hy => by obtain ⟨N, h⟩ := fnExactStoryPlain_maths y hy; exact ⟨N, y, h, rfl, rfl⟩)
theorem fnExactStoryPlain_holds : Rows.FnExactStoryPlainSaid :=
  OpenClaim.holds_of_wide 11 Try.f11 rfl rfl rfl rfl rfl rfl rfl ⟨rfl, rfl, rfl, rfl, rfl⟩ rfl rfl rfl rfl rfl (by kernel_rfl) Try.func11 (by kernel_rfl)
    (of_decide_eq_true (by kernel_rfl)) (by unfold Func.isWrapper; first | (rw [if_pos (by decide +kernel)]; kernel_rfl) | (rw [if_neg (by decide +kernel)]; exact ⟨rfl, rfl⟩))
    (fun os started H enc _ => fnExactStoryPlain_lifted os started H enc)
end Go.Proofs.Ytgedeaebclkooaa

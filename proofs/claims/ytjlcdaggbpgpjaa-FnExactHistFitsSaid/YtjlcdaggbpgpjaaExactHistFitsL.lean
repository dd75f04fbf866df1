/- Proved: for every input the law FnExactHistFits returns true and leaves its arguments as they were. No conditions. -/
import Derived.Test.YtjlcdaggbpgpjaaExactHistFitsP3
import Derived.Test.YtjlcdaggbpgpjaaK3
import Derived.Test.YtjlcdaggbpgpjaaRows
set_option linter.all false
set_option maxRecDepth 100000
namespace Go.Proofs.Ytjlcdaggbpgpjaa
open Go Go.Fl Go.ChangeShapes Go.WideShapes Go.ChangeAt Go.RowKit

theorem Try.own : ownKnob Try.prog.godebug = none := by kernel_rfl
theorem Try.laidOut : laidOutB Try.prog = true := by kernel_rfl

theorem fnExactHistFits_maths : ∀ y : (tupT [tConfig, tOpSS, tCallS]).den, Wf (tupT [tConfig, tOpSS, tCallS]) y → ∃ N, FvFnExactHistFits N y = some (true, ()) := fun y hy => by
  obtain ⟨_, h1, h2, _⟩ := hy; exact ⟨lim + 1, FnExactHistFits_ok (by omega) (c := y.1) (ps := y.2.1) (hs := y.2.2.1) h1 h2⟩

theorem fnExactHistFits_lifted (os : Os) (started : os.Started) (H : Type) (enc : TypeId × Value → H) :
    ReturnsInHanded {} Try.checked os 14 .any (Rows.fnExactHistFitsSpec.pre6 enc Try.prog Try.f14 Rows.fnExactHistFitsRow.domain false) (Rows.fnExactHistFitsSpec.post enc Try.prog Try.f14 false true false false) :=
  law_row (C := Try.checked) (ts := [tConfig, tOpSS, tCallS]) (Tb := 4) (din := dinvFnExactHistFits) Try.own started (by kernel_rfl) Try.func14
    (ChangeSpec.witness6 (enc := enc) (C := Try.checked) false ⟨#[], #[.agg #[.int .i64 0, .int .i64 0, .int .i64 0], .slice none 0 0, .slice none 0 0], []⟩ 8 (by kernel_rfl) (by kernel_rfl) (by kernel_rfl) (by kernel_rfl))
    TE_ok Try.laidOut (.cons ⟨by kernel_rfl, rfl, by decide⟩ (.cons ⟨by kernel_rfl, rfl, by decide⟩ (.cons ⟨by kernel_rfl, rfl, by decide⟩ (.nil))))
    (by kernel_rfl) rfl
    (fun ds h => by match ds, h with | [_, _, _], _ => rfl)
    (by kernel_rfl) (by kernel_rfl) specvFnExactHistFits (fun y hy => by obtain ⟨N, h⟩ := fnExactHistFits_maths y hy; exact ⟨N, y, h, rfl, rfl⟩)
theorem fnExactHistFits_holds : Rows.FnExactHistFitsSaid :=
  OpenClaim.holds_of_wide 14 Try.f14 rfl rfl rfl rfl rfl rfl rfl ⟨rfl, rfl, rfl, rfl, rfl⟩ rfl rfl rfl rfl rfl (by kernel_rfl) Try.func14 (by kernel_rfl)
    (of_decide_eq_true (by kernel_rfl)) (by unfold Func.isWrapper; first | (rw [if_pos (by decide +kernel)]; kernel_rfl) | (rw [if_neg (by decide +kernel)]; exact ⟨rfl, rfl⟩))
    (fun os started H enc _ => fnExactHistFits_lifted os started H enc)
end Go.Proofs.Ytjlcdaggbpgpjaa

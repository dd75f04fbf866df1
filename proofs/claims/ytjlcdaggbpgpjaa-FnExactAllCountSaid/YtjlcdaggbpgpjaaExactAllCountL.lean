/- Proved: for every input the law FnExactAllCount returns true and leaves its arguments as they were. No conditions. -/
import Derived.Test.YtjlcdaggbpgpjaaExactAllCountP2
import Derived.Test.YtjlcdaggbpgpjaaK3
import Derived.Test.YtjlcdaggbpgpjaaRows
set_option linter.all false
set_option maxRecDepth 100000
namespace Go.Proofs.Ytjlcdaggbpgpjaa
open Go Go.Fl Go.ChangeShapes Go.WideShapes Go.ChangeAt Go.RowKit

theorem Try.own : ownKnob Try.prog.godebug = none := by kernel_rfl
theorem Try.laidOut : laidOutB Try.prog = true := by kernel_rfl

theorem fnExactAllCount_maths : ∀ y : (tupT [tConfig, tOpSS]).den, Wf (tupT [tConfig, tOpSS]) y → ∃ N, FvFnExactAllCount N y = some (true, ()) := fun y hy => by
  obtain ⟨_, h1, _⟩ := hy; exact ⟨lim + 1, FnExactAllCount_ok (by omega) (c := y.1) (ps := y.2.1) h1⟩

theorem fnExactAllCount_lifted (os : Os) (started : os.Started) (H : Type) (enc : TypeId × Value → H) :
    ReturnsInHanded {} Try.checked os 12 .any (Rows.fnExactAllCountSpec.pre6 enc Try.prog Try.f12 Rows.fnExactAllCountRow.domain false) (Rows.fnExactAllCountSpec.post enc Try.prog Try.f12 false true false false) :=
  law_row (C := Try.checked) (ts := [tConfig, tOpSS]) (Tb := 4) (din := dinvFnExactAllCount) Try.own started (by kernel_rfl) Try.func12
    (ChangeSpec.witness6 (enc := enc) (C := Try.checked) false ⟨#[], #[.agg #[.int .i64 0, .int .i64 0, .int .i64 0], .slice none 0 0], []⟩ 8 (by kernel_rfl) (by kernel_rfl) (by kernel_rfl) (by kernel_rfl))
    TE_ok Try.laidOut (.cons ⟨by kernel_rfl, rfl, by decide⟩ (.cons ⟨by kernel_rfl, rfl, by decide⟩ (.nil)))
    (by kernel_rfl) rfl
    (fun ds h => by match ds, h with | [_, _], _ => rfl)
    (by kernel_rfl) (by kernel_rfl) specvFnExactAllCount (fun y hy => by obtain ⟨N, h⟩ := fnExactAllCount_maths y hy; exact ⟨N, y, h, rfl, rfl⟩)
theorem fnExactAllCount_holds : Rows.FnExactAllCountSaid :=
  OpenClaim.holds_of_wide 12 Try.f12 rfl rfl rfl rfl rfl rfl rfl ⟨rfl, rfl, rfl, rfl, rfl⟩ rfl rfl rfl rfl rfl (by kernel_rfl) Try.func12 (by kernel_rfl)
    (of_decide_eq_true (by kernel_rfl)) (by unfold Func.isWrapper; first | (rw [if_pos (by decide +kernel)]; kernel_rfl) | (rw [if_neg (by decide +kernel)]; exact ⟨rfl, rfl⟩))
    (fun os started H enc _ => fnExactAllCount_lifted os started H enc)
end Go.Proofs.Ytjlcdaggbpgpjaa

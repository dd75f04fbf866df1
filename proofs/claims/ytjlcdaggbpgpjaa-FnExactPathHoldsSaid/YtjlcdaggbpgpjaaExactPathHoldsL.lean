/- Proved: for every input the law FnExactPathHolds returns true and leaves its arguments as they were. No conditions. -/
import Derived.Test.YtjlcdaggbpgpjaaExactPathHoldsP2
import Derived.Test.YtjlcdaggbpgpjaaK3
import Derived.Test.YtjlcdaggbpgpjaaRows
set_option linter.all false
set_option maxRecDepth 100000
namespace Go.Proofs.Ytjlcdaggbpgpjaa
open Go Go.Fl Go.ChangeShapes Go.WideShapes Go.ChangeAt Go.RowKit

theorem Try.own : ownKnob Try.prog.godebug = none := by kernel_rfl
theorem Try.laidOut : laidOutB Try.prog = true := by kernel_rfl

theorem fnExactPathHolds_maths : ∀ y : (tupT [.pair (.sl (.pair (.sl (.int .i64)) (.pair (.sl (.int .i64)) .unit))) (.pair (.sl (.sl (.int .i64))) (.pair (.sl (.int .i64)) .unit)), .int .i64]).den, Wf (tupT [.pair (.sl (.pair (.sl (.int .i64)) (.pair (.sl (.int .i64)) .unit))) (.pair (.sl (.sl (.int .i64))) (.pair (.sl (.int .i64)) .unit)), .int .i64]) y → ∃ N, FvFnExactPathHolds N y = some (true, ()) := fun y hy => by
  obtain ⟨⟨⟨a1, a2⟩, ⟨b1, b2⟩, ⟨c1, _⟩, _⟩, _⟩ := hy; exact ⟨lim + 1, FnExactPathHolds_ok (by omega) (a := y.1) (b := y.2.1) ⟨a1, fun x hx => ⟨(a2 x hx).1.1, (a2 x hx).2.1.1⟩, b1, fun x hx => (b2 x hx).1, c1⟩⟩

theorem fnExactPathHolds_lifted (os : Os) (started : os.Started) (H : Type) (enc : TypeId × Value → H) :
    ReturnsInHanded {} Try.checked os 5 .any (Rows.fnExactPathHoldsSpec.pre6 enc Try.prog Try.f5 Rows.fnExactPathHoldsRow.domain false) (Rows.fnExactPathHoldsSpec.post enc Try.prog Try.f5 false true false false) :=
  law_row (C := Try.checked) (ts := [.pair (.sl (.pair (.sl (.int .i64)) (.pair (.sl (.int .i64)) .unit))) (.pair (.sl (.sl (.int .i64))) (.pair (.sl (.int .i64)) .unit)), .int .i64]) (Tb := 4) (din := dinvFnExactPathHolds) Try.own started (by kernel_rfl) Try.func5
    (ChangeSpec.witness6 (enc := enc) (C := Try.checked) false ⟨#[], #[.agg #[.slice none 0 0, .slice none 0 0, .slice none 0 0], .int .i64 0], []⟩ 8 (by kernel_rfl) (by kernel_rfl) (by kernel_rfl) (by kernel_rfl))
    TE_ok Try.laidOut (.cons ⟨by kernel_rfl, rfl, by decide⟩ (.cons ⟨by kernel_rfl, rfl, by decide⟩ (.nil)))
    (by kernel_rfl) rfl
    (fun ds h => by match ds, h with | [_, _], _ => rfl)
    (by kernel_rfl) (by kernel_rfl) specvFnExactPathHolds (fun y hy => by obtain ⟨N, h⟩ := fnExactPathHolds_maths y hy; exact ⟨N, y, h, rfl, rfl⟩)
theorem fnExactPathHolds_holds : Rows.FnExactPathHoldsSaid :=
  OpenClaim.holds_of_wide 5 Try.f5 rfl rfl rfl rfl rfl rfl rfl ⟨rfl, rfl, rfl, rfl, rfl⟩ rfl rfl rfl rfl rfl (by kernel_rfl) Try.func5 (by kernel_rfl)
    (of_decide_eq_true (by kernel_rfl)) (by unfold Func.isWrapper; first | (rw [if_pos (by decide +kernel)]; kernel_rfl) | (rw [if_neg (by decide +kernel)]; exact ⟨rfl, rfl⟩))
    (fun os started H enc _ => fnExactPathHolds_lifted os started H enc)
end Go.Proofs.Ytjlcdaggbpgpjaa

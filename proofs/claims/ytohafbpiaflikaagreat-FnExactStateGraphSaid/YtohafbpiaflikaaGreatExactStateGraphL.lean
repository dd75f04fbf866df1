/- Proved: for every input the law FnExactStateGraph returns true and leaves its arguments as they were. No conditions. -/
import Derived.Test.YtohafbpiaflikaaGreatExactStateGraphP3
import Derived.Test.YtohafbpiaflikaaGreatK3
import Derived.Test.YtohafbpiaflikaaGreatRows
set_option linter.all false
noncomputable section
set_option maxRecDepth 100000
namespace Go.Proofs.YtohafbpiaflikaaGreat
open Go Go.Fl Go.ChangeShapes Go.WideShapes Go.ChangeAt Go.RowKit
theorem Tryz.own : ownKnob Tryz.prog.godebug = none := by kernel_rfl
theorem Tryz.laidOut : laidOutB Tryz.prog = true := by kernel_rfl
theorem fnExactStateGraph_maths : ∀ y : (tupT [tState]).den, Wf (tupT [tState]) y → ∃ N, FvFnExactStateGraph N y = some (true, ()) := fun y hy => by
 exact ⟨lim + 1, FnExactStateGraph_ok (by omega) (s := y.1) hy.1⟩
theorem fnExactStateGraph_lifted (os : Os) (started : os.Started) (H : Type) (enc : TypeId × Value → H) :
  ReturnsInHanded {} Tryz.checked os 3 .any (Rows.fnExactStateGraphSpec.pre6 enc Tryz.prog Tryz.f3 Rows.fnExactStateGraphRow.domain false) (Rows.fnExactStateGraphSpec.post enc Tryz.prog Tryz.f3 false true false false) :=
 law_row (C := Tryz.checked) (ts := [tState]) (Tb := 4) (din := dinvFnExactStateGraph) Tryz.own started (by kernel_rfl) Tryz.func3
  (ChangeSpec.witness6 (enc := enc) (C := Tryz.checked) false ⟨#[], #[.agg #[.slice none 0 0, .slice none 0 0, .slice none 0 0, .int .i64 0, .bool false, .bool false, .bool false, .int .i64 0, .slice none 0 0, .slice none 0 0, .slice none 0 0, .int .i64 0, .int .i64 0]], []⟩ 8 (by kernel_rfl) (by kernel_rfl) (by kernel_rfl) (by kernel_rfl))
  TE_ok Tryz.laidOut (.cons ⟨by kernel_rfl, rfl, by decide⟩ (.nil))
  (by kernel_rfl) rfl
  (fun ds h => by match ds, h with | [_], _ => rfl)
  (by kernel_rfl) (by kernel_rfl) specvFnExactStateGraph (fun y hy => by obtain ⟨N, h⟩ := fnExactStateGraph_maths y hy; exact ⟨N, y, h, rfl, rfl⟩) GK_none
theorem fnExactStateGraph_holds : Rows.FnExactStateGraphSaid :=
 OpenClaim.holds_of_wide 3 Tryz.f3 rfl rfl rfl rfl rfl rfl rfl ⟨rfl, rfl, rfl, rfl, rfl⟩ rfl rfl rfl rfl rfl (by kernel_rfl) Tryz.func3 (by kernel_rfl)
  (of_decide_eq_true (by kernel_rfl)) (by unfold Func.isWrapper; first | (rw [if_pos (by decide +kernel)]; kernel_rfl) | (rw [if_neg (by decide +kernel)]; exact ⟨rfl, rfl⟩))
  (fun os started H enc _ => fnExactStateGraph_lifted os started H enc)
end Go.Proofs.YtohafbpiaflikaaGreat
end

/- Proved: for every input the law FnExactFullLive returns true and leaves its arguments as they were. No conditions. -/
import Derived.Test.YtohafbpiaflikaaExactFullLiveP3
import Derived.Test.YtohafbpiaflikaaK3
import Derived.Test.YtohafbpiaflikaaRows
set_option linter.all false
set_option maxRecDepth 100000
namespace Go.Proofs.Ytohafbpiaflikaa
open Go Go.Fl Go.ChangeShapes Go.WideShapes Go.ChangeAt Go.RowKit
theorem Try.own : ownKnob Try.prog.godebug = none := by kernel_rfl
theorem Try.laidOut : laidOutB Try.prog = true := by kernel_rfl
theorem fnExactFullLive_maths : ∀ y : (tupT [tState]).den, Wf (tupT [tState]) y → ∃ N, FvFnExactFullLive N y = some (true, ()) := fun y hy => by
 exact ⟨lim + 1, FnExactFullLive_ok (by omega) (s := y.1) hy.1⟩
theorem fnExactFullLive_lifted (os : Os) (started : os.Started) (H : Type) (enc : TypeId × Value → H) :
  ReturnsInHanded {} Try.checked os 13 .any (Rows.fnExactFullLiveSpec.pre6 enc Try.prog Try.f13 Rows.fnExactFullLiveRow.domain false) (Rows.fnExactFullLiveSpec.post enc Try.prog Try.f13 false true false false) :=
 law_row (C := Try.checked) (ts := [tState]) (Tb := 4) (din := dinvFnExactFullLive) Try.own started (by kernel_rfl) Try.func13
  (ChangeSpec.witness6 (enc := enc) (C := Try.checked) false ⟨#[], #[.agg #[.slice none 0 0, .slice none 0 0, .slice none 0 0, .int .i64 0, .bool false, .bool false, .bool false, .int .i64 0, .slice none 0 0, .slice none 0 0, .slice none 0 0, .int .i64 0, .int .i64 0]], []⟩ 8 (by kernel_rfl) (by kernel_rfl) (by kernel_rfl) (by kernel_rfl))
  TE_ok Try.laidOut (.cons ⟨by kernel_rfl, rfl, by decide⟩ (.nil))
  (by kernel_rfl) rfl
  (fun ds h => by match ds, h with | [_], _ => rfl)
  (by kernel_rfl) (by kernel_rfl) specvFnExactFullLive (fun y hy => by obtain ⟨N, h⟩ := fnExactFullLive_maths y hy; exact ⟨N, y, h, rfl, rfl⟩)
theorem fnExactFullLive_holds : Rows.FnExactFullLiveSaid :=
 OpenClaim.holds_of_wide 13 Try.f13 rfl rfl rfl rfl rfl rfl rfl ⟨rfl, rfl, rfl, rfl, rfl⟩ rfl rfl rfl rfl rfl (by kernel_rfl) Try.func13 (by kernel_rfl)
  (of_decide_eq_true (by kernel_rfl)) (by unfold Func.isWrapper; first | (rw [if_pos (by decide +kernel)]; kernel_rfl) | (rw [if_neg (by decide +kernel)]; exact ⟨rfl, rfl⟩))
  (fun os started H enc _ => fnExactFullLive_lifted os started H enc)
end Go.Proofs.Ytohafbpiaflikaa

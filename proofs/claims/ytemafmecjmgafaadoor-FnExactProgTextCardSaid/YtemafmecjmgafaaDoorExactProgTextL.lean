/- Proved: for every input the law FnExactProgText returns true and leaves its arguments as they were. No conditions. -/
import Derived.Test.YtemafmecjmgafaaDoorExactProgTextP1
import Derived.Test.YtemafmecjmgafaaDoorK3
import Derived.Test.YtemafmecjmgafaaDoorK4
import Derived.Test.YtemafmecjmgafaaDoorRows
import Derived.Test.YtemafmecjmgafaaDoorTie
import Derived.Test.YtemafmecjmgafaaDoorCards
import Derived.ProofKit
import Derived.Lay
import Derived.LaidMore
import Derived.OpenShut
import Derived.Stop.Joined
import Derived.SevenTiedAt
set_option linter.all false
set_option maxRecDepth 100000
namespace Go.Proofs.YtemafmecjmgafaaDoor
open Go Go.Fl Go.ChangeShapes Go.WideShapes Go.ChangeAt Go.RowKit

theorem Tryd.own : ownKnob Tryd.prog.godebug = none := by kernel_rfl
theorem Tryd.laidOut : laidOutB Tryd.prog = true := by kernel_rfl

theorem fnExactProgText_maths : ∀ y : (tupT [.sl opTy]).den, Wf (tupT [.sl opTy]) y → ∃ N, FvFnExactProgText N y = some (true, ()) := fun y hy => by
  exact ⟨lim + 1, FnExactProgText_ok (by omega) (os := y.1) hy.1⟩

theorem fnExactProgText_lifted (os : Os) (started : os.Started) (H : Type) (enc : TypeId × Value → H) :
    ReturnsInHanded {} Tryd.checked os 3 .any (fun w args => (Rows.fnExactProgTextSpec.pre enc Tryd.prog Tryd.f3 [] false w args ∧ laidMetH Tryd.prog Rows.fnExactProgTextRow.laid w) ∧ sizedMet enc Tryd.prog Tryd.f3 (OpenSpec.ofChange Rows.fnExactProgTextSpec) false w args) (Rows.fnExactProgTextSpec.post enc Tryd.prog Tryd.f3 false true false false) :=
  law_row_laid (C := Tryd.checked) (ts := [.sl opTy]) (Tb := 4) (din := dinvFnExactProgText) (X := fun w _ => laidMetH Tryd.prog Rows.fnExactProgTextRow.laid w) (fun _ _ _ hh h => h.of_heap hh) Tryd.own started (by kernel_rfl) Tryd.func3
    (ChangeSpec.witness_shaped (enc := enc) (C := Tryd.checked) (os := os) (X := fun w _ => laidMetH Tryd.prog Rows.fnExactProgTextRow.laid w) false (World.laidAll Tryd.prog os Rows.fnExactProgTextRow.laid) #[.slice none 0 0] 8 (World.laidAll_os _ _ _) (World.shaped_of_RefB (by kernel_rfl) (by kernel_rfl)) (by kernel_rfl) (by kernel_rfl) (by kernel_rfl) (by rw [MakeChecks.laidMetH_plain _ _ _ (by kernel_rfl)]; exact laidMet_laidAll _ (by kernel_rfl) (by kernel_rfl)))
    TE_ok Tryd.laidOut (.cons ⟨by kernel_rfl, rfl, by decide⟩ (.nil))
    (by kernel_rfl) rfl
    (fun ds h => by match ds, h with | [_], _ => rfl)
    (by kernel_rfl) (by kernel_rfl) specvFnExactProgText (fun y hy => by obtain ⟨N, h⟩ := fnExactProgText_maths y hy; exact ⟨N, y, h, rfl, rfl⟩)
    (fun W _ hx hs => gk_of_laid (by rw [MakeChecks.laidMetH_plain _ _ _ (by kernel_rfl)] at hx; exact hx) hs)
theorem fnExactProgText_row : Rows.FnExactProgTextSaid :=
  OpenClaim.holds_of_wide 3 Tryd.f3 rfl rfl rfl rfl rfl rfl rfl ⟨rfl, rfl, rfl, rfl, rfl⟩ rfl rfl rfl rfl rfl (by kernel_rfl) Tryd.func3 (by kernel_rfl)
    (of_decide_eq_true (by kernel_rfl)) (by unfold Func.isWrapper; first | (rw [if_pos (by decide +kernel)]; kernel_rfl) | (rw [if_neg (by decide +kernel)]; exact ⟨rfl, rfl⟩))
    (fun os started H enc _ => fnExactProgText_lifted os started H enc)
theorem fnExactProgText_holds : Rows.FnExactProgTextCardSaid :=
  Claim7.holds_tied_plain_at .later [] [.data, .data, .data] true (true, "d614d40096d44171062d294eadd95ed203e38bf8bb7cb4546ec1e93c0f8f4605") true
    fnExactProgText_row (fun _ h => by cases h) (by kernel_rfl) (fun _ h => by cases h) fnExactProgText_row_tie rfl ⟨rfl, rfl⟩ (by kernel_rfl) rfl
    (fun f fn hf hfn => by
      obtain rfl : f = 3 := Option.some.inj ((show Tryd.prog.funcNamed "loop.example/flitting/laws.FnExactProgText" = some 3 by kernel_rfl).symm.trans hf) |>.symm
      obtain rfl : fn = Tryd.f3 := (Option.some.inj (Tryd.func3.symm.trans hfn)).symm
      exact ⟨by kernel_rfl, fun j t ht => by
        have hall : (Tryd.f3.params.toList.all fun u => !Tryd.prog.wantsStandIn u) = true := by kernel_rfl
        exact (show Tryd.prog.wantsStandIn t = false by simpa using List.all_eq_true.1 hall t (by simpa using Array.mem_of_getElem? ht))⟩)
    (by kernel_rfl)
end Go.Proofs.YtemafmecjmgafaaDoor

/- Proved: for every input the law FnProgJoin returns true and leaves its arguments as they were. No conditions. -/
import Derived.Test.YtemafmecjmgafaaDoorProgJoinP1
import Derived.Test.YtemafmecjmgafaaDoorK3
import Derived.Test.YtemafmecjmgafaaDoorK4
import Derived.Test.YtemafmecjmgafaaDoorRows
import Derived.Test.YtemafmecjmgafaaDoorTie
import Derived.Test.YtemafmecjmgafaaDoorCards
import Derived.ProofKit
import Derived.Lay
import Derived.LaidMore
import Derived.OpenShut
import Derived.Stop.Joined
import Derived.SevenTiedAt
set_option linter.all false
set_option maxRecDepth 100000
namespace Go.Proofs.YtemafmecjmgafaaDoor
open Go Go.Fl Go.ChangeShapes Go.WideShapes Go.ChangeAt Go.RowKit

theorem Tryd.own : ownKnob Tryd.prog.godebug = none := by kernel_rfl
theorem Tryd.laidOut : laidOutB Tryd.prog = true := by kernel_rfl

theorem fnProgJoin_maths : ∀ y : (tupT [.sl (.int .u8), .sl (.int .u8)]).den, Wf (tupT [.sl (.int .u8), .sl (.int .u8)]) y → ∃ N, FvFnProgJoin N y = some (true, ()) := fun y hy => by
  obtain ⟨⟨_, h⟩, ⟨_, h2⟩, _⟩ := hy; exact ⟨lim + 1, FnProgJoin_ok (by omega) (code := y.1) (more := y.2.1) (fun x hx => wf_u8 (h x hx)) (fun x hx => wf_u8 (h2 x hx))⟩

theorem fnProgJoin_lifted (os : Os) (started : os.Started) (H : Type) (enc : TypeId × Value → H) :
    ReturnsInHanded {} Tryd.checked os 4 .any (fun w args => (Rows.fnProgJoinSpec.pre enc Tryd.prog Tryd.f4 [] false w args ∧ laidMetH Tryd.prog Rows.fnProgJoinRow.laid w) ∧ sizedMet enc Tryd.prog Tryd.f4 (OpenSpec.ofChange Rows.fnProgJoinSpec) false w args) (Rows.fnProgJoinSpec.post enc Tryd.prog Tryd.f4 false true false false) :=
  law_row_laid (C := Tryd.checked) (ts := [.sl (.int .u8), .sl (.int .u8)]) (Tb := 4) (din := dinvFnProgJoin) (X := fun w _ => laidMetH Tryd.prog Rows.fnProgJoinRow.laid w) (fun _ _ _ hh h => h.of_heap hh) Tryd.own started (by kernel_rfl) Tryd.func4
    (ChangeSpec.witness_shaped (enc := enc) (C := Tryd.checked) (os := os) (X := fun w _ => laidMetH Tryd.prog Rows.fnProgJoinRow.laid w) false (World.laidAll Tryd.prog os Rows.fnProgJoinRow.laid) #[.slice none 0 0, .slice none 0 0] 8 (World.laidAll_os _ _ _) (World.shaped_of_RefB (by kernel_rfl) (by kernel_rfl)) (by kernel_rfl) (by kernel_rfl) (by kernel_rfl) (by rw [MakeChecks.laidMetH_plain _ _ _ (by kernel_rfl)]; exact laidMet_laidAll _ (by kernel_rfl) (by kernel_rfl)))
    TE_ok Tryd.laidOut (.cons ⟨by kernel_rfl, rfl, by decide⟩ (.cons ⟨by kernel_rfl, rfl, by decide⟩ (.nil)))
    (by kernel_rfl) rfl
    (fun ds h => by match ds, h with | [_, _], _ => rfl)
    (by kernel_rfl) (by kernel_rfl) specvFnProgJoin (fun y hy => by obtain ⟨N, h⟩ := fnProgJoin_maths y hy; exact ⟨N, y, h, rfl, rfl⟩)
    (fun W _ hx hs => gk_of_laid (by rw [MakeChecks.laidMetH_plain _ _ _ (by kernel_rfl)] at hx; exact hx) hs)
theorem fnProgJoin_row : Rows.FnProgJoinSaid :=
  OpenClaim.holds_of_wide 4 Tryd.f4 rfl rfl rfl rfl rfl rfl rfl ⟨rfl, rfl, rfl, rfl, rfl⟩ rfl rfl rfl rfl rfl (by kernel_rfl) Tryd.func4 (by kernel_rfl)
    (of_decide_eq_true (by kernel_rfl)) (by unfold Func.isWrapper; first | (rw [if_pos (by decide +kernel)]; kernel_rfl) | (rw [if_neg (by decide +kernel)]; exact ⟨rfl, rfl⟩))
    (fun os started H enc _ => fnProgJoin_lifted os started H enc)
theorem fnProgJoin_holds : Rows.FnProgJoinCardSaid :=
  Claim7.holds_tied_plain_at .later [] [.data, .data, .data] true (true, "d614d40096d44171062d294eadd95ed203e38bf8bb7cb4546ec1e93c0f8f4605") true
    fnProgJoin_row (fun _ h => by cases h) (by kernel_rfl) (fun _ h => by cases h) fnProgJoin_row_tie rfl ⟨rfl, rfl⟩ (by kernel_rfl) rfl
    (fun f fn hf hfn => by
      obtain rfl : f = 4 := Option.some.inj ((show Tryd.prog.funcNamed "loop.example/flitting/laws.FnProgJoin" = some 4 by kernel_rfl).symm.trans hf) |>.symm
      obtain rfl : fn = Tryd.f4 := (Option.some.inj (Tryd.func4.symm.trans hfn)).symm
      exact ⟨by kernel_rfl, fun j t ht => by
        have hall : (Tryd.f4.params.toList.all fun u => !Tryd.prog.wantsStandIn u) = true := by kernel_rfl
        exact (show Tryd.prog.wantsStandIn t = false by simpa using List.all_eq_true.1 hall t (by simpa using Array.mem_of_getElem? ht))⟩)
    (by kernel_rfl)
end Go.Proofs.YtemafmecjmgafaaDoor

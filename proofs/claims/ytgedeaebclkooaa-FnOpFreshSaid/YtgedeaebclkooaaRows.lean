/-
  No cell of these rows narrows 'for every input' (looked for: loops, veiled, ifaces, maps, wideKeys, modest, calm, conditions, laid).
  DERIVED. THE GIVEN ROWS OF THIS SEAT. 9 by the template 'for every input the law returns true; each argument reads behind the call as it read before'; 0 by the template 'total and deterministic' (their statements: YtgedeaebclkooaaTotals.lean).
  GIVEN WITH THE SEED: the statements are not yours to turn. If you find one false, say at which input.
  Laid BY PROGRAM, IN A SANDBOX (cutbox-rows.mjs): the forced cells as the released guide's own fill.sh prints them over the translation bac3ae6adba0792a… (all of the seat's roots in one cut). By AI agents, Wed Nov 11 2026. No macro, syntax, notation, axiom, sorry.
-/
import Derived.Test.YtgedeaebclkooaaChecked
import GoSem.Claim
import GoSem.ClaimJoined
import GoSem.ClaimMapViews
import Derived.JoinedTies
import Derived.KernelRfl
namespace Go.Proofs.Ytgedeaebclkooaa
/- THE CELL 'sum', in the pinned program and in every row, IS THE sha256 OF THE DUMP (.gsa) THAT YtgedeaebclkooaaProg.lean LOADS. Nothing in Lean hashes anything: it is a label: what it is worth is what the hold of that sum in a sandbox is worth. -/
noncomputable def Try.pinned : Pinned := { name := "ytgedeaebclkooaa", sum := "bac3ae6adba0792a554a3dbf2c5b59dc30b335b91f374f731d12908f6302321e", checked := Try.checked }
namespace Rows
def none {H : Type} : Left H := { results := [], args := [] }

/-- 'laws.FnGraphRefuse': WHATEVER THE INPUT: true; the input reads as it did. -/
def fnGraphRefuseSpec : ChangeSpec := { name := "fnGraphRefuse", fn := fun _ => fun
  | [d] => { results := [.lit (.bool true)], args := [d] }
  | _ => none }
def fnGraphRefuseRow : OpenClaim := { program := "ytgedeaebclkooaa", sum := "bac3ae6adba0792a554a3dbf2c5b59dc30b335b91f374f731d12908f6302321e", func := "loop.example/flitting/laws.FnGraphRefuse", spec := "fnGraphRefuse", unfollowed := true, recurses := true, apart := false }
def FnGraphRefuseSaid : Prop := fnGraphRefuseRow.holds Try.pinned (OpenSpec.ofChange fnGraphRefuseSpec)

/-- ITS FALSE NEIGHBOUR: 'it returns false'. Refute it at one input. -/
def fnGraphRefuseWrong : ChangeSpec := { name := "fnGraphRefuse", fn := fun _ => fun
  | [d] => { results := [.lit (.bool false)], args := [d] }
  | _ => none }
def FnGraphRefuseWrongFalsely : Prop := fnGraphRefuseRow.holds Try.pinned (OpenSpec.ofChange fnGraphRefuseWrong)

/-- 'laws.FnOpFresh': WHATEVER THE INPUT: true; the input reads as it did. -/
def fnOpFreshSpec : ChangeSpec := { name := "fnOpFresh", fn := fun _ => fun
  | [d] => { results := [.lit (.bool true)], args := [d] }
  | _ => none }
def fnOpFreshRow : OpenClaim := { program := "ytgedeaebclkooaa", sum := "bac3ae6adba0792a554a3dbf2c5b59dc30b335b91f374f731d12908f6302321e", func := "loop.example/flitting/laws.FnOpFresh", spec := "fnOpFresh", unfollowed := true, recurses := true, apart := false }
def FnOpFreshSaid : Prop := fnOpFreshRow.holds Try.pinned (OpenSpec.ofChange fnOpFreshSpec)

/-- ITS FALSE NEIGHBOUR: 'it returns false'. Refute it at one input. -/
def fnOpFreshWrong : ChangeSpec := { name := "fnOpFresh", fn := fun _ => fun
  | [d] => { results := [.lit (.bool false)], args := [d] }
  | _ => none }
def FnOpFreshWrongFalsely : Prop := fnOpFreshRow.holds Try.pinned (OpenSpec.ofChange fnOpFreshWrong)

/-- 'laws.FnOpPutGet': WHATEVER THE INPUT: true; the input reads as it did. -/
def fnOpPutGetSpec : ChangeSpec := { name := "fnOpPutGet", fn := fun _ => fun
  | [d] => { results := [.lit (.bool true)], args := [d] }
  | _ => none }
def fnOpPutGetRow : OpenClaim := { program := "ytgedeaebclkooaa", sum := "bac3ae6adba0792a554a3dbf2c5b59dc30b335b91f374f731d12908f6302321e", func := "loop.example/flitting/laws.FnOpPutGet", spec := "fnOpPutGet", unfollowed := true, recurses := true, apart := false }
def FnOpPutGetSaid : Prop := fnOpPutGetRow.holds Try.pinned (OpenSpec.ofChange fnOpPutGetSpec)

/-- ITS FALSE NEIGHBOUR: 'it returns false'. Refute it at one input. -/
def fnOpPutGetWrong : ChangeSpec := { name := "fnOpPutGet", fn := fun _ => fun
  | [d] => { results := [.lit (.bool false)], args := [d] }
  | _ => none }
def FnOpPutGetWrongFalsely : Prop := fnOpPutGetRow.holds Try.pinned (OpenSpec.ofChange fnOpPutGetWrong)

/-- 'laws.FnOpStoreLoad': WHATEVER THE INPUT: true; the input reads as it did. -/
def fnOpStoreLoadSpec : ChangeSpec := { name := "fnOpStoreLoad", fn := fun _ => fun
  | [d] => { results := [.lit (.bool true)], args := [d] }
  | _ => none }
def fnOpStoreLoadRow : OpenClaim := { program := "ytgedeaebclkooaa", sum := "bac3ae6adba0792a554a3dbf2c5b59dc30b335b91f374f731d12908f6302321e", func := "loop.example/flitting/laws.FnOpStoreLoad", spec := "fnOpStoreLoad", unfollowed := true, recurses := true, apart := false }
def FnOpStoreLoadSaid : Prop := fnOpStoreLoadRow.holds Try.pinned (OpenSpec.ofChange fnOpStoreLoadSpec)

/-- ITS FALSE NEIGHBOUR: 'it returns false'. Refute it at one input. -/
def fnOpStoreLoadWrong : ChangeSpec := { name := "fnOpStoreLoad", fn := fun _ => fun
  | [d] => { results := [.lit (.bool false)], args := [d] }
  | _ => none }
def FnOpStoreLoadWrongFalsely : Prop := fnOpStoreLoadRow.holds Try.pinned (OpenSpec.ofChange fnOpStoreLoadWrong)

/-- 'laws.FnOpUndo': WHATEVER THE INPUT: true; the input reads as it did. -/
def fnOpUndoSpec : ChangeSpec := { name := "fnOpUndo", fn := fun _ => fun
  | [d] => { results := [.lit (.bool true)], args := [d] }
  | _ => none }
def fnOpUndoRow : OpenClaim := { program := "ytgedeaebclkooaa", sum := "bac3ae6adba0792a554a3dbf2c5b59dc30b335b91f374f731d12908f6302321e", func := "loop.example/flitting/laws.FnOpUndo", spec := "fnOpUndo", unfollowed := true, recurses := true, apart := false }
def FnOpUndoSaid : Prop := fnOpUndoRow.holds Try.pinned (OpenSpec.ofChange fnOpUndoSpec)

/-- ITS FALSE NEIGHBOUR: 'it returns false'. Refute it at one input. -/
def fnOpUndoWrong : ChangeSpec := { name := "fnOpUndo", fn := fun _ => fun
  | [d] => { results := [.lit (.bool false)], args := [d] }
  | _ => none }
def FnOpUndoWrongFalsely : Prop := fnOpUndoRow.holds Try.pinned (OpenSpec.ofChange fnOpUndoWrong)

/-- 'laws.FnOpCas': WHATEVER THE INPUT: true; the input reads as it did. -/
def fnOpCasSpec : ChangeSpec := { name := "fnOpCas", fn := fun _ => fun
  | [d] => { results := [.lit (.bool true)], args := [d] }
  | _ => none }
def fnOpCasRow : OpenClaim := { program := "ytgedeaebclkooaa", sum := "bac3ae6adba0792a554a3dbf2c5b59dc30b335b91f374f731d12908f6302321e", func := "loop.example/flitting/laws.FnOpCas", spec := "fnOpCas", unfollowed := true, recurses := true, apart := false }
def FnOpCasSaid : Prop := fnOpCasRow.holds Try.pinned (OpenSpec.ofChange fnOpCasSpec)

/-- ITS FALSE NEIGHBOUR: 'it returns false'. Refute it at one input. -/
def fnOpCasWrong : ChangeSpec := { name := "fnOpCas", fn := fun _ => fun
  | [d] => { results := [.lit (.bool false)], args := [d] }
  | _ => none }
def FnOpCasWrongFalsely : Prop := fnOpCasRow.holds Try.pinned (OpenSpec.ofChange fnOpCasWrong)

/-- 'laws.FnGraphOrder': WHATEVER THE INPUT: true; the input reads as it did. -/
def fnGraphOrderSpec : ChangeSpec := { name := "fnGraphOrder", fn := fun _ => fun
  | [d1, d2] => { results := [.lit (.bool true)], args := [d1, d2] }
  | _ => none }
def fnGraphOrderRow : OpenClaim := { program := "ytgedeaebclkooaa", sum := "bac3ae6adba0792a554a3dbf2c5b59dc30b335b91f374f731d12908f6302321e", func := "loop.example/flitting/laws.FnGraphOrder", spec := "fnGraphOrder", unfollowed := true, recurses := true, apart := false }
def FnGraphOrderSaid : Prop := fnGraphOrderRow.holds Try.pinned (OpenSpec.ofChange fnGraphOrderSpec)

/-- ITS FALSE NEIGHBOUR: 'it returns false'. Refute it at one input. -/
def fnGraphOrderWrong : ChangeSpec := { name := "fnGraphOrder", fn := fun _ => fun
  | [d1, d2] => { results := [.lit (.bool false)], args := [d1, d2] }
  | _ => none }
def FnGraphOrderWrongFalsely : Prop := fnGraphOrderRow.holds Try.pinned (OpenSpec.ofChange fnGraphOrderWrong)

/-- 'laws.FnGraphTrim': WHATEVER THE INPUT: true; the input reads as it did. -/
def fnGraphTrimSpec : ChangeSpec := { name := "fnGraphTrim", fn := fun _ => fun
  | [d] => { results := [.lit (.bool true)], args := [d] }
  | _ => none }
def fnGraphTrimRow : OpenClaim := { program := "ytgedeaebclkooaa", sum := "bac3ae6adba0792a554a3dbf2c5b59dc30b335b91f374f731d12908f6302321e", func := "loop.example/flitting/laws.FnGraphTrim", spec := "fnGraphTrim", unfollowed := true, recurses := true, apart := false }
def FnGraphTrimSaid : Prop := fnGraphTrimRow.holds Try.pinned (OpenSpec.ofChange fnGraphTrimSpec)

/-- ITS FALSE NEIGHBOUR: 'it returns false'. Refute it at one input. -/
def fnGraphTrimWrong : ChangeSpec := { name := "fnGraphTrim", fn := fun _ => fun
  | [d] => { results := [.lit (.bool false)], args := [d] }
  | _ => none }
def FnGraphTrimWrongFalsely : Prop := fnGraphTrimRow.holds Try.pinned (OpenSpec.ofChange fnGraphTrimWrong)

/-- 'laws.FnExactStoryPlain': WHATEVER THE INPUT: true; the input reads as it did. -/
def fnExactStoryPlainSpec : ChangeSpec := { name := "fnExactStoryPlain", fn := fun _ => fun
  | [d1, d2, d3] => { results := [.lit (.bool true)], args := [d1, d2, d3] }
  | _ => none }
def fnExactStoryPlainRow : OpenClaim := { program := "ytgedeaebclkooaa", sum := "bac3ae6adba0792a554a3dbf2c5b59dc30b335b91f374f731d12908f6302321e", func := "loop.example/flitting/laws.FnExactStoryPlain", spec := "fnExactStoryPlain", unfollowed := true, recurses := true, apart := false }
def FnExactStoryPlainSaid : Prop := fnExactStoryPlainRow.holds Try.pinned (OpenSpec.ofChange fnExactStoryPlainSpec)

/-- ITS FALSE NEIGHBOUR: 'it returns false'. Refute it at one input. -/
def fnExactStoryPlainWrong : ChangeSpec := { name := "fnExactStoryPlain", fn := fun _ => fun
  | [d1, d2, d3] => { results := [.lit (.bool false)], args := [d1, d2, d3] }
  | _ => none }
def FnExactStoryPlainWrongFalsely : Prop := fnExactStoryPlainRow.holds Try.pinned (OpenSpec.ofChange fnExactStoryPlainWrong)

/- THE SECOND FORM. 'bulk': how many values and letters a reading holds, each counted each time it is reached (what is shared counts as often as it is met; a slice's spare places count too). A statement '..UptoSaid' is the law's where the arguments, and the package variables that the reading takes, are together of bulk at most 1048576: NARROWER than '..Said'. Prove '..Said' where nothing that the law and all that it calls make is longer than what came in: it says more and counts as full. Else prove '..UptoSaid'. A law counts once. -/
mutual
def uptoBulk {H : Type} : DataW H → Nat
  | .lit (.string bytes) => bytes.length + 1
  | .lit _ => 1
  | .nil => 1
  | .ptr d => uptoBulk d + 1
  | .slice elems spare => uptoBulkAll elems + uptoBulkAll spare + 1
  | .agg parts => uptoBulkAll parts + 1
  | .iface _ d => uptoBulk d + 1
  | .map entries => uptoBulkEntries entries + 1
  | .held _ => 1
def uptoBulkAll {H : Type} : List (DataW H) → Nat
  | [] => 0
  | d :: r => uptoBulk d + uptoBulkAll r
def uptoBulkEntries {H : Type} : List (Lit × DataW H) → Nat
  | [] => 0
  | x :: r => uptoBulkEntry x + uptoBulkEntries r
def uptoBulkEntry {H : Type} : Lit × DataW H → Nat
  | (.string bytes, d) => bytes.length + uptoBulk d + 1
  | (_, d) => uptoBulk d + 1
 end
def uptoSmall : (H : Type) → List (DataW H) → Bool := fun _ ds => decide (uptoBulkAll ds ≤ 1048576)
def OpenSpec.upto (s : _root_.Go.ChangeSpec) : _root_.Go.OpenSpec := { _root_.Go.OpenSpec.ofChange s with cond := some uptoSmall }

/-- 'laws.FnGraphRefuse', WHERE WHAT IT READS IS OF BULK AT MOST 1048576: true; the input reads as it did. -/
def fnGraphRefuseUptoRow : OpenClaim := { program := "ytgedeaebclkooaa", sum := "bac3ae6adba0792a554a3dbf2c5b59dc30b335b91f374f731d12908f6302321e", func := "loop.example/flitting/laws.FnGraphRefuse", spec := "fnGraphRefuse", unfollowed := true, recurses := true, apart := false, narrowed := true }
def FnGraphRefuseUptoSaid : Prop := fnGraphRefuseUptoRow.holds Try.pinned (OpenSpec.upto fnGraphRefuseSpec)

/-- 'laws.FnOpFresh', WHERE WHAT IT READS IS OF BULK AT MOST 1048576: true; the input reads as it did. -/
def fnOpFreshUptoRow : OpenClaim := { program := "ytgedeaebclkooaa", sum := "bac3ae6adba0792a554a3dbf2c5b59dc30b335b91f374f731d12908f6302321e", func := "loop.example/flitting/laws.FnOpFresh", spec := "fnOpFresh", unfollowed := true, recurses := true, apart := false, narrowed := true }
def FnOpFreshUptoSaid : Prop := fnOpFreshUptoRow.holds Try.pinned (OpenSpec.upto fnOpFreshSpec)

/-- 'laws.FnOpPutGet', WHERE WHAT IT READS IS OF BULK AT MOST 1048576: true; the input reads as it did. -/
def fnOpPutGetUptoRow : OpenClaim := { program := "ytgedeaebclkooaa", sum := "bac3ae6adba0792a554a3dbf2c5b59dc30b335b91f374f731d12908f6302321e", func := "loop.example/flitting/laws.FnOpPutGet", spec := "fnOpPutGet", unfollowed := true, recurses := true, apart := false, narrowed := true }
def FnOpPutGetUptoSaid : Prop := fnOpPutGetUptoRow.holds Try.pinned (OpenSpec.upto fnOpPutGetSpec)

/-- 'laws.FnOpStoreLoad', WHERE WHAT IT READS IS OF BULK AT MOST 1048576: true; the input reads as it did. -/
def fnOpStoreLoadUptoRow : OpenClaim := { program := "ytgedeaebclkooaa", sum := "bac3ae6adba0792a554a3dbf2c5b59dc30b335b91f374f731d12908f6302321e", func := "loop.example/flitting/laws.FnOpStoreLoad", spec := "fnOpStoreLoad", unfollowed := true, recurses := true, apart := false, narrowed := true }
def FnOpStoreLoadUptoSaid : Prop := fnOpStoreLoadUptoRow.holds Try.pinned (OpenSpec.upto fnOpStoreLoadSpec)

/-- 'laws.FnOpUndo', WHERE WHAT IT READS IS OF BULK AT MOST 1048576: true; the input reads as it did. -/
def fnOpUndoUptoRow : OpenClaim := { program := "ytgedeaebclkooaa", sum := "bac3ae6adba0792a554a3dbf2c5b59dc30b335b91f374f731d12908f6302321e", func := "loop.example/flitting/laws.FnOpUndo", spec := "fnOpUndo", unfollowed := true, recurses := true, apart := false, narrowed := true }
def FnOpUndoUptoSaid : Prop := fnOpUndoUptoRow.holds Try.pinned (OpenSpec.upto fnOpUndoSpec)

/-- 'laws.FnOpCas', WHERE WHAT IT READS IS OF BULK AT MOST 1048576: true; the input reads as it did. -/
def fnOpCasUptoRow : OpenClaim := { program := "ytgedeaebclkooaa", sum := "bac3ae6adba0792a554a3dbf2c5b59dc30b335b91f374f731d12908f6302321e", func := "loop.example/flitting/laws.FnOpCas", spec := "fnOpCas", unfollowed := true, recurses := true, apart := false, narrowed := true }
def FnOpCasUptoSaid : Prop := fnOpCasUptoRow.holds Try.pinned (OpenSpec.upto fnOpCasSpec)

/-- 'laws.FnGraphOrder', WHERE WHAT IT READS IS OF BULK AT MOST 1048576: true; the input reads as it did. -/
def fnGraphOrderUptoRow : OpenClaim := { program := "ytgedeaebclkooaa", sum := "bac3ae6adba0792a554a3dbf2c5b59dc30b335b91f374f731d12908f6302321e", func := "loop.example/flitting/laws.FnGraphOrder", spec := "fnGraphOrder", unfollowed := true, recurses := true, apart := false, narrowed := true }
def FnGraphOrderUptoSaid : Prop := fnGraphOrderUptoRow.holds Try.pinned (OpenSpec.upto fnGraphOrderSpec)

/-- 'laws.FnGraphTrim', WHERE WHAT IT READS IS OF BULK AT MOST 1048576: true; the input reads as it did. -/
def fnGraphTrimUptoRow : OpenClaim := { program := "ytgedeaebclkooaa", sum := "bac3ae6adba0792a554a3dbf2c5b59dc30b335b91f374f731d12908f6302321e", func := "loop.example/flitting/laws.FnGraphTrim", spec := "fnGraphTrim", unfollowed := true, recurses := true, apart := false, narrowed := true }
def FnGraphTrimUptoSaid : Prop := fnGraphTrimUptoRow.holds Try.pinned (OpenSpec.upto fnGraphTrimSpec)

/-- 'laws.FnExactStoryPlain', WHERE WHAT IT READS IS OF BULK AT MOST 1048576: true; the input reads as it did. -/
def fnExactStoryPlainUptoRow : OpenClaim := { program := "ytgedeaebclkooaa", sum := "bac3ae6adba0792a554a3dbf2c5b59dc30b335b91f374f731d12908f6302321e", func := "loop.example/flitting/laws.FnExactStoryPlain", spec := "fnExactStoryPlain", unfollowed := true, recurses := true, apart := false, narrowed := true }
def FnExactStoryPlainUptoSaid : Prop := fnExactStoryPlainUptoRow.holds Try.pinned (OpenSpec.upto fnExactStoryPlainSpec)

end Rows
end Go.Proofs.Ytgedeaebclkooaa

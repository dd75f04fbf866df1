/-
  No cell of these rows narrows 'for every input' (looked for: loops, veiled, ifaces, maps, wideKeys, modest, calm, conditions, laid).
  DERIVED. THE GIVEN ROWS OF THIS SEAT. 12 by the template 'for every input the law returns true; each argument reads behind the call as it read before'; 0 by the template 'total and deterministic' (their statements: YtjlcdaggbpgpjaaTotals.lean).
  GIVEN WITH THE SEED: the statements are not yours to turn. If you find one false, say at which input.
  Laid BY PROGRAM, IN A SANDBOX (cutbox-rows.mjs): the forced cells as the released guide's own fill.sh prints them over the translation defc1c559ce6a27b… (all of the seat's roots in one cut). By AI agents, Wed Nov 11 2026. No macro, syntax, notation, axiom, sorry.
-/
import Derived.Test.YtjlcdaggbpgpjaaChecked
import GoSem.Claim
import GoSem.ClaimJoined
import GoSem.ClaimMapViews
import Derived.JoinedTies
import Derived.KernelRfl
namespace Go.Proofs.Ytjlcdaggbpgpjaa
/- THE CELL 'sum', in the pinned program and in every row, IS THE sha256 OF THE DUMP (.gsa) THAT YtjlcdaggbpgpjaaProg.lean LOADS. Nothing in Lean hashes anything: it is a label: what it is worth is what the hold of that sum in a sandbox is worth. -/
noncomputable def Try.pinned : Pinned := { name := "ytjlcdaggbpgpjaa", sum := "defc1c559ce6a27b2b392fa7c9afec2fe95028b7691c8ea6ad393596d1f447e2", checked := Try.checked }
namespace Rows
def none {H : Type} : Left H := { results := [], args := [] }

/-- 'laws.FnExactPathShared': WHATEVER THE INPUT: true; the input reads as it did. -/
def fnExactPathSharedSpec : ChangeSpec := { name := "fnExactPathShared", fn := fun _ => fun
  | [d] => { results := [.lit (.bool true)], args := [d] }
  | _ => none }
def fnExactPathSharedRow : OpenClaim := { program := "ytjlcdaggbpgpjaa", sum := "defc1c559ce6a27b2b392fa7c9afec2fe95028b7691c8ea6ad393596d1f447e2", func := "loop.example/flitting/laws.FnExactPathShared", spec := "fnExactPathShared", unfollowed := true, recurses := true, apart := false }
def FnExactPathSharedSaid : Prop := fnExactPathSharedRow.holds Try.pinned (OpenSpec.ofChange fnExactPathSharedSpec)

/-- ITS FALSE NEIGHBOUR: 'it returns false'. Refute it at one input. -/
def fnExactPathSharedWrong : ChangeSpec := { name := "fnExactPathShared", fn := fun _ => fun
  | [d] => { results := [.lit (.bool false)], args := [d] }
  | _ => none }
def FnExactPathSharedWrongFalsely : Prop := fnExactPathSharedRow.holds Try.pinned (OpenSpec.ofChange fnExactPathSharedWrong)

/-- 'laws.FnExactGraphSame': WHATEVER THE INPUT: true; the input reads as it did. -/
def fnExactGraphSameSpec : ChangeSpec := { name := "fnExactGraphSame", fn := fun _ => fun
  | [d1, d2] => { results := [.lit (.bool true)], args := [d1, d2] }
  | _ => none }
def fnExactGraphSameRow : OpenClaim := { program := "ytjlcdaggbpgpjaa", sum := "defc1c559ce6a27b2b392fa7c9afec2fe95028b7691c8ea6ad393596d1f447e2", func := "loop.example/flitting/laws.FnExactGraphSame", spec := "fnExactGraphSame", unfollowed := true, recurses := true, apart := false }
def FnExactGraphSameSaid : Prop := fnExactGraphSameRow.holds Try.pinned (OpenSpec.ofChange fnExactGraphSameSpec)

/-- ITS FALSE NEIGHBOUR: 'it returns false'. Refute it at one input. -/
def fnExactGraphSameWrong : ChangeSpec := { name := "fnExactGraphSame", fn := fun _ => fun
  | [d1, d2] => { results := [.lit (.bool false)], args := [d1, d2] }
  | _ => none }
def FnExactGraphSameWrongFalsely : Prop := fnExactGraphSameRow.holds Try.pinned (OpenSpec.ofChange fnExactGraphSameWrong)

/-- 'laws.FnExactPathHolds': WHATEVER THE INPUT: true; the input reads as it did. -/
def fnExactPathHoldsSpec : ChangeSpec := { name := "fnExactPathHolds", fn := fun _ => fun
  | [d1, d2] => { results := [.lit (.bool true)], args := [d1, d2] }
  | _ => none }
def fnExactPathHoldsRow : OpenClaim := { program := "ytjlcdaggbpgpjaa", sum := "defc1c559ce6a27b2b392fa7c9afec2fe95028b7691c8ea6ad393596d1f447e2", func := "loop.example/flitting/laws.FnExactPathHolds", spec := "fnExactPathHolds", unfollowed := true, recurses := true, apart := false }
def FnExactPathHoldsSaid : Prop := fnExactPathHoldsRow.holds Try.pinned (OpenSpec.ofChange fnExactPathHoldsSpec)

/-- ITS FALSE NEIGHBOUR: 'it returns false'. Refute it at one input. -/
def fnExactPathHoldsWrong : ChangeSpec := { name := "fnExactPathHolds", fn := fun _ => fun
  | [d1, d2] => { results := [.lit (.bool false)], args := [d1, d2] }
  | _ => none }
def FnExactPathHoldsWrongFalsely : Prop := fnExactPathHoldsRow.holds Try.pinned (OpenSpec.ofChange fnExactPathHoldsWrong)

/-- 'laws.FnExactGraphTrim': WHATEVER THE INPUT: true; the input reads as it did. -/
def fnExactGraphTrimSpec : ChangeSpec := { name := "fnExactGraphTrim", fn := fun _ => fun
  | [d] => { results := [.lit (.bool true)], args := [d] }
  | _ => none }
def fnExactGraphTrimRow : OpenClaim := { program := "ytjlcdaggbpgpjaa", sum := "defc1c559ce6a27b2b392fa7c9afec2fe95028b7691c8ea6ad393596d1f447e2", func := "loop.example/flitting/laws.FnExactGraphTrim", spec := "fnExactGraphTrim", unfollowed := true, recurses := true, apart := false }
def FnExactGraphTrimSaid : Prop := fnExactGraphTrimRow.holds Try.pinned (OpenSpec.ofChange fnExactGraphTrimSpec)

/-- ITS FALSE NEIGHBOUR: 'it returns false'. Refute it at one input. -/
def fnExactGraphTrimWrong : ChangeSpec := { name := "fnExactGraphTrim", fn := fun _ => fun
  | [d] => { results := [.lit (.bool false)], args := [d] }
  | _ => none }
def FnExactGraphTrimWrongFalsely : Prop := fnExactGraphTrimRow.holds Try.pinned (OpenSpec.ofChange fnExactGraphTrimWrong)

/-- 'laws.FnGraphReach': WHATEVER THE INPUT: true; the input reads as it did. -/
def fnGraphReachSpec : ChangeSpec := { name := "fnGraphReach", fn := fun _ => fun
  | [d] => { results := [.lit (.bool true)], args := [d] }
  | _ => none }
def fnGraphReachRow : OpenClaim := { program := "ytjlcdaggbpgpjaa", sum := "defc1c559ce6a27b2b392fa7c9afec2fe95028b7691c8ea6ad393596d1f447e2", func := "loop.example/flitting/laws.FnGraphReach", spec := "fnGraphReach", unfollowed := true, recurses := true, apart := false }
def FnGraphReachSaid : Prop := fnGraphReachRow.holds Try.pinned (OpenSpec.ofChange fnGraphReachSpec)

/-- ITS FALSE NEIGHBOUR: 'it returns false'. Refute it at one input. -/
def fnGraphReachWrong : ChangeSpec := { name := "fnGraphReach", fn := fun _ => fun
  | [d] => { results := [.lit (.bool false)], args := [d] }
  | _ => none }
def FnGraphReachWrongFalsely : Prop := fnGraphReachRow.holds Try.pinned (OpenSpec.ofChange fnGraphReachWrong)

/-- 'laws.FnPathFrom': WHATEVER THE INPUT: true; the input reads as it did. -/
def fnPathFromSpec : ChangeSpec := { name := "fnPathFrom", fn := fun _ => fun
  | [d] => { results := [.lit (.bool true)], args := [d] }
  | _ => none }
def fnPathFromRow : OpenClaim := { program := "ytjlcdaggbpgpjaa", sum := "defc1c559ce6a27b2b392fa7c9afec2fe95028b7691c8ea6ad393596d1f447e2", func := "loop.example/flitting/laws.FnPathFrom", spec := "fnPathFrom", unfollowed := true, recurses := true, apart := false }
def FnPathFromSaid : Prop := fnPathFromRow.holds Try.pinned (OpenSpec.ofChange fnPathFromSpec)

/-- ITS FALSE NEIGHBOUR: 'it returns false'. Refute it at one input. -/
def fnPathFromWrong : ChangeSpec := { name := "fnPathFrom", fn := fun _ => fun
  | [d] => { results := [.lit (.bool false)], args := [d] }
  | _ => none }
def FnPathFromWrongFalsely : Prop := fnPathFromRow.holds Try.pinned (OpenSpec.ofChange fnPathFromWrong)

/-- 'laws.FnPathBegins': WHATEVER THE INPUT: true; the input reads as it did. -/
def fnPathBeginsSpec : ChangeSpec := { name := "fnPathBegins", fn := fun _ => fun
  | [d] => { results := [.lit (.bool true)], args := [d] }
  | _ => none }
def fnPathBeginsRow : OpenClaim := { program := "ytjlcdaggbpgpjaa", sum := "defc1c559ce6a27b2b392fa7c9afec2fe95028b7691c8ea6ad393596d1f447e2", func := "loop.example/flitting/laws.FnPathBegins", spec := "fnPathBegins", unfollowed := true, recurses := true, apart := false }
def FnPathBeginsSaid : Prop := fnPathBeginsRow.holds Try.pinned (OpenSpec.ofChange fnPathBeginsSpec)

/-- ITS FALSE NEIGHBOUR: 'it returns false'. Refute it at one input. -/
def fnPathBeginsWrong : ChangeSpec := { name := "fnPathBegins", fn := fun _ => fun
  | [d] => { results := [.lit (.bool false)], args := [d] }
  | _ => none }
def FnPathBeginsWrongFalsely : Prop := fnPathBeginsRow.holds Try.pinned (OpenSpec.ofChange fnPathBeginsWrong)

/-- 'laws.FnPathRings': WHATEVER THE INPUT: true; the input reads as it did. -/
def fnPathRingsSpec : ChangeSpec := { name := "fnPathRings", fn := fun _ => fun
  | [d] => { results := [.lit (.bool true)], args := [d] }
  | _ => none }
def fnPathRingsRow : OpenClaim := { program := "ytjlcdaggbpgpjaa", sum := "defc1c559ce6a27b2b392fa7c9afec2fe95028b7691c8ea6ad393596d1f447e2", func := "loop.example/flitting/laws.FnPathRings", spec := "fnPathRings", unfollowed := true, recurses := true, apart := false }
def FnPathRingsSaid : Prop := fnPathRingsRow.holds Try.pinned (OpenSpec.ofChange fnPathRingsSpec)

/-- ITS FALSE NEIGHBOUR: 'it returns false'. Refute it at one input. -/
def fnPathRingsWrong : ChangeSpec := { name := "fnPathRings", fn := fun _ => fun
  | [d] => { results := [.lit (.bool false)], args := [d] }
  | _ => none }
def FnPathRingsWrongFalsely : Prop := fnPathRingsRow.holds Try.pinned (OpenSpec.ofChange fnPathRingsWrong)

/-- 'laws.FnPathHolds': WHATEVER THE INPUT: true; the input reads as it did. -/
def fnPathHoldsSpec : ChangeSpec := { name := "fnPathHolds", fn := fun _ => fun
  | [d] => { results := [.lit (.bool true)], args := [d] }
  | _ => none }
def fnPathHoldsRow : OpenClaim := { program := "ytjlcdaggbpgpjaa", sum := "defc1c559ce6a27b2b392fa7c9afec2fe95028b7691c8ea6ad393596d1f447e2", func := "loop.example/flitting/laws.FnPathHolds", spec := "fnPathHolds", unfollowed := true, recurses := true, apart := false }
def FnPathHoldsSaid : Prop := fnPathHoldsRow.holds Try.pinned (OpenSpec.ofChange fnPathHoldsSpec)

/-- ITS FALSE NEIGHBOUR: 'it returns false'. Refute it at one input. -/
def fnPathHoldsWrong : ChangeSpec := { name := "fnPathHolds", fn := fun _ => fun
  | [d] => { results := [.lit (.bool false)], args := [d] }
  | _ => none }
def FnPathHoldsWrongFalsely : Prop := fnPathHoldsRow.holds Try.pinned (OpenSpec.ofChange fnPathHoldsWrong)

/-- 'laws.FnExactAllCount': WHATEVER THE INPUT: true; the input reads as it did. -/
def fnExactAllCountSpec : ChangeSpec := { name := "fnExactAllCount", fn := fun _ => fun
  | [d1, d2] => { results := [.lit (.bool true)], args := [d1, d2] }
  | _ => none }
def fnExactAllCountRow : OpenClaim := { program := "ytjlcdaggbpgpjaa", sum := "defc1c559ce6a27b2b392fa7c9afec2fe95028b7691c8ea6ad393596d1f447e2", func := "loop.example/flitting/laws.FnExactAllCount", spec := "fnExactAllCount", unfollowed := true, recurses := true, apart := false }
def FnExactAllCountSaid : Prop := fnExactAllCountRow.holds Try.pinned (OpenSpec.ofChange fnExactAllCountSpec)

/-- ITS FALSE NEIGHBOUR: 'it returns false'. Refute it at one input. -/
def fnExactAllCountWrong : ChangeSpec := { name := "fnExactAllCount", fn := fun _ => fun
  | [d1, d2] => { results := [.lit (.bool false)], args := [d1, d2] }
  | _ => none }
def FnExactAllCountWrongFalsely : Prop := fnExactAllCountRow.holds Try.pinned (OpenSpec.ofChange fnExactAllCountWrong)

/-- 'laws.FnExactGraphDo': WHATEVER THE INPUT: true; the input reads as it did. -/
def fnExactGraphDoSpec : ChangeSpec := { name := "fnExactGraphDo", fn := fun _ => fun
  | [d1, d2, d3] => { results := [.lit (.bool true)], args := [d1, d2, d3] }
  | _ => none }
def fnExactGraphDoRow : OpenClaim := { program := "ytjlcdaggbpgpjaa", sum := "defc1c559ce6a27b2b392fa7c9afec2fe95028b7691c8ea6ad393596d1f447e2", func := "loop.example/flitting/laws.FnExactGraphDo", spec := "fnExactGraphDo", unfollowed := true, recurses := true, apart := false }
def FnExactGraphDoSaid : Prop := fnExactGraphDoRow.holds Try.pinned (OpenSpec.ofChange fnExactGraphDoSpec)

/-- ITS FALSE NEIGHBOUR: 'it returns false'. Refute it at one input. -/
def fnExactGraphDoWrong : ChangeSpec := { name := "fnExactGraphDo", fn := fun _ => fun
  | [d1, d2, d3] => { results := [.lit (.bool false)], args := [d1, d2, d3] }
  | _ => none }
def FnExactGraphDoWrongFalsely : Prop := fnExactGraphDoRow.holds Try.pinned (OpenSpec.ofChange fnExactGraphDoWrong)

/-- 'laws.FnExactHistFits': WHATEVER THE INPUT: true; the input reads as it did. -/
def fnExactHistFitsSpec : ChangeSpec := { name := "fnExactHistFits", fn := fun _ => fun
  | [d1, d2, d3] => { results := [.lit (.bool true)], args := [d1, d2, d3] }
  | _ => none }
def fnExactHistFitsRow : OpenClaim := { program := "ytjlcdaggbpgpjaa", sum := "defc1c559ce6a27b2b392fa7c9afec2fe95028b7691c8ea6ad393596d1f447e2", func := "loop.example/flitting/laws.FnExactHistFits", spec := "fnExactHistFits", unfollowed := true, recurses := true, apart := false }
def FnExactHistFitsSaid : Prop := fnExactHistFitsRow.holds Try.pinned (OpenSpec.ofChange fnExactHistFitsSpec)

/-- ITS FALSE NEIGHBOUR: 'it returns false'. Refute it at one input. -/
def fnExactHistFitsWrong : ChangeSpec := { name := "fnExactHistFits", fn := fun _ => fun
  | [d1, d2, d3] => { results := [.lit (.bool false)], args := [d1, d2, d3] }
  | _ => none }
def FnExactHistFitsWrongFalsely : Prop := fnExactHistFitsRow.holds Try.pinned (OpenSpec.ofChange fnExactHistFitsWrong)

/- THE SECOND FORM. 'bulk': how many values and letters a reading holds, each counted each time it is reached (what is shared counts as often as it is met; a slice's spare places count too). A statement '..UptoSaid' is the law's where the arguments, and the package variables that the reading takes, are together of bulk at most 1048576: NARROWER than '..Said'. Prove '..Said' where nothing that the law and all that it calls make is longer than what came in: it says more and counts as full. Else prove '..UptoSaid'. A law counts once. -/
mutual
def uptoBulk {H : Type} : DataW H → Nat
  | .lit (.string bytes) => bytes.length + 1
  | .lit _ => 1
  | .nil => 1
  | .ptr d => uptoBulk d + 1
  | .slice elems spare => uptoBulkAll elems + uptoBulkAll spare + 1
  | .agg parts => uptoBulkAll parts + 1
  | .iface _ d => uptoBulk d + 1
  | .map entries => uptoBulkEntries entries + 1
  | .held _ => 1
def uptoBulkAll {H : Type} : List (DataW H) → Nat
  | [] => 0
  | d :: r => uptoBulk d + uptoBulkAll r
def uptoBulkEntries {H : Type} : List (Lit × DataW H) → Nat
  | [] => 0
  | x :: r => uptoBulkEntry x + uptoBulkEntries r
def uptoBulkEntry {H : Type} : Lit × DataW H → Nat
  | (.string bytes, d) => bytes.length + uptoBulk d + 1
  | (_, d) => uptoBulk d + 1
 end
def uptoSmall : (H : Type) → List (DataW H) → Bool := fun _ ds => decide (uptoBulkAll ds ≤ 1048576)
def OpenSpec.upto (s : _root_.Go.ChangeSpec) : _root_.Go.OpenSpec := { _root_.Go.OpenSpec.ofChange s with cond := some uptoSmall }

/-- 'laws.FnExactPathShared', WHERE WHAT IT READS IS OF BULK AT MOST 1048576: true; the input reads as it did. -/
def fnExactPathSharedUptoRow : OpenClaim := { program := "ytjlcdaggbpgpjaa", sum := "defc1c559ce6a27b2b392fa7c9afec2fe95028b7691c8ea6ad393596d1f447e2", func := "loop.example/flitting/laws.FnExactPathShared", spec := "fnExactPathShared", unfollowed := true, recurses := true, apart := false, narrowed := true }
def FnExactPathSharedUptoSaid : Prop := fnExactPathSharedUptoRow.holds Try.pinned (OpenSpec.upto fnExactPathSharedSpec)

/-- 'laws.FnExactGraphSame', WHERE WHAT IT READS IS OF BULK AT MOST 1048576: true; the input reads as it did. -/
def fnExactGraphSameUptoRow : OpenClaim := { program := "ytjlcdaggbpgpjaa", sum := "defc1c559ce6a27b2b392fa7c9afec2fe95028b7691c8ea6ad393596d1f447e2", func := "loop.example/flitting/laws.FnExactGraphSame", spec := "fnExactGraphSame", unfollowed := true, recurses := true, apart := false, narrowed := true }
def FnExactGraphSameUptoSaid : Prop := fnExactGraphSameUptoRow.holds Try.pinned (OpenSpec.upto fnExactGraphSameSpec)

/-- 'laws.FnExactPathHolds', WHERE WHAT IT READS IS OF BULK AT MOST 1048576: true; the input reads as it did. -/
def fnExactPathHoldsUptoRow : OpenClaim := { program := "ytjlcdaggbpgpjaa", sum := "defc1c559ce6a27b2b392fa7c9afec2fe95028b7691c8ea6ad393596d1f447e2", func := "loop.example/flitting/laws.FnExactPathHolds", spec := "fnExactPathHolds", unfollowed := true, recurses := true, apart := false, narrowed := true }
def FnExactPathHoldsUptoSaid : Prop := fnExactPathHoldsUptoRow.holds Try.pinned (OpenSpec.upto fnExactPathHoldsSpec)

/-- 'laws.FnExactGraphTrim', WHERE WHAT IT READS IS OF BULK AT MOST 1048576: true; the input reads as it did. -/
def fnExactGraphTrimUptoRow : OpenClaim := { program := "ytjlcdaggbpgpjaa", sum := "defc1c559ce6a27b2b392fa7c9afec2fe95028b7691c8ea6ad393596d1f447e2", func := "loop.example/flitting/laws.FnExactGraphTrim", spec := "fnExactGraphTrim", unfollowed := true, recurses := true, apart := false, narrowed := true }
def FnExactGraphTrimUptoSaid : Prop := fnExactGraphTrimUptoRow.holds Try.pinned (OpenSpec.upto fnExactGraphTrimSpec)

/-- 'laws.FnGraphReach', WHERE WHAT IT READS IS OF BULK AT MOST 1048576: true; the input reads as it did. -/
def fnGraphReachUptoRow : OpenClaim := { program := "ytjlcdaggbpgpjaa", sum := "defc1c559ce6a27b2b392fa7c9afec2fe95028b7691c8ea6ad393596d1f447e2", func := "loop.example/flitting/laws.FnGraphReach", spec := "fnGraphReach", unfollowed := true, recurses := true, apart := false, narrowed := true }
def FnGraphReachUptoSaid : Prop := fnGraphReachUptoRow.holds Try.pinned (OpenSpec.upto fnGraphReachSpec)

/-- 'laws.FnPathFrom', WHERE WHAT IT READS IS OF BULK AT MOST 1048576: true; the input reads as it did. -/
def fnPathFromUptoRow : OpenClaim := { program := "ytjlcdaggbpgpjaa", sum := "defc1c559ce6a27b2b392fa7c9afec2fe95028b7691c8ea6ad393596d1f447e2", func := "loop.example/flitting/laws.FnPathFrom", spec := "fnPathFrom", unfollowed := true, recurses := true, apart := false, narrowed := true }
def FnPathFromUptoSaid : Prop := fnPathFromUptoRow.holds Try.pinned (OpenSpec.upto fnPathFromSpec)

/-- 'laws.FnPathBegins', WHERE WHAT IT READS IS OF BULK AT MOST 1048576: true; the input reads as it did. -/
def fnPathBeginsUptoRow : OpenClaim := { program := "ytjlcdaggbpgpjaa", sum := "defc1c559ce6a27b2b392fa7c9afec2fe95028b7691c8ea6ad393596d1f447e2", func := "loop.example/flitting/laws.FnPathBegins", spec := "fnPathBegins", unfollowed := true, recurses := true, apart := false, narrowed := true }
def FnPathBeginsUptoSaid : Prop := fnPathBeginsUptoRow.holds Try.pinned (OpenSpec.upto fnPathBeginsSpec)

/-- 'laws.FnPathRings', WHERE WHAT IT READS IS OF BULK AT MOST 1048576: true; the input reads as it did. -/
def fnPathRingsUptoRow : OpenClaim := { program := "ytjlcdaggbpgpjaa", sum := "defc1c559ce6a27b2b392fa7c9afec2fe95028b7691c8ea6ad393596d1f447e2", func := "loop.example/flitting/laws.FnPathRings", spec := "fnPathRings", unfollowed := true, recurses := true, apart := false, narrowed := true }
def FnPathRingsUptoSaid : Prop := fnPathRingsUptoRow.holds Try.pinned (OpenSpec.upto fnPathRingsSpec)

/-- 'laws.FnPathHolds', WHERE WHAT IT READS IS OF BULK AT MOST 1048576: true; the input reads as it did. -/
def fnPathHoldsUptoRow : OpenClaim := { program := "ytjlcdaggbpgpjaa", sum := "defc1c559ce6a27b2b392fa7c9afec2fe95028b7691c8ea6ad393596d1f447e2", func := "loop.example/flitting/laws.FnPathHolds", spec := "fnPathHolds", unfollowed := true, recurses := true, apart := false, narrowed := true }
def FnPathHoldsUptoSaid : Prop := fnPathHoldsUptoRow.holds Try.pinned (OpenSpec.upto fnPathHoldsSpec)

/-- 'laws.FnExactAllCount', WHERE WHAT IT READS IS OF BULK AT MOST 1048576: true; the input reads as it did. -/
def fnExactAllCountUptoRow : OpenClaim := { program := "ytjlcdaggbpgpjaa", sum := "defc1c559ce6a27b2b392fa7c9afec2fe95028b7691c8ea6ad393596d1f447e2", func := "loop.example/flitting/laws.FnExactAllCount", spec := "fnExactAllCount", unfollowed := true, recurses := true, apart := false, narrowed := true }
def FnExactAllCountUptoSaid : Prop := fnExactAllCountUptoRow.holds Try.pinned (OpenSpec.upto fnExactAllCountSpec)

/-- 'laws.FnExactGraphDo', WHERE WHAT IT READS IS OF BULK AT MOST 1048576: true; the input reads as it did. -/
def fnExactGraphDoUptoRow : OpenClaim := { program := "ytjlcdaggbpgpjaa", sum := "defc1c559ce6a27b2b392fa7c9afec2fe95028b7691c8ea6ad393596d1f447e2", func := "loop.example/flitting/laws.FnExactGraphDo", spec := "fnExactGraphDo", unfollowed := true, recurses := true, apart := false, narrowed := true }
def FnExactGraphDoUptoSaid : Prop := fnExactGraphDoUptoRow.holds Try.pinned (OpenSpec.upto fnExactGraphDoSpec)

/-- 'laws.FnExactHistFits', WHERE WHAT IT READS IS OF BULK AT MOST 1048576: true; the input reads as it did. -/
def fnExactHistFitsUptoRow : OpenClaim := { program := "ytjlcdaggbpgpjaa", sum := "defc1c559ce6a27b2b392fa7c9afec2fe95028b7691c8ea6ad393596d1f447e2", func := "loop.example/flitting/laws.FnExactHistFits", spec := "fnExactHistFits", unfollowed := true, recurses := true, apart := false, narrowed := true }
def FnExactHistFitsUptoSaid : Prop := fnExactHistFitsUptoRow.holds Try.pinned (OpenSpec.upto fnExactHistFitsSpec)

end Rows
end Go.Proofs.Ytjlcdaggbpgpjaa

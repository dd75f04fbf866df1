/-
  No cell of these rows narrows 'for every input' (looked for: loops, veiled, ifaces, maps, wideKeys, modest, calm, conditions, laid).
  DERIVED. THE GIVEN ROWS OF THIS SEAT. 11 by the template 'for every input the law returns true; each argument reads behind the call as it read before'; 0 by the template 'total and deterministic' (their statements: YtohafbpiaflikaaTotals.lean).
  GIVEN WITH THE SEED: the statements are not yours to turn. If you find one false, say at which input.
  Laid BY PROGRAM, IN A SANDBOX (cutbox-rows.mjs): the forced cells as the released guide's own fill.sh prints them over the translation 928cf8b17196375c… (all of the seat's roots in one cut). By AI agents, Wed Nov 11 2026. No macro, syntax, notation, axiom, sorry.
-/
import Derived.Test.YtohafbpiaflikaaChecked
import GoSem.Claim
import GoSem.ClaimJoined
import GoSem.ClaimMapViews
import Derived.JoinedTies
import Derived.KernelRfl
namespace Go.Proofs.Ytohafbpiaflikaa
/- THE CELL 'sum', in the pinned program and in every row, IS THE sha256 OF THE DUMP (.gsa) THAT YtohafbpiaflikaaProg.lean LOADS. Nothing in Lean hashes anything: it is a label: what it is worth is what the hold of that sum in a sandbox is worth. -/
noncomputable def Try.pinned : Pinned := { name := "ytohafbpiaflikaa", sum := "928cf8b17196375cc7c7da67c8442b6981622f22e86cf5741141a87f8e340aab", checked := Try.checked }
namespace Rows
def none {H : Type} : Left H := { results := [], args := [] }

/-- 'laws.FnExactTableChoose': WHATEVER THE INPUT: true; the input reads as it did. -/
def fnExactTableChooseSpec : ChangeSpec := { name := "fnExactTableChoose", fn := fun _ => fun
  | [d1, d2, d3] => { results := [.lit (.bool true)], args := [d1, d2, d3] }
  | _ => none }
def fnExactTableChooseRow : OpenClaim := { program := "ytohafbpiaflikaa", sum := "928cf8b17196375cc7c7da67c8442b6981622f22e86cf5741141a87f8e340aab", func := "loop.example/flitting/laws.FnExactTableChoose", spec := "fnExactTableChoose", unfollowed := true, recurses := true, apart := false }
def FnExactTableChooseSaid : Prop := fnExactTableChooseRow.holds Try.pinned (OpenSpec.ofChange fnExactTableChooseSpec)

/-- ITS FALSE NEIGHBOUR: 'it returns false'. Refute it at one input. -/
def fnExactTableChooseWrong : ChangeSpec := { name := "fnExactTableChoose", fn := fun _ => fun
  | [d1, d2, d3] => { results := [.lit (.bool false)], args := [d1, d2, d3] }
  | _ => none }
def FnExactTableChooseWrongFalsely : Prop := fnExactTableChooseRow.holds Try.pinned (OpenSpec.ofChange fnExactTableChooseWrong)

/-- 'laws.FnExactStateNew': WHATEVER THE INPUT: true; the input reads as it did. -/
def fnExactStateNewSpec : ChangeSpec := { name := "fnExactStateNew", fn := fun _ => fun
  | [d] => { results := [.lit (.bool true)], args := [d] }
  | _ => none }
def fnExactStateNewRow : OpenClaim := { program := "ytohafbpiaflikaa", sum := "928cf8b17196375cc7c7da67c8442b6981622f22e86cf5741141a87f8e340aab", func := "loop.example/flitting/laws.FnExactStateNew", spec := "fnExactStateNew", apart := false }
def FnExactStateNewSaid : Prop := fnExactStateNewRow.holds Try.pinned (OpenSpec.ofChange fnExactStateNewSpec)

/-- ITS FALSE NEIGHBOUR: 'it returns false'. Refute it at one input. -/
def fnExactStateNewWrong : ChangeSpec := { name := "fnExactStateNew", fn := fun _ => fun
  | [d] => { results := [.lit (.bool false)], args := [d] }
  | _ => none }
def FnExactStateNewWrongFalsely : Prop := fnExactStateNewRow.holds Try.pinned (OpenSpec.ofChange fnExactStateNewWrong)

/-- 'laws.FnExactAuditWhole': WHATEVER THE INPUT: true; the input reads as it did. -/
def fnExactAuditWholeSpec : ChangeSpec := { name := "fnExactAuditWhole", fn := fun _ => fun
  | [d] => { results := [.lit (.bool true)], args := [d] }
  | _ => none }
def fnExactAuditWholeRow : OpenClaim := { program := "ytohafbpiaflikaa", sum := "928cf8b17196375cc7c7da67c8442b6981622f22e86cf5741141a87f8e340aab", func := "loop.example/flitting/laws.FnExactAuditWhole", spec := "fnExactAuditWhole", apart := false }
def FnExactAuditWholeSaid : Prop := fnExactAuditWholeRow.holds Try.pinned (OpenSpec.ofChange fnExactAuditWholeSpec)

/-- ITS FALSE NEIGHBOUR: 'it returns false'. Refute it at one input. -/
def fnExactAuditWholeWrong : ChangeSpec := { name := "fnExactAuditWhole", fn := fun _ => fun
  | [d] => { results := [.lit (.bool false)], args := [d] }
  | _ => none }
def FnExactAuditWholeWrongFalsely : Prop := fnExactAuditWholeRow.holds Try.pinned (OpenSpec.ofChange fnExactAuditWholeWrong)

/-- 'laws.FnExactAuditMoved': WHATEVER THE INPUT: true; the input reads as it did. -/
def fnExactAuditMovedSpec : ChangeSpec := { name := "fnExactAuditMoved", fn := fun _ => fun
  | [d] => { results := [.lit (.bool true)], args := [d] }
  | _ => none }
def fnExactAuditMovedRow : OpenClaim := { program := "ytohafbpiaflikaa", sum := "928cf8b17196375cc7c7da67c8442b6981622f22e86cf5741141a87f8e340aab", func := "loop.example/flitting/laws.FnExactAuditMoved", spec := "fnExactAuditMoved", apart := false }
def FnExactAuditMovedSaid : Prop := fnExactAuditMovedRow.holds Try.pinned (OpenSpec.ofChange fnExactAuditMovedSpec)

/-- ITS FALSE NEIGHBOUR: 'it returns false'. Refute it at one input. -/
def fnExactAuditMovedWrong : ChangeSpec := { name := "fnExactAuditMoved", fn := fun _ => fun
  | [d] => { results := [.lit (.bool false)], args := [d] }
  | _ => none }
def FnExactAuditMovedWrongFalsely : Prop := fnExactAuditMovedRow.holds Try.pinned (OpenSpec.ofChange fnExactAuditMovedWrong)

/-- 'laws.FnExactAuditLeads': WHATEVER THE INPUT: true; the input reads as it did. -/
def fnExactAuditLeadsSpec : ChangeSpec := { name := "fnExactAuditLeads", fn := fun _ => fun
  | [d] => { results := [.lit (.bool true)], args := [d] }
  | _ => none }
def fnExactAuditLeadsRow : OpenClaim := { program := "ytohafbpiaflikaa", sum := "928cf8b17196375cc7c7da67c8442b6981622f22e86cf5741141a87f8e340aab", func := "loop.example/flitting/laws.FnExactAuditLeads", spec := "fnExactAuditLeads", apart := false }
def FnExactAuditLeadsSaid : Prop := fnExactAuditLeadsRow.holds Try.pinned (OpenSpec.ofChange fnExactAuditLeadsSpec)

/-- ITS FALSE NEIGHBOUR: 'it returns false'. Refute it at one input. -/
def fnExactAuditLeadsWrong : ChangeSpec := { name := "fnExactAuditLeads", fn := fun _ => fun
  | [d] => { results := [.lit (.bool false)], args := [d] }
  | _ => none }
def FnExactAuditLeadsWrongFalsely : Prop := fnExactAuditLeadsRow.holds Try.pinned (OpenSpec.ofChange fnExactAuditLeadsWrong)

/-- 'laws.FnExactStateOk': WHATEVER THE INPUT: true; the input reads as it did. -/
def fnExactStateOkSpec : ChangeSpec := { name := "fnExactStateOk", fn := fun _ => fun
  | [d] => { results := [.lit (.bool true)], args := [d] }
  | _ => none }
def fnExactStateOkRow : OpenClaim := { program := "ytohafbpiaflikaa", sum := "928cf8b17196375cc7c7da67c8442b6981622f22e86cf5741141a87f8e340aab", func := "loop.example/flitting/laws.FnExactStateOk", spec := "fnExactStateOk", unfollowed := true, recurses := true, apart := false }
def FnExactStateOkSaid : Prop := fnExactStateOkRow.holds Try.pinned (OpenSpec.ofChange fnExactStateOkSpec)

/-- ITS FALSE NEIGHBOUR: 'it returns false'. Refute it at one input. -/
def fnExactStateOkWrong : ChangeSpec := { name := "fnExactStateOk", fn := fun _ => fun
  | [d] => { results := [.lit (.bool false)], args := [d] }
  | _ => none }
def FnExactStateOkWrongFalsely : Prop := fnExactStateOkRow.holds Try.pinned (OpenSpec.ofChange fnExactStateOkWrong)

/-- 'laws.FnExactStateUsed': WHATEVER THE INPUT: true; the input reads as it did. -/
def fnExactStateUsedSpec : ChangeSpec := { name := "fnExactStateUsed", fn := fun _ => fun
  | [d] => { results := [.lit (.bool true)], args := [d] }
  | _ => none }
def fnExactStateUsedRow : OpenClaim := { program := "ytohafbpiaflikaa", sum := "928cf8b17196375cc7c7da67c8442b6981622f22e86cf5741141a87f8e340aab", func := "loop.example/flitting/laws.FnExactStateUsed", spec := "fnExactStateUsed", unfollowed := true, recurses := true, apart := false }
def FnExactStateUsedSaid : Prop := fnExactStateUsedRow.holds Try.pinned (OpenSpec.ofChange fnExactStateUsedSpec)

/-- ITS FALSE NEIGHBOUR: 'it returns false'. Refute it at one input. -/
def fnExactStateUsedWrong : ChangeSpec := { name := "fnExactStateUsed", fn := fun _ => fun
  | [d] => { results := [.lit (.bool false)], args := [d] }
  | _ => none }
def FnExactStateUsedWrongFalsely : Prop := fnExactStateUsedRow.holds Try.pinned (OpenSpec.ofChange fnExactStateUsedWrong)

/-- 'laws.FnExactAuditMarked': WHATEVER THE INPUT: true; the input reads as it did. -/
def fnExactAuditMarkedSpec : ChangeSpec := { name := "fnExactAuditMarked", fn := fun _ => fun
  | [d] => { results := [.lit (.bool true)], args := [d] }
  | _ => none }
def fnExactAuditMarkedRow : OpenClaim := { program := "ytohafbpiaflikaa", sum := "928cf8b17196375cc7c7da67c8442b6981622f22e86cf5741141a87f8e340aab", func := "loop.example/flitting/laws.FnExactAuditMarked", spec := "fnExactAuditMarked", unfollowed := true, recurses := true, apart := false }
def FnExactAuditMarkedSaid : Prop := fnExactAuditMarkedRow.holds Try.pinned (OpenSpec.ofChange fnExactAuditMarkedSpec)

/-- ITS FALSE NEIGHBOUR: 'it returns false'. Refute it at one input. -/
def fnExactAuditMarkedWrong : ChangeSpec := { name := "fnExactAuditMarked", fn := fun _ => fun
  | [d] => { results := [.lit (.bool false)], args := [d] }
  | _ => none }
def FnExactAuditMarkedWrongFalsely : Prop := fnExactAuditMarkedRow.holds Try.pinned (OpenSpec.ofChange fnExactAuditMarkedWrong)

/-- 'laws.FnExactAuditWords': WHATEVER THE INPUT: true; the input reads as it did. -/
def fnExactAuditWordsSpec : ChangeSpec := { name := "fnExactAuditWords", fn := fun _ => fun
  | [d] => { results := [.lit (.bool true)], args := [d] }
  | _ => none }
def fnExactAuditWordsRow : OpenClaim := { program := "ytohafbpiaflikaa", sum := "928cf8b17196375cc7c7da67c8442b6981622f22e86cf5741141a87f8e340aab", func := "loop.example/flitting/laws.FnExactAuditWords", spec := "fnExactAuditWords", unfollowed := true, recurses := true, apart := false }
def FnExactAuditWordsSaid : Prop := fnExactAuditWordsRow.holds Try.pinned (OpenSpec.ofChange fnExactAuditWordsSpec)

/-- ITS FALSE NEIGHBOUR: 'it returns false'. Refute it at one input. -/
def fnExactAuditWordsWrong : ChangeSpec := { name := "fnExactAuditWords", fn := fun _ => fun
  | [d] => { results := [.lit (.bool false)], args := [d] }
  | _ => none }
def FnExactAuditWordsWrongFalsely : Prop := fnExactAuditWordsRow.holds Try.pinned (OpenSpec.ofChange fnExactAuditWordsWrong)

/-- 'laws.FnExactMarkReach': WHATEVER THE INPUT: true; the input reads as it did. -/
def fnExactMarkReachSpec : ChangeSpec := { name := "fnExactMarkReach", fn := fun _ => fun
  | [d] => { results := [.lit (.bool true)], args := [d] }
  | _ => none }
def fnExactMarkReachRow : OpenClaim := { program := "ytohafbpiaflikaa", sum := "928cf8b17196375cc7c7da67c8442b6981622f22e86cf5741141a87f8e340aab", func := "loop.example/flitting/laws.FnExactMarkReach", spec := "fnExactMarkReach", unfollowed := true, recurses := true, apart := false }
def FnExactMarkReachSaid : Prop := fnExactMarkReachRow.holds Try.pinned (OpenSpec.ofChange fnExactMarkReachSpec)

/-- ITS FALSE NEIGHBOUR: 'it returns false'. Refute it at one input. -/
def fnExactMarkReachWrong : ChangeSpec := { name := "fnExactMarkReach", fn := fun _ => fun
  | [d] => { results := [.lit (.bool false)], args := [d] }
  | _ => none }
def FnExactMarkReachWrongFalsely : Prop := fnExactMarkReachRow.holds Try.pinned (OpenSpec.ofChange fnExactMarkReachWrong)

/-- 'laws.FnExactFullLive': WHATEVER THE INPUT: true; the input reads as it did. -/
def fnExactFullLiveSpec : ChangeSpec := { name := "fnExactFullLive", fn := fun _ => fun
  | [d] => { results := [.lit (.bool true)], args := [d] }
  | _ => none }
def fnExactFullLiveRow : OpenClaim := { program := "ytohafbpiaflikaa", sum := "928cf8b17196375cc7c7da67c8442b6981622f22e86cf5741141a87f8e340aab", func := "loop.example/flitting/laws.FnExactFullLive", spec := "fnExactFullLive", unfollowed := true, recurses := true, apart := false }
def FnExactFullLiveSaid : Prop := fnExactFullLiveRow.holds Try.pinned (OpenSpec.ofChange fnExactFullLiveSpec)

/-- ITS FALSE NEIGHBOUR: 'it returns false'. Refute it at one input. -/
def fnExactFullLiveWrong : ChangeSpec := { name := "fnExactFullLive", fn := fun _ => fun
  | [d] => { results := [.lit (.bool false)], args := [d] }
  | _ => none }
def FnExactFullLiveWrongFalsely : Prop := fnExactFullLiveRow.holds Try.pinned (OpenSpec.ofChange fnExactFullLiveWrong)

/- THE SECOND FORM. 'bulk': how many values and letters a reading holds, each counted each time it is reached (what is shared counts as often as it is met; a slice's spare places count too). A statement '..UptoSaid' is the law's where the arguments, and the package variables that the reading takes, are together of bulk at most 1048576: NARROWER than '..Said'. Prove '..Said' where nothing that the law and all that it calls make is longer than what came in: it says more and counts as full. Else prove '..UptoSaid'. A law counts once. -/
mutual
def uptoBulk {H : Type} : DataW H → Nat
  | .lit (.string bytes) => bytes.length + 1
  | .lit _ => 1
  | .nil => 1
  | .ptr d => uptoBulk d + 1
  | .slice elems spare => uptoBulkAll elems + uptoBulkAll spare + 1
  | .agg parts => uptoBulkAll parts + 1
  | .iface _ d => uptoBulk d + 1
  | .map entries => uptoBulkEntries entries + 1
  | .held _ => 1
def uptoBulkAll {H : Type} : List (DataW H) → Nat
  | [] => 0
  | d :: r => uptoBulk d + uptoBulkAll r
def uptoBulkEntries {H : Type} : List (Lit × DataW H) → Nat
  | [] => 0
  | x :: r => uptoBulkEntry x + uptoBulkEntries r
def uptoBulkEntry {H : Type} : Lit × DataW H → Nat
  | (.string bytes, d) => bytes.length + uptoBulk d + 1
  | (_, d) => uptoBulk d + 1
 end
def uptoSmall : (H : Type) → List (DataW H) → Bool := fun _ ds => decide (uptoBulkAll ds ≤ 1048576)
def OpenSpec.upto (s : _root_.Go.ChangeSpec) : _root_.Go.OpenSpec := { _root_.Go.OpenSpec.ofChange s with cond := some uptoSmall }

/-- 'laws.FnExactTableChoose', WHERE WHAT IT READS IS OF BULK AT MOST 1048576: true; the input reads as it did. -/
def fnExactTableChooseUptoRow : OpenClaim := { program := "ytohafbpiaflikaa", sum := "928cf8b17196375cc7c7da67c8442b6981622f22e86cf5741141a87f8e340aab", func := "loop.example/flitting/laws.FnExactTableChoose", spec := "fnExactTableChoose", unfollowed := true, recurses := true, apart := false, narrowed := true }
def FnExactTableChooseUptoSaid : Prop := fnExactTableChooseUptoRow.holds Try.pinned (OpenSpec.upto fnExactTableChooseSpec)

/-- 'laws.FnExactStateNew', WHERE WHAT IT READS IS OF BULK AT MOST 1048576: true; the input reads as it did. -/
def fnExactStateNewUptoRow : OpenClaim := { program := "ytohafbpiaflikaa", sum := "928cf8b17196375cc7c7da67c8442b6981622f22e86cf5741141a87f8e340aab", func := "loop.example/flitting/laws.FnExactStateNew", spec := "fnExactStateNew", apart := false, narrowed := true }
def FnExactStateNewUptoSaid : Prop := fnExactStateNewUptoRow.holds Try.pinned (OpenSpec.upto fnExactStateNewSpec)

/-- 'laws.FnExactAuditWhole', WHERE WHAT IT READS IS OF BULK AT MOST 1048576: true; the input reads as it did. -/
def fnExactAuditWholeUptoRow : OpenClaim := { program := "ytohafbpiaflikaa", sum := "928cf8b17196375cc7c7da67c8442b6981622f22e86cf5741141a87f8e340aab", func := "loop.example/flitting/laws.FnExactAuditWhole", spec := "fnExactAuditWhole", apart := false, narrowed := true }
def FnExactAuditWholeUptoSaid : Prop := fnExactAuditWholeUptoRow.holds Try.pinned (OpenSpec.upto fnExactAuditWholeSpec)

/-- 'laws.FnExactAuditMoved', WHERE WHAT IT READS IS OF BULK AT MOST 1048576: true; the input reads as it did. -/
def fnExactAuditMovedUptoRow : OpenClaim := { program := "ytohafbpiaflikaa", sum := "928cf8b17196375cc7c7da67c8442b6981622f22e86cf5741141a87f8e340aab", func := "loop.example/flitting/laws.FnExactAuditMoved", spec := "fnExactAuditMoved", apart := false, narrowed := true }
def FnExactAuditMovedUptoSaid : Prop := fnExactAuditMovedUptoRow.holds Try.pinned (OpenSpec.upto fnExactAuditMovedSpec)

/-- 'laws.FnExactAuditLeads', WHERE WHAT IT READS IS OF BULK AT MOST 1048576: true; the input reads as it did. -/
def fnExactAuditLeadsUptoRow : OpenClaim := { program := "ytohafbpiaflikaa", sum := "928cf8b17196375cc7c7da67c8442b6981622f22e86cf5741141a87f8e340aab", func := "loop.example/flitting/laws.FnExactAuditLeads", spec := "fnExactAuditLeads", apart := false, narrowed := true }
def FnExactAuditLeadsUptoSaid : Prop := fnExactAuditLeadsUptoRow.holds Try.pinned (OpenSpec.upto fnExactAuditLeadsSpec)

/-- 'laws.FnExactStateOk', WHERE WHAT IT READS IS OF BULK AT MOST 1048576: true; the input reads as it did. -/
def fnExactStateOkUptoRow : OpenClaim := { program := "ytohafbpiaflikaa", sum := "928cf8b17196375cc7c7da67c8442b6981622f22e86cf5741141a87f8e340aab", func := "loop.example/flitting/laws.FnExactStateOk", spec := "fnExactStateOk", unfollowed := true, recurses := true, apart := false, narrowed := true }
def FnExactStateOkUptoSaid : Prop := fnExactStateOkUptoRow.holds Try.pinned (OpenSpec.upto fnExactStateOkSpec)

/-- 'laws.FnExactStateUsed', WHERE WHAT IT READS IS OF BULK AT MOST 1048576: true; the input reads as it did. -/
def fnExactStateUsedUptoRow : OpenClaim := { program := "ytohafbpiaflikaa", sum := "928cf8b17196375cc7c7da67c8442b6981622f22e86cf5741141a87f8e340aab", func := "loop.example/flitting/laws.FnExactStateUsed", spec := "fnExactStateUsed", unfollowed := true, recurses := true, apart := false, narrowed := true }
def FnExactStateUsedUptoSaid : Prop := fnExactStateUsedUptoRow.holds Try.pinned (OpenSpec.upto fnExactStateUsedSpec)

/-- 'laws.FnExactAuditMarked', WHERE WHAT IT READS IS OF BULK AT MOST 1048576: true; the input reads as it did. -/
def fnExactAuditMarkedUptoRow : OpenClaim := { program := "ytohafbpiaflikaa", sum := "928cf8b17196375cc7c7da67c8442b6981622f22e86cf5741141a87f8e340aab", func := "loop.example/flitting/laws.FnExactAuditMarked", spec := "fnExactAuditMarked", unfollowed := true, recurses := true, apart := false, narrowed := true }
def FnExactAuditMarkedUptoSaid : Prop := fnExactAuditMarkedUptoRow.holds Try.pinned (OpenSpec.upto fnExactAuditMarkedSpec)

/-- 'laws.FnExactAuditWords', WHERE WHAT IT READS IS OF BULK AT MOST 1048576: true; the input reads as it did. -/
def fnExactAuditWordsUptoRow : OpenClaim := { program := "ytohafbpiaflikaa", sum := "928cf8b17196375cc7c7da67c8442b6981622f22e86cf5741141a87f8e340aab", func := "loop.example/flitting/laws.FnExactAuditWords", spec := "fnExactAuditWords", unfollowed := true, recurses := true, apart := false, narrowed := true }
def FnExactAuditWordsUptoSaid : Prop := fnExactAuditWordsUptoRow.holds Try.pinned (OpenSpec.upto fnExactAuditWordsSpec)

/-- 'laws.FnExactMarkReach', WHERE WHAT IT READS IS OF BULK AT MOST 1048576: true; the input reads as it did. -/
def fnExactMarkReachUptoRow : OpenClaim := { program := "ytohafbpiaflikaa", sum := "928cf8b17196375cc7c7da67c8442b6981622f22e86cf5741141a87f8e340aab", func := "loop.example/flitting/laws.FnExactMarkReach", spec := "fnExactMarkReach", unfollowed := true, recurses := true, apart := false, narrowed := true }
def FnExactMarkReachUptoSaid : Prop := fnExactMarkReachUptoRow.holds Try.pinned (OpenSpec.upto fnExactMarkReachSpec)

/-- 'laws.FnExactFullLive', WHERE WHAT IT READS IS OF BULK AT MOST 1048576: true; the input reads as it did. -/
def fnExactFullLiveUptoRow : OpenClaim := { program := "ytohafbpiaflikaa", sum := "928cf8b17196375cc7c7da67c8442b6981622f22e86cf5741141a87f8e340aab", func := "loop.example/flitting/laws.FnExactFullLive", spec := "fnExactFullLive", unfollowed := true, recurses := true, apart := false, narrowed := true }
def FnExactFullLiveUptoSaid : Prop := fnExactFullLiveUptoRow.holds Try.pinned (OpenSpec.upto fnExactFullLiveSpec)

end Rows
end Go.Proofs.Ytohafbpiaflikaa

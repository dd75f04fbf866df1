/-
  DERIVED. GIVEN WITH THE SEED: THE CARDS: each row of YtemafmecjmgafaaDoorRows.lean that lists a variable, with what it lists TIED to the program's text (the seventh form; the later family's looks); each row that meets fmt, with fmt's text TOLD by the authors' own Lean function (tested against real Go, not proved from fmt's source: count such statements apart). THE CARD IS WHAT COUNTS. Prove the row's statement (the work); the ties are given (YtemafmecjmgafaaDoorTie.lean); close each card by the builder's one call (the guide's Derived/Test/ToyasCard.lean, 'card_holds'). Laid BY PROGRAM, IN A SANDBOX (cutbox-door.mjs). By AI agents, Wed Nov 11 2026. No macro, syntax, notation, axiom, sorry.
-/
import Derived.Test.YtemafmecjmgafaaDoorRows
import GoSem.ClaimSeven
namespace Go.Proofs.YtemafmecjmgafaaDoor
namespace Rows

/-- THE TIED CARD OF 'laws.FnExactProgText'. -/
def fnExactProgTextCard : Claim7 := { stood := { row := fnExactProgTextRow, standIns := [], harness := (true, "d614d40096d44171062d294eadd95ed203e38bf8bb7cb4546ec1e93c0f8f4605"), looks := true }, kinds := [], alts := [], laidByText := true, laidKinds := [.data, .data, .data], laidTests := true, laidLooks := .later }
def FnExactProgTextCardSaid : Prop := Claim7.holds Tryd.pinned (.plain (OpenSpec.ofChange fnExactProgTextSpec)) fnExactProgTextCard

/-- THE TIED CARD OF 'laws.FnProgJoin'. -/
def fnProgJoinCard : Claim7 := { stood := { row := fnProgJoinRow, standIns := [], harness := (true, "d614d40096d44171062d294eadd95ed203e38bf8bb7cb4546ec1e93c0f8f4605"), looks := true }, kinds := [], alts := [], laidByText := true, laidKinds := [.data, .data, .data], laidTests := true, laidLooks := .later }
def FnProgJoinCardSaid : Prop := Claim7.holds Tryd.pinned (.plain (OpenSpec.ofChange fnProgJoinSpec)) fnProgJoinCard

/-- THE TIED CARD OF 'laws.FnExactOpRead'. -/
def fnExactOpReadCard : Claim7 := { stood := { row := fnExactOpReadRow, standIns := [], harness := (true, "d614d40096d44171062d294eadd95ed203e38bf8bb7cb4546ec1e93c0f8f4605"), looks := true }, kinds := [], alts := [], laidByText := true, laidKinds := [.data, .data, .data, .data, .sentinel, .sentinel, .pinned], laidTests := true, laidLooks := .later }
def FnExactOpReadCardSaid : Prop := Claim7.holds Tryd.pinned (.plain (OpenSpec.ofChange fnExactOpReadSpec)) fnExactOpReadCard

/-- THE TIED CARD OF 'laws.FnExactProgRead'. -/
def fnExactProgReadCard : Claim7 := { stood := { row := fnExactProgReadRow, standIns := [], harness := (true, "d614d40096d44171062d294eadd95ed203e38bf8bb7cb4546ec1e93c0f8f4605"), looks := true }, kinds := [], alts := [], laidByText := true, laidKinds := [.data, .data, .data, .data, .sentinel, .sentinel, .pinned], laidTests := true, laidLooks := .later }
def FnExactProgReadCardSaid : Prop := Claim7.holds Tryd.pinned (.plain (OpenSpec.ofChange fnExactProgReadSpec)) fnExactProgReadCard

/-- THE TIED CARD OF 'laws.FnExactPicksRead'. -/
def fnExactPicksReadCard : Claim7 := { stood := { row := fnExactPicksReadRow, standIns := [], harness := (true, "d614d40096d44171062d294eadd95ed203e38bf8bb7cb4546ec1e93c0f8f4605"), looks := true }, kinds := [], alts := [], laidByText := true, laidKinds := [.data, .data, .data, .data, .sentinel, .sentinel, .pinned], laidTests := true, laidLooks := .later }
def FnExactPicksReadCardSaid : Prop := Claim7.holds Tryd.pinned (.plain (OpenSpec.ofChange fnExactPicksReadSpec)) fnExactPicksReadCard

/-- THE TIED CARD OF 'laws.FnPicksRuns'. -/
def fnPicksRunsCard : Claim7 := { stood := { row := fnPicksRunsRow, standIns := [], harness := (true, "d614d40096d44171062d294eadd95ed203e38bf8bb7cb4546ec1e93c0f8f4605"), looks := true }, kinds := [], alts := [], laidByText := true, laidKinds := [.data, .data, .data, .data, .sentinel, .sentinel, .pinned], laidTests := true, laidLooks := .later }
def FnPicksRunsCardSaid : Prop := Claim7.holds Tryd.pinned (.plain (OpenSpec.ofChange fnPicksRunsSpec)) fnPicksRunsCard

/-- THE SECOND FORM's CARD OF 'laws.FnExactProgText'. -/
def fnExactProgTextUptoCard : Claim7 := { stood := { row := fnExactProgTextUptoRow, standIns := [], harness := (true, "d614d40096d44171062d294eadd95ed203e38bf8bb7cb4546ec1e93c0f8f4605"), looks := true }, kinds := [], alts := [], laidByText := true, laidKinds := [.data, .data, .data], laidTests := true, laidLooks := .later }
def FnExactProgTextUptoCardSaid : Prop := Claim7.holds Tryd.pinned (.plain (OpenSpec.upto fnExactProgTextSpec)) fnExactProgTextUptoCard

/-- THE SECOND FORM's CARD OF 'laws.FnProgJoin'. -/
def fnProgJoinUptoCard : Claim7 := { stood := { row := fnProgJoinUptoRow, standIns := [], harness := (true, "d614d40096d44171062d294eadd95ed203e38bf8bb7cb4546ec1e93c0f8f4605"), looks := true }, kinds := [], alts := [], laidByText := true, laidKinds := [.data, .data, .data], laidTests := true, laidLooks := .later }
def FnProgJoinUptoCardSaid : Prop := Claim7.holds Tryd.pinned (.plain (OpenSpec.upto fnProgJoinSpec)) fnProgJoinUptoCard

/-- THE SECOND FORM's CARD OF 'laws.FnExactOpRead'. -/
def fnExactOpReadUptoCard : Claim7 := { stood := { row := fnExactOpReadUptoRow, standIns := [], harness := (true, "d614d40096d44171062d294eadd95ed203e38bf8bb7cb4546ec1e93c0f8f4605"), looks := true }, kinds := [], alts := [], laidByText := true, laidKinds := [.data, .data, .data, .data, .sentinel, .sentinel, .pinned], laidTests := true, laidLooks := .later }
def FnExactOpReadUptoCardSaid : Prop := Claim7.holds Tryd.pinned (.plain (OpenSpec.upto fnExactOpReadSpec)) fnExactOpReadUptoCard

/-- THE SECOND FORM's CARD OF 'laws.FnExactProgRead'. -/
def fnExactProgReadUptoCard : Claim7 := { stood := { row := fnExactProgReadUptoRow, standIns := [], harness := (true, "d614d40096d44171062d294eadd95ed203e38bf8bb7cb4546ec1e93c0f8f4605"), looks := true }, kinds := [], alts := [], laidByText := true, laidKinds := [.data, .data, .data, .data, .sentinel, .sentinel, .pinned], laidTests := true, laidLooks := .later }
def FnExactProgReadUptoCardSaid : Prop := Claim7.holds Tryd.pinned (.plain (OpenSpec.upto fnExactProgReadSpec)) fnExactProgReadUptoCard

/-- THE SECOND FORM's CARD OF 'laws.FnExactPicksRead'. -/
def fnExactPicksReadUptoCard : Claim7 := { stood := { row := fnExactPicksReadUptoRow, standIns := [], harness := (true, "d614d40096d44171062d294eadd95ed203e38bf8bb7cb4546ec1e93c0f8f4605"), looks := true }, kinds := [], alts := [], laidByText := true, laidKinds := [.data, .data, .data, .data, .sentinel, .sentinel, .pinned], laidTests := true, laidLooks := .later }
def FnExactPicksReadUptoCardSaid : Prop := Claim7.holds Tryd.pinned (.plain (OpenSpec.upto fnExactPicksReadSpec)) fnExactPicksReadUptoCard

/-- THE SECOND FORM's CARD OF 'laws.FnPicksRuns'. -/
def fnPicksRunsUptoCard : Claim7 := { stood := { row := fnPicksRunsUptoRow, standIns := [], harness := (true, "d614d40096d44171062d294eadd95ed203e38bf8bb7cb4546ec1e93c0f8f4605"), looks := true }, kinds := [], alts := [], laidByText := true, laidKinds := [.data, .data, .data, .data, .sentinel, .sentinel, .pinned], laidTests := true, laidLooks := .later }
def FnPicksRunsUptoCardSaid : Prop := Claim7.holds Tryd.pinned (.plain (OpenSpec.upto fnPicksRunsSpec)) fnPicksRunsUptoCard
end Rows
end Go.Proofs.YtemafmecjmgafaaDoor

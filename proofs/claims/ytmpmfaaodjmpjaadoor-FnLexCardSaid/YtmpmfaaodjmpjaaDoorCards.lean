/-
  DERIVED. GIVEN WITH THE SEED: THE CARDS: each row of YtmpmfaaodjmpjaaDoorRows.lean that lists a variable, with what it lists TIED to the program's text (the seventh form; the later family's looks); each row that meets fmt, with fmt's text TOLD by the authors' own Lean function (tested against real Go, not proved from fmt's source: count such statements apart). THE CARD IS WHAT COUNTS. Prove the row's statement (the work); the ties are given (YtmpmfaaodjmpjaaDoorTie.lean); close each card by the builder's one call (the guide's Derived/Test/ToyasCard.lean, 'card_holds'). Laid BY PROGRAM, IN A SANDBOX (cutbox-door.mjs). By AI agents, Wed Nov 11 2026. No macro, syntax, notation, axiom, sorry.
-/
import Derived.Test.YtmpmfaaodjmpjaaDoorRows
import GoSem.ClaimSeven
namespace Go.Proofs.YtmpmfaaodjmpjaaDoor
namespace Rows

/-- THE TIED CARD OF 'laws.FnExactDropFile'. -/
def fnExactDropFileCard : Claim7 := { stood := { row := fnExactDropFileRow, standIns := [], harness := (true, "d7b4837e76b9b089eb8e8db53ef4ec9f2b2bce7cdb64466ba76ef66faa6bca34"), looks := true }, kinds := [], alts := [], laidByText := true, laidKinds := [.data, .pinned], laidTests := true, laidLooks := .later }
def FnExactDropFileCardSaid : Prop := Claim7.holds Tryd.pinned (.plain (OpenSpec.ofChange fnExactDropFileSpec)) fnExactDropFileCard

/-- THE TIED CARD OF 'laws.FnExactCandidates'. -/
def fnExactCandidatesCard : Claim7 := { stood := { row := fnExactCandidatesRow, standIns := [], harness := (true, "d7b4837e76b9b089eb8e8db53ef4ec9f2b2bce7cdb64466ba76ef66faa6bca34"), looks := true }, kinds := [], alts := [], laidByText := true, laidKinds := [.data, .pinned], laidTests := true, laidLooks := .later }
def FnExactCandidatesCardSaid : Prop := Claim7.holds Tryd.pinned (.plain (OpenSpec.ofChange fnExactCandidatesSpec)) fnExactCandidatesCard

/-- THE TIED CARD OF 'laws.FnExactReadFiles'. -/
def fnExactReadFilesCard : Claim7 := { stood := { row := fnExactReadFilesRow, standIns := [], harness := (true, "d7b4837e76b9b089eb8e8db53ef4ec9f2b2bce7cdb64466ba76ef66faa6bca34"), looks := true }, kinds := [], alts := [], laidByText := true, laidKinds := [.data, .pinned], laidTests := true, laidLooks := .later }
def FnExactReadFilesCardSaid : Prop := Claim7.holds Tryd.pinned (.plain (OpenSpec.ofChange fnExactReadFilesSpec)) fnExactReadFilesCard

/-- THE TIED CARD OF 'laws.FnProbe'. -/
def fnProbeCard : Claim7 := { stood := { row := fnProbeRow, standIns := [], harness := (true, "d7b4837e76b9b089eb8e8db53ef4ec9f2b2bce7cdb64466ba76ef66faa6bca34"), looks := true }, kinds := [], alts := [], laidByText := true, laidKinds := [.data, .pinned], laidTests := true, laidLooks := .later }
def FnProbeCardSaid : Prop := Claim7.holds Tryd.pinned (.plain (OpenSpec.ofChange fnProbeSpec)) fnProbeCard

/-- THE TIED CARD OF 'laws.FnExactProbe'. -/
def fnExactProbeCard : Claim7 := { stood := { row := fnExactProbeRow, standIns := [], harness := (true, "d7b4837e76b9b089eb8e8db53ef4ec9f2b2bce7cdb64466ba76ef66faa6bca34"), looks := true }, kinds := [], alts := [], laidByText := true, laidKinds := [.data, .pinned], laidTests := true, laidLooks := .later }
def FnExactProbeCardSaid : Prop := Claim7.holds Tryd.pinned (.plain (OpenSpec.ofChange fnExactProbeSpec)) fnExactProbeCard

/-- THE TIED CARD OF 'laws.FnExactPutFile'. -/
def fnExactPutFileCard : Claim7 := { stood := { row := fnExactPutFileRow, standIns := [], harness := (true, "d7b4837e76b9b089eb8e8db53ef4ec9f2b2bce7cdb64466ba76ef66faa6bca34"), looks := true }, kinds := [], alts := [], laidByText := true, laidKinds := [.data, .pinned], laidTests := true, laidLooks := .later }
def FnExactPutFileCardSaid : Prop := Claim7.holds Tryd.pinned (.plain (OpenSpec.ofChange fnExactPutFileSpec)) fnExactPutFileCard

/-- THE TIED CARD OF 'laws.FnNumbers'. -/
def fnNumbersCard : Claim7 := { stood := { row := fnNumbersRow, standIns := [], harness := (true, "d7b4837e76b9b089eb8e8db53ef4ec9f2b2bce7cdb64466ba76ef66faa6bca34"), looks := true }, kinds := [], alts := [], laidByText := true, laidKinds := [.data, .data, .data, .sentinel, .sentinel], laidTests := true, laidLooks := .later }
def FnNumbersCardSaid : Prop := Claim7.holds Tryd.pinned (.plain (OpenSpec.ofChange fnNumbersSpec)) fnNumbersCard

/-- THE TIED CARD OF 'laws.FnLex'. -/
def fnLexCard : Claim7 := { stood := { row := fnLexRow, standIns := [], harness := (true, "d7b4837e76b9b089eb8e8db53ef4ec9f2b2bce7cdb64466ba76ef66faa6bca34"), looks := true }, kinds := [], alts := [], laidByText := true, laidKinds := [.data, .data, .data, .sentinel, .sentinel], laidTests := true, laidLooks := .later }
def FnLexCardSaid : Prop := Claim7.holds Tryd.pinned (.plain (OpenSpec.ofChange fnLexSpec)) fnLexCard

/-- THE TIED CARD OF 'laws.FnExactLex'. -/
def fnExactLexCard : Claim7 := { stood := { row := fnExactLexRow, standIns := [], harness := (true, "d7b4837e76b9b089eb8e8db53ef4ec9f2b2bce7cdb64466ba76ef66faa6bca34"), looks := true }, kinds := [], alts := [], laidByText := true, laidKinds := [.data, .data, .data, .sentinel, .sentinel], laidTests := true, laidLooks := .later }
def FnExactLexCardSaid : Prop := Claim7.holds Tryd.pinned (.plain (OpenSpec.ofChange fnExactLexSpec)) fnExactLexCard

/-- THE TIED CARD OF 'laws.FnExactKnown'. -/
def fnExactKnownCard : Claim7 := { stood := { row := fnExactKnownRow, standIns := [], harness := (true, "d7b4837e76b9b089eb8e8db53ef4ec9f2b2bce7cdb64466ba76ef66faa6bca34"), looks := true }, kinds := [], alts := [], laidByText := true, laidKinds := [.data, .data, .data], laidTests := true, laidLooks := .later }
def FnExactKnownCardSaid : Prop := Claim7.holds Tryd.pinned (.plain (OpenSpec.ofChange fnExactKnownSpec)) fnExactKnownCard

/-- THE TIED CARD OF 'laws.FnExactChanged'. -/
def fnExactChangedCard : Claim7 := { stood := { row := fnExactChangedRow, standIns := [], harness := (true, "d7b4837e76b9b089eb8e8db53ef4ec9f2b2bce7cdb64466ba76ef66faa6bca34"), looks := true }, kinds := [], alts := [], laidByText := true, laidKinds := [.data, .pinned], laidTests := true, laidLooks := .later }
def FnExactChangedCardSaid : Prop := Claim7.holds Tryd.pinned (.plain (OpenSpec.ofChange fnExactChangedSpec)) fnExactChangedCard

/-- THE SECOND FORM's CARD OF 'laws.FnExactDropFile'. -/
def fnExactDropFileUptoCard : Claim7 := { stood := { row := fnExactDropFileUptoRow, standIns := [], harness := (true, "d7b4837e76b9b089eb8e8db53ef4ec9f2b2bce7cdb64466ba76ef66faa6bca34"), looks := true }, kinds := [], alts := [], laidByText := true, laidKinds := [.data, .pinned], laidTests := true, laidLooks := .later }
def FnExactDropFileUptoCardSaid : Prop := Claim7.holds Tryd.pinned (.plain (OpenSpec.upto fnExactDropFileSpec)) fnExactDropFileUptoCard

/-- THE SECOND FORM's CARD OF 'laws.FnExactCandidates'. -/
def fnExactCandidatesUptoCard : Claim7 := { stood := { row := fnExactCandidatesUptoRow, standIns := [], harness := (true, "d7b4837e76b9b089eb8e8db53ef4ec9f2b2bce7cdb64466ba76ef66faa6bca34"), looks := true }, kinds := [], alts := [], laidByText := true, laidKinds := [.data, .pinned], laidTests := true, laidLooks := .later }
def FnExactCandidatesUptoCardSaid : Prop := Claim7.holds Tryd.pinned (.plain (OpenSpec.upto fnExactCandidatesSpec)) fnExactCandidatesUptoCard

/-- THE SECOND FORM's CARD OF 'laws.FnExactReadFiles'. -/
def fnExactReadFilesUptoCard : Claim7 := { stood := { row := fnExactReadFilesUptoRow, standIns := [], harness := (true, "d7b4837e76b9b089eb8e8db53ef4ec9f2b2bce7cdb64466ba76ef66faa6bca34"), looks := true }, kinds := [], alts := [], laidByText := true, laidKinds := [.data, .pinned], laidTests := true, laidLooks := .later }
def FnExactReadFilesUptoCardSaid : Prop := Claim7.holds Tryd.pinned (.plain (OpenSpec.upto fnExactReadFilesSpec)) fnExactReadFilesUptoCard

/-- THE SECOND FORM's CARD OF 'laws.FnProbe'. -/
def fnProbeUptoCard : Claim7 := { stood := { row := fnProbeUptoRow, standIns := [], harness := (true, "d7b4837e76b9b089eb8e8db53ef4ec9f2b2bce7cdb64466ba76ef66faa6bca34"), looks := true }, kinds := [], alts := [], laidByText := true, laidKinds := [.data, .pinned], laidTests := true, laidLooks := .later }
def FnProbeUptoCardSaid : Prop := Claim7.holds Tryd.pinned (.plain (OpenSpec.upto fnProbeSpec)) fnProbeUptoCard

/-- THE SECOND FORM's CARD OF 'laws.FnExactProbe'. -/
def fnExactProbeUptoCard : Claim7 := { stood := { row := fnExactProbeUptoRow, standIns := [], harness := (true, "d7b4837e76b9b089eb8e8db53ef4ec9f2b2bce7cdb64466ba76ef66faa6bca34"), looks := true }, kinds := [], alts := [], laidByText := true, laidKinds := [.data, .pinned], laidTests := true, laidLooks := .later }
def FnExactProbeUptoCardSaid : Prop := Claim7.holds Tryd.pinned (.plain (OpenSpec.upto fnExactProbeSpec)) fnExactProbeUptoCard

/-- THE SECOND FORM's CARD OF 'laws.FnExactPutFile'. -/
def fnExactPutFileUptoCard : Claim7 := { stood := { row := fnExactPutFileUptoRow, standIns := [], harness := (true, "d7b4837e76b9b089eb8e8db53ef4ec9f2b2bce7cdb64466ba76ef66faa6bca34"), looks := true }, kinds := [], alts := [], laidByText := true, laidKinds := [.data, .pinned], laidTests := true, laidLooks := .later }
def FnExactPutFileUptoCardSaid : Prop := Claim7.holds Tryd.pinned (.plain (OpenSpec.upto fnExactPutFileSpec)) fnExactPutFileUptoCard

/-- THE SECOND FORM's CARD OF 'laws.FnNumbers'. -/
def fnNumbersUptoCard : Claim7 := { stood := { row := fnNumbersUptoRow, standIns := [], harness := (true, "d7b4837e76b9b089eb8e8db53ef4ec9f2b2bce7cdb64466ba76ef66faa6bca34"), looks := true }, kinds := [], alts := [], laidByText := true, laidKinds := [.data, .data, .data, .sentinel, .sentinel], laidTests := true, laidLooks := .later }
def FnNumbersUptoCardSaid : Prop := Claim7.holds Tryd.pinned (.plain (OpenSpec.upto fnNumbersSpec)) fnNumbersUptoCard

/-- THE SECOND FORM's CARD OF 'laws.FnLex'. -/
def fnLexUptoCard : Claim7 := { stood := { row := fnLexUptoRow, standIns := [], harness := (true, "d7b4837e76b9b089eb8e8db53ef4ec9f2b2bce7cdb64466ba76ef66faa6bca34"), looks := true }, kinds := [], alts := [], laidByText := true, laidKinds := [.data, .data, .data, .sentinel, .sentinel], laidTests := true, laidLooks := .later }
def FnLexUptoCardSaid : Prop := Claim7.holds Tryd.pinned (.plain (OpenSpec.upto fnLexSpec)) fnLexUptoCard

/-- THE SECOND FORM's CARD OF 'laws.FnExactLex'. -/
def fnExactLexUptoCard : Claim7 := { stood := { row := fnExactLexUptoRow, standIns := [], harness := (true, "d7b4837e76b9b089eb8e8db53ef4ec9f2b2bce7cdb64466ba76ef66faa6bca34"), looks := true }, kinds := [], alts := [], laidByText := true, laidKinds := [.data, .data, .data, .sentinel, .sentinel], laidTests := true, laidLooks := .later }
def FnExactLexUptoCardSaid : Prop := Claim7.holds Tryd.pinned (.plain (OpenSpec.upto fnExactLexSpec)) fnExactLexUptoCard

/-- THE SECOND FORM's CARD OF 'laws.FnExactKnown'. -/
def fnExactKnownUptoCard : Claim7 := { stood := { row := fnExactKnownUptoRow, standIns := [], harness := (true, "d7b4837e76b9b089eb8e8db53ef4ec9f2b2bce7cdb64466ba76ef66faa6bca34"), looks := true }, kinds := [], alts := [], laidByText := true, laidKinds := [.data, .data, .data], laidTests := true, laidLooks := .later }
def FnExactKnownUptoCardSaid : Prop := Claim7.holds Tryd.pinned (.plain (OpenSpec.upto fnExactKnownSpec)) fnExactKnownUptoCard

/-- THE SECOND FORM's CARD OF 'laws.FnExactChanged'. -/
def fnExactChangedUptoCard : Claim7 := { stood := { row := fnExactChangedUptoRow, standIns := [], harness := (true, "d7b4837e76b9b089eb8e8db53ef4ec9f2b2bce7cdb64466ba76ef66faa6bca34"), looks := true }, kinds := [], alts := [], laidByText := true, laidKinds := [.data, .pinned], laidTests := true, laidLooks := .later }
def FnExactChangedUptoCardSaid : Prop := Claim7.holds Tryd.pinned (.plain (OpenSpec.upto fnExactChangedSpec)) fnExactChangedUptoCard
end Rows
end Go.Proofs.YtmpmfaaodjmpjaaDoor

/-
  DERIVED. GIVEN WITH THE SEED: THE CARDS: each row of YtkmcnjpgamaljaaDoorRows.lean that lists a variable, with what it lists TIED to the program's text (the seventh form; the later family's looks); each row that meets fmt, with fmt's text TOLD by the authors' own Lean function (tested against real Go, not proved from fmt's source: count such statements apart). THE CARD IS WHAT COUNTS. Prove the row's statement (the work); the ties are given (YtkmcnjpgamaljaaDoorTie.lean); close each card by the builder's one call (the guide's Derived/Test/ToyasCard.lean, 'card_holds'). Laid BY PROGRAM, IN A SANDBOX (cutbox-door.mjs). By AI agents, Wed Nov 11 2026. No macro, syntax, notation, axiom, sorry.
-/
import Derived.Test.YtkmcnjpgamaljaaDoorRows
import GoSem.ClaimSeven
namespace Go.Proofs.YtkmcnjpgamaljaaDoor
namespace Rows

/-- THE TIED CARD OF 'laws.FnExactDropFile'. -/
def fnExactDropFileCard : Claim7 := { stood := { row := fnExactDropFileRow, standIns := [], harness := (true, "639eb822f888d300205d8b068990b703496c2e2c4464910f1ce7bbea9f91e5a0"), looks := false }, kinds := [], alts := [], laidByText := true, laidKinds := [.data, .pinned], laidTests := true, laidLooks := .later }
def FnExactDropFileCardSaid : Prop := Claim7.holds Tryd.pinned (.plain (OpenSpec.ofChange fnExactDropFileSpec)) fnExactDropFileCard

/-- THE TIED CARD OF 'laws.FnExactPutFile'. -/
def fnExactPutFileCard : Claim7 := { stood := { row := fnExactPutFileRow, standIns := [], harness := (true, "639eb822f888d300205d8b068990b703496c2e2c4464910f1ce7bbea9f91e5a0"), looks := false }, kinds := [], alts := [], laidByText := true, laidKinds := [.data, .pinned], laidTests := true, laidLooks := .later }
def FnExactPutFileCardSaid : Prop := Claim7.holds Tryd.pinned (.plain (OpenSpec.ofChange fnExactPutFileSpec)) fnExactPutFileCard

/-- THE TIED CARD OF 'laws.FnExactChanged'. -/
def fnExactChangedCard : Claim7 := { stood := { row := fnExactChangedRow, standIns := [], harness := (true, "639eb822f888d300205d8b068990b703496c2e2c4464910f1ce7bbea9f91e5a0"), looks := false }, kinds := [], alts := [], laidByText := true, laidKinds := [.data, .pinned], laidTests := true, laidLooks := .later }
def FnExactChangedCardSaid : Prop := Claim7.holds Tryd.pinned (.plain (OpenSpec.ofChange fnExactChangedSpec)) fnExactChangedCard

/-- THE SECOND FORM's CARD OF 'laws.FnExactDropFile'. -/
def fnExactDropFileUptoCard : Claim7 := { stood := { row := fnExactDropFileUptoRow, standIns := [], harness := (true, "639eb822f888d300205d8b068990b703496c2e2c4464910f1ce7bbea9f91e5a0"), looks := false }, kinds := [], alts := [], laidByText := true, laidKinds := [.data, .pinned], laidTests := true, laidLooks := .later }
def FnExactDropFileUptoCardSaid : Prop := Claim7.holds Tryd.pinned (.plain (OpenSpec.upto fnExactDropFileSpec)) fnExactDropFileUptoCard

/-- THE SECOND FORM's CARD OF 'laws.FnExactPutFile'. -/
def fnExactPutFileUptoCard : Claim7 := { stood := { row := fnExactPutFileUptoRow, standIns := [], harness := (true, "639eb822f888d300205d8b068990b703496c2e2c4464910f1ce7bbea9f91e5a0"), looks := false }, kinds := [], alts := [], laidByText := true, laidKinds := [.data, .pinned], laidTests := true, laidLooks := .later }
def FnExactPutFileUptoCardSaid : Prop := Claim7.holds Tryd.pinned (.plain (OpenSpec.upto fnExactPutFileSpec)) fnExactPutFileUptoCard

/-- THE SECOND FORM's CARD OF 'laws.FnExactChanged'. -/
def fnExactChangedUptoCard : Claim7 := { stood := { row := fnExactChangedUptoRow, standIns := [], harness := (true, "639eb822f888d300205d8b068990b703496c2e2c4464910f1ce7bbea9f91e5a0"), looks := false }, kinds := [], alts := [], laidByText := true, laidKinds := [.data, .pinned], laidTests := true, laidLooks := .later }
def FnExactChangedUptoCardSaid : Prop := Claim7.holds Tryd.pinned (.plain (OpenSpec.upto fnExactChangedSpec)) fnExactChangedUptoCard
end Rows
end Go.Proofs.YtkmcnjpgamaljaaDoor

/-
  DERIVED. GIVEN WITH THE SEED: THE CARDS: each row of YtpomlknkfedekaaDoorRows.lean that lists a variable, with what it lists TIED to the program's text (the seventh form; the later family's looks); each row that meets fmt, with fmt's text TOLD by the authors' own Lean function (tested against real Go, not proved from fmt's source: count such statements apart). THE CARD IS WHAT COUNTS. Prove the row's statement (the work); the ties are given (YtpomlknkfedekaaDoorTie.lean); close each card by the builder's one call (the guide's Derived/Test/ToyasCard.lean, 'card_holds'). Laid BY PROGRAM, IN A SANDBOX (cutbox-door.mjs). By AI agents, Wed Nov 11 2026. No macro, syntax, notation, axiom, sorry.
-/
import Derived.Test.YtpomlknkfedekaaDoorRows
import GoSem.ClaimSeven
namespace Go.Proofs.YtpomlknkfedekaaDoor
namespace Rows

/-- THE TIED CARD OF 'laws.FnExactDec'. -/
def fnExactDecCard : Claim7 := { stood := { row := fnExactDecRow, standIns := [], harness := (true, "60d82b4c37b3458f8d5cac84f0b8b1354b6ab427395fcb83ecb5a77e93c3cb05"), looks := true }, kinds := [], alts := [], laidByText := true, laidKinds := [.data, .data, .data], laidTests := true, laidLooks := .later }
def FnExactDecCardSaid : Prop := Claim7.holds Tryd.pinned (.plain (OpenSpec.ofChange fnExactDecSpec)) fnExactDecCard

/-- THE TIED CARD OF 'laws.FnExactClean'. -/
def fnExactCleanCard : Claim7 := { stood := { row := fnExactCleanRow, standIns := [], harness := (true, "60d82b4c37b3458f8d5cac84f0b8b1354b6ab427395fcb83ecb5a77e93c3cb05"), looks := true }, kinds := [], alts := [], laidByText := true, laidKinds := [.data, .pinned], laidTests := true, laidLooks := .later }
def FnExactCleanCardSaid : Prop := Claim7.holds Tryd.pinned (.plain (OpenSpec.ofChange fnExactCleanSpec)) fnExactCleanCard

/-- THE TIED CARD OF 'laws.FnExactResolve'. -/
def fnExactResolveCard : Claim7 := { stood := { row := fnExactResolveRow, standIns := [], harness := (true, "60d82b4c37b3458f8d5cac84f0b8b1354b6ab427395fcb83ecb5a77e93c3cb05"), looks := true }, kinds := [], alts := [], laidByText := true, laidKinds := [.data, .pinned], laidTests := true, laidLooks := .later }
def FnExactResolveCardSaid : Prop := Claim7.holds Tryd.pinned (.plain (OpenSpec.ofChange fnExactResolveSpec)) fnExactResolveCard

/-- THE TIED CARD OF 'laws.FnExactUp'. -/
def fnExactUpCard : Claim7 := { stood := { row := fnExactUpRow, standIns := [], harness := (true, "60d82b4c37b3458f8d5cac84f0b8b1354b6ab427395fcb83ecb5a77e93c3cb05"), looks := true }, kinds := [], alts := [], laidByText := true, laidKinds := [.data, .pinned], laidTests := true, laidLooks := .later }
def FnExactUpCardSaid : Prop := Claim7.holds Tryd.pinned (.plain (OpenSpec.ofChange fnExactUpSpec)) fnExactUpCard

/-- THE TIED CARD OF 'laws.FnExactFilesOk'. -/
def fnExactFilesOkCard : Claim7 := { stood := { row := fnExactFilesOkRow, standIns := [], harness := (true, "60d82b4c37b3458f8d5cac84f0b8b1354b6ab427395fcb83ecb5a77e93c3cb05"), looks := true }, kinds := [], alts := [], laidByText := true, laidKinds := [.data, .pinned], laidTests := true, laidLooks := .later }
def FnExactFilesOkCardSaid : Prop := Claim7.holds Tryd.pinned (.plain (OpenSpec.ofChange fnExactFilesOkSpec)) fnExactFilesOkCard

/-- THE TIED CARD OF 'laws.FnPaths'. -/
def fnPathsCard : Claim7 := { stood := { row := fnPathsRow, standIns := [], harness := (true, "60d82b4c37b3458f8d5cac84f0b8b1354b6ab427395fcb83ecb5a77e93c3cb05"), looks := true }, kinds := [], alts := [], laidByText := true, laidKinds := [.data, .pinned], laidTests := true, laidLooks := .later }
def FnPathsCardSaid : Prop := Claim7.holds Tryd.pinned (.plain (OpenSpec.ofChange fnPathsSpec)) fnPathsCard

/-- THE TIED CARD OF 'laws.FnUp'. -/
def fnUpCard : Claim7 := { stood := { row := fnUpRow, standIns := [], harness := (true, "60d82b4c37b3458f8d5cac84f0b8b1354b6ab427395fcb83ecb5a77e93c3cb05"), looks := true }, kinds := [], alts := [], laidByText := true, laidKinds := [.data, .pinned], laidTests := true, laidLooks := .later }
def FnUpCardSaid : Prop := Claim7.holds Tryd.pinned (.plain (OpenSpec.ofChange fnUpSpec)) fnUpCard

/-- THE TIED CARD OF 'laws.FnExactFind'. -/
def fnExactFindCard : Claim7 := { stood := { row := fnExactFindRow, standIns := [], harness := (true, "60d82b4c37b3458f8d5cac84f0b8b1354b6ab427395fcb83ecb5a77e93c3cb05"), looks := true }, kinds := [], alts := [], laidByText := true, laidKinds := [.data, .pinned], laidTests := true, laidLooks := .later }
def FnExactFindCardSaid : Prop := Claim7.holds Tryd.pinned (.plain (OpenSpec.ofChange fnExactFindSpec)) fnExactFindCard

/-- THE TIED CARD OF 'laws.FnExactShowFiles'. -/
def fnExactShowFilesCard : Claim7 := { stood := { row := fnExactShowFilesRow, standIns := [], harness := (true, "60d82b4c37b3458f8d5cac84f0b8b1354b6ab427395fcb83ecb5a77e93c3cb05"), looks := true }, kinds := [], alts := [], laidByText := true, laidKinds := [.data, .pinned], laidTests := true, laidLooks := .later }
def FnExactShowFilesCardSaid : Prop := Claim7.holds Tryd.pinned (.plain (OpenSpec.ofChange fnExactShowFilesSpec)) fnExactShowFilesCard

/-- THE TIED CARD OF 'laws.FnExactReadDec'. -/
def fnExactReadDecCard : Claim7 := { stood := { row := fnExactReadDecRow, standIns := [], harness := (true, "60d82b4c37b3458f8d5cac84f0b8b1354b6ab427395fcb83ecb5a77e93c3cb05"), looks := true }, kinds := [], alts := [], laidByText := true, laidKinds := [.data, .data, .data, .sentinel, .sentinel], laidTests := true, laidLooks := .later }
def FnExactReadDecCardSaid : Prop := Claim7.holds Tryd.pinned (.plain (OpenSpec.ofChange fnExactReadDecSpec)) fnExactReadDecCard

/-- THE SECOND FORM's CARD OF 'laws.FnExactDec'. -/
def fnExactDecUptoCard : Claim7 := { stood := { row := fnExactDecUptoRow, standIns := [], harness := (true, "60d82b4c37b3458f8d5cac84f0b8b1354b6ab427395fcb83ecb5a77e93c3cb05"), looks := true }, kinds := [], alts := [], laidByText := true, laidKinds := [.data, .data, .data], laidTests := true, laidLooks := .later }
def FnExactDecUptoCardSaid : Prop := Claim7.holds Tryd.pinned (.plain (OpenSpec.upto fnExactDecSpec)) fnExactDecUptoCard

/-- THE SECOND FORM's CARD OF 'laws.FnExactClean'. -/
def fnExactCleanUptoCard : Claim7 := { stood := { row := fnExactCleanUptoRow, standIns := [], harness := (true, "60d82b4c37b3458f8d5cac84f0b8b1354b6ab427395fcb83ecb5a77e93c3cb05"), looks := true }, kinds := [], alts := [], laidByText := true, laidKinds := [.data, .pinned], laidTests := true, laidLooks := .later }
def FnExactCleanUptoCardSaid : Prop := Claim7.holds Tryd.pinned (.plain (OpenSpec.upto fnExactCleanSpec)) fnExactCleanUptoCard

/-- THE SECOND FORM's CARD OF 'laws.FnExactResolve'. -/
def fnExactResolveUptoCard : Claim7 := { stood := { row := fnExactResolveUptoRow, standIns := [], harness := (true, "60d82b4c37b3458f8d5cac84f0b8b1354b6ab427395fcb83ecb5a77e93c3cb05"), looks := true }, kinds := [], alts := [], laidByText := true, laidKinds := [.data, .pinned], laidTests := true, laidLooks := .later }
def FnExactResolveUptoCardSaid : Prop := Claim7.holds Tryd.pinned (.plain (OpenSpec.upto fnExactResolveSpec)) fnExactResolveUptoCard

/-- THE SECOND FORM's CARD OF 'laws.FnExactUp'. -/
def fnExactUpUptoCard : Claim7 := { stood := { row := fnExactUpUptoRow, standIns := [], harness := (true, "60d82b4c37b3458f8d5cac84f0b8b1354b6ab427395fcb83ecb5a77e93c3cb05"), looks := true }, kinds := [], alts := [], laidByText := true, laidKinds := [.data, .pinned], laidTests := true, laidLooks := .later }
def FnExactUpUptoCardSaid : Prop := Claim7.holds Tryd.pinned (.plain (OpenSpec.upto fnExactUpSpec)) fnExactUpUptoCard

/-- THE SECOND FORM's CARD OF 'laws.FnExactFilesOk'. -/
def fnExactFilesOkUptoCard : Claim7 := { stood := { row := fnExactFilesOkUptoRow, standIns := [], harness := (true, "60d82b4c37b3458f8d5cac84f0b8b1354b6ab427395fcb83ecb5a77e93c3cb05"), looks := true }, kinds := [], alts := [], laidByText := true, laidKinds := [.data, .pinned], laidTests := true, laidLooks := .later }
def FnExactFilesOkUptoCardSaid : Prop := Claim7.holds Tryd.pinned (.plain (OpenSpec.upto fnExactFilesOkSpec)) fnExactFilesOkUptoCard

/-- THE SECOND FORM's CARD OF 'laws.FnPaths'. -/
def fnPathsUptoCard : Claim7 := { stood := { row := fnPathsUptoRow, standIns := [], harness := (true, "60d82b4c37b3458f8d5cac84f0b8b1354b6ab427395fcb83ecb5a77e93c3cb05"), looks := true }, kinds := [], alts := [], laidByText := true, laidKinds := [.data, .pinned], laidTests := true, laidLooks := .later }
def FnPathsUptoCardSaid : Prop := Claim7.holds Tryd.pinned (.plain (OpenSpec.upto fnPathsSpec)) fnPathsUptoCard

/-- THE SECOND FORM's CARD OF 'laws.FnUp'. -/
def fnUpUptoCard : Claim7 := { stood := { row := fnUpUptoRow, standIns := [], harness := (true, "60d82b4c37b3458f8d5cac84f0b8b1354b6ab427395fcb83ecb5a77e93c3cb05"), looks := true }, kinds := [], alts := [], laidByText := true, laidKinds := [.data, .pinned], laidTests := true, laidLooks := .later }
def FnUpUptoCardSaid : Prop := Claim7.holds Tryd.pinned (.plain (OpenSpec.upto fnUpSpec)) fnUpUptoCard

/-- THE SECOND FORM's CARD OF 'laws.FnExactFind'. -/
def fnExactFindUptoCard : Claim7 := { stood := { row := fnExactFindUptoRow, standIns := [], harness := (true, "60d82b4c37b3458f8d5cac84f0b8b1354b6ab427395fcb83ecb5a77e93c3cb05"), looks := true }, kinds := [], alts := [], laidByText := true, laidKinds := [.data, .pinned], laidTests := true, laidLooks := .later }
def FnExactFindUptoCardSaid : Prop := Claim7.holds Tryd.pinned (.plain (OpenSpec.upto fnExactFindSpec)) fnExactFindUptoCard

/-- THE SECOND FORM's CARD OF 'laws.FnExactShowFiles'. -/
def fnExactShowFilesUptoCard : Claim7 := { stood := { row := fnExactShowFilesUptoRow, standIns := [], harness := (true, "60d82b4c37b3458f8d5cac84f0b8b1354b6ab427395fcb83ecb5a77e93c3cb05"), looks := true }, kinds := [], alts := [], laidByText := true, laidKinds := [.data, .pinned], laidTests := true, laidLooks := .later }
def FnExactShowFilesUptoCardSaid : Prop := Claim7.holds Tryd.pinned (.plain (OpenSpec.upto fnExactShowFilesSpec)) fnExactShowFilesUptoCard

/-- THE SECOND FORM's CARD OF 'laws.FnExactReadDec'. -/
def fnExactReadDecUptoCard : Claim7 := { stood := { row := fnExactReadDecUptoRow, standIns := [], harness := (true, "60d82b4c37b3458f8d5cac84f0b8b1354b6ab427395fcb83ecb5a77e93c3cb05"), looks := true }, kinds := [], alts := [], laidByText := true, laidKinds := [.data, .data, .data, .sentinel, .sentinel], laidTests := true, laidLooks := .later }
def FnExactReadDecUptoCardSaid : Prop := Claim7.holds Tryd.pinned (.plain (OpenSpec.upto fnExactReadDecSpec)) fnExactReadDecUptoCard
end Rows
end Go.Proofs.YtpomlknkfedekaaDoor

/-
  DERIVED. GIVEN WITH THE SEED: THE CARDS: each row of YtekkoodlnaapeaaGreatDoorRows.lean that lists a variable, with what it lists TIED to the program's text (the seventh form; the later family's looks); each row that meets fmt, with fmt's text TOLD by the authors' own Lean function (tested against real Go, not proved from fmt's source: count such statements apart). THE CARD IS WHAT COUNTS. Prove the row's statement (the work); the ties are given (YtekkoodlnaapeaaGreatDoorTie.lean); close each card by the builder's one call (the guide's Derived/Test/ToyasCard.lean, 'card_holds'). Laid BY PROGRAM, IN A SANDBOX (cutbox-door.mjs). By AI agents, Wed Nov 11 2026. No macro, syntax, notation, axiom, sorry.
-/
import Derived.Test.YtekkoodlnaapeaaGreatDoorRows
import GoSem.ClaimSeven
namespace Go.Proofs.YtekkoodlnaapeaaGreatDoor
namespace Rows

/-- THE TIED CARD OF 'laws.FnRange'. -/
def fnRangeCard : Claim7 := { stood := { row := fnRangeRow, standIns := [], harness := (true, "689928cfe2b3f8e80ba2a1e222b7b5f1ceba17e3bfaf39160f22979414f0426f"), looks := true }, kinds := [], alts := [], laidByText := true, laidKinds := [.data, .data, .data, .sentinel, .sentinel], laidTests := true, laidLooks := .later }
def FnRangeCardSaid : Prop := Claim7.holds Tryz.pinned (.plain (OpenSpec.ofChange fnRangeSpec)) fnRangeCard

/-- THE TIED CARD OF 'laws.FnKnown'. -/
def fnKnownCard : Claim7 := { stood := { row := fnKnownRow, standIns := [], harness := (true, "689928cfe2b3f8e80ba2a1e222b7b5f1ceba17e3bfaf39160f22979414f0426f"), looks := true }, kinds := [], alts := [], laidByText := true, laidKinds := [.data, .data, .data, .sentinel, .sentinel], laidTests := true, laidLooks := .later }
def FnKnownCardSaid : Prop := Claim7.holds Tryz.pinned (.plain (OpenSpec.ofChange fnKnownSpec)) fnKnownCard

/-- THE TIED CARD OF 'laws.FnMany'. -/
def fnManyCard : Claim7 := { stood := { row := fnManyRow, standIns := [], harness := (true, "689928cfe2b3f8e80ba2a1e222b7b5f1ceba17e3bfaf39160f22979414f0426f"), looks := true }, kinds := [], alts := [], laidByText := true, laidKinds := [.data, .data, .data, .data, .sentinel, .sentinel, .pinned], laidTests := true, laidLooks := .later }
def FnManyCardSaid : Prop := Claim7.holds Tryz.pinned (.plain (OpenSpec.ofChange fnManySpec)) fnManyCard

/-- THE TIED CARD OF 'laws.FnAhead'. -/
def fnAheadCard : Claim7 := { stood := { row := fnAheadRow, standIns := [], harness := (true, "689928cfe2b3f8e80ba2a1e222b7b5f1ceba17e3bfaf39160f22979414f0426f"), looks := true }, kinds := [], alts := [], laidByText := true, laidKinds := [.data, .data, .data, .data, .sentinel, .sentinel, .pinned], laidTests := true, laidLooks := .later }
def FnAheadCardSaid : Prop := Claim7.holds Tryz.pinned (.plain (OpenSpec.ofChange fnAheadSpec)) fnAheadCard

/-- THE TIED CARD OF 'laws.FnLive'. -/
def fnLiveCard : Claim7 := { stood := { row := fnLiveRow, standIns := [], harness := (true, "689928cfe2b3f8e80ba2a1e222b7b5f1ceba17e3bfaf39160f22979414f0426f"), looks := true }, kinds := [], alts := [], laidByText := true, laidKinds := [.data, .data, .data, .data, .sentinel, .sentinel, .pinned], laidTests := true, laidLooks := .later }
def FnLiveCardSaid : Prop := Claim7.holds Tryz.pinned (.plain (OpenSpec.ofChange fnLiveSpec)) fnLiveCard

/-- THE TIED CARD OF 'laws.FnOnce'. -/
def fnOnceCard : Claim7 := { stood := { row := fnOnceRow, standIns := [], harness := (true, "689928cfe2b3f8e80ba2a1e222b7b5f1ceba17e3bfaf39160f22979414f0426f"), looks := true }, kinds := [], alts := [], laidByText := true, laidKinds := [.data, .data, .data, .data, .sentinel, .sentinel, .pinned], laidTests := true, laidLooks := .later }
def FnOnceCardSaid : Prop := Claim7.holds Tryz.pinned (.plain (OpenSpec.ofChange fnOnceSpec)) fnOnceCard

/-- THE SECOND FORM's CARD OF 'laws.FnRange'. -/
def fnRangeUptoCard : Claim7 := { stood := { row := fnRangeUptoRow, standIns := [], harness := (true, "689928cfe2b3f8e80ba2a1e222b7b5f1ceba17e3bfaf39160f22979414f0426f"), looks := true }, kinds := [], alts := [], laidByText := true, laidKinds := [.data, .data, .data, .sentinel, .sentinel], laidTests := true, laidLooks := .later }
def FnRangeUptoCardSaid : Prop := Claim7.holds Tryz.pinned (.plain (OpenSpec.upto fnRangeSpec)) fnRangeUptoCard

/-- THE SECOND FORM's CARD OF 'laws.FnKnown'. -/
def fnKnownUptoCard : Claim7 := { stood := { row := fnKnownUptoRow, standIns := [], harness := (true, "689928cfe2b3f8e80ba2a1e222b7b5f1ceba17e3bfaf39160f22979414f0426f"), looks := true }, kinds := [], alts := [], laidByText := true, laidKinds := [.data, .data, .data, .sentinel, .sentinel], laidTests := true, laidLooks := .later }
def FnKnownUptoCardSaid : Prop := Claim7.holds Tryz.pinned (.plain (OpenSpec.upto fnKnownSpec)) fnKnownUptoCard

/-- THE SECOND FORM's CARD OF 'laws.FnMany'. -/
def fnManyUptoCard : Claim7 := { stood := { row := fnManyUptoRow, standIns := [], harness := (true, "689928cfe2b3f8e80ba2a1e222b7b5f1ceba17e3bfaf39160f22979414f0426f"), looks := true }, kinds := [], alts := [], laidByText := true, laidKinds := [.data, .data, .data, .data, .sentinel, .sentinel, .pinned], laidTests := true, laidLooks := .later }
def FnManyUptoCardSaid : Prop := Claim7.holds Tryz.pinned (.plain (OpenSpec.upto fnManySpec)) fnManyUptoCard

/-- THE SECOND FORM's CARD OF 'laws.FnAhead'. -/
def fnAheadUptoCard : Claim7 := { stood := { row := fnAheadUptoRow, standIns := [], harness := (true, "689928cfe2b3f8e80ba2a1e222b7b5f1ceba17e3bfaf39160f22979414f0426f"), looks := true }, kinds := [], alts := [], laidByText := true, laidKinds := [.data, .data, .data, .data, .sentinel, .sentinel, .pinned], laidTests := true, laidLooks := .later }
def FnAheadUptoCardSaid : Prop := Claim7.holds Tryz.pinned (.plain (OpenSpec.upto fnAheadSpec)) fnAheadUptoCard

/-- THE SECOND FORM's CARD OF 'laws.FnLive'. -/
def fnLiveUptoCard : Claim7 := { stood := { row := fnLiveUptoRow, standIns := [], harness := (true, "689928cfe2b3f8e80ba2a1e222b7b5f1ceba17e3bfaf39160f22979414f0426f"), looks := true }, kinds := [], alts := [], laidByText := true, laidKinds := [.data, .data, .data, .data, .sentinel, .sentinel, .pinned], laidTests := true, laidLooks := .later }
def FnLiveUptoCardSaid : Prop := Claim7.holds Tryz.pinned (.plain (OpenSpec.upto fnLiveSpec)) fnLiveUptoCard

/-- THE SECOND FORM's CARD OF 'laws.FnOnce'. -/
def fnOnceUptoCard : Claim7 := { stood := { row := fnOnceUptoRow, standIns := [], harness := (true, "689928cfe2b3f8e80ba2a1e222b7b5f1ceba17e3bfaf39160f22979414f0426f"), looks := true }, kinds := [], alts := [], laidByText := true, laidKinds := [.data, .data, .data, .data, .sentinel, .sentinel, .pinned], laidTests := true, laidLooks := .later }
def FnOnceUptoCardSaid : Prop := Claim7.holds Tryz.pinned (.plain (OpenSpec.upto fnOnceSpec)) fnOnceUptoCard
end Rows
end Go.Proofs.YtekkoodlnaapeaaGreatDoor

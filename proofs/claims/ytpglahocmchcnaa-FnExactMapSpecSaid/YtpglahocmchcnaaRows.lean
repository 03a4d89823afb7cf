/-
  No cell of these rows narrows 'for every input' (looked for: loops, veiled, ifaces, maps, wideKeys, modest, calm, conditions, laid).
  DERIVED. THE GIVEN ROWS OF THIS SEAT. 12 by the template 'for every input the law returns true; each argument reads behind the call as it read before'; 0 by the template 'total and deterministic' (their statements: YtpglahocmchcnaaTotals.lean).
  GIVEN WITH THE SEED: the statements are not yours to turn. If you find one false, say at which input.
  Laid BY PROGRAM, IN A SANDBOX (cutbox-rows.mjs): the forced cells as the released guide's own fill.sh prints them over the translation c0a25459051ae861… (all of the seat's roots in one cut). By AI agents, Wed Nov 11 2026. No macro, syntax, notation, axiom, sorry.
-/
import Derived.Test.YtpglahocmchcnaaChecked
import GoSem.Claim
import GoSem.ClaimJoined
import GoSem.ClaimMapViews
import Derived.JoinedTies
import Derived.KernelRfl
namespace Go.Proofs.Ytpglahocmchcnaa
/- THE CELL 'sum', in the pinned program and in every row, IS THE sha256 OF THE DUMP (.gsa) THAT YtpglahocmchcnaaProg.lean LOADS. Nothing in Lean hashes anything: it is a label: what it is worth is what the hold of that sum in a sandbox is worth. -/
noncomputable def Try.pinned : Pinned := { name := "ytpglahocmchcnaa", sum := "c0a25459051ae861d4809408bd7b46f82278351494e9520c6229f66447edd09f", checked := Try.checked }
namespace Rows
def none {H : Type} : Left H := { results := [], args := [] }

/-- 'laws.FnExactConstants': WHATEVER THE INPUT: true; the input reads as it did. -/
def fnExactConstantsSpec : ChangeSpec := { name := "fnExactConstants", fn := fun _ => fun
  | [] => { results := [.lit (.bool true)], args := [] }
  | _ => none }
def fnExactConstantsRow : OpenClaim := { program := "ytpglahocmchcnaa", sum := "c0a25459051ae861d4809408bd7b46f82278351494e9520c6229f66447edd09f", func := "loop.example/g00777/laws.FnExactConstants", spec := "fnExactConstants", apart := false }
def FnExactConstantsSaid : Prop := fnExactConstantsRow.holds Try.pinned (OpenSpec.ofChange fnExactConstantsSpec)

/-- ITS FALSE NEIGHBOUR: 'it returns false'. Refute it at one input. -/
def fnExactConstantsWrong : ChangeSpec := { name := "fnExactConstants", fn := fun _ => fun
  | [] => { results := [.lit (.bool false)], args := [] }
  | _ => none }
def FnExactConstantsWrongFalsely : Prop := fnExactConstantsRow.holds Try.pinned (OpenSpec.ofChange fnExactConstantsWrong)

/-- 'laws.FnExactHex': WHATEVER THE INPUT: true; the input reads as it did. -/
def fnExactHexSpec : ChangeSpec := { name := "fnExactHex", fn := fun _ => fun
  | [d] => { results := [.lit (.bool true)], args := [d] }
  | _ => none }
def fnExactHexRow : OpenClaim := { program := "ytpglahocmchcnaa", sum := "c0a25459051ae861d4809408bd7b46f82278351494e9520c6229f66447edd09f", func := "loop.example/g00777/laws.FnExactHex", spec := "fnExactHex", apart := false }
def FnExactHexSaid : Prop := fnExactHexRow.holds Try.pinned (OpenSpec.ofChange fnExactHexSpec)

/-- ITS FALSE NEIGHBOUR: 'it returns false'. Refute it at one input. -/
def fnExactHexWrong : ChangeSpec := { name := "fnExactHex", fn := fun _ => fun
  | [d] => { results := [.lit (.bool false)], args := [d] }
  | _ => none }
def FnExactHexWrongFalsely : Prop := fnExactHexRow.holds Try.pinned (OpenSpec.ofChange fnExactHexWrong)

/-- 'laws.FnExactReadFixed': WHATEVER THE INPUT: true; the input reads as it did. -/
def fnExactReadFixedSpec : ChangeSpec := { name := "fnExactReadFixed", fn := fun _ => fun
  | [d1, d2] => { results := [.lit (.bool true)], args := [d1, d2] }
  | _ => none }
def fnExactReadFixedRow : OpenClaim := { program := "ytpglahocmchcnaa", sum := "c0a25459051ae861d4809408bd7b46f82278351494e9520c6229f66447edd09f", func := "loop.example/g00777/laws.FnExactReadFixed", spec := "fnExactReadFixed", apart := false }
def FnExactReadFixedSaid : Prop := fnExactReadFixedRow.holds Try.pinned (OpenSpec.ofChange fnExactReadFixedSpec)

/-- ITS FALSE NEIGHBOUR: 'it returns false'. Refute it at one input. -/
def fnExactReadFixedWrong : ChangeSpec := { name := "fnExactReadFixed", fn := fun _ => fun
  | [d1, d2] => { results := [.lit (.bool false)], args := [d1, d2] }
  | _ => none }
def FnExactReadFixedWrongFalsely : Prop := fnExactReadFixedRow.holds Try.pinned (OpenSpec.ofChange fnExactReadFixedWrong)

/-- 'laws.FnExactVar': WHATEVER THE INPUT: true; the input reads as it did. -/
def fnExactVarSpec : ChangeSpec := { name := "fnExactVar", fn := fun _ => fun
  | [d] => { results := [.lit (.bool true)], args := [d] }
  | _ => none }
def fnExactVarRow : OpenClaim := { program := "ytpglahocmchcnaa", sum := "c0a25459051ae861d4809408bd7b46f82278351494e9520c6229f66447edd09f", func := "loop.example/g00777/laws.FnExactVar", spec := "fnExactVar", apart := false }
def FnExactVarSaid : Prop := fnExactVarRow.holds Try.pinned (OpenSpec.ofChange fnExactVarSpec)

/-- ITS FALSE NEIGHBOUR: 'it returns false'. Refute it at one input. -/
def fnExactVarWrong : ChangeSpec := { name := "fnExactVar", fn := fun _ => fun
  | [d] => { results := [.lit (.bool false)], args := [d] }
  | _ => none }
def FnExactVarWrongFalsely : Prop := fnExactVarRow.holds Try.pinned (OpenSpec.ofChange fnExactVarWrong)

/-- 'laws.FnExactFixed': WHATEVER THE INPUT: true; the input reads as it did. -/
def fnExactFixedSpec : ChangeSpec := { name := "fnExactFixed", fn := fun _ => fun
  | [d1, d2] => { results := [.lit (.bool true)], args := [d1, d2] }
  | _ => none }
def fnExactFixedRow : OpenClaim := { program := "ytpglahocmchcnaa", sum := "c0a25459051ae861d4809408bd7b46f82278351494e9520c6229f66447edd09f", func := "loop.example/g00777/laws.FnExactFixed", spec := "fnExactFixed", apart := false }
def FnExactFixedSaid : Prop := fnExactFixedRow.holds Try.pinned (OpenSpec.ofChange fnExactFixedSpec)

/-- ITS FALSE NEIGHBOUR: 'it returns false'. Refute it at one input. -/
def fnExactFixedWrong : ChangeSpec := { name := "fnExactFixed", fn := fun _ => fun
  | [d1, d2] => { results := [.lit (.bool false)], args := [d1, d2] }
  | _ => none }
def FnExactFixedWrongFalsely : Prop := fnExactFixedRow.holds Try.pinned (OpenSpec.ofChange fnExactFixedWrong)

/-- 'laws.FnExactShortName': WHATEVER THE INPUT: true; the input reads as it did. -/
def fnExactShortNameSpec : ChangeSpec := { name := "fnExactShortName", fn := fun _ => fun
  | [d] => { results := [.lit (.bool true)], args := [d] }
  | _ => none }
def fnExactShortNameRow : OpenClaim := { program := "ytpglahocmchcnaa", sum := "c0a25459051ae861d4809408bd7b46f82278351494e9520c6229f66447edd09f", func := "loop.example/g00777/laws.FnExactShortName", spec := "fnExactShortName", apart := false }
def FnExactShortNameSaid : Prop := fnExactShortNameRow.holds Try.pinned (OpenSpec.ofChange fnExactShortNameSpec)

/-- ITS FALSE NEIGHBOUR: 'it returns false'. Refute it at one input. -/
def fnExactShortNameWrong : ChangeSpec := { name := "fnExactShortName", fn := fun _ => fun
  | [d] => { results := [.lit (.bool false)], args := [d] }
  | _ => none }
def FnExactShortNameWrongFalsely : Prop := fnExactShortNameRow.holds Try.pinned (OpenSpec.ofChange fnExactShortNameWrong)

/-- 'laws.FnExactReadVar': WHATEVER THE INPUT: true; the input reads as it did. -/
def fnExactReadVarSpec : ChangeSpec := { name := "fnExactReadVar", fn := fun _ => fun
  | [d] => { results := [.lit (.bool true)], args := [d] }
  | _ => none }
def fnExactReadVarRow : OpenClaim := { program := "ytpglahocmchcnaa", sum := "c0a25459051ae861d4809408bd7b46f82278351494e9520c6229f66447edd09f", func := "loop.example/g00777/laws.FnExactReadVar", spec := "fnExactReadVar", apart := false }
def FnExactReadVarSaid : Prop := fnExactReadVarRow.holds Try.pinned (OpenSpec.ofChange fnExactReadVarSpec)

/-- ITS FALSE NEIGHBOUR: 'it returns false'. Refute it at one input. -/
def fnExactReadVarWrong : ChangeSpec := { name := "fnExactReadVar", fn := fun _ => fun
  | [d] => { results := [.lit (.bool false)], args := [d] }
  | _ => none }
def FnExactReadVarWrongFalsely : Prop := fnExactReadVarRow.holds Try.pinned (OpenSpec.ofChange fnExactReadVarWrong)

/-- 'laws.FnExactUnhex': WHATEVER THE INPUT: true; the input reads as it did. -/
def fnExactUnhexSpec : ChangeSpec := { name := "fnExactUnhex", fn := fun _ => fun
  | [d] => { results := [.lit (.bool true)], args := [d] }
  | _ => none }
def fnExactUnhexRow : OpenClaim := { program := "ytpglahocmchcnaa", sum := "c0a25459051ae861d4809408bd7b46f82278351494e9520c6229f66447edd09f", func := "loop.example/g00777/laws.FnExactUnhex", spec := "fnExactUnhex", inPlace := ["internal/bytealg.IndexByteString"], apart := false }
def FnExactUnhexSaid : Prop := fnExactUnhexRow.holds Try.pinned (OpenSpec.ofChange fnExactUnhexSpec)

/-- ITS FALSE NEIGHBOUR: 'it returns false'. Refute it at one input. -/
def fnExactUnhexWrong : ChangeSpec := { name := "fnExactUnhex", fn := fun _ => fun
  | [d] => { results := [.lit (.bool false)], args := [d] }
  | _ => none }
def FnExactUnhexWrongFalsely : Prop := fnExactUnhexRow.holds Try.pinned (OpenSpec.ofChange fnExactUnhexWrong)

/-- 'laws.FnExactRulesOk': WHATEVER THE INPUT: true; the input reads as it did. -/
def fnExactRulesOkSpec : ChangeSpec := { name := "fnExactRulesOk", fn := fun _ => fun
  | [d] => { results := [.lit (.bool true)], args := [d] }
  | _ => none }
def fnExactRulesOkRow : OpenClaim := { program := "ytpglahocmchcnaa", sum := "c0a25459051ae861d4809408bd7b46f82278351494e9520c6229f66447edd09f", func := "loop.example/g00777/laws.FnExactRulesOk", spec := "fnExactRulesOk", apart := false }
def FnExactRulesOkSaid : Prop := fnExactRulesOkRow.holds Try.pinned (OpenSpec.ofChange fnExactRulesOkSpec)

/-- ITS FALSE NEIGHBOUR: 'it returns false'. Refute it at one input. -/
def fnExactRulesOkWrong : ChangeSpec := { name := "fnExactRulesOk", fn := fun _ => fun
  | [d] => { results := [.lit (.bool false)], args := [d] }
  | _ => none }
def FnExactRulesOkWrongFalsely : Prop := fnExactRulesOkRow.holds Try.pinned (OpenSpec.ofChange fnExactRulesOkWrong)

/-- 'laws.FnShortName': WHATEVER THE INPUT: true; the input reads as it did. -/
def fnShortNameSpec : ChangeSpec := { name := "fnShortName", fn := fun _ => fun
  | [d] => { results := [.lit (.bool true)], args := [d] }
  | _ => none }
def fnShortNameRow : OpenClaim := { program := "ytpglahocmchcnaa", sum := "c0a25459051ae861d4809408bd7b46f82278351494e9520c6229f66447edd09f", func := "loop.example/g00777/laws.FnShortName", spec := "fnShortName", apart := false }
def FnShortNameSaid : Prop := fnShortNameRow.holds Try.pinned (OpenSpec.ofChange fnShortNameSpec)

/-- ITS FALSE NEIGHBOUR: 'it returns false'. Refute it at one input. -/
def fnShortNameWrong : ChangeSpec := { name := "fnShortName", fn := fun _ => fun
  | [d] => { results := [.lit (.bool false)], args := [d] }
  | _ => none }
def FnShortNameWrongFalsely : Prop := fnShortNameRow.holds Try.pinned (OpenSpec.ofChange fnShortNameWrong)

/-- 'laws.FnExactMapSpec': WHATEVER THE INPUT: true; the input reads as it did. -/
def fnExactMapSpecSpec : ChangeSpec := { name := "fnExactMapSpec", fn := fun _ => fun
  | [d1, d2] => { results := [.lit (.bool true)], args := [d1, d2] }
  | _ => none }
def fnExactMapSpecRow : OpenClaim := { program := "ytpglahocmchcnaa", sum := "c0a25459051ae861d4809408bd7b46f82278351494e9520c6229f66447edd09f", func := "loop.example/g00777/laws.FnExactMapSpec", spec := "fnExactMapSpec", apart := false }
def FnExactMapSpecSaid : Prop := fnExactMapSpecRow.holds Try.pinned (OpenSpec.ofChange fnExactMapSpecSpec)

/-- ITS FALSE NEIGHBOUR: 'it returns false'. Refute it at one input. -/
def fnExactMapSpecWrong : ChangeSpec := { name := "fnExactMapSpec", fn := fun _ => fun
  | [d1, d2] => { results := [.lit (.bool false)], args := [d1, d2] }
  | _ => none }
def FnExactMapSpecWrongFalsely : Prop := fnExactMapSpecRow.holds Try.pinned (OpenSpec.ofChange fnExactMapSpecWrong)

/-- 'laws.FnExactNamed': WHATEVER THE INPUT: true; the input reads as it did. -/
def fnExactNamedSpec : ChangeSpec := { name := "fnExactNamed", fn := fun _ => fun
  | [d1, d2] => { results := [.lit (.bool true)], args := [d1, d2] }
  | _ => none }
def fnExactNamedRow : OpenClaim := { program := "ytpglahocmchcnaa", sum := "c0a25459051ae861d4809408bd7b46f82278351494e9520c6229f66447edd09f", func := "loop.example/g00777/laws.FnExactNamed", spec := "fnExactNamed", apart := false }
def FnExactNamedSaid : Prop := fnExactNamedRow.holds Try.pinned (OpenSpec.ofChange fnExactNamedSpec)

/-- ITS FALSE NEIGHBOUR: 'it returns false'. Refute it at one input. -/
def fnExactNamedWrong : ChangeSpec := { name := "fnExactNamed", fn := fun _ => fun
  | [d1, d2] => { results := [.lit (.bool false)], args := [d1, d2] }
  | _ => none }
def FnExactNamedWrongFalsely : Prop := fnExactNamedRow.holds Try.pinned (OpenSpec.ofChange fnExactNamedWrong)

/- THE SECOND FORM. 'bulk': how many values and letters a reading holds, each counted each time it is reached (what is shared counts as often as it is met; a slice's spare places count too). A statement '..UptoSaid' is the law's where the arguments, and the package variables that the reading takes, are together of bulk at most 1048576: NARROWER than '..Said'. Prove '..Said' where nothing that the law and all that it calls make is longer than what came in: it says more and counts as full. Else prove '..UptoSaid'. A law counts once. -/
mutual
def uptoBulk {H : Type} : DataW H → Nat
  | .lit (.string bytes) => bytes.length + 1
  | .lit _ => 1
  | .nil => 1
  | .ptr d => uptoBulk d + 1
  | .slice elems spare => uptoBulkAll elems + uptoBulkAll spare + 1
  | .agg parts => uptoBulkAll parts + 1
  | .iface _ d => uptoBulk d + 1
  | .map entries => uptoBulkEntries entries + 1
  | .held _ => 1
def uptoBulkAll {H : Type} : List (DataW H) → Nat
  | [] => 0
  | d :: r => uptoBulk d + uptoBulkAll r
def uptoBulkEntries {H : Type} : List (Lit × DataW H) → Nat
  | [] => 0
  | x :: r => uptoBulkEntry x + uptoBulkEntries r
def uptoBulkEntry {H : Type} : Lit × DataW H → Nat
  | (.string bytes, d) => bytes.length + uptoBulk d + 1
  | (_, d) => uptoBulk d + 1
 end
def uptoSmall : (H : Type) → List (DataW H) → Bool := fun _ ds => decide (uptoBulkAll ds ≤ 1048576)
def OpenSpec.upto (s : _root_.Go.ChangeSpec) : _root_.Go.OpenSpec := { _root_.Go.OpenSpec.ofChange s with cond := some uptoSmall }

/-- 'laws.FnExactConstants', WHERE WHAT IT READS IS OF BULK AT MOST 1048576: true; the input reads as it did. -/
def fnExactConstantsUptoRow : OpenClaim := { program := "ytpglahocmchcnaa", sum := "c0a25459051ae861d4809408bd7b46f82278351494e9520c6229f66447edd09f", func := "loop.example/g00777/laws.FnExactConstants", spec := "fnExactConstants", apart := false, narrowed := true }
def FnExactConstantsUptoSaid : Prop := fnExactConstantsUptoRow.holds Try.pinned (OpenSpec.upto fnExactConstantsSpec)

/-- 'laws.FnExactHex', WHERE WHAT IT READS IS OF BULK AT MOST 1048576: true; the input reads as it did. -/
def fnExactHexUptoRow : OpenClaim := { program := "ytpglahocmchcnaa", sum := "c0a25459051ae861d4809408bd7b46f82278351494e9520c6229f66447edd09f", func := "loop.example/g00777/laws.FnExactHex", spec := "fnExactHex", apart := false, narrowed := true }
def FnExactHexUptoSaid : Prop := fnExactHexUptoRow.holds Try.pinned (OpenSpec.upto fnExactHexSpec)

/-- 'laws.FnExactReadFixed', WHERE WHAT IT READS IS OF BULK AT MOST 1048576: true; the input reads as it did. -/
def fnExactReadFixedUptoRow : OpenClaim := { program := "ytpglahocmchcnaa", sum := "c0a25459051ae861d4809408bd7b46f82278351494e9520c6229f66447edd09f", func := "loop.example/g00777/laws.FnExactReadFixed", spec := "fnExactReadFixed", apart := false, narrowed := true }
def FnExactReadFixedUptoSaid : Prop := fnExactReadFixedUptoRow.holds Try.pinned (OpenSpec.upto fnExactReadFixedSpec)

/-- 'laws.FnExactVar', WHERE WHAT IT READS IS OF BULK AT MOST 1048576: true; the input reads as it did. -/
def fnExactVarUptoRow : OpenClaim := { program := "ytpglahocmchcnaa", sum := "c0a25459051ae861d4809408bd7b46f82278351494e9520c6229f66447edd09f", func := "loop.example/g00777/laws.FnExactVar", spec := "fnExactVar", apart := false, narrowed := true }
def FnExactVarUptoSaid : Prop := fnExactVarUptoRow.holds Try.pinned (OpenSpec.upto fnExactVarSpec)

/-- 'laws.FnExactFixed', WHERE WHAT IT READS IS OF BULK AT MOST 1048576: true; the input reads as it did. -/
def fnExactFixedUptoRow : OpenClaim := { program := "ytpglahocmchcnaa", sum := "c0a25459051ae861d4809408bd7b46f82278351494e9520c6229f66447edd09f", func := "loop.example/g00777/laws.FnExactFixed", spec := "fnExactFixed", apart := false, narrowed := true }
def FnExactFixedUptoSaid : Prop := fnExactFixedUptoRow.holds Try.pinned (OpenSpec.upto fnExactFixedSpec)

/-- 'laws.FnExactShortName', WHERE WHAT IT READS IS OF BULK AT MOST 1048576: true; the input reads as it did. -/
def fnExactShortNameUptoRow : OpenClaim := { program := "ytpglahocmchcnaa", sum := "c0a25459051ae861d4809408bd7b46f82278351494e9520c6229f66447edd09f", func := "loop.example/g00777/laws.FnExactShortName", spec := "fnExactShortName", apart := false, narrowed := true }
def FnExactShortNameUptoSaid : Prop := fnExactShortNameUptoRow.holds Try.pinned (OpenSpec.upto fnExactShortNameSpec)

/-- 'laws.FnExactReadVar', WHERE WHAT IT READS IS OF BULK AT MOST 1048576: true; the input reads as it did. -/
def fnExactReadVarUptoRow : OpenClaim := { program := "ytpglahocmchcnaa", sum := "c0a25459051ae861d4809408bd7b46f82278351494e9520c6229f66447edd09f", func := "loop.example/g00777/laws.FnExactReadVar", spec := "fnExactReadVar", apart := false, narrowed := true }
def FnExactReadVarUptoSaid : Prop := fnExactReadVarUptoRow.holds Try.pinned (OpenSpec.upto fnExactReadVarSpec)

/-- 'laws.FnExactUnhex', WHERE WHAT IT READS IS OF BULK AT MOST 1048576: true; the input reads as it did. -/
def fnExactUnhexUptoRow : OpenClaim := { program := "ytpglahocmchcnaa", sum := "c0a25459051ae861d4809408bd7b46f82278351494e9520c6229f66447edd09f", func := "loop.example/g00777/laws.FnExactUnhex", spec := "fnExactUnhex", inPlace := ["internal/bytealg.IndexByteString"], apart := false, narrowed := true }
def FnExactUnhexUptoSaid : Prop := fnExactUnhexUptoRow.holds Try.pinned (OpenSpec.upto fnExactUnhexSpec)

/-- 'laws.FnExactRulesOk', WHERE WHAT IT READS IS OF BULK AT MOST 1048576: true; the input reads as it did. -/
def fnExactRulesOkUptoRow : OpenClaim := { program := "ytpglahocmchcnaa", sum := "c0a25459051ae861d4809408bd7b46f82278351494e9520c6229f66447edd09f", func := "loop.example/g00777/laws.FnExactRulesOk", spec := "fnExactRulesOk", apart := false, narrowed := true }
def FnExactRulesOkUptoSaid : Prop := fnExactRulesOkUptoRow.holds Try.pinned (OpenSpec.upto fnExactRulesOkSpec)

/-- 'laws.FnShortName', WHERE WHAT IT READS IS OF BULK AT MOST 1048576: true; the input reads as it did. -/
def fnShortNameUptoRow : OpenClaim := { program := "ytpglahocmchcnaa", sum := "c0a25459051ae861d4809408bd7b46f82278351494e9520c6229f66447edd09f", func := "loop.example/g00777/laws.FnShortName", spec := "fnShortName", apart := false, narrowed := true }
def FnShortNameUptoSaid : Prop := fnShortNameUptoRow.holds Try.pinned (OpenSpec.upto fnShortNameSpec)

/-- 'laws.FnExactMapSpec', WHERE WHAT IT READS IS OF BULK AT MOST 1048576: true; the input reads as it did. -/
def fnExactMapSpecUptoRow : OpenClaim := { program := "ytpglahocmchcnaa", sum := "c0a25459051ae861d4809408bd7b46f82278351494e9520c6229f66447edd09f", func := "loop.example/g00777/laws.FnExactMapSpec", spec := "fnExactMapSpec", apart := false, narrowed := true }
def FnExactMapSpecUptoSaid : Prop := fnExactMapSpecUptoRow.holds Try.pinned (OpenSpec.upto fnExactMapSpecSpec)

/-- 'laws.FnExactNamed', WHERE WHAT IT READS IS OF BULK AT MOST 1048576: true; the input reads as it did. -/
def fnExactNamedUptoRow : OpenClaim := { program := "ytpglahocmchcnaa", sum := "c0a25459051ae861d4809408bd7b46f82278351494e9520c6229f66447edd09f", func := "loop.example/g00777/laws.FnExactNamed", spec := "fnExactNamed", apart := false, narrowed := true }
def FnExactNamedUptoSaid : Prop := fnExactNamedUptoRow.holds Try.pinned (OpenSpec.upto fnExactNamedSpec)

end Rows
end Go.Proofs.Ytpglahocmchcnaa

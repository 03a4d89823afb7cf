-- Out of the kit's print, with contracts of mine among it (myprint.py).
import Derived.Test.YtkmcnjpgamaljaaGreatDoorPFnFilesx0
import Derived.Test.YtkmcnjpgamaljaaGreatDoorPFnFilesx2
import Derived.Test.YtkmcnjpgamaljaaGreatDoorPFnFilesx13
namespace Go.Proofs.YtkmcnjpgamaljaaGreatDoor.PFnFiles
open Go.RowKit Go.Proofs.YtkmcnjpgamaljaaGreatDoorW.PrintWords Go.Proofs.YtkmcnjpgamaljaaGreatDoorW.PrintLast Go.Proofs.YtkmcnjpgamaljaaGreatDoorW.PrintMore
attribute [local go_sem] max2_int min2_int max_two min_two max_three min_three max_four min_four   -- for this text's walks alone
set_option linter.unusedVariables false
set_option linter.unusedSimpArgs false

/-! ### spec_l7Line: function 49 -/
def spec_l7Line.f (k : Nat) (s0_0 : List Int) (s0_1 : Int) (s0_2 : Int) (a1 : Int) (a2 : Int) : Option (ByteArray × Int × Int) := (some (([(⟨#[97]⟩ : ByteArray), (⟨#[98]⟩ : ByteArray), (⟨#[99]⟩ : ByteArray), (⟨#[100]⟩ : ByteArray)] : List ByteArray) : List ByteArray)).bind fun y374 => ((spec_l1Below.f s0_0 s0_1 s0_2 a2).bind fun bt377 => (if 0 ≤ bt377.1 then (if bt377.1 < (y374.length : Int) then (if 0 ≤ a1 then (if a1 < (y374.length : Int) then ((spec_l1Once.f s0_0 bt377.2.1 bt377.2.2 25).bind fun bt382 => (if bt382.1 = true then ((spec_l4Line.f k s0_0 bt382.2.1 bt382.2.2 false).bind fun bt385 => (if bt385.1.size + 1 ≤ 9223372036854775807 then (some (bt385.1 ++ (⟨#[10]⟩ : ByteArray), bt385.2.1, bt385.2.2)) else (none))) else (if 1 + (rdOf ByteArray.empty y374 a1).size ≤ 9223372036854775807 then (if ((⟨#[118]⟩ : ByteArray) ++ (rdOf ByteArray.empty y374 a1)).size + 4 ≤ 9223372036854775807 then (if ((⟨#[102]⟩ : ByteArray) ++ (rdOf ByteArray.empty y374 a1)).size + 2 ≤ 9223372036854775807 then (if ((⟨#[119]⟩ : ByteArray) ++ (rdOf ByteArray.empty y374 a1)).size + 4 ≤ 9223372036854775807 then (if (((⟨#[118]⟩ : ByteArray) ++ (rdOf ByteArray.empty y374 a1)) ++ (⟨#[32, 45, 32, 102]⟩ : ByteArray)).size + (rdOf ByteArray.empty y374 a1).size ≤ 9223372036854775807 then (if ((((⟨#[118]⟩ : ByteArray) ++ (rdOf ByteArray.empty y374 a1)) ++ (⟨#[32, 45, 32, 102]⟩ : ByteArray)) ++ (rdOf ByteArray.empty y374 a1)).size + 2 ≤ 9223372036854775807 then ((spec_l1Pick.f s0_0 bt382.2.1 bt382.2.2 (([(⟨#[118]⟩ : ByteArray) ++ (rdOf ByteArray.empty y374 a1), ((⟨#[118]⟩ : ByteArray) ++ (rdOf ByteArray.empty y374 a1)) ++ (⟨#[32, 43, 32, 49]⟩ : ByteArray), ((⟨#[102]⟩ : ByteArray) ++ (rdOf ByteArray.empty y374 a1)) ++ (⟨#[40, 41]⟩ : ByteArray), ((⟨#[119]⟩ : ByteArray) ++ (rdOf ByteArray.empty y374 a1)) ++ (⟨#[32, 42, 32, 50]⟩ : ByteArray), (⟨#[51]⟩ : ByteArray), ((((⟨#[118]⟩ : ByteArray) ++ (rdOf ByteArray.empty y374 a1)) ++ (⟨#[32, 45, 32, 102]⟩ : ByteArray)) ++ (rdOf ByteArray.empty y374 a1)) ++ (⟨#[40, 41]⟩ : ByteArray)] : List ByteArray))).bind fun bt391 => ((spec_l1Below.f s0_0 bt391.2.1 bt391.2.2 12).bind fun bt394 => (if bt394.1 = 0 then (if 6 + bt391.1.size ≤ 9223372036854775807 then (if ((⟨#[112, 114, 105, 110, 116, 40]⟩ : ByteArray) ++ bt391.1).size + 3 ≤ 9223372036854775807 then (some (((⟨#[112, 114, 105, 110, 116, 40]⟩ : ByteArray) ++ bt391.1) ++ (⟨#[41, 59, 10]⟩ : ByteArray), bt394.2.1, bt394.2.2)) else (none)) else (none)) else (if bt394.1 = 1 then (if 7 + (rdOf ByteArray.empty y374 bt377.1).size ≤ 9223372036854775807 then (if ((⟨#[112, 114, 105, 110, 116, 40, 105]⟩ : ByteArray) ++ (rdOf ByteArray.empty y374 bt377.1)).size + (rdOf ByteArray.empty y374 a1).size ≤ 9223372036854775807 then (if (((⟨#[112, 114, 105, 110, 116, 40, 105]⟩ : ByteArray) ++ (rdOf ByteArray.empty y374 bt377.1)) ++ (rdOf ByteArray.empty y374 a1)).size + 13 ≤ 9223372036854775807 then (if ((((⟨#[112, 114, 105, 110, 116, 40, 105]⟩ : ByteArray) ++ (rdOf ByteArray.empty y374 bt377.1)) ++ (rdOf ByteArray.empty y374 a1)) ++ (⟨#[41, 59, 10, 105, 109, 112, 111, 114, 116, 32, 123, 32, 118]⟩ : ByteArray)).size + (rdOf ByteArray.empty y374 bt377.1).size ≤ 9223372036854775807 then (if (((((⟨#[112, 114, 105, 110, 116, 40, 105]⟩ : ByteArray) ++ (rdOf ByteArray.empty y374 bt377.1)) ++ (rdOf ByteArray.empty y374 a1)) ++ (⟨#[41, 59, 10, 105, 109, 112, 111, 114, 116, 32, 123, 32, 118]⟩ : ByteArray)) ++ (rdOf ByteArray.empty y374 bt377.1)).size + 5 ≤ 9223372036854775807 then (if ((((((⟨#[112, 114, 105, 110, 116, 40, 105]⟩ : ByteArray) ++ (rdOf ByteArray.empty y374 bt377.1)) ++ (rdOf ByteArray.empty y374 a1)) ++ (⟨#[41, 59, 10, 105, 109, 112, 111, 114, 116, 32, 123, 32, 118]⟩ : ByteArray)) ++ (rdOf ByteArray.empty y374 bt377.1)) ++ (⟨#[32, 97, 115, 32, 105]⟩ : ByteArray)).size + (rdOf ByteArray.empty y374 bt377.1).size ≤ 9223372036854775807 then (if (((((((⟨#[112, 114, 105, 110, 116, 40, 105]⟩ : ByteArray) ++ (rdOf ByteArray.empty y374 bt377.1)) ++ (rdOf ByteArray.empty y374 a1)) ++ (⟨#[41, 59, 10, 105, 109, 112, 111, 114, 116, 32, 123, 32, 118]⟩ : ByteArray)) ++ (rdOf ByteArray.empty y374 bt377.1)) ++ (⟨#[32, 97, 115, 32, 105]⟩ : ByteArray)) ++ (rdOf ByteArray.empty y374 bt377.1)).size + (rdOf ByteArray.empty y374 a1).size ≤ 9223372036854775807 then (if ((((((((⟨#[112, 114, 105, 110, 116, 40, 105]⟩ : ByteArray) ++ (rdOf ByteArray.empty y374 bt377.1)) ++ (rdOf ByteArray.empty y374 a1)) ++ (⟨#[41, 59, 10, 105, 109, 112, 111, 114, 116, 32, 123, 32, 118]⟩ : ByteArray)) ++ (rdOf ByteArray.empty y374 bt377.1)) ++ (⟨#[32, 97, 115, 32, 105]⟩ : ByteArray)) ++ (rdOf ByteArray.empty y374 bt377.1)) ++ (rdOf ByteArray.empty y374 a1)).size + 11 ≤ 9223372036854775807 then (if (((((((((⟨#[112, 114, 105, 110, 116, 40, 105]⟩ : ByteArray) ++ (rdOf ByteArray.empty y374 bt377.1)) ++ (rdOf ByteArray.empty y374 a1)) ++ (⟨#[41, 59, 10, 105, 109, 112, 111, 114, 116, 32, 123, 32, 118]⟩ : ByteArray)) ++ (rdOf ByteArray.empty y374 bt377.1)) ++ (⟨#[32, 97, 115, 32, 105]⟩ : ByteArray)) ++ (rdOf ByteArray.empty y374 bt377.1)) ++ (rdOf ByteArray.empty y374 a1)) ++ (⟨#[32, 125, 32, 102, 114, 111, 109, 32, 34, 46, 47]⟩ : ByteArray)).size + (rdOf ByteArray.empty y374 bt377.1).size ≤ 9223372036854775807 then (if ((((((((((⟨#[112, 114, 105, 110, 116, 40, 105]⟩ : ByteArray) ++ (rdOf ByteArray.empty y374 bt377.1)) ++ (rdOf ByteArray.empty y374 a1)) ++ (⟨#[41, 59, 10, 105, 109, 112, 111, 114, 116, 32, 123, 32, 118]⟩ : ByteArray)) ++ (rdOf ByteArray.empty y374 bt377.1)) ++ (⟨#[32, 97, 115, 32, 105]⟩ : ByteArray)) ++ (rdOf ByteArray.empty y374 bt377.1)) ++ (rdOf ByteArray.empty y374 a1)) ++ (⟨#[32, 125, 32, 102, 114, 111, 109, 32, 34, 46, 47]⟩ : ByteArray)) ++ (rdOf ByteArray.empty y374 bt377.1)).size + 3 ≤ 9223372036854775807 then (some (((((((((((⟨#[112, 114, 105, 110, 116, 40, 105]⟩ : ByteArray) ++ (rdOf ByteArray.empty y374 bt377.1)) ++ (rdOf ByteArray.empty y374 a1)) ++ (⟨#[41, 59, 10, 105, 109, 112, 111, 114, 116, 32, 123, 32, 118]⟩ : ByteArray)) ++ (rdOf ByteArray.empty y374 bt377.1)) ++ (⟨#[32, 97, 115, 32, 105]⟩ : ByteArray)) ++ (rdOf ByteArray.empty y374 bt377.1)) ++ (rdOf ByteArray.empty y374 a1)) ++ (⟨#[32, 125, 32, 102, 114, 111, 109, 32, 34, 46, 47]⟩ : ByteArray)) ++ (rdOf ByteArray.empty y374 bt377.1)) ++ (⟨#[34, 59, 10]⟩ : ByteArray), bt394.2.1, bt394.2.2)) else (none)) else (none)) else (none)) else (none)) else (none)) else (none)) else (none)) else (none)) else (none)) else (none)) else (if bt394.1 = 2 then (if 13 + (rdOf ByteArray.empty y374 bt377.1).size ≤ 9223372036854775807 then (if ((⟨#[105, 109, 112, 111, 114, 116, 32, 42, 32, 97, 115, 32, 110]⟩ : ByteArray) ++ (rdOf ByteArray.empty y374 bt377.1)).size + 9 ≤ 9223372036854775807 then (if (((⟨#[105, 109, 112, 111, 114, 116, 32, 42, 32, 97, 115, 32, 110]⟩ : ByteArray) ++ (rdOf ByteArray.empty y374 bt377.1)) ++ (⟨#[32, 102, 114, 111, 109, 32, 34, 46, 47]⟩ : ByteArray)).size + (rdOf ByteArray.empty y374 bt377.1).size ≤ 9223372036854775807 then (if ((((⟨#[105, 109, 112, 111, 114, 116, 32, 42, 32, 97, 115, 32, 110]⟩ : ByteArray) ++ (rdOf ByteArray.empty y374 bt377.1)) ++ (⟨#[32, 102, 114, 111, 109, 32, 34, 46, 47]⟩ : ByteArray)) ++ (rdOf ByteArray.empty y374 bt377.1)).size + 10 ≤ 9223372036854775807 then (if (((((⟨#[105, 109, 112, 111, 114, 116, 32, 42, 32, 97, 115, 32, 110]⟩ : ByteArray) ++ (rdOf ByteArray.empty y374 bt377.1)) ++ (⟨#[32, 102, 114, 111, 109, 32, 34, 46, 47]⟩ : ByteArray)) ++ (rdOf ByteArray.empty y374 bt377.1)) ++ (⟨#[34, 59, 10, 112, 114, 105, 110, 116, 40, 110]⟩ : ByteArray)).size + (rdOf ByteArray.empty y374 bt377.1).size ≤ 9223372036854775807 then (if ((((((⟨#[105, 109, 112, 111, 114, 116, 32, 42, 32, 97, 115, 32, 110]⟩ : ByteArray) ++ (rdOf ByteArray.empty y374 bt377.1)) ++ (⟨#[32, 102, 114, 111, 109, 32, 34, 46, 47]⟩ : ByteArray)) ++ (rdOf ByteArray.empty y374 bt377.1)) ++ (⟨#[34, 59, 10, 112, 114, 105, 110, 116, 40, 110]⟩ : ByteArray)) ++ (rdOf ByteArray.empty y374 bt377.1)).size + 1 ≤ 9223372036854775807 then (if 1 + (rdOf ByteArray.empty y374 bt377.1).size ≤ 9223372036854775807 then ((spec_l1Pick.f s0_0 bt394.2.1 bt394.2.2 (([(⟨#[118]⟩ : ByteArray) ++ (rdOf ByteArray.empty y374 bt377.1), (⟨#[119]⟩ : ByteArray) ++ (rdOf ByteArray.empty y374 bt377.1), (⟨#[113]⟩ : ByteArray), (⟨#[100, 101, 102, 97, 117, 108, 116]⟩ : ByteArray)] : List ByteArray))).bind fun bt400 => (if (((((((⟨#[105, 109, 112, 111, 114, 116, 32, 42, 32, 97, 115, 32, 110]⟩ : ByteArray) ++ (rdOf ByteArray.empty y374 bt377.1)) ++ (⟨#[32, 102, 114, 111, 109, 32, 34, 46, 47]⟩ : ByteArray)) ++ (rdOf ByteArray.empty y374 bt377.1)) ++ (⟨#[34, 59, 10, 112, 114, 105, 110, 116, 40, 110]⟩ : ByteArray)) ++ (rdOf ByteArray.empty y374 bt377.1)) ++ (⟨#[46]⟩ : ByteArray)).size + bt400.1.size ≤ 9223372036854775807 then (if ((((((((⟨#[105, 109, 112, 111, 114, 116, 32, 42, 32, 97, 115, 32, 110]⟩ : ByteArray) ++ (rdOf ByteArray.empty y374 bt377.1)) ++ (⟨#[32, 102, 114, 111, 109, 32, 34, 46, 47]⟩ : ByteArray)) ++ (rdOf ByteArray.empty y374 bt377.1)) ++ (⟨#[34, 59, 10, 112, 114, 105, 110, 116, 40, 110]⟩ : ByteArray)) ++ (rdOf ByteArray.empty y374 bt377.1)) ++ (⟨#[46]⟩ : ByteArray)) ++ bt400.1).size + 3 ≤ 9223372036854775807 then (some (((((((((⟨#[105, 109, 112, 111, 114, 116, 32, 42, 32, 97, 115, 32, 110]⟩ : ByteArray) ++ (rdOf ByteArray.empty y374 bt377.1)) ++ (⟨#[32, 102, 114, 111, 109, 32, 34, 46, 47]⟩ : ByteArray)) ++ (rdOf ByteArray.empty y374 bt377.1)) ++ (⟨#[34, 59, 10, 112, 114, 105, 110, 116, 40, 110]⟩ : ByteArray)) ++ (rdOf ByteArray.empty y374 bt377.1)) ++ (⟨#[46]⟩ : ByteArray)) ++ bt400.1) ++ (⟨#[41, 59, 10]⟩ : ByteArray), bt400.2.1, bt400.2.2)) else (none)) else (none))) else (none)) else (none)) else (none)) else (none)) else (none)) else (none)) else (none)) else (if bt394.1 = 3 then (if ((⟨#[118]⟩ : ByteArray) ++ (rdOf ByteArray.empty y374 a1)).size + 3 ≤ 9223372036854775807 then (if (((⟨#[118]⟩ : ByteArray) ++ (rdOf ByteArray.empty y374 a1)) ++ (⟨#[32, 61, 32]⟩ : ByteArray)).size + bt391.1.size ≤ 9223372036854775807 then (if ((((⟨#[118]⟩ : ByteArray) ++ (rdOf ByteArray.empty y374 a1)) ++ (⟨#[32, 61, 32]⟩ : ByteArray)) ++ bt391.1).size + 2 ≤ 9223372036854775807 then (some (((((⟨#[118]⟩ : ByteArray) ++ (rdOf ByteArray.empty y374 a1)) ++ (⟨#[32, 61, 32]⟩ : ByteArray)) ++ bt391.1) ++ (⟨#[59, 10]⟩ : ByteArray), bt394.2.1, bt394.2.2)) else (none)) else (none)) else (none)) else (if bt394.1 = 4 then (if 10 + (rdOf ByteArray.empty y374 bt377.1).size ≤ 9223372036854775807 then (if ((⟨#[105, 109, 112, 111, 114, 116, 32, 123, 32, 102]⟩ : ByteArray) ++ (rdOf ByteArray.empty y374 bt377.1)).size + 5 ≤ 9223372036854775807 then (if (((⟨#[105, 109, 112, 111, 114, 116, 32, 123, 32, 102]⟩ : ByteArray) ++ (rdOf ByteArray.empty y374 bt377.1)) ++ (⟨#[32, 97, 115, 32, 103]⟩ : ByteArray)).size + (rdOf ByteArray.empty y374 bt377.1).size ≤ 9223372036854775807 then (if ((((⟨#[105, 109, 112, 111, 114, 116, 32, 123, 32, 102]⟩ : ByteArray) ++ (rdOf ByteArray.empty y374 bt377.1)) ++ (⟨#[32, 97, 115, 32, 103]⟩ : ByteArray)) ++ (rdOf ByteArray.empty y374 bt377.1)).size + 11 ≤ 9223372036854775807 then (if (((((⟨#[105, 109, 112, 111, 114, 116, 32, 123, 32, 102]⟩ : ByteArray) ++ (rdOf ByteArray.empty y374 bt377.1)) ++ (⟨#[32, 97, 115, 32, 103]⟩ : ByteArray)) ++ (rdOf ByteArray.empty y374 bt377.1)) ++ (⟨#[32, 125, 32, 102, 114, 111, 109, 32, 34, 46, 47]⟩ : ByteArray)).size + (rdOf ByteArray.empty y374 bt377.1).size ≤ 9223372036854775807 then (if ((((((⟨#[105, 109, 112, 111, 114, 116, 32, 123, 32, 102]⟩ : ByteArray) ++ (rdOf ByteArray.empty y374 bt377.1)) ++ (⟨#[32, 97, 115, 32, 103]⟩ : ByteArray)) ++ (rdOf ByteArray.empty y374 bt377.1)) ++ (⟨#[32, 125, 32, 102, 114, 111, 109, 32, 34, 46, 47]⟩ : ByteArray)) ++ (rdOf ByteArray.empty y374 bt377.1)).size + 10 ≤ 9223372036854775807 then (if (((((((⟨#[105, 109, 112, 111, 114, 116, 32, 123, 32, 102]⟩ : ByteArray) ++ (rdOf ByteArray.empty y374 bt377.1)) ++ (⟨#[32, 97, 115, 32, 103]⟩ : ByteArray)) ++ (rdOf ByteArray.empty y374 bt377.1)) ++ (⟨#[32, 125, 32, 102, 114, 111, 109, 32, 34, 46, 47]⟩ : ByteArray)) ++ (rdOf ByteArray.empty y374 bt377.1)) ++ (⟨#[34, 59, 10, 112, 114, 105, 110, 116, 40, 103]⟩ : ByteArray)).size + (rdOf ByteArray.empty y374 bt377.1).size ≤ 9223372036854775807 then (if ((((((((⟨#[105, 109, 112, 111, 114, 116, 32, 123, 32, 102]⟩ : ByteArray) ++ (rdOf ByteArray.empty y374 bt377.1)) ++ (⟨#[32, 97, 115, 32, 103]⟩ : ByteArray)) ++ (rdOf ByteArray.empty y374 bt377.1)) ++ (⟨#[32, 125, 32, 102, 114, 111, 109, 32, 34, 46, 47]⟩ : ByteArray)) ++ (rdOf ByteArray.empty y374 bt377.1)) ++ (⟨#[34, 59, 10, 112, 114, 105, 110, 116, 40, 103]⟩ : ByteArray)) ++ (rdOf ByteArray.empty y374 bt377.1)).size + 5 ≤ 9223372036854775807 then (some (((((((((⟨#[105, 109, 112, 111, 114, 116, 32, 123, 32, 102]⟩ : ByteArray) ++ (rdOf ByteArray.empty y374 bt377.1)) ++ (⟨#[32, 97, 115, 32, 103]⟩ : ByteArray)) ++ (rdOf ByteArray.empty y374 bt377.1)) ++ (⟨#[32, 125, 32, 102, 114, 111, 109, 32, 34, 46, 47]⟩ : ByteArray)) ++ (rdOf ByteArray.empty y374 bt377.1)) ++ (⟨#[34, 59, 10, 112, 114, 105, 110, 116, 40, 103]⟩ : ByteArray)) ++ (rdOf ByteArray.empty y374 bt377.1)) ++ (⟨#[40, 41, 41, 59, 10]⟩ : ByteArray), bt394.2.1, bt394.2.2)) else (none)) else (none)) else (none)) else (none)) else (none)) else (none)) else (none)) else (none)) else (if bt394.1 = 5 then (if 17 + (rdOf ByteArray.empty y374 bt377.1).size ≤ 9223372036854775807 then (if ((⟨#[101, 120, 112, 111, 114, 116, 32, 42, 32, 102, 114, 111, 109, 32, 34, 46, 47]⟩ : ByteArray) ++ (rdOf ByteArray.empty y374 bt377.1)).size + 3 ≤ 9223372036854775807 then (some (((⟨#[101, 120, 112, 111, 114, 116, 32, 42, 32, 102, 114, 111, 109, 32, 34, 46, 47]⟩ : ByteArray) ++ (rdOf ByteArray.empty y374 bt377.1)) ++ (⟨#[34, 59, 10]⟩ : ByteArray), bt394.2.1, bt394.2.2)) else (none)) else (none)) else (if bt394.1 = 6 then (if 10 + (rdOf ByteArray.empty y374 bt377.1).size ≤ 9223372036854775807 then (if ((⟨#[101, 120, 112, 111, 114, 116, 32, 123, 32, 118]⟩ : ByteArray) ++ (rdOf ByteArray.empty y374 bt377.1)).size + 5 ≤ 9223372036854775807 then (if (((⟨#[101, 120, 112, 111, 114, 116, 32, 123, 32, 118]⟩ : ByteArray) ++ (rdOf ByteArray.empty y374 bt377.1)) ++ (⟨#[32, 97, 115, 32, 120]⟩ : ByteArray)).size + (rdOf ByteArray.empty y374 bt377.1).size ≤ 9223372036854775807 then (if ((((⟨#[101, 120, 112, 111, 114, 116, 32, 123, 32, 118]⟩ : ByteArray) ++ (rdOf ByteArray.empty y374 bt377.1)) ++ (⟨#[32, 97, 115, 32, 120]⟩ : ByteArray)) ++ (rdOf ByteArray.empty y374 bt377.1)).size + (rdOf ByteArray.empty y374 a1).size ≤ 9223372036854775807 then (if (((((⟨#[101, 120, 112, 111, 114, 116, 32, 123, 32, 118]⟩ : ByteArray) ++ (rdOf ByteArray.empty y374 bt377.1)) ++ (⟨#[32, 97, 115, 32, 120]⟩ : ByteArray)) ++ (rdOf ByteArray.empty y374 bt377.1)) ++ (rdOf ByteArray.empty y374 a1)).size + 11 ≤ 9223372036854775807 then (if ((((((⟨#[101, 120, 112, 111, 114, 116, 32, 123, 32, 118]⟩ : ByteArray) ++ (rdOf ByteArray.empty y374 bt377.1)) ++ (⟨#[32, 97, 115, 32, 120]⟩ : ByteArray)) ++ (rdOf ByteArray.empty y374 bt377.1)) ++ (rdOf ByteArray.empty y374 a1)) ++ (⟨#[32, 125, 32, 102, 114, 111, 109, 32, 34, 46, 47]⟩ : ByteArray)).size + (rdOf ByteArray.empty y374 bt377.1).size ≤ 9223372036854775807 then (if (((((((⟨#[101, 120, 112, 111, 114, 116, 32, 123, 32, 118]⟩ : ByteArray) ++ (rdOf ByteArray.empty y374 bt377.1)) ++ (⟨#[32, 97, 115, 32, 120]⟩ : ByteArray)) ++ (rdOf ByteArray.empty y374 bt377.1)) ++ (rdOf ByteArray.empty y374 a1)) ++ (⟨#[32, 125, 32, 102, 114, 111, 109, 32, 34, 46, 47]⟩ : ByteArray)) ++ (rdOf ByteArray.empty y374 bt377.1)).size + 3 ≤ 9223372036854775807 then (some ((((((((⟨#[101, 120, 112, 111, 114, 116, 32, 123, 32, 118]⟩ : ByteArray) ++ (rdOf ByteArray.empty y374 bt377.1)) ++ (⟨#[32, 97, 115, 32, 120]⟩ : ByteArray)) ++ (rdOf ByteArray.empty y374 bt377.1)) ++ (rdOf ByteArray.empty y374 a1)) ++ (⟨#[32, 125, 32, 102, 114, 111, 109, 32, 34, 46, 47]⟩ : ByteArray)) ++ (rdOf ByteArray.empty y374 bt377.1)) ++ (⟨#[34, 59, 10]⟩ : ByteArray), bt394.2.1, bt394.2.2)) else (none)) else (none)) else (none)) else (none)) else (none)) else (none)) else (none)) else (if bt394.1 = 7 then (if 8 + (rdOf ByteArray.empty y374 bt377.1).size ≤ 9223372036854775807 then (if ((⟨#[105, 109, 112, 111, 114, 116, 32, 100]⟩ : ByteArray) ++ (rdOf ByteArray.empty y374 bt377.1)).size + 9 ≤ 9223372036854775807 then (if (((⟨#[105, 109, 112, 111, 114, 116, 32, 100]⟩ : ByteArray) ++ (rdOf ByteArray.empty y374 bt377.1)) ++ (⟨#[32, 102, 114, 111, 109, 32, 34, 46, 47]⟩ : ByteArray)).size + (rdOf ByteArray.empty y374 bt377.1).size ≤ 9223372036854775807 then (if ((((⟨#[105, 109, 112, 111, 114, 116, 32, 100]⟩ : ByteArray) ++ (rdOf ByteArray.empty y374 bt377.1)) ++ (⟨#[32, 102, 114, 111, 109, 32, 34, 46, 47]⟩ : ByteArray)) ++ (rdOf ByteArray.empty y374 bt377.1)).size + 10 ≤ 9223372036854775807 then (if (((((⟨#[105, 109, 112, 111, 114, 116, 32, 100]⟩ : ByteArray) ++ (rdOf ByteArray.empty y374 bt377.1)) ++ (⟨#[32, 102, 114, 111, 109, 32, 34, 46, 47]⟩ : ByteArray)) ++ (rdOf ByteArray.empty y374 bt377.1)) ++ (⟨#[34, 59, 10, 112, 114, 105, 110, 116, 40, 100]⟩ : ByteArray)).size + (rdOf ByteArray.empty y374 bt377.1).size ≤ 9223372036854775807 then (if ((((((⟨#[105, 109, 112, 111, 114, 116, 32, 100]⟩ : ByteArray) ++ (rdOf ByteArray.empty y374 bt377.1)) ++ (⟨#[32, 102, 114, 111, 109, 32, 34, 46, 47]⟩ : ByteArray)) ++ (rdOf ByteArray.empty y374 bt377.1)) ++ (⟨#[34, 59, 10, 112, 114, 105, 110, 116, 40, 100]⟩ : ByteArray)) ++ (rdOf ByteArray.empty y374 bt377.1)).size + 3 ≤ 9223372036854775807 then (some (((((((⟨#[105, 109, 112, 111, 114, 116, 32, 100]⟩ : ByteArray) ++ (rdOf ByteArray.empty y374 bt377.1)) ++ (⟨#[32, 102, 114, 111, 109, 32, 34, 46, 47]⟩ : ByteArray)) ++ (rdOf ByteArray.empty y374 bt377.1)) ++ (⟨#[34, 59, 10, 112, 114, 105, 110, 116, 40, 100]⟩ : ByteArray)) ++ (rdOf ByteArray.empty y374 bt377.1)) ++ (⟨#[41, 59, 10]⟩ : ByteArray), bt394.2.1, bt394.2.2)) else (none)) else (none)) else (none)) else (none)) else (none)) else (none)) else (if bt394.1 = 8 then (if 10 + (rdOf ByteArray.empty y374 bt377.1).size ≤ 9223372036854775807 then (if ((⟨#[105, 109, 112, 111, 114, 116, 32, 34, 46, 47]⟩ : ByteArray) ++ (rdOf ByteArray.empty y374 bt377.1)).size + 3 ≤ 9223372036854775807 then (some (((⟨#[105, 109, 112, 111, 114, 116, 32, 34, 46, 47]⟩ : ByteArray) ++ (rdOf ByteArray.empty y374 bt377.1)) ++ (⟨#[34, 59, 10]⟩ : ByteArray), bt394.2.1, bt394.2.2)) else (none)) else (none)) else (if bt394.1 = 9 then ((spec_l1Once.f s0_0 bt394.2.1 bt394.2.2 3).bind fun bt403 => (if bt403.1 = true then (if 6 + bt391.1.size ≤ 9223372036854775807 then (if ((⟨#[116, 104, 114, 111, 119, 32]⟩ : ByteArray) ++ bt391.1).size + 2 ≤ 9223372036854775807 then (some (((⟨#[116, 104, 114, 111, 119, 32]⟩ : ByteArray) ++ bt391.1) ++ (⟨#[59, 10]⟩ : ByteArray), bt403.2.1, bt403.2.2)) else (none)) else (none)) else (some ((⟨#[112, 114, 105, 110, 116, 40, 122, 122, 41, 59, 10]⟩ : ByteArray), bt403.2.1, bt403.2.2)))) else (if bt394.1 = 10 then (if 10 + (rdOf ByteArray.empty y374 bt377.1).size ≤ 9223372036854775807 then (if ((⟨#[105, 109, 112, 111, 114, 116, 32, 123, 32, 119]⟩ : ByteArray) ++ (rdOf ByteArray.empty y374 bt377.1)).size + 5 ≤ 9223372036854775807 then (if (((⟨#[105, 109, 112, 111, 114, 116, 32, 123, 32, 119]⟩ : ByteArray) ++ (rdOf ByteArray.empty y374 bt377.1)) ++ (⟨#[32, 97, 115, 32, 121]⟩ : ByteArray)).size + (rdOf ByteArray.empty y374 bt377.1).size ≤ 9223372036854775807 then (if ((((⟨#[105, 109, 112, 111, 114, 116, 32, 123, 32, 119]⟩ : ByteArray) ++ (rdOf ByteArray.empty y374 bt377.1)) ++ (⟨#[32, 97, 115, 32, 121]⟩ : ByteArray)) ++ (rdOf ByteArray.empty y374 bt377.1)).size + 11 ≤ 9223372036854775807 then (if (((((⟨#[105, 109, 112, 111, 114, 116, 32, 123, 32, 119]⟩ : ByteArray) ++ (rdOf ByteArray.empty y374 bt377.1)) ++ (⟨#[32, 97, 115, 32, 121]⟩ : ByteArray)) ++ (rdOf ByteArray.empty y374 bt377.1)) ++ (⟨#[32, 125, 32, 102, 114, 111, 109, 32, 34, 46, 47]⟩ : ByteArray)).size + (rdOf ByteArray.empty y374 bt377.1).size ≤ 9223372036854775807 then (if ((((((⟨#[105, 109, 112, 111, 114, 116, 32, 123, 32, 119]⟩ : ByteArray) ++ (rdOf ByteArray.empty y374 bt377.1)) ++ (⟨#[32, 97, 115, 32, 121]⟩ : ByteArray)) ++ (rdOf ByteArray.empty y374 bt377.1)) ++ (⟨#[32, 125, 32, 102, 114, 111, 109, 32, 34, 46, 47]⟩ : ByteArray)) ++ (rdOf ByteArray.empty y374 bt377.1)).size + 3 ≤ 9223372036854775807 then (if 1 + (rdOf ByteArray.empty y374 bt377.1).size ≤ 9223372036854775807 then (if ((⟨#[121]⟩ : ByteArray) ++ (rdOf ByteArray.empty y374 bt377.1)).size + 6 ≤ 9223372036854775807 then (if ((⟨#[101, 120, 112, 111, 114, 116, 32, 123, 32, 121]⟩ : ByteArray) ++ (rdOf ByteArray.empty y374 bt377.1)).size + 4 ≤ 9223372036854775807 then (if 7 + (rdOf ByteArray.empty y374 bt377.1).size ≤ 9223372036854775807 then (if ((⟨#[112, 114, 105, 110, 116, 40, 121]⟩ : ByteArray) ++ (rdOf ByteArray.empty y374 bt377.1)).size + 7 ≤ 9223372036854775807 then ((spec_l1Pick.f s0_0 bt394.2.1 bt394.2.2 (([((⟨#[121]⟩ : ByteArray) ++ (rdOf ByteArray.empty y374 bt377.1)) ++ (⟨#[32, 61, 32, 52, 59, 10]⟩ : ByteArray), ((⟨#[101, 120, 112, 111, 114, 116, 32, 123, 32, 121]⟩ : ByteArray) ++ (rdOf ByteArray.empty y374 bt377.1)) ++ (⟨#[32, 125, 59, 10]⟩ : ByteArray), ((⟨#[112, 114, 105, 110, 116, 40, 121]⟩ : ByteArray) ++ (rdOf ByteArray.empty y374 bt377.1)) ++ (⟨#[32, 43, 32, 49, 41, 59, 10]⟩ : ByteArray)] : List ByteArray))).bind fun bt409 => (if (((((((⟨#[105, 109, 112, 111, 114, 116, 32, 123, 32, 119]⟩ : ByteArray) ++ (rdOf ByteArray.empty y374 bt377.1)) ++ (⟨#[32, 97, 115, 32, 121]⟩ : ByteArray)) ++ (rdOf ByteArray.empty y374 bt377.1)) ++ (⟨#[32, 125, 32, 102, 114, 111, 109, 32, 34, 46, 47]⟩ : ByteArray)) ++ (rdOf ByteArray.empty y374 bt377.1)) ++ (⟨#[34, 59, 10]⟩ : ByteArray)).size + bt409.1.size ≤ 9223372036854775807 then (some ((((((((⟨#[105, 109, 112, 111, 114, 116, 32, 123, 32, 119]⟩ : ByteArray) ++ (rdOf ByteArray.empty y374 bt377.1)) ++ (⟨#[32, 97, 115, 32, 121]⟩ : ByteArray)) ++ (rdOf ByteArray.empty y374 bt377.1)) ++ (⟨#[32, 125, 32, 102, 114, 111, 109, 32, 34, 46, 47]⟩ : ByteArray)) ++ (rdOf ByteArray.empty y374 bt377.1)) ++ (⟨#[34, 59, 10]⟩ : ByteArray)) ++ bt409.1, bt409.2.1, bt409.2.2)) else (none))) else (none)) else (none)) else (none)) else (none)) else (none)) else (none)) else (none)) else (none)) else (none)) else (none)) else (none)) else (if 6 + bt391.1.size ≤ 9223372036854775807 then (if ((⟨#[112, 114, 105, 110, 116, 40]⟩ : ByteArray) ++ bt391.1).size + 3 ≤ 9223372036854775807 then (some (((⟨#[112, 114, 105, 110, 116, 40]⟩ : ByteArray) ++ bt391.1) ++ (⟨#[41, 59, 10]⟩ : ByteArray), bt394.2.1, bt394.2.2)) else (none)) else (none))))))))))))))) else (none)) else (none)) else (none)) else (none)) else (none)) else (none)))) else (none)) else (none)) else (none)) else (none)))
theorem spec_l7Line.mono : ∀ a0 a1 a2 a3 a4 k, LeO (spec_l7Line.f k a0 a1 a2 a3 a4) (spec_l7Line.f (k + 1) a0 a1 a2 a3 a4) := by
 intro a0 a1 a2 a3 a4 k
 unfold spec_l7Line.f
 repeat' (first | (with_reducible first | exact spec_l4Line.mono _ _ _ _ _ | exact LeO.refl _ | exact LeO.none _ | refine LeO.ite ?_ ?_ | refine LeO.bind ?_ (fun _ => ?_)) | exact LeO.none _ | refine LeO.ite ?_ ?_ | refine LeO.bind ?_ (fun _ => ?_))
set_option maxHeartbeats 8000000 in
set_option maxRecDepth 100000 in
theorem spec_l7Line.calls (k : Nat) (g : Nat) (s0_0 : List Int) (s0_1 : Int) (s0_2 : Int) (a1 : Int) (a2 : Int) (r1 : ByteArray) (r2 : Int) (r3 : Int) (w0 w : World) (hI : IsS77 w0 w g s0_0 s0_1 s0_2) (hB : Below w0.heap.size w0 w) (h : spec_l7Line.f k s0_0 s0_1 s0_2 a1 a2 = some (r1, r2, r3)) :
  Calls Tryz.prog 49 #[.pointer (some ⟨g, 0, none⟩), .int .i64 a1, .int .i64 a2] w fun e w' => e = .returned (.string r1) ∧ IsS77 w0 w' g s0_0 r2 r3 ∧ Below w0.heap.size w0 w' ∧ KeepBut w w' g none := by
 have HI0 := Aside0.mk hI
 have HK := Aside0.mk (KeepBut.refl w g none)
 have HL := Aside0.mk hB.size
 clear hI
 have HW0 := Aside0.mk hB.size
 have HB := Aside0.mk hB
 clear hB
 try unfold spec_l7Line.f at h
 have H := h
 clear h
 replace H := bsm H
 obtain ⟨y374, hy374, H⟩ := H
 try dsimp only at H
 have Ny374 := Aside0.mk hy374
 clear hy374
 replace H := bnd H
 obtain ⟨⟨t377, t378, t379⟩, A4, H⟩ := H
 try dsimp only at H
 replace H := it0 H
 obtain ⟨c5, H⟩ := H
 have c5b0 : decide (0 ≤ t377) = true := decide_eq_true c5
 clear c5
 replace H := it0 H
 obtain ⟨c6, H⟩ := H
 have c6b0 := decide_eq_true c6
 clear c6
 replace H := it0 H
 obtain ⟨c7, H⟩ := H
 have c7b0 : decide (0 ≤ a1) = true := decide_eq_true c7
 clear c7
 replace H := it0 H
 obtain ⟨c8, H⟩ := H
 have c8b0 := decide_eq_true c8
 clear c8
 replace H := bnd H
 obtain ⟨⟨t382, t383, t384⟩, A9, H⟩ := H
 try dsimp only at H
 by_cases c10 : t382 = true
 subst c10
 rw [if_pos rfl] at H
 replace H := bnd H
 obtain ⟨⟨t385, t386, t387⟩, A11, H⟩ := H
 try dsimp only at H
 replace H := it0 H
 obtain ⟨c12, H⟩ := H
 obtain ⟨c12b0, c12b1, c12b2⟩ := szf c12
 simp only [Option.some.injEq, Prod.mk.injEq] at H
 obtain ⟨rfl, rfl, rfl⟩ := H
 rotate_left
 replace c10 := Bool.eq_false_iff.mpr c10
 subst c10
 rw [if_neg (show ¬ (false = true) by decide)] at H
 replace H := it0 H
 obtain ⟨c19, H⟩ := H
 obtain ⟨c19b0, c19b1, c19b2⟩ := szf c19
 replace H := it0 H
 obtain ⟨c20, H⟩ := H
 obtain ⟨c20b0, c20b1, c20b2⟩ := szf c20
 replace H := it0 H
 obtain ⟨c21, H⟩ := H
 obtain ⟨c21b0, c21b1, c21b2⟩ := szf c21
 replace H := it0 H
 obtain ⟨c22, H⟩ := H
 obtain ⟨c22b0, c22b1, c22b2⟩ := szf c22
 replace H := it0 H
 obtain ⟨c23, H⟩ := H
 obtain ⟨c23b0, c23b1, c23b2⟩ := szf c23
 replace H := it0 H
 obtain ⟨c24, H⟩ := H
 obtain ⟨c24b0, c24b1, c24b2⟩ := szf c24
 obtain ⟨y388, hy388⟩ : ∃ y_ : List ByteArray, y_ = (([(⟨#[118]⟩ : ByteArray) ++ (rdOf ByteArray.empty y374 a1), ((⟨#[118]⟩ : ByteArray) ++ (rdOf ByteArray.empty y374 a1)) ++ (⟨#[32, 43, 32, 49]⟩ : ByteArray), ((⟨#[102]⟩ : ByteArray) ++ (rdOf ByteArray.empty y374 a1)) ++ (⟨#[40, 41]⟩ : ByteArray), ((⟨#[119]⟩ : ByteArray) ++ (rdOf ByteArray.empty y374 a1)) ++ (⟨#[32, 42, 32, 50]⟩ : ByteArray), (⟨#[51]⟩ : ByteArray), ((((⟨#[118]⟩ : ByteArray) ++ (rdOf ByteArray.empty y374 a1)) ++ (⟨#[32, 45, 32, 102]⟩ : ByteArray)) ++ (rdOf ByteArray.empty y374 a1)) ++ (⟨#[40, 41]⟩ : ByteArray)] : List ByteArray)) := ⟨_, rfl⟩
 rw [← hy388] at H
 have Ny388 := Aside0.mk hy388
 clear hy388
 replace H := bnd H
 obtain ⟨⟨t391, t392, t393⟩, A25, H⟩ := H
 try dsimp only at H
 replace H := bnd H
 obtain ⟨⟨t394, t395, t396⟩, A26, H⟩ := H
 try dsimp only at H
 by_cases c27 : t394 = 0
 rw [if_pos c27] at H
 have c27b0 : (t394 == 0) = true := beq_iff_eq.mpr c27
 have c27b1 : (t394 != 0) = false := bne_eq_false_iff_eq.mpr c27
 clear c27
 replace H := it0 H
 obtain ⟨c28, H⟩ := H
 obtain ⟨c28b0, c28b1, c28b2⟩ := szf c28
 replace H := it0 H
 obtain ⟨c29, H⟩ := H
 obtain ⟨c29b0, c29b1, c29b2⟩ := szf c29
 simp only [Option.some.injEq, Prod.mk.injEq] at H
 obtain ⟨rfl, rfl, rfl⟩ := H
 rotate_left
 rw [if_neg c27] at H
 have c27b0 : (t394 == 0) = false := beq_eq_false_iff_ne.mpr c27
 have c27b1 : (t394 != 0) = true := bne_iff_ne.mpr c27
 by_cases c40 : t394 = 1
 rw [if_pos c40] at H
 have c40b0 : (t394 == 1) = true := beq_iff_eq.mpr c40
 have c40b1 : (t394 != 1) = false := bne_eq_false_iff_eq.mpr c40
 clear c40
 replace H := it0 H
 obtain ⟨c41, H⟩ := H
 obtain ⟨c41b0, c41b1, c41b2⟩ := szf c41
 replace H := it0 H
 obtain ⟨c42, H⟩ := H
 obtain ⟨c42b0, c42b1, c42b2⟩ := szf c42
 replace H := it0 H
 obtain ⟨c43, H⟩ := H
 obtain ⟨c43b0, c43b1, c43b2⟩ := szf c43
 replace H := it0 H
 obtain ⟨c44, H⟩ := H
 obtain ⟨c44b0, c44b1, c44b2⟩ := szf c44
 replace H := it0 H
 obtain ⟨c45, H⟩ := H
 obtain ⟨c45b0, c45b1, c45b2⟩ := szf c45
 replace H := it0 H
 obtain ⟨c46, H⟩ := H
 obtain ⟨c46b0, c46b1, c46b2⟩ := szf c46
 replace H := it0 H
 obtain ⟨c47, H⟩ := H
 obtain ⟨c47b0, c47b1, c47b2⟩ := szf c47
 replace H := it0 H
 obtain ⟨c48, H⟩ := H
 obtain ⟨c48b0, c48b1, c48b2⟩ := szf c48
 replace H := it0 H
 obtain ⟨c49, H⟩ := H
 obtain ⟨c49b0, c49b1, c49b2⟩ := szf c49
 replace H := it0 H
 obtain ⟨c50, H⟩ := H
 obtain ⟨c50b0, c50b1, c50b2⟩ := szf c50
 simp only [Option.some.injEq, Prod.mk.injEq] at H
 obtain ⟨rfl, rfl, rfl⟩ := H
 rotate_left
 rw [if_neg c40] at H
 have c40b0 : (t394 == 1) = false := beq_eq_false_iff_ne.mpr c40
 have c40b1 : (t394 != 1) = true := bne_iff_ne.mpr c40
 by_cases c61 : t394 = 2
 rw [if_pos c61] at H
 have c61b0 : (t394 == 2) = true := beq_iff_eq.mpr c61
 have c61b1 : (t394 != 2) = false := bne_eq_false_iff_eq.mpr c61
 clear c61
 replace H := it0 H
 obtain ⟨c62, H⟩ := H
 obtain ⟨c62b0, c62b1, c62b2⟩ := szf c62
 replace H := it0 H
 obtain ⟨c63, H⟩ := H
 obtain ⟨c63b0, c63b1, c63b2⟩ := szf c63
 replace H := it0 H
 obtain ⟨c64, H⟩ := H
 obtain ⟨c64b0, c64b1, c64b2⟩ := szf c64
 replace H := it0 H
 obtain ⟨c65, H⟩ := H
 obtain ⟨c65b0, c65b1, c65b2⟩ := szf c65
 replace H := it0 H
 obtain ⟨c66, H⟩ := H
 obtain ⟨c66b0, c66b1, c66b2⟩ := szf c66
 replace H := it0 H
 obtain ⟨c67, H⟩ := H
 obtain ⟨c67b0, c67b1, c67b2⟩ := szf c67
 replace H := it0 H
 obtain ⟨c68, H⟩ := H
 obtain ⟨c68b0, c68b1, c68b2⟩ := szf c68
 obtain ⟨y397, hy397⟩ : ∃ y_ : List ByteArray, y_ = (([(⟨#[118]⟩ : ByteArray) ++ (rdOf ByteArray.empty y374 t377), (⟨#[119]⟩ : ByteArray) ++ (rdOf ByteArray.empty y374 t377), (⟨#[113]⟩ : ByteArray), (⟨#[100, 101, 102, 97, 117, 108, 116]⟩ : ByteArray)] : List ByteArray)) := ⟨_, rfl⟩
 rw [← hy397] at H
 have Ny397 := Aside0.mk hy397
 clear hy397
 replace H := bnd H
 obtain ⟨⟨t400, t401, t402⟩, A69, H⟩ := H
 try dsimp only at H
 replace H := it0 H
 obtain ⟨c70, H⟩ := H
 obtain ⟨c70b0, c70b1, c70b2⟩ := szf c70
 replace H := it0 H
 obtain ⟨c71, H⟩ := H
 obtain ⟨c71b0, c71b1, c71b2⟩ := szf c71
 simp only [Option.some.injEq, Prod.mk.injEq] at H
 obtain ⟨rfl, rfl, rfl⟩ := H
 rotate_left
 rw [if_neg c61] at H
 have c61b0 : (t394 == 2) = false := beq_eq_false_iff_ne.mpr c61
 have c61b1 : (t394 != 2) = true := bne_iff_ne.mpr c61
 by_cases c86 : t394 = 3
 rw [if_pos c86] at H
 have c86b0 : (t394 == 3) = true := beq_iff_eq.mpr c86
 have c86b1 : (t394 != 3) = false := bne_eq_false_iff_eq.mpr c86
 clear c86
 replace H := it0 H
 obtain ⟨c87, H⟩ := H
 obtain ⟨c87b0, c87b1, c87b2⟩ := szf c87
 replace H := it0 H
 obtain ⟨c88, H⟩ := H
 obtain ⟨c88b0, c88b1, c88b2⟩ := szf c88
 replace H := it0 H
 obtain ⟨c89, H⟩ := H
 obtain ⟨c89b0, c89b1, c89b2⟩ := szf c89
 simp only [Option.some.injEq, Prod.mk.injEq] at H
 obtain ⟨rfl, rfl, rfl⟩ := H
 rotate_left
 rw [if_neg c86] at H
 have c86b0 : (t394 == 3) = false := beq_eq_false_iff_ne.mpr c86
 have c86b1 : (t394 != 3) = true := bne_iff_ne.mpr c86
 by_cases c100 : t394 = 4
 rw [if_pos c100] at H
 have c100b0 : (t394 == 4) = true := beq_iff_eq.mpr c100
 have c100b1 : (t394 != 4) = false := bne_eq_false_iff_eq.mpr c100
 clear c100
 replace H := it0 H
 obtain ⟨c101, H⟩ := H
 obtain ⟨c101b0, c101b1, c101b2⟩ := szf c101
 replace H := it0 H
 obtain ⟨c102, H⟩ := H
 obtain ⟨c102b0, c102b1, c102b2⟩ := szf c102
 replace H := it0 H
 obtain ⟨c103, H⟩ := H
 obtain ⟨c103b0, c103b1, c103b2⟩ := szf c103
 replace H := it0 H
 obtain ⟨c104, H⟩ := H
 obtain ⟨c104b0, c104b1, c104b2⟩ := szf c104
 replace H := it0 H
 obtain ⟨c105, H⟩ := H
 obtain ⟨c105b0, c105b1, c105b2⟩ := szf c105
 replace H := it0 H
 obtain ⟨c106, H⟩ := H
 obtain ⟨c106b0, c106b1, c106b2⟩ := szf c106
 replace H := it0 H
 obtain ⟨c107, H⟩ := H
 obtain ⟨c107b0, c107b1, c107b2⟩ := szf c107
 replace H := it0 H
 obtain ⟨c108, H⟩ := H
 obtain ⟨c108b0, c108b1, c108b2⟩ := szf c108
 simp only [Option.some.injEq, Prod.mk.injEq] at H
 obtain ⟨rfl, rfl, rfl⟩ := H
 rotate_left
 rw [if_neg c100] at H
 have c100b0 : (t394 == 4) = false := beq_eq_false_iff_ne.mpr c100
 have c100b1 : (t394 != 4) = true := bne_iff_ne.mpr c100
 by_cases c119 : t394 = 5
 rw [if_pos c119] at H
 have c119b0 : (t394 == 5) = true := beq_iff_eq.mpr c119
 have c119b1 : (t394 != 5) = false := bne_eq_false_iff_eq.mpr c119
 clear c119
 replace H := it0 H
 obtain ⟨c120, H⟩ := H
 obtain ⟨c120b0, c120b1, c120b2⟩ := szf c120
 replace H := it0 H
 obtain ⟨c121, H⟩ := H
 obtain ⟨c121b0, c121b1, c121b2⟩ := szf c121
 simp only [Option.some.injEq, Prod.mk.injEq] at H
 obtain ⟨rfl, rfl, rfl⟩ := H
 rotate_left
 rw [if_neg c119] at H
 have c119b0 : (t394 == 5) = false := beq_eq_false_iff_ne.mpr c119
 have c119b1 : (t394 != 5) = true := bne_iff_ne.mpr c119
 by_cases c132 : t394 = 6
 rw [if_pos c132] at H
 have c132b0 : (t394 == 6) = true := beq_iff_eq.mpr c132
 have c132b1 : (t394 != 6) = false := bne_eq_false_iff_eq.mpr c132
 clear c132
 replace H := it0 H
 obtain ⟨c133, H⟩ := H
 obtain ⟨c133b0, c133b1, c133b2⟩ := szf c133
 replace H := it0 H
 obtain ⟨c134, H⟩ := H
 obtain ⟨c134b0, c134b1, c134b2⟩ := szf c134
 replace H := it0 H
 obtain ⟨c135, H⟩ := H
 obtain ⟨c135b0, c135b1, c135b2⟩ := szf c135
 replace H := it0 H
 obtain ⟨c136, H⟩ := H
 obtain ⟨c136b0, c136b1, c136b2⟩ := szf c136
 replace H := it0 H
 obtain ⟨c137, H⟩ := H
 obtain ⟨c137b0, c137b1, c137b2⟩ := szf c137
 replace H := it0 H
 obtain ⟨c138, H⟩ := H
 obtain ⟨c138b0, c138b1, c138b2⟩ := szf c138
 replace H := it0 H
 obtain ⟨c139, H⟩ := H
 obtain ⟨c139b0, c139b1, c139b2⟩ := szf c139
 simp only [Option.some.injEq, Prod.mk.injEq] at H
 obtain ⟨rfl, rfl, rfl⟩ := H
 rotate_left
 rw [if_neg c132] at H
 have c132b0 : (t394 == 6) = false := beq_eq_false_iff_ne.mpr c132
 have c132b1 : (t394 != 6) = true := bne_iff_ne.mpr c132
 by_cases c150 : t394 = 7
 rw [if_pos c150] at H
 have c150b0 : (t394 == 7) = true := beq_iff_eq.mpr c150
 have c150b1 : (t394 != 7) = false := bne_eq_false_iff_eq.mpr c150
 clear c150
 replace H := it0 H
 obtain ⟨c151, H⟩ := H
 obtain ⟨c151b0, c151b1, c151b2⟩ := szf c151
 replace H := it0 H
 obtain ⟨c152, H⟩ := H
 obtain ⟨c152b0, c152b1, c152b2⟩ := szf c152
 replace H := it0 H
 obtain ⟨c153, H⟩ := H
 obtain ⟨c153b0, c153b1, c153b2⟩ := szf c153
 replace H := it0 H
 obtain ⟨c154, H⟩ := H
 obtain ⟨c154b0, c154b1, c154b2⟩ := szf c154
 replace H := it0 H
 obtain ⟨c155, H⟩ := H
 obtain ⟨c155b0, c155b1, c155b2⟩ := szf c155
 replace H := it0 H
 obtain ⟨c156, H⟩ := H
 obtain ⟨c156b0, c156b1, c156b2⟩ := szf c156
 simp only [Option.some.injEq, Prod.mk.injEq] at H
 obtain ⟨rfl, rfl, rfl⟩ := H
 rotate_left
 rw [if_neg c150] at H
 have c150b0 : (t394 == 7) = false := beq_eq_false_iff_ne.mpr c150
 have c150b1 : (t394 != 7) = true := bne_iff_ne.mpr c150
 by_cases c167 : t394 = 8
 rw [if_pos c167] at H
 have c167b0 : (t394 == 8) = true := beq_iff_eq.mpr c167
 have c167b1 : (t394 != 8) = false := bne_eq_false_iff_eq.mpr c167
 clear c167
 replace H := it0 H
 obtain ⟨c168, H⟩ := H
 obtain ⟨c168b0, c168b1, c168b2⟩ := szf c168
 replace H := it0 H
 obtain ⟨c169, H⟩ := H
 obtain ⟨c169b0, c169b1, c169b2⟩ := szf c169
 simp only [Option.some.injEq, Prod.mk.injEq] at H
 obtain ⟨rfl, rfl, rfl⟩ := H
 rotate_left
 rw [if_neg c167] at H
 have c167b0 : (t394 == 8) = false := beq_eq_false_iff_ne.mpr c167
 have c167b1 : (t394 != 8) = true := bne_iff_ne.mpr c167
 by_cases c180 : t394 = 9
 rw [if_pos c180] at H
 have c180b0 : (t394 == 9) = true := beq_iff_eq.mpr c180
 have c180b1 : (t394 != 9) = false := bne_eq_false_iff_eq.mpr c180
 clear c180
 replace H := bnd H
 obtain ⟨⟨t403, t404, t405⟩, A181, H⟩ := H
 try dsimp only at H
 by_cases c182 : t403 = true
 subst c182
 rw [if_pos rfl] at H
 replace H := it0 H
 obtain ⟨c183, H⟩ := H
 obtain ⟨c183b0, c183b1, c183b2⟩ := szf c183
 replace H := it0 H
 obtain ⟨c184, H⟩ := H
 obtain ⟨c184b0, c184b1, c184b2⟩ := szf c184
 simp only [Option.some.injEq, Prod.mk.injEq] at H
 obtain ⟨rfl, rfl, rfl⟩ := H
 rotate_left
 replace c182 := Bool.eq_false_iff.mpr c182
 subst c182
 rw [if_neg (show ¬ (false = true) by decide)] at H
 simp only [Option.some.injEq, Prod.mk.injEq] at H
 obtain ⟨rfl, rfl, rfl⟩ := H
 rotate_left
 rw [if_neg c180] at H
 have c180b0 : (t394 == 9) = false := beq_eq_false_iff_ne.mpr c180
 have c180b1 : (t394 != 9) = true := bne_iff_ne.mpr c180
 by_cases c207 : t394 = 10
 rw [if_pos c207] at H
 have c207b0 : (t394 == 10) = true := beq_iff_eq.mpr c207
 have c207b1 : (t394 != 10) = false := bne_eq_false_iff_eq.mpr c207
 clear c207
 replace H := it0 H
 obtain ⟨c208, H⟩ := H
 obtain ⟨c208b0, c208b1, c208b2⟩ := szf c208
 replace H := it0 H
 obtain ⟨c209, H⟩ := H
 obtain ⟨c209b0, c209b1, c209b2⟩ := szf c209
 replace H := it0 H
 obtain ⟨c210, H⟩ := H
 obtain ⟨c210b0, c210b1, c210b2⟩ := szf c210
 replace H := it0 H
 obtain ⟨c211, H⟩ := H
 obtain ⟨c211b0, c211b1, c211b2⟩ := szf c211
 replace H := it0 H
 obtain ⟨c212, H⟩ := H
 obtain ⟨c212b0, c212b1, c212b2⟩ := szf c212
 replace H := it0 H
 obtain ⟨c213, H⟩ := H
 obtain ⟨c213b0, c213b1, c213b2⟩ := szf c213
 replace H := it0 H
 obtain ⟨c214, H⟩ := H
 obtain ⟨c214b0, c214b1, c214b2⟩ := szf c214
 replace H := it0 H
 obtain ⟨c215, H⟩ := H
 obtain ⟨c215b0, c215b1, c215b2⟩ := szf c215
 replace H := it0 H
 obtain ⟨c216, H⟩ := H
 obtain ⟨c216b0, c216b1, c216b2⟩ := szf c216
 replace H := it0 H
 obtain ⟨c217, H⟩ := H
 obtain ⟨c217b0, c217b1, c217b2⟩ := szf c217
 replace H := it0 H
 obtain ⟨c218, H⟩ := H
 obtain ⟨c218b0, c218b1, c218b2⟩ := szf c218
 obtain ⟨y406, hy406⟩ : ∃ y_ : List ByteArray, y_ = (([((⟨#[121]⟩ : ByteArray) ++ (rdOf ByteArray.empty y374 t377)) ++ (⟨#[32, 61, 32, 52, 59, 10]⟩ : ByteArray), ((⟨#[101, 120, 112, 111, 114, 116, 32, 123, 32, 121]⟩ : ByteArray) ++ (rdOf ByteArray.empty y374 t377)) ++ (⟨#[32, 125, 59, 10]⟩ : ByteArray), ((⟨#[112, 114, 105, 110, 116, 40, 121]⟩ : ByteArray) ++ (rdOf ByteArray.empty y374 t377)) ++ (⟨#[32, 43, 32, 49, 41, 59, 10]⟩ : ByteArray)] : List ByteArray)) := ⟨_, rfl⟩
 rw [← hy406] at H
 have Ny406 := Aside0.mk hy406
 clear hy406
 replace H := bnd H
 obtain ⟨⟨t409, t410, t411⟩, A219, H⟩ := H
 try dsimp only at H
 replace H := it0 H
 obtain ⟨c220, H⟩ := H
 obtain ⟨c220b0, c220b1, c220b2⟩ := szf c220
 simp only [Option.some.injEq, Prod.mk.injEq] at H
 obtain ⟨rfl, rfl, rfl⟩ := H
 rotate_left
 rw [if_neg c207] at H
 have c207b0 : (t394 == 10) = false := beq_eq_false_iff_ne.mpr c207
 have c207b1 : (t394 != 10) = true := bne_iff_ne.mpr c207
 replace H := it0 H
 obtain ⟨c235, H⟩ := H
 obtain ⟨c235b0, c235b1, c235b2⟩ := szf c235
 replace H := it0 H
 obtain ⟨c236, H⟩ := H
 obtain ⟨c236b0, c236b1, c236b2⟩ := szf c236
 simp only [Option.some.injEq, Prod.mk.injEq] at H
 obtain ⟨rfl, rfl, rfl⟩ := H
 rotate_left
 all_goals
  try simp only [ByteArray.size_append, lsz, List.length_cons, List.length_nil, Nat.reduceAdd] at *
  go_enter Tryz.func49, Tryz.ntmps49
  repeat (go_wp2_with (first | ((with_reducible refine gate_dst (N := 45) rfl ?_); refine Kd.R_lit Kd.string _ 9 ?hg (N := 45) ?hd (xs := ([(⟨#[118]⟩ : ByteArray) ++ (rdOf ByteArray.empty y374 a1), ((⟨#[118]⟩ : ByteArray) ++ (rdOf ByteArray.empty y374 a1)) ++ (⟨#[32, 43, 32, 49]⟩ : ByteArray), ((⟨#[102]⟩ : ByteArray) ++ (rdOf ByteArray.empty y374 a1)) ++ (⟨#[40, 41]⟩ : ByteArray), ((⟨#[119]⟩ : ByteArray) ++ (rdOf ByteArray.empty y374 a1)) ++ (⟨#[32, 42, 32, 50]⟩ : ByteArray), (⟨#[51]⟩ : ByteArray), ((((⟨#[118]⟩ : ByteArray) ++ (rdOf ByteArray.empty y374 a1)) ++ (⟨#[32, 45, 32, 102]⟩ : ByteArray)) ++ (rdOf ByteArray.empty y374 a1)) ++ (⟨#[40, 41]⟩ : ByteArray)] : List ByteArray)) (inner := [.string ((⟨#[118]⟩ : ByteArray) ++ (rdOf ByteArray.empty y374 a1)), .string (((⟨#[118]⟩ : ByteArray) ++ (rdOf ByteArray.empty y374 a1)) ++ (⟨#[32, 43, 32, 49]⟩ : ByteArray)), .string (((⟨#[102]⟩ : ByteArray) ++ (rdOf ByteArray.empty y374 a1)) ++ (⟨#[40, 41]⟩ : ByteArray)), .string (((⟨#[119]⟩ : ByteArray) ++ (rdOf ByteArray.empty y374 a1)) ++ (⟨#[32, 42, 32, 50]⟩ : ByteArray)), .string (⟨#[51]⟩ : ByteArray), .string (((((⟨#[118]⟩ : ByteArray) ++ (rdOf ByteArray.empty y374 a1)) ++ (⟨#[32, 45, 32, 102]⟩ : ByteArray)) ++ (rdOf ByteArray.empty y374 a1)) ++ (⟨#[40, 41]⟩ : ByteArray))]) (ok := fun _ => True) (okp := fun _ => True) ?hr ?hp (fun _ hk => hk) trivial (Below.refl _ _) (Nat.le_refl _) (by simp) ?_; (case hd => rfl); (case hg => rfl); (case hr => first | (go_simp; done) | (go_simp; rfl)); (case hp => exact (Reps.one (show Kd.M Kd.string _ _ _ ((⟨#[118]⟩ : ByteArray) ++ (rdOf ByteArray.empty y374 a1)) [.string ((⟨#[118]⟩ : ByteArray) ++ (rdOf ByteArray.empty y374 a1))] from rfl) (Reps.one (show Kd.M Kd.string _ _ _ (((⟨#[118]⟩ : ByteArray) ++ (rdOf ByteArray.empty y374 a1)) ++ (⟨#[32, 43, 32, 49]⟩ : ByteArray)) [.string (((⟨#[118]⟩ : ByteArray) ++ (rdOf ByteArray.empty y374 a1)) ++ (⟨#[32, 43, 32, 49]⟩ : ByteArray))] from rfl) (Reps.one (show Kd.M Kd.string _ _ _ (((⟨#[102]⟩ : ByteArray) ++ (rdOf ByteArray.empty y374 a1)) ++ (⟨#[40, 41]⟩ : ByteArray)) [.string (((⟨#[102]⟩ : ByteArray) ++ (rdOf ByteArray.empty y374 a1)) ++ (⟨#[40, 41]⟩ : ByteArray))] from rfl) (Reps.one (show Kd.M Kd.string _ _ _ (((⟨#[119]⟩ : ByteArray) ++ (rdOf ByteArray.empty y374 a1)) ++ (⟨#[32, 42, 32, 50]⟩ : ByteArray)) [.string (((⟨#[119]⟩ : ByteArray) ++ (rdOf ByteArray.empty y374 a1)) ++ (⟨#[32, 42, 32, 50]⟩ : ByteArray))] from rfl) (Reps.one (show Kd.M Kd.string _ _ _ (⟨#[51]⟩ : ByteArray) [.string (⟨#[51]⟩ : ByteArray)] from rfl) (Reps.one (show Kd.M Kd.string _ _ _ (((((⟨#[118]⟩ : ByteArray) ++ (rdOf ByteArray.empty y374 a1)) ++ (⟨#[32, 45, 32, 102]⟩ : ByteArray)) ++ (rdOf ByteArray.empty y374 a1)) ++ (⟨#[40, 41]⟩ : ByteArray)) [.string (((((⟨#[118]⟩ : ByteArray) ++ (rdOf ByteArray.empty y374 a1)) ++ (⟨#[32, 45, 32, 102]⟩ : ByteArray)) ++ (rdOf ByteArray.empty y374 a1)) ++ (⟨#[40, 41]⟩ : ByteArray))] from rfl) (Reps.none _ _)))))))); intro v7009 w7010 ho7011 hb hg_ hnew_; clear hg_ hnew_; (first | rw [← Ny388.out] at ho7011 | (simp only [Int.reduceToNat] at ho7011; rw [← Ny388.out] at ho7011)); have n0_ := Aside0.mk (Kd.R_elder' (rz HO7003.out) (Kd.R_base ho7011) hb); have n1_ := Aside0.mk (Kd.R_lower (Kd.R_new' ho7011 (Kd.R_lt (rz HO7003.out))) (keep_size (w := w) (g := g) (row := none) zt5)); have n2_ := Aside0.mk (IsS77.below zt4 hb); have n3_ := Aside0.mk (KeepBut.trans zt5 (KeepBut.of_below hb g none) (.inl rfl)); have n4_ := Aside0.mk (below_step zt6 hb); clear HO7003; clear HI0; clear HK; clear HB; have HO7003 := n0_; have HO7012 := n1_; have HI0 := n2_; have HK := n3_; have HB := n4_; clear n0_ n1_ n2_ n3_ n4_; clear hb ho7011; obtain ⟨Ao7013, co7013, eo7013⟩ := Kd.R_slice HO7012.out; subst eo7013) | ((with_reducible refine gate_dst (N := 176) rfl ?_); refine Kd.R_lit Kd.string _ 9 ?hg (N := 176) ?hd (xs := ([((⟨#[121]⟩ : ByteArray) ++ (rdOf ByteArray.empty y374 t377)) ++ (⟨#[32, 61, 32, 52, 59, 10]⟩ : ByteArray), ((⟨#[101, 120, 112, 111, 114, 116, 32, 123, 32, 121]⟩ : ByteArray) ++ (rdOf ByteArray.empty y374 t377)) ++ (⟨#[32, 125, 59, 10]⟩ : ByteArray), ((⟨#[112, 114, 105, 110, 116, 40, 121]⟩ : ByteArray) ++ (rdOf ByteArray.empty y374 t377)) ++ (⟨#[32, 43, 32, 49, 41, 59, 10]⟩ : ByteArray)] : List ByteArray)) (inner := [.string (((⟨#[121]⟩ : ByteArray) ++ (rdOf ByteArray.empty y374 t377)) ++ (⟨#[32, 61, 32, 52, 59, 10]⟩ : ByteArray)), .string (((⟨#[101, 120, 112, 111, 114, 116, 32, 123, 32, 121]⟩ : ByteArray) ++ (rdOf ByteArray.empty y374 t377)) ++ (⟨#[32, 125, 59, 10]⟩ : ByteArray)), .string (((⟨#[112, 114, 105, 110, 116, 40, 121]⟩ : ByteArray) ++ (rdOf ByteArray.empty y374 t377)) ++ (⟨#[32, 43, 32, 49, 41, 59, 10]⟩ : ByteArray))]) (ok := fun _ => True) (okp := fun _ => True) ?hr ?hp (fun _ hk => hk) trivial (Below.refl _ _) (Nat.le_refl _) (by simp) ?_; (case hd => rfl); (case hg => rfl); (case hr => first | (go_simp; done) | (go_simp; rfl)); (case hp => exact (Reps.one (show Kd.M Kd.string _ _ _ (((⟨#[121]⟩ : ByteArray) ++ (rdOf ByteArray.empty y374 t377)) ++ (⟨#[32, 61, 32, 52, 59, 10]⟩ : ByteArray)) [.string (((⟨#[121]⟩ : ByteArray) ++ (rdOf ByteArray.empty y374 t377)) ++ (⟨#[32, 61, 32, 52, 59, 10]⟩ : ByteArray))] from rfl) (Reps.one (show Kd.M Kd.string _ _ _ (((⟨#[101, 120, 112, 111, 114, 116, 32, 123, 32, 121]⟩ : ByteArray) ++ (rdOf ByteArray.empty y374 t377)) ++ (⟨#[32, 125, 59, 10]⟩ : ByteArray)) [.string (((⟨#[101, 120, 112, 111, 114, 116, 32, 123, 32, 121]⟩ : ByteArray) ++ (rdOf ByteArray.empty y374 t377)) ++ (⟨#[32, 125, 59, 10]⟩ : ByteArray))] from rfl) (Reps.one (show Kd.M Kd.string _ _ _ (((⟨#[112, 114, 105, 110, 116, 40, 121]⟩ : ByteArray) ++ (rdOf ByteArray.empty y374 t377)) ++ (⟨#[32, 43, 32, 49, 41, 59, 10]⟩ : ByteArray)) [.string (((⟨#[112, 114, 105, 110, 116, 40, 121]⟩ : ByteArray) ++ (rdOf ByteArray.empty y374 t377)) ++ (⟨#[32, 43, 32, 49, 41, 59, 10]⟩ : ByteArray))] from rfl) (Reps.none _ _))))); intro v7016 w7017 ho7018 hb hg_ hnew_; clear hg_ hnew_; (first | rw [← Ny406.out] at ho7018 | (simp only [Int.reduceToNat] at ho7018; rw [← Ny406.out] at ho7018)); have n0_ := Aside0.mk (Kd.R_elder' (rz HO7003.out) (Kd.R_base ho7018) hb); have n1_ := Aside0.mk (Kd.R_elder' (rz HO7012.out) (Kd.R_base ho7018) hb); have n2_ := Aside0.mk (Kd.R_lower (Kd.R_new' (Kd.R_new' ho7018 (Kd.R_lt (rz HO7003.out))) (Kd.R_lt (rz HO7012.out))) (keep_size (w := w) (g := g) (row := none) zt5)); have n3_ := Aside0.mk (IsS77.below zt4 hb); have n4_ := Aside0.mk (KeepBut.trans zt5 (KeepBut.of_below hb g none) (.inl rfl)); have n5_ := Aside0.mk (below_step zt6 hb); clear HO7003; clear HO7012; clear HI0; clear HK; clear HB; have HO7003 := n0_; have HO7012 := n1_; have HO7019 := n2_; have HI0 := n3_; have HK := n4_; have HB := n5_; clear n0_ n1_ n2_ n3_ n4_ n5_; clear hb ho7018; obtain ⟨Ao7020, co7020, eo7020⟩ := Kd.R_slice HO7019.out; subst eo7020) | ((with_reducible refine gate_dst (N := 88) rfl ?_); refine Kd.R_lit Kd.string _ 9 ?hg (N := 88) ?hd (xs := ([(⟨#[118]⟩ : ByteArray) ++ (rdOf ByteArray.empty y374 t377), (⟨#[119]⟩ : ByteArray) ++ (rdOf ByteArray.empty y374 t377), (⟨#[113]⟩ : ByteArray), (⟨#[100, 101, 102, 97, 117, 108, 116]⟩ : ByteArray)] : List ByteArray)) (inner := [.string ((⟨#[118]⟩ : ByteArray) ++ (rdOf ByteArray.empty y374 t377)), .string ((⟨#[119]⟩ : ByteArray) ++ (rdOf ByteArray.empty y374 t377)), .string (⟨#[113]⟩ : ByteArray), .string (⟨#[100, 101, 102, 97, 117, 108, 116]⟩ : ByteArray)]) (ok := fun _ => True) (okp := fun _ => True) ?hr ?hp (fun _ hk => hk) trivial (Below.refl _ _) (Nat.le_refl _) (by simp) ?_; (case hd => rfl); (case hg => rfl); (case hr => first | (go_simp; done) | (go_simp; rfl)); (case hp => exact (Reps.one (show Kd.M Kd.string _ _ _ ((⟨#[118]⟩ : ByteArray) ++ (rdOf ByteArray.empty y374 t377)) [.string ((⟨#[118]⟩ : ByteArray) ++ (rdOf ByteArray.empty y374 t377))] from rfl) (Reps.one (show Kd.M Kd.string _ _ _ ((⟨#[119]⟩ : ByteArray) ++ (rdOf ByteArray.empty y374 t377)) [.string ((⟨#[119]⟩ : ByteArray) ++ (rdOf ByteArray.empty y374 t377))] from rfl) (Reps.one (show Kd.M Kd.string _ _ _ (⟨#[113]⟩ : ByteArray) [.string (⟨#[113]⟩ : ByteArray)] from rfl) (Reps.one (show Kd.M Kd.string _ _ _ (⟨#[100, 101, 102, 97, 117, 108, 116]⟩ : ByteArray) [.string (⟨#[100, 101, 102, 97, 117, 108, 116]⟩ : ByteArray)] from rfl) (Reps.none _ _)))))); intro v7016 w7017 ho7018 hb hg_ hnew_; clear hg_ hnew_; (first | rw [← Ny397.out] at ho7018 | (simp only [Int.reduceToNat] at ho7018; rw [← Ny397.out] at ho7018)); have n0_ := Aside0.mk (Kd.R_elder' (rz HO7003.out) (Kd.R_base ho7018) hb); have n1_ := Aside0.mk (Kd.R_elder' (rz HO7012.out) (Kd.R_base ho7018) hb); have n2_ := Aside0.mk (Kd.R_lower (Kd.R_new' (Kd.R_new' ho7018 (Kd.R_lt (rz HO7003.out))) (Kd.R_lt (rz HO7012.out))) (keep_size (w := w) (g := g) (row := none) zt5)); have n3_ := Aside0.mk (IsS77.below zt4 hb); have n4_ := Aside0.mk (KeepBut.trans zt5 (KeepBut.of_below hb g none) (.inl rfl)); have n5_ := Aside0.mk (below_step zt6 hb); clear HO7003; clear HO7012; clear HI0; clear HK; clear HB; have HO7003 := n0_; have HO7012 := n1_; have HO7019 := n2_; have HI0 := n3_; have HK := n4_; have HB := n5_; clear n0_ n1_ n2_ n3_ n4_ n5_; clear hb ho7018; obtain ⟨Ao7020, co7020, eo7020⟩ := Kd.R_slice HO7019.out; subst eo7020) | ((with_reducible refine gate_callee (f := 53) rfl ?_); refine goesL_ (some 177) rfl rfl Tryz.func53 (by kernel_rfl) rfl #[.pointer (some ⟨g, 0, none⟩), .slice Ao7020 y406.length co7020] rfl zt7 ?_; (with_reducible refine (spec_l1Pick.calls g s0_0 t395 t396 _ _ y406 t409 t410 t411 w0 _ ?side1 ?side2 ?side3 ?side4 ?side5 A219.out).mono ?_); (case side1 => exact zt4); (case side2 => exact zt6); (case side3 => exact cz (Kd.R_reads' HO7019.out).2.2); (case side4 => exact (Kd.R_reads' HO7019.out).2.1); (case side5 => exact far_slice (IsS77.own_ne HI0.out HO7019.out (by decide))); rintro e w7021 ⟨rfl, hi, hb, hk⟩; refine ⟨_, rfl, ?_⟩; have n0_ := Aside0.mk (Kd.R_mono (Kd.R_keep (IsS77.apart (show IsS77 w0 _ g s0_0 t395 t396 from zt4) (rz HO7003.out) (by decide)) hk (fun _ h => h.2)) (fun _ h => h.1)); have n1_ := Aside0.mk (Kd.R_mono (Kd.R_keep (IsS77.apart (show IsS77 w0 _ g s0_0 t395 t396 from zt4) (rz HO7012.out) (by decide)) hk (fun _ h => h.2)) (fun _ h => h.1)); have n2_ := Aside0.mk (Kd.R_mono (Kd.R_keep (IsS77.apart (show IsS77 w0 _ g s0_0 t395 t396 from zt4) (rz HO7019.out) (by decide)) hk (fun _ h => h.2)) (fun _ h => h.1)); have n3_ := Aside0.mk (KeepBut.trans zt5 hk (.inl rfl)); have n4_ := Aside0.mk (hb); have n5_ := Aside0.mk (hi); clear HO7003; clear HO7012; clear HO7019; clear HK; clear HB; clear HI0; have HO7003 := n0_; have HO7012 := n1_; have HO7019 := n2_; have HK := n3_; have HB := n4_; have HI0 := n5_; clear n0_ n1_ n2_ n3_ n4_ n5_; (try clear hb); (try clear hb2); (try clear hk); (try clear hi)) | ((with_reducible refine gate_callee (f := 53) rfl ?_); refine goesL_ (some 89) rfl rfl Tryz.func53 (by kernel_rfl) rfl #[.pointer (some ⟨g, 0, none⟩), .slice Ao7020 y397.length co7020] rfl zt7 ?_; (with_reducible refine (spec_l1Pick.calls g s0_0 t395 t396 _ _ y397 t400 t401 t402 w0 _ ?side1 ?side2 ?side3 ?side4 ?side5 A69.out).mono ?_); (case side1 => exact zt4); (case side2 => exact zt6); (case side3 => exact cz (Kd.R_reads' HO7019.out).2.2); (case side4 => exact (Kd.R_reads' HO7019.out).2.1); (case side5 => exact far_slice (IsS77.own_ne HI0.out HO7019.out (by decide))); rintro e w7021 ⟨rfl, hi, hb, hk⟩; refine ⟨_, rfl, ?_⟩; have n0_ := Aside0.mk (Kd.R_mono (Kd.R_keep (IsS77.apart (show IsS77 w0 _ g s0_0 t395 t396 from zt4) (rz HO7003.out) (by decide)) hk (fun _ h => h.2)) (fun _ h => h.1)); have n1_ := Aside0.mk (Kd.R_mono (Kd.R_keep (IsS77.apart (show IsS77 w0 _ g s0_0 t395 t396 from zt4) (rz HO7012.out) (by decide)) hk (fun _ h => h.2)) (fun _ h => h.1)); have n2_ := Aside0.mk (Kd.R_mono (Kd.R_keep (IsS77.apart (show IsS77 w0 _ g s0_0 t395 t396 from zt4) (rz HO7019.out) (by decide)) hk (fun _ h => h.2)) (fun _ h => h.1)); have n3_ := Aside0.mk (KeepBut.trans zt5 hk (.inl rfl)); have n4_ := Aside0.mk (hb); have n5_ := Aside0.mk (hi); clear HO7003; clear HO7012; clear HO7019; clear HK; clear HB; clear HI0; have HO7003 := n0_; have HO7012 := n1_; have HO7019 := n2_; have HK := n3_; have HB := n4_; have HI0 := n5_; clear n0_ n1_ n2_ n3_ n4_ n5_; (try clear hb); (try clear hb2); (try clear hk); (try clear hi)) | ((with_reducible refine gate_callee (f := 48) rfl ?_); refine goesL_ (some 15) rfl rfl Tryz.func48 (by kernel_rfl) rfl #[.pointer (some ⟨g, 0, none⟩), .int .i64 a2] rfl zt7 ?_; (with_reducible refine (spec_l1Below.calls g s0_0 s0_1 s0_2 a2 t377 t378 t379 w0 _ ?side1 ?side2 A4.out).mono ?_); (case side1 => exact zt4); (case side2 => exact zt6); rintro e w7004 ⟨rfl, hi, hb, hk⟩; refine ⟨_, rfl, ?_⟩; have n0_ := Aside0.mk (Kd.R_mono (Kd.R_keep (IsS77.apart (show IsS77 w0 _ g s0_0 s0_1 s0_2 from zt4) (rz HO7003.out) (by decide)) hk (fun _ h => h.2)) (fun _ h => h.1)); have n1_ := Aside0.mk (KeepBut.trans zt5 hk (.inl rfl)); have n2_ := Aside0.mk (hb); have n3_ := Aside0.mk (hi); clear HO7003; clear HK; clear HB; clear HI0; have HO7003 := n0_; have HK := n1_; have HB := n2_; have HI0 := n3_; clear n0_ n1_ n2_ n3_; (try clear hb); (try clear hb2); (try clear hk); (try clear hi); obtain ⟨Ao7005, co7005, eo7005⟩ := Kd.R_slice HO7003.out; subst eo7005; have p7006 : 0 ≤ (t377 : Int) := of_decide_eq_true zt8; have q7006 : t377 < (y374.length : Int) := of_decide_eq_true zt8; obtain ⟨ad7006, e7006, hx7006_0⟩ := Kd.at_string (Kd.R_reads' HO7003.out).2.2 t377 p7006 q7006; cases e7006; replace p7006 := eq_true p7006; replace q7006 := eq_true q7006; have p7007 : 0 ≤ (a1 : Int) := of_decide_eq_true zt8; have q7007 : a1 < (y374.length : Int) := of_decide_eq_true zt8; obtain ⟨ad7007, e7007, hx7007_0⟩ := Kd.at_string (Kd.R_reads' HO7003.out).2.2 a1 p7007 q7007; obtain rfl : ad7006 = ad7007 := (by injection e7007); replace p7007 := eq_true p7007; replace q7007 := eq_true q7007) | ((with_reducible refine gate_callee (f := 53) rfl ?_); refine goesL_ (some 46) rfl rfl Tryz.func53 (by kernel_rfl) rfl #[.pointer (some ⟨g, 0, none⟩), .slice Ao7013 y388.length co7013] rfl zt7 ?_; (with_reducible refine (spec_l1Pick.calls g s0_0 t383 t384 _ _ y388 t391 t392 t393 w0 _ ?side1 ?side2 ?side3 ?side4 ?side5 A25.out).mono ?_); (case side1 => exact zt4); (case side2 => exact zt6); (case side3 => exact cz (Kd.R_reads' HO7012.out).2.2); (case side4 => exact (Kd.R_reads' HO7012.out).2.1); (case side5 => exact far_slice (IsS77.own_ne HI0.out HO7012.out (by decide))); rintro e w7014 ⟨rfl, hi, hb, hk⟩; refine ⟨_, rfl, ?_⟩; have n0_ := Aside0.mk (Kd.R_mono (Kd.R_keep (IsS77.apart (show IsS77 w0 _ g s0_0 t383 t384 from zt4) (rz HO7003.out) (by decide)) hk (fun _ h => h.2)) (fun _ h => h.1)); have n1_ := Aside0.mk (Kd.R_mono (Kd.R_keep (IsS77.apart (show IsS77 w0 _ g s0_0 t383 t384 from zt4) (rz HO7012.out) (by decide)) hk (fun _ h => h.2)) (fun _ h => h.1)); have n2_ := Aside0.mk (KeepBut.trans zt5 hk (.inl rfl)); have n3_ := Aside0.mk (hb); have n4_ := Aside0.mk (hi); clear HO7003; clear HO7012; clear HK; clear HB; clear HI0; have HO7003 := n0_; have HO7012 := n1_; have HK := n2_; have HB := n3_; have HI0 := n4_; clear n0_ n1_ n2_ n3_ n4_; (try clear hb); (try clear hb2); (try clear hk); (try clear hi)) | ((with_reducible refine gate_callee (f := 48) rfl ?_); refine goesL_ (some 48) rfl rfl Tryz.func48 (by kernel_rfl) rfl #[.pointer (some ⟨g, 0, none⟩), .int .i64 12] rfl zt7 ?_; (with_reducible refine (spec_l1Below.calls g s0_0 t392 t393 12 t394 t395 t396 w0 _ ?side1 ?side2 A26.out).mono ?_); (case side1 => exact zt4); (case side2 => exact zt6); rintro e w7015 ⟨rfl, hi, hb, hk⟩; refine ⟨_, rfl, ?_⟩; have n0_ := Aside0.mk (Kd.R_mono (Kd.R_keep (IsS77.apart (show IsS77 w0 _ g s0_0 t392 t393 from zt4) (rz HO7003.out) (by decide)) hk (fun _ h => h.2)) (fun _ h => h.1)); have n1_ := Aside0.mk (Kd.R_mono (Kd.R_keep (IsS77.apart (show IsS77 w0 _ g s0_0 t392 t393 from zt4) (rz HO7012.out) (by decide)) hk (fun _ h => h.2)) (fun _ h => h.1)); have n2_ := Aside0.mk (KeepBut.trans zt5 hk (.inl rfl)); have n3_ := Aside0.mk (hb); have n4_ := Aside0.mk (hi); clear HO7003; clear HO7012; clear HK; clear HB; clear HI0; have HO7003 := n0_; have HO7012 := n1_; have HK := n2_; have HB := n3_; have HI0 := n4_; clear n0_ n1_ n2_ n3_ n4_; (try clear hb); (try clear hb2); (try clear hk); (try clear hi)) | ((with_reducible refine gate_callee (f := 30) rfl ?_); refine goesL_ (some 151) rfl rfl Tryz.func30 (by kernel_rfl) rfl #[.pointer (some ⟨g, 0, none⟩), .int .i64 3] rfl zt7 ?_; (with_reducible refine (spec_l1Once.calls g s0_0 t395 t396 3 false t404 t405 w0 _ ?side1 ?side2 A181.out).mono ?_); (case side1 => exact zt4); (case side2 => exact zt6); rintro e w7016 ⟨rfl, hi, hb, hk⟩; refine ⟨_, rfl, ?_⟩; have n0_ := Aside0.mk (Kd.R_mono (Kd.R_keep (IsS77.apart (show IsS77 w0 _ g s0_0 t395 t396 from zt4) (rz HO7003.out) (by decide)) hk (fun _ h => h.2)) (fun _ h => h.1)); have n1_ := Aside0.mk (Kd.R_mono (Kd.R_keep (IsS77.apart (show IsS77 w0 _ g s0_0 t395 t396 from zt4) (rz HO7012.out) (by decide)) hk (fun _ h => h.2)) (fun _ h => h.1)); have n2_ := Aside0.mk (KeepBut.trans zt5 hk (.inl rfl)); have n3_ := Aside0.mk (hb); have n4_ := Aside0.mk (hi); clear HO7003; clear HO7012; clear HK; clear HB; clear HI0; have HO7003 := n0_; have HO7012 := n1_; have HK := n2_; have HB := n3_; have HI0 := n4_; clear n0_ n1_ n2_ n3_ n4_; (try clear hb); (try clear hb2); (try clear hk); (try clear hi)) | ((with_reducible refine gate_callee (f := 30) rfl ?_); refine goesL_ (some 151) rfl rfl Tryz.func30 (by kernel_rfl) rfl #[.pointer (some ⟨g, 0, none⟩), .int .i64 3] rfl zt7 ?_; (with_reducible refine (spec_l1Once.calls g s0_0 t395 t396 3 true t404 t405 w0 _ ?side1 ?side2 A181.out).mono ?_); (case side1 => exact zt4); (case side2 => exact zt6); rintro e w7016 ⟨rfl, hi, hb, hk⟩; refine ⟨_, rfl, ?_⟩; have n0_ := Aside0.mk (Kd.R_mono (Kd.R_keep (IsS77.apart (show IsS77 w0 _ g s0_0 t395 t396 from zt4) (rz HO7003.out) (by decide)) hk (fun _ h => h.2)) (fun _ h => h.1)); have n1_ := Aside0.mk (Kd.R_mono (Kd.R_keep (IsS77.apart (show IsS77 w0 _ g s0_0 t395 t396 from zt4) (rz HO7012.out) (by decide)) hk (fun _ h => h.2)) (fun _ h => h.1)); have n2_ := Aside0.mk (KeepBut.trans zt5 hk (.inl rfl)); have n3_ := Aside0.mk (hb); have n4_ := Aside0.mk (hi); clear HO7003; clear HO7012; clear HK; clear HB; clear HI0; have HO7003 := n0_; have HO7012 := n1_; have HK := n2_; have HB := n3_; have HI0 := n4_; clear n0_ n1_ n2_ n3_ n4_; (try clear hb); (try clear hb2); (try clear hk); (try clear hi)) | ((with_reducible refine gate_dst (N := 11) rfl ?_); refine Kd.R_lit Kd.string _ 9 ?hg (N := 11) ?hd (xs := ([(⟨#[97]⟩ : ByteArray), (⟨#[98]⟩ : ByteArray), (⟨#[99]⟩ : ByteArray), (⟨#[100]⟩ : ByteArray)] : List ByteArray)) (inner := [.string (⟨#[97]⟩ : ByteArray), .string (⟨#[98]⟩ : ByteArray), .string (⟨#[99]⟩ : ByteArray), .string (⟨#[100]⟩ : ByteArray)]) (ok := fun _ => True) (okp := fun _ => True) ?hr ?hp (fun _ hk => hk) trivial (Below.refl _ _) (Nat.le_refl _) (by simp) ?_; (case hd => rfl); (case hg => rfl); (case hr => first | (go_simp; done) | (go_simp; rfl)); (case hp => exact (Reps.one (show Kd.M Kd.string _ _ _ (⟨#[97]⟩ : ByteArray) [.string (⟨#[97]⟩ : ByteArray)] from rfl) (Reps.one (show Kd.M Kd.string _ _ _ (⟨#[98]⟩ : ByteArray) [.string (⟨#[98]⟩ : ByteArray)] from rfl) (Reps.one (show Kd.M Kd.string _ _ _ (⟨#[99]⟩ : ByteArray) [.string (⟨#[99]⟩ : ByteArray)] from rfl) (Reps.one (show Kd.M Kd.string _ _ _ (⟨#[100]⟩ : ByteArray) [.string (⟨#[100]⟩ : ByteArray)] from rfl) (Reps.none _ _)))))); intro v7000 w7001 ho7002 hb hg_ hnew_; clear hg_ hnew_; (first | rw [← Ny374.out] at ho7002 | (simp only [Int.reduceToNat] at ho7002; rw [← Ny374.out] at ho7002)); have n0_ := Aside0.mk (Kd.R_lower ho7002 (keep_size (w := w) (g := g) (row := none) zt5)); have n1_ := Aside0.mk (IsS77.below zt4 hb); have n2_ := Aside0.mk (KeepBut.trans zt5 (KeepBut.of_below hb g none) (.inl rfl)); have n3_ := Aside0.mk (below_step zt6 hb); clear HI0; clear HK; clear HB; have HO7003 := n0_; have HI0 := n1_; have HK := n2_; have HB := n3_; clear n0_ n1_ n2_ n3_; clear hb ho7002) | ((with_reducible refine gate_callee (f := 65) rfl ?_); refine goesL_ (some 25) rfl rfl Tryz.func65 (by kernel_rfl) rfl #[.pointer (some ⟨g, 0, none⟩), .bool false] rfl zt7 ?_; (with_reducible refine (spec_l4Line.calls k g s0_0 t383 t384 false t385 t386 t387 w0 _ ?side1 ?side2 A11.out).mono ?_); (case side1 => exact zt4); (case side2 => exact zt6); rintro e w7009 ⟨rfl, hi, hb, hk⟩; refine ⟨_, rfl, ?_⟩; have n0_ := Aside0.mk (Kd.R_mono (Kd.R_keep (IsS77.apart (show IsS77 w0 _ g s0_0 t383 t384 from zt4) (rz HO7003.out) (by decide)) hk (fun _ h => h.2)) (fun _ h => h.1)); have n1_ := Aside0.mk (KeepBut.trans zt5 hk (.inl rfl)); have n2_ := Aside0.mk (hb); have n3_ := Aside0.mk (hi); clear HO7003; clear HK; clear HB; clear HI0; have HO7003 := n0_; have HK := n1_; have HB := n2_; have HI0 := n3_; clear n0_ n1_ n2_ n3_; (try clear hb); (try clear hb2); (try clear hk); (try clear hi)) | ((with_reducible refine gate_callee (f := 30) rfl ?_); refine goesL_ (some 23) rfl rfl Tryz.func30 (by kernel_rfl) rfl #[.pointer (some ⟨g, 0, none⟩), .int .i64 25] rfl zt7 ?_; (with_reducible refine (spec_l1Once.calls g s0_0 t378 t379 25 false t383 t384 w0 _ ?side1 ?side2 A9.out).mono ?_); (case side1 => exact zt4); (case side2 => exact zt6); rintro e w7008 ⟨rfl, hi, hb, hk⟩; refine ⟨_, rfl, ?_⟩; have n0_ := Aside0.mk (Kd.R_mono (Kd.R_keep (IsS77.apart (show IsS77 w0 _ g s0_0 t378 t379 from zt4) (rz HO7003.out) (by decide)) hk (fun _ h => h.2)) (fun _ h => h.1)); have n1_ := Aside0.mk (KeepBut.trans zt5 hk (.inl rfl)); have n2_ := Aside0.mk (hb); have n3_ := Aside0.mk (hi); clear HO7003; clear HK; clear HB; clear HI0; have HO7003 := n0_; have HK := n1_; have HB := n2_; have HI0 := n3_; clear n0_ n1_ n2_ n3_; (try clear hb); (try clear hb2); (try clear hk); (try clear hi)) | ((with_reducible refine gate_callee (f := 30) rfl ?_); refine goesL_ (some 23) rfl rfl Tryz.func30 (by kernel_rfl) rfl #[.pointer (some ⟨g, 0, none⟩), .int .i64 25] rfl zt7 ?_; (with_reducible refine (spec_l1Once.calls g s0_0 t378 t379 25 true t383 t384 w0 _ ?side1 ?side2 A9.out).mono ?_); (case side1 => exact zt4); (case side2 => exact zt6); rintro e w7008 ⟨rfl, hi, hb, hk⟩; refine ⟨_, rfl, ?_⟩; have n0_ := Aside0.mk (Kd.R_mono (Kd.R_keep (IsS77.apart (show IsS77 w0 _ g s0_0 t378 t379 from zt4) (rz HO7003.out) (by decide)) hk (fun _ h => h.2)) (fun _ h => h.1)); have n1_ := Aside0.mk (KeepBut.trans zt5 hk (.inl rfl)); have n2_ := Aside0.mk (hb); have n3_ := Aside0.mk (hi); clear HO7003; clear HK; clear HB; clear HI0; have HO7003 := n0_; have HK := n1_; have HB := n2_; have HI0 := n3_; clear n0_ n1_ n2_ n3_; (try clear hb); (try clear hb2); (try clear hk); (try clear hi))); first | go_quiet (fail) | (go_ret; exact ⟨zt10, zt4, zt6, zt5⟩))

end Go.Proofs.YtkmcnjpgamaljaaGreatDoor.PFnFiles

-- Out of the kit's print, with contracts of mine among it (myprint.py).
import Derived.Test.YtkmcnjpgamaljaaGreatDoorPFnFilesx0
import Derived.Test.YtkmcnjpgamaljaaGreatDoorPFnFilesx2
import Derived.Test.YtkmcnjpgamaljaaGreatDoorPFnFilesx11
import Derived.Test.YtkmcnjpgamaljaaGreatDoorPFnFilesx14
namespace Go.Proofs.YtkmcnjpgamaljaaGreatDoor.PFnFiles
open Go.RowKit Go.Proofs.YtkmcnjpgamaljaaGreatDoorW.PrintWords Go.Proofs.YtkmcnjpgamaljaaGreatDoorW.PrintLast Go.Proofs.YtkmcnjpgamaljaaGreatDoorW.PrintMore
attribute [local go_sem] max2_int min2_int max_two min_two max_three min_three max_four min_four   -- for this text's walks alone
set_option linter.unusedVariables false
set_option linter.unusedSimpArgs false

/-! ### spec_l7Files: function 29 -/
mutual
def spec_l7Files.l0 : Nat → Int → List ByteArray → Int → List (S33) → Int → List Int → Int → Int → Option ((List (S33)) × Int × Int)
 | 0, _, _, _, _, _, _, _, _ => none
 | k + 1, x1, x5, x6, x7, x8, x1000, x1001, x1002 => if x8 < x6 then (if 0 ≤ x8 then (if x8 < (x5.length : Int) then ((spec_l1Below.f x1000 x1001 x1002 (wrap64 (x1 + 1))).bind fun bt422 => (spec_l7Files.l1 k x1 x5 x6 x7 x8 (rdOf ByteArray.empty x5 x8) (⟨#[]⟩ : ByteArray) bt422.1 x1000 bt422.2.1 bt422.2.2)) else (none)) else (none)) else (some (x7, x1001, x1002))
def spec_l7Files.l1 : Nat → Int → List ByteArray → Int → List (S33) → Int → ByteArray → ByteArray → Int → List Int → Int → Int → Option ((List (S33)) × Int × Int)
 | 0, _, _, _, _, _, _, _, _, _, _, _ => none
 | k + 1, x1, x5, x6, x7, x8, x9, x10, x11, x1000, x1001, x1002 => if x11 > 0 then ((spec_l7Line.f k x1000 x1001 x1002 x8 x6).bind fun bt425 => (if x10.size + bt425.1.size ≤ 9223372036854775807 then (spec_l7Files.l1 k x1 x5 x6 x7 x8 x9 (x10 ++ bt425.1) (wrap64 (x11 - 1)) x1000 bt425.2.1 bt425.2.2) else (none))) else (if 12 + x9.size ≤ 9223372036854775807 then (if ((⟨#[101, 120, 112, 111, 114, 116, 32, 108, 101, 116, 32, 118]⟩ : ByteArray) ++ x9).size + 3 ≤ 9223372036854775807 then ((spec_Dec.f k (wrap64 (x8 + 1))).bind fun t428 => (if (((⟨#[101, 120, 112, 111, 114, 116, 32, 108, 101, 116, 32, 118]⟩ : ByteArray) ++ x9) ++ (⟨#[32, 61, 32]⟩ : ByteArray)).size + t428.size ≤ 9223372036854775807 then (if ((((⟨#[101, 120, 112, 111, 114, 116, 32, 108, 101, 116, 32, 118]⟩ : ByteArray) ++ x9) ++ (⟨#[32, 61, 32]⟩ : ByteArray)) ++ t428).size + 19 ≤ 9223372036854775807 then (if (((((⟨#[101, 120, 112, 111, 114, 116, 32, 108, 101, 116, 32, 118]⟩ : ByteArray) ++ x9) ++ (⟨#[32, 61, 32]⟩ : ByteArray)) ++ t428) ++ (⟨#[59, 10, 101, 120, 112, 111, 114, 116, 32, 102, 117, 110, 99, 116, 105, 111, 110, 32, 102]⟩ : ByteArray)).size + x9.size ≤ 9223372036854775807 then (if ((((((⟨#[101, 120, 112, 111, 114, 116, 32, 108, 101, 116, 32, 118]⟩ : ByteArray) ++ x9) ++ (⟨#[32, 61, 32]⟩ : ByteArray)) ++ t428) ++ (⟨#[59, 10, 101, 120, 112, 111, 114, 116, 32, 102, 117, 110, 99, 116, 105, 111, 110, 32, 102]⟩ : ByteArray)) ++ x9).size + 13 ≤ 9223372036854775807 then (if (((((((⟨#[101, 120, 112, 111, 114, 116, 32, 108, 101, 116, 32, 118]⟩ : ByteArray) ++ x9) ++ (⟨#[32, 61, 32]⟩ : ByteArray)) ++ t428) ++ (⟨#[59, 10, 101, 120, 112, 111, 114, 116, 32, 102, 117, 110, 99, 116, 105, 111, 110, 32, 102]⟩ : ByteArray)) ++ x9) ++ (⟨#[40, 41, 32, 123, 32, 114, 101, 116, 117, 114, 110, 32, 118]⟩ : ByteArray)).size + x9.size ≤ 9223372036854775807 then (if ((((((((⟨#[101, 120, 112, 111, 114, 116, 32, 108, 101, 116, 32, 118]⟩ : ByteArray) ++ x9) ++ (⟨#[32, 61, 32]⟩ : ByteArray)) ++ t428) ++ (⟨#[59, 10, 101, 120, 112, 111, 114, 116, 32, 102, 117, 110, 99, 116, 105, 111, 110, 32, 102]⟩ : ByteArray)) ++ x9) ++ (⟨#[40, 41, 32, 123, 32, 114, 101, 116, 117, 114, 110, 32, 118]⟩ : ByteArray)) ++ x9).size + 4 ≤ 9223372036854775807 then (if (((((((((⟨#[101, 120, 112, 111, 114, 116, 32, 108, 101, 116, 32, 118]⟩ : ByteArray) ++ x9) ++ (⟨#[32, 61, 32]⟩ : ByteArray)) ++ t428) ++ (⟨#[59, 10, 101, 120, 112, 111, 114, 116, 32, 102, 117, 110, 99, 116, 105, 111, 110, 32, 102]⟩ : ByteArray)) ++ x9) ++ (⟨#[40, 41, 32, 123, 32, 114, 101, 116, 117, 114, 110, 32, 118]⟩ : ByteArray)) ++ x9) ++ (⟨#[32, 43, 32, 119]⟩ : ByteArray)).size + x9.size ≤ 9223372036854775807 then (if ((((((((((⟨#[101, 120, 112, 111, 114, 116, 32, 108, 101, 116, 32, 118]⟩ : ByteArray) ++ x9) ++ (⟨#[32, 61, 32]⟩ : ByteArray)) ++ t428) ++ (⟨#[59, 10, 101, 120, 112, 111, 114, 116, 32, 102, 117, 110, 99, 116, 105, 111, 110, 32, 102]⟩ : ByteArray)) ++ x9) ++ (⟨#[40, 41, 32, 123, 32, 114, 101, 116, 117, 114, 110, 32, 118]⟩ : ByteArray)) ++ x9) ++ (⟨#[32, 43, 32, 119]⟩ : ByteArray)) ++ x9).size + 9 ≤ 9223372036854775807 then (if (((((((((((⟨#[101, 120, 112, 111, 114, 116, 32, 108, 101, 116, 32, 118]⟩ : ByteArray) ++ x9) ++ (⟨#[32, 61, 32]⟩ : ByteArray)) ++ t428) ++ (⟨#[59, 10, 101, 120, 112, 111, 114, 116, 32, 102, 117, 110, 99, 116, 105, 111, 110, 32, 102]⟩ : ByteArray)) ++ x9) ++ (⟨#[40, 41, 32, 123, 32, 114, 101, 116, 117, 114, 110, 32, 118]⟩ : ByteArray)) ++ x9) ++ (⟨#[32, 43, 32, 119]⟩ : ByteArray)) ++ x9) ++ (⟨#[59, 32, 125, 10, 108, 101, 116, 32, 119]⟩ : ByteArray)).size + x9.size ≤ 9223372036854775807 then (if ((((((((((((⟨#[101, 120, 112, 111, 114, 116, 32, 108, 101, 116, 32, 118]⟩ : ByteArray) ++ x9) ++ (⟨#[32, 61, 32]⟩ : ByteArray)) ++ t428) ++ (⟨#[59, 10, 101, 120, 112, 111, 114, 116, 32, 102, 117, 110, 99, 116, 105, 111, 110, 32, 102]⟩ : ByteArray)) ++ x9) ++ (⟨#[40, 41, 32, 123, 32, 114, 101, 116, 117, 114, 110, 32, 118]⟩ : ByteArray)) ++ x9) ++ (⟨#[32, 43, 32, 119]⟩ : ByteArray)) ++ x9) ++ (⟨#[59, 32, 125, 10, 108, 101, 116, 32, 119]⟩ : ByteArray)) ++ x9).size + 3 ≤ 9223372036854775807 then ((spec_Dec.f k (wrap64 (10 * x8))).bind fun t429 => (if (((((((((((((⟨#[101, 120, 112, 111, 114, 116, 32, 108, 101, 116, 32, 118]⟩ : ByteArray) ++ x9) ++ (⟨#[32, 61, 32]⟩ : ByteArray)) ++ t428) ++ (⟨#[59, 10, 101, 120, 112, 111, 114, 116, 32, 102, 117, 110, 99, 116, 105, 111, 110, 32, 102]⟩ : ByteArray)) ++ x9) ++ (⟨#[40, 41, 32, 123, 32, 114, 101, 116, 117, 114, 110, 32, 118]⟩ : ByteArray)) ++ x9) ++ (⟨#[32, 43, 32, 119]⟩ : ByteArray)) ++ x9) ++ (⟨#[59, 32, 125, 10, 108, 101, 116, 32, 119]⟩ : ByteArray)) ++ x9) ++ (⟨#[32, 61, 32]⟩ : ByteArray)).size + t429.size ≤ 9223372036854775807 then (if ((((((((((((((⟨#[101, 120, 112, 111, 114, 116, 32, 108, 101, 116, 32, 118]⟩ : ByteArray) ++ x9) ++ (⟨#[32, 61, 32]⟩ : ByteArray)) ++ t428) ++ (⟨#[59, 10, 101, 120, 112, 111, 114, 116, 32, 102, 117, 110, 99, 116, 105, 111, 110, 32, 102]⟩ : ByteArray)) ++ x9) ++ (⟨#[40, 41, 32, 123, 32, 114, 101, 116, 117, 114, 110, 32, 118]⟩ : ByteArray)) ++ x9) ++ (⟨#[32, 43, 32, 119]⟩ : ByteArray)) ++ x9) ++ (⟨#[59, 32, 125, 10, 108, 101, 116, 32, 119]⟩ : ByteArray)) ++ x9) ++ (⟨#[32, 61, 32]⟩ : ByteArray)) ++ t429).size + 12 ≤ 9223372036854775807 then (if (((((((((((((((⟨#[101, 120, 112, 111, 114, 116, 32, 108, 101, 116, 32, 118]⟩ : ByteArray) ++ x9) ++ (⟨#[32, 61, 32]⟩ : ByteArray)) ++ t428) ++ (⟨#[59, 10, 101, 120, 112, 111, 114, 116, 32, 102, 117, 110, 99, 116, 105, 111, 110, 32, 102]⟩ : ByteArray)) ++ x9) ++ (⟨#[40, 41, 32, 123, 32, 114, 101, 116, 117, 114, 110, 32, 118]⟩ : ByteArray)) ++ x9) ++ (⟨#[32, 43, 32, 119]⟩ : ByteArray)) ++ x9) ++ (⟨#[59, 32, 125, 10, 108, 101, 116, 32, 119]⟩ : ByteArray)) ++ x9) ++ (⟨#[32, 61, 32]⟩ : ByteArray)) ++ t429) ++ (⟨#[59, 10, 101, 120, 112, 111, 114, 116, 32, 123, 32, 119]⟩ : ByteArray)).size + x9.size ≤ 9223372036854775807 then (if ((((((((((((((((⟨#[101, 120, 112, 111, 114, 116, 32, 108, 101, 116, 32, 118]⟩ : ByteArray) ++ x9) ++ (⟨#[32, 61, 32]⟩ : ByteArray)) ++ t428) ++ (⟨#[59, 10, 101, 120, 112, 111, 114, 116, 32, 102, 117, 110, 99, 116, 105, 111, 110, 32, 102]⟩ : ByteArray)) ++ x9) ++ (⟨#[40, 41, 32, 123, 32, 114, 101, 116, 117, 114, 110, 32, 118]⟩ : ByteArray)) ++ x9) ++ (⟨#[32, 43, 32, 119]⟩ : ByteArray)) ++ x9) ++ (⟨#[59, 32, 125, 10, 108, 101, 116, 32, 119]⟩ : ByteArray)) ++ x9) ++ (⟨#[32, 61, 32]⟩ : ByteArray)) ++ t429) ++ (⟨#[59, 10, 101, 120, 112, 111, 114, 116, 32, 123, 32, 119]⟩ : ByteArray)) ++ x9).size + 20 ≤ 9223372036854775807 then (if (((((((((((((((((⟨#[101, 120, 112, 111, 114, 116, 32, 108, 101, 116, 32, 118]⟩ : ByteArray) ++ x9) ++ (⟨#[32, 61, 32]⟩ : ByteArray)) ++ t428) ++ (⟨#[59, 10, 101, 120, 112, 111, 114, 116, 32, 102, 117, 110, 99, 116, 105, 111, 110, 32, 102]⟩ : ByteArray)) ++ x9) ++ (⟨#[40, 41, 32, 123, 32, 114, 101, 116, 117, 114, 110, 32, 118]⟩ : ByteArray)) ++ x9) ++ (⟨#[32, 43, 32, 119]⟩ : ByteArray)) ++ x9) ++ (⟨#[59, 32, 125, 10, 108, 101, 116, 32, 119]⟩ : ByteArray)) ++ x9) ++ (⟨#[32, 61, 32]⟩ : ByteArray)) ++ t429) ++ (⟨#[59, 10, 101, 120, 112, 111, 114, 116, 32, 123, 32, 119]⟩ : ByteArray)) ++ x9) ++ (⟨#[32, 125, 59, 10, 101, 120, 112, 111, 114, 116, 32, 100, 101, 102, 97, 117, 108, 116, 32, 118]⟩ : ByteArray)).size + x9.size ≤ 9223372036854775807 then (if ((((((((((((((((((⟨#[101, 120, 112, 111, 114, 116, 32, 108, 101, 116, 32, 118]⟩ : ByteArray) ++ x9) ++ (⟨#[32, 61, 32]⟩ : ByteArray)) ++ t428) ++ (⟨#[59, 10, 101, 120, 112, 111, 114, 116, 32, 102, 117, 110, 99, 116, 105, 111, 110, 32, 102]⟩ : ByteArray)) ++ x9) ++ (⟨#[40, 41, 32, 123, 32, 114, 101, 116, 117, 114, 110, 32, 118]⟩ : ByteArray)) ++ x9) ++ (⟨#[32, 43, 32, 119]⟩ : ByteArray)) ++ x9) ++ (⟨#[59, 32, 125, 10, 108, 101, 116, 32, 119]⟩ : ByteArray)) ++ x9) ++ (⟨#[32, 61, 32]⟩ : ByteArray)) ++ t429) ++ (⟨#[59, 10, 101, 120, 112, 111, 114, 116, 32, 123, 32, 119]⟩ : ByteArray)) ++ x9) ++ (⟨#[32, 125, 59, 10, 101, 120, 112, 111, 114, 116, 32, 100, 101, 102, 97, 117, 108, 116, 32, 118]⟩ : ByteArray)) ++ x9).size + 6 ≤ 9223372036854775807 then (if x10.size + (((((((((((((((((((⟨#[101, 120, 112, 111, 114, 116, 32, 108, 101, 116, 32, 118]⟩ : ByteArray) ++ x9) ++ (⟨#[32, 61, 32]⟩ : ByteArray)) ++ t428) ++ (⟨#[59, 10, 101, 120, 112, 111, 114, 116, 32, 102, 117, 110, 99, 116, 105, 111, 110, 32, 102]⟩ : ByteArray)) ++ x9) ++ (⟨#[40, 41, 32, 123, 32, 114, 101, 116, 117, 114, 110, 32, 118]⟩ : ByteArray)) ++ x9) ++ (⟨#[32, 43, 32, 119]⟩ : ByteArray)) ++ x9) ++ (⟨#[59, 32, 125, 10, 108, 101, 116, 32, 119]⟩ : ByteArray)) ++ x9) ++ (⟨#[32, 61, 32]⟩ : ByteArray)) ++ t429) ++ (⟨#[59, 10, 101, 120, 112, 111, 114, 116, 32, 123, 32, 119]⟩ : ByteArray)) ++ x9) ++ (⟨#[32, 125, 59, 10, 101, 120, 112, 111, 114, 116, 32, 100, 101, 102, 97, 117, 108, 116, 32, 118]⟩ : ByteArray)) ++ x9) ++ (⟨#[32, 42, 32, 53, 59, 10]⟩ : ByteArray)).size ≤ 9223372036854775807 then ((spec_l1Once.f x1000 x1001 x1002 2).bind fun bt430 => (if bt430.1 = true then (if (((((((((((((((((((⟨#[101, 120, 112, 111, 114, 116, 32, 108, 101, 116, 32, 118]⟩ : ByteArray) ++ x9) ++ (⟨#[32, 61, 32]⟩ : ByteArray)) ++ t428) ++ (⟨#[59, 10, 101, 120, 112, 111, 114, 116, 32, 102, 117, 110, 99, 116, 105, 111, 110, 32, 102]⟩ : ByteArray)) ++ x9) ++ (⟨#[40, 41, 32, 123, 32, 114, 101, 116, 117, 114, 110, 32, 118]⟩ : ByteArray)) ++ x9) ++ (⟨#[32, 43, 32, 119]⟩ : ByteArray)) ++ x9) ++ (⟨#[59, 32, 125, 10, 108, 101, 116, 32, 119]⟩ : ByteArray)) ++ x9) ++ (⟨#[32, 61, 32]⟩ : ByteArray)) ++ t429) ++ (⟨#[59, 10, 101, 120, 112, 111, 114, 116, 32, 123, 32, 119]⟩ : ByteArray)) ++ x9) ++ (⟨#[32, 125, 59, 10, 101, 120, 112, 111, 114, 116, 32, 100, 101, 102, 97, 117, 108, 116, 32, 118]⟩ : ByteArray)) ++ x9) ++ (⟨#[32, 42, 32, 53, 59, 10]⟩ : ByteArray)).size + x10.size ≤ 9223372036854775807 then (if (((((((((((((((((((((⟨#[101, 120, 112, 111, 114, 116, 32, 108, 101, 116, 32, 118]⟩ : ByteArray) ++ x9) ++ (⟨#[32, 61, 32]⟩ : ByteArray)) ++ t428) ++ (⟨#[59, 10, 101, 120, 112, 111, 114, 116, 32, 102, 117, 110, 99, 116, 105, 111, 110, 32, 102]⟩ : ByteArray)) ++ x9) ++ (⟨#[40, 41, 32, 123, 32, 114, 101, 116, 117, 114, 110, 32, 118]⟩ : ByteArray)) ++ x9) ++ (⟨#[32, 43, 32, 119]⟩ : ByteArray)) ++ x9) ++ (⟨#[59, 32, 125, 10, 108, 101, 116, 32, 119]⟩ : ByteArray)) ++ x9) ++ (⟨#[32, 61, 32]⟩ : ByteArray)) ++ t429) ++ (⟨#[59, 10, 101, 120, 112, 111, 114, 116, 32, 123, 32, 119]⟩ : ByteArray)) ++ x9) ++ (⟨#[32, 125, 59, 10, 101, 120, 112, 111, 114, 116, 32, 100, 101, 102, 97, 117, 108, 116, 32, 118]⟩ : ByteArray)) ++ x9) ++ (⟨#[32, 42, 32, 53, 59, 10]⟩ : ByteArray)) ++ x10).size : Int) > 1500 then (if 1 + x9.size ≤ 9223372036854775807 then (if x7.length < 4398046511104 then (spec_l7Files.l0 k x1 x5 x6 (x7 ++ [(⟨(⟨#[47]⟩ : ByteArray) ++ x9, ((((((((((((((((((⟨#[101, 120, 112, 111, 114, 116, 32, 108, 101, 116, 32, 118]⟩ : ByteArray) ++ x9) ++ (⟨#[32, 61, 32]⟩ : ByteArray)) ++ t428) ++ (⟨#[59, 10, 101, 120, 112, 111, 114, 116, 32, 102, 117, 110, 99, 116, 105, 111, 110, 32, 102]⟩ : ByteArray)) ++ x9) ++ (⟨#[40, 41, 32, 123, 32, 114, 101, 116, 117, 114, 110, 32, 118]⟩ : ByteArray)) ++ x9) ++ (⟨#[32, 43, 32, 119]⟩ : ByteArray)) ++ x9) ++ (⟨#[59, 32, 125, 10, 108, 101, 116, 32, 119]⟩ : ByteArray)) ++ x9) ++ (⟨#[32, 61, 32]⟩ : ByteArray)) ++ t429) ++ (⟨#[59, 10, 101, 120, 112, 111, 114, 116, 32, 123, 32, 119]⟩ : ByteArray)) ++ x9) ++ (⟨#[32, 125, 59, 10, 101, 120, 112, 111, 114, 116, 32, 100, 101, 102, 97, 117, 108, 116, 32, 118]⟩ : ByteArray)) ++ x9) ++ (⟨#[32, 42, 32, 53, 59, 10]⟩ : ByteArray)⟩ : S33)]) (wrap64 (x8 + 1)) x1000 bt430.2.1 bt430.2.2) else (none)) else (none)) else (if 1 + x9.size ≤ 9223372036854775807 then (if x7.length < 4398046511104 then (spec_l7Files.l0 k x1 x5 x6 (x7 ++ [(⟨(⟨#[47]⟩ : ByteArray) ++ x9, (((((((((((((((((((⟨#[101, 120, 112, 111, 114, 116, 32, 108, 101, 116, 32, 118]⟩ : ByteArray) ++ x9) ++ (⟨#[32, 61, 32]⟩ : ByteArray)) ++ t428) ++ (⟨#[59, 10, 101, 120, 112, 111, 114, 116, 32, 102, 117, 110, 99, 116, 105, 111, 110, 32, 102]⟩ : ByteArray)) ++ x9) ++ (⟨#[40, 41, 32, 123, 32, 114, 101, 116, 117, 114, 110, 32, 118]⟩ : ByteArray)) ++ x9) ++ (⟨#[32, 43, 32, 119]⟩ : ByteArray)) ++ x9) ++ (⟨#[59, 32, 125, 10, 108, 101, 116, 32, 119]⟩ : ByteArray)) ++ x9) ++ (⟨#[32, 61, 32]⟩ : ByteArray)) ++ t429) ++ (⟨#[59, 10, 101, 120, 112, 111, 114, 116, 32, 123, 32, 119]⟩ : ByteArray)) ++ x9) ++ (⟨#[32, 125, 59, 10, 101, 120, 112, 111, 114, 116, 32, 100, 101, 102, 97, 117, 108, 116, 32, 118]⟩ : ByteArray)) ++ x9) ++ (⟨#[32, 42, 32, 53, 59, 10]⟩ : ByteArray)) ++ x10⟩ : S33)]) (wrap64 (x8 + 1)) x1000 bt430.2.1 bt430.2.2) else (none)) else (none))) else (none)) else (if ((x10 ++ (((((((((((((((((((⟨#[101, 120, 112, 111, 114, 116, 32, 108, 101, 116, 32, 118]⟩ : ByteArray) ++ x9) ++ (⟨#[32, 61, 32]⟩ : ByteArray)) ++ t428) ++ (⟨#[59, 10, 101, 120, 112, 111, 114, 116, 32, 102, 117, 110, 99, 116, 105, 111, 110, 32, 102]⟩ : ByteArray)) ++ x9) ++ (⟨#[40, 41, 32, 123, 32, 114, 101, 116, 117, 114, 110, 32, 118]⟩ : ByteArray)) ++ x9) ++ (⟨#[32, 43, 32, 119]⟩ : ByteArray)) ++ x9) ++ (⟨#[59, 32, 125, 10, 108, 101, 116, 32, 119]⟩ : ByteArray)) ++ x9) ++ (⟨#[32, 61, 32]⟩ : ByteArray)) ++ t429) ++ (⟨#[59, 10, 101, 120, 112, 111, 114, 116, 32, 123, 32, 119]⟩ : ByteArray)) ++ x9) ++ (⟨#[32, 125, 59, 10, 101, 120, 112, 111, 114, 116, 32, 100, 101, 102, 97, 117, 108, 116, 32, 118]⟩ : ByteArray)) ++ x9) ++ (⟨#[32, 42, 32, 53, 59, 10]⟩ : ByteArray))).size : Int) > 1500 then (if 1 + x9.size ≤ 9223372036854775807 then (if x7.length < 4398046511104 then (spec_l7Files.l0 k x1 x5 x6 (x7 ++ [(⟨(⟨#[47]⟩ : ByteArray) ++ x9, ((((((((((((((((((⟨#[101, 120, 112, 111, 114, 116, 32, 108, 101, 116, 32, 118]⟩ : ByteArray) ++ x9) ++ (⟨#[32, 61, 32]⟩ : ByteArray)) ++ t428) ++ (⟨#[59, 10, 101, 120, 112, 111, 114, 116, 32, 102, 117, 110, 99, 116, 105, 111, 110, 32, 102]⟩ : ByteArray)) ++ x9) ++ (⟨#[40, 41, 32, 123, 32, 114, 101, 116, 117, 114, 110, 32, 118]⟩ : ByteArray)) ++ x9) ++ (⟨#[32, 43, 32, 119]⟩ : ByteArray)) ++ x9) ++ (⟨#[59, 32, 125, 10, 108, 101, 116, 32, 119]⟩ : ByteArray)) ++ x9) ++ (⟨#[32, 61, 32]⟩ : ByteArray)) ++ t429) ++ (⟨#[59, 10, 101, 120, 112, 111, 114, 116, 32, 123, 32, 119]⟩ : ByteArray)) ++ x9) ++ (⟨#[32, 125, 59, 10, 101, 120, 112, 111, 114, 116, 32, 100, 101, 102, 97, 117, 108, 116, 32, 118]⟩ : ByteArray)) ++ x9) ++ (⟨#[32, 42, 32, 53, 59, 10]⟩ : ByteArray)⟩ : S33)]) (wrap64 (x8 + 1)) x1000 bt430.2.1 bt430.2.2) else (none)) else (none)) else (if 1 + x9.size ≤ 9223372036854775807 then (if x7.length < 4398046511104 then (spec_l7Files.l0 k x1 x5 x6 (x7 ++ [(⟨(⟨#[47]⟩ : ByteArray) ++ x9, x10 ++ (((((((((((((((((((⟨#[101, 120, 112, 111, 114, 116, 32, 108, 101, 116, 32, 118]⟩ : ByteArray) ++ x9) ++ (⟨#[32, 61, 32]⟩ : ByteArray)) ++ t428) ++ (⟨#[59, 10, 101, 120, 112, 111, 114, 116, 32, 102, 117, 110, 99, 116, 105, 111, 110, 32, 102]⟩ : ByteArray)) ++ x9) ++ (⟨#[40, 41, 32, 123, 32, 114, 101, 116, 117, 114, 110, 32, 118]⟩ : ByteArray)) ++ x9) ++ (⟨#[32, 43, 32, 119]⟩ : ByteArray)) ++ x9) ++ (⟨#[59, 32, 125, 10, 108, 101, 116, 32, 119]⟩ : ByteArray)) ++ x9) ++ (⟨#[32, 61, 32]⟩ : ByteArray)) ++ t429) ++ (⟨#[59, 10, 101, 120, 112, 111, 114, 116, 32, 123, 32, 119]⟩ : ByteArray)) ++ x9) ++ (⟨#[32, 125, 59, 10, 101, 120, 112, 111, 114, 116, 32, 100, 101, 102, 97, 117, 108, 116, 32, 118]⟩ : ByteArray)) ++ x9) ++ (⟨#[32, 42, 32, 53, 59, 10]⟩ : ByteArray))⟩ : S33)]) (wrap64 (x8 + 1)) x1000 bt430.2.1 bt430.2.2) else (none)) else (none))))) else (none)) else (none)) else (none)) else (none)) else (none)) else (none)) else (none))) else (none)) else (none)) else (none)) else (none)) else (none)) else (none)) else (none)) else (none)) else (none)) else (none))) else (none)) else (none))
end
def spec_l7Files.f (k : Nat) (s0_0 : List Int) (s0_1 : Int) (s0_2 : Int) (a1 : Int) : Option ((List (S33)) × Int × Int) := (spec_l1Below.f s0_0 s0_1 s0_2 4).bind fun bt415 => (spec_l7Files.l0 k a1 (([(⟨#[97]⟩ : ByteArray), (⟨#[98]⟩ : ByteArray), (⟨#[99]⟩ : ByteArray), (⟨#[100]⟩ : ByteArray)] : List ByteArray)) (wrap64 (1 + bt415.1)) (([] : List (S33))) 0 s0_0 bt415.2.1 bt415.2.2)
theorem spec_l7Files.mono_l : ∀ k, (∀ y0 y1 y2 y3 y4 y5 y6 y7, LeO (spec_l7Files.l0 k y0 y1 y2 y3 y4 y5 y6 y7) (spec_l7Files.l0 (k + 1) y0 y1 y2 y3 y4 y5 y6 y7)) ∧ (∀ y0 y1 y2 y3 y4 y5 y6 y7 y8 y9 y10, LeO (spec_l7Files.l1 k y0 y1 y2 y3 y4 y5 y6 y7 y8 y9 y10) (spec_l7Files.l1 (k + 1) y0 y1 y2 y3 y4 y5 y6 y7 y8 y9 y10))
 | 0 => ⟨fun _ _ _ _ _ _ _ _ r h => by simp [spec_l7Files.l0] at h, fun _ _ _ _ _ _ _ _ _ _ _ r h => by simp [spec_l7Files.l1] at h⟩
 | k + 1 => by
  obtain ⟨ih0, ih1⟩ := spec_l7Files.mono_l k
  refine ⟨?_, ?_⟩
  ·intro y0 y1 y2 y3 y4 y5 y6 y7
   unfold spec_l7Files.l0
   repeat' (first | (with_reducible first | exact ih0 _ _ _ _ _ _ _ _ | exact ih1 _ _ _ _ _ _ _ _ _ _ _ | exact spec_Dec.mono _ _ | exact spec_l7Line.mono _ _ _ _ _ _ | exact LeO.refl _ | exact LeO.none _ | refine LeO.ite ?_ ?_ | refine LeO.bind ?_ (fun _ => ?_)) | exact LeO.none _ | refine LeO.ite ?_ ?_ | refine LeO.bind ?_ (fun _ => ?_))
  ·intro y0 y1 y2 y3 y4 y5 y6 y7 y8 y9 y10
   unfold spec_l7Files.l1
   repeat' (first | (with_reducible first | exact ih0 _ _ _ _ _ _ _ _ | exact ih1 _ _ _ _ _ _ _ _ _ _ _ | exact spec_Dec.mono _ _ | exact spec_l7Line.mono _ _ _ _ _ _ | exact LeO.refl _ | exact LeO.none _ | refine LeO.ite ?_ ?_ | refine LeO.bind ?_ (fun _ => ?_)) | exact LeO.none _ | refine LeO.ite ?_ ?_ | refine LeO.bind ?_ (fun _ => ?_))
theorem spec_l7Files.mono : ∀ a0 a1 a2 a3 k, LeO (spec_l7Files.f k a0 a1 a2 a3) (spec_l7Files.f (k + 1) a0 a1 a2 a3) := by
 intro a0 a1 a2 a3 k
 obtain ⟨ih0, ih1⟩ := spec_l7Files.mono_l k
 unfold spec_l7Files.f
 repeat' (first | (with_reducible first | exact ih0 _ _ _ _ _ _ _ _ | exact ih1 _ _ _ _ _ _ _ _ _ _ _ | exact spec_Dec.mono _ _ | exact spec_l7Line.mono _ _ _ _ _ _ | exact LeO.refl _ | exact LeO.none _ | refine LeO.ite ?_ ?_ | refine LeO.bind ?_ (fun _ => ?_)) | exact LeO.none _ | refine LeO.ite ?_ ?_ | refine LeO.bind ?_ (fun _ => ?_))
set_option maxHeartbeats 8000000 in
set_option maxRecDepth 100000 in
theorem spec_l7Files.calls (k : Nat) (g : Nat) (s0_0 : List Int) (s0_1 : Int) (s0_2 : Int) (a1 : Int) (r1 : List (S33)) (r2 : Int) (r3 : Int) (w0 w : World) (hI : IsS77 w0 w g s0_0 s0_1 s0_2) (hB : Below w0.heap.size w0 w) (h : spec_l7Files.f k s0_0 s0_1 s0_2 a1 = some (r1, r2, r3)) :
  Calls Tryz.prog 29 #[.pointer (some ⟨g, 0, none⟩), .int .i64 a1] w fun e w' => ∃ v0_ : Value, e = .returned (v0_) ∧ Kd.R k33 33 w' w.heap.size (fun _ => True) v0_ r1 ∧ IsS77 w0 w' g s0_0 r2 r3 ∧ Below w0.heap.size w0 w' ∧ KeepBut w w' g none := by
 have hu33 := Tryz.underlying33
 have HI0 := Aside0.mk hI
 have HK := Aside0.mk (KeepBut.refl w g none)
 have HL := Aside0.mk hB.size
 clear hI
 have HW0 := Aside0.mk hB.size
 have HB := Aside0.mk hB
 clear hB
 try unfold spec_l7Files.f at h
 have H := h
 clear h
 obtain ⟨y412, hy412⟩ : ∃ y_ : List ByteArray, y_ = (([(⟨#[97]⟩ : ByteArray), (⟨#[98]⟩ : ByteArray), (⟨#[99]⟩ : ByteArray), (⟨#[100]⟩ : ByteArray)] : List ByteArray)) := ⟨_, rfl⟩
 rw [← hy412] at H
 have Ny412 := Aside0.mk hy412
 clear hy412
 replace H := bnd H
 obtain ⟨⟨t415, t416, t417⟩, A3, H⟩ := H
 try dsimp only at H
 obtain ⟨y418, hy418⟩ : ∃ y_ : List (S33), y_ = (([] : List (S33))) := ⟨_, rfl⟩
 replace H : (spec_l7Files.l0 k a1 y412 (wrap64 (1 + t415)) y418 0 s0_0 t416 t417) = some (r1, r2, r3) := by first | (rw [hy418]; with_reducible exact H) | (have H2_ := (Option.bind_some _ _).symm.trans H; rw [hy418]; with_reducible exact H2_) | (have H2_ := (Option.bind_some _ _).symm.trans H; with_reducible exact H2_) | with_reducible exact H | (rw [hy418]; exact H) | exact H
 have Ny418 := Aside0.mk hy418
 clear hy418
 have H' := Aside0.mk H
 clear H
 try simp only [ByteArray.size_append, lsz, List.length_cons, List.length_nil, Nat.reduceAdd] at *
 go_enter Tryz.func29, Tryz.ntmps29
 go_wp2_with (first | ((with_reducible refine gate_dst (N := 14) rfl ?_); refine Kd.R_lit Kd.string _ 9 ?hg (N := 14) ?hd (xs := ([(⟨#[97]⟩ : ByteArray), (⟨#[98]⟩ : ByteArray), (⟨#[99]⟩ : ByteArray), (⟨#[100]⟩ : ByteArray)] : List ByteArray)) (inner := [.string (⟨#[97]⟩ : ByteArray), .string (⟨#[98]⟩ : ByteArray), .string (⟨#[99]⟩ : ByteArray), .string (⟨#[100]⟩ : ByteArray)]) (ok := fun _ => True) (okp := fun _ => True) ?hr ?hp (fun _ hk => hk) trivial (Below.refl _ _) (Nat.le_refl _) (by simp) ?_; (case hd => rfl); (case hg => rfl); (case hr => first | (go_simp; done) | (go_simp; rfl)); (case hp => exact (Reps.one (show Kd.M Kd.string _ _ _ (⟨#[97]⟩ : ByteArray) [.string (⟨#[97]⟩ : ByteArray)] from rfl) (Reps.one (show Kd.M Kd.string _ _ _ (⟨#[98]⟩ : ByteArray) [.string (⟨#[98]⟩ : ByteArray)] from rfl) (Reps.one (show Kd.M Kd.string _ _ _ (⟨#[99]⟩ : ByteArray) [.string (⟨#[99]⟩ : ByteArray)] from rfl) (Reps.one (show Kd.M Kd.string _ _ _ (⟨#[100]⟩ : ByteArray) [.string (⟨#[100]⟩ : ByteArray)] from rfl) (Reps.none _ _)))))); intro v413 w4 ho5 hb hg_ hnew_; clear hg_ hnew_; (first | rw [← Ny412.out] at ho5 | (simp only [Int.reduceToNat] at ho5; rw [← Ny412.out] at ho5)); have n0_ := Aside0.mk (Kd.R_lower ho5 (keep_size (w := w) (g := g) (row := none) zt5)); have n1_ := Aside0.mk (IsS77.below zt4 hb); have n2_ := Aside0.mk (KeepBut.trans zt5 (KeepBut.of_below hb g none) (.inl rfl)); have n3_ := Aside0.mk (below_step zt6 hb); clear HI0; clear HK; clear HB; have HO414 := n0_; have HI0 := n1_; have HK := n2_; have HB := n3_; clear n0_ n1_ n2_ n3_; clear hb ho5) | ((with_reducible refine gate_callee (f := 48) rfl ?_); refine goesL_ (some 16) rfl rfl Tryz.func48 (by kernel_rfl) rfl #[.pointer (some ⟨g, 0, none⟩), .int .i64 4] rfl zt7 ?_; (with_reducible refine (spec_l1Below.calls g s0_0 s0_1 s0_2 4 t415 t416 t417 w0 _ ?side1 ?side2 A3.out).mono ?_); (case side1 => exact zt4); (case side2 => exact zt6); rintro e w6 ⟨rfl, hi, hb, hk⟩; refine ⟨_, rfl, ?_⟩; have n0_ := Aside0.mk (Kd.R_mono (Kd.R_keep (IsS77.apart (show IsS77 w0 _ g s0_0 s0_1 s0_2 from zt4) (rz HO414.out) (by decide)) hk (fun _ h => h.2)) (fun _ h => h.1)); have n1_ := Aside0.mk (KeepBut.trans zt5 hk (.inl rfl)); have n2_ := Aside0.mk (hb); have n3_ := Aside0.mk (hi); clear HO414; clear HK; clear HB; clear HI0; have HO414 := n0_; have HK := n1_; have HB := n2_; have HI0 := n3_; clear n0_ n1_ n2_ n3_; (try clear hb); (try clear hb2); (try clear hk); (try clear hi)) | ((with_reducible refine gate_dst (N := 18) rfl ?_); refine Kd.R_lit k33 _ 33 ?hg (N := 18) ?hd (xs := ([] : List (S33))) (inner := []) (ok := fun _ => True) (okp := fun _ => True) ?hr ?hp (fun _ hk => hk) trivial (Below.refl _ _) (Nat.le_refl _) (by simp) ?_; (case hd => rfl); (case hg => rfl); (case hr => first | (go_simp; done) | (go_simp; rfl)); (case hp => exact (Reps.none _ _)); intro v419 w7 ho8 hb hg_ hnew_; clear hg_ hnew_; (first | rw [← Ny418.out] at ho8 | (simp only [Int.reduceToNat] at ho8; rw [← Ny418.out] at ho8)); have n0_ := Aside0.mk (Kd.R_below (rz HO414.out) hb); have n1_ := Aside0.mk (Kd.R_lower ho8 (keep_size (w := w) (g := g) (row := none) zt5)); have n2_ := Aside0.mk (IsS77.below zt4 hb); have n3_ := Aside0.mk (KeepBut.trans zt5 (KeepBut.of_below hb g none) (.inl rfl)); have n4_ := Aside0.mk (below_step zt6 hb); clear HO414; clear HI0; clear HK; clear HB; have HO414 := n0_; have HO420 := n1_; have HI0 := n2_; have HK := n3_; have HB := n4_; clear n0_ n1_ n2_ n3_ n4_; clear hb ho8))
 go_loopg [7, 8] k (fun kq v7 v8 w' => ∃ (x7_1 : List (S33)) (x8_1 : Int) (x1001_1 : Int) (x1002_1 : Int), v8 = .int .i64 x8_1 ∧ Aside0 (spec_l7Files.l0 kq a1 y412 (wrap64 (1 + t415)) x7_1 x8_1 s0_0 x1001_1 x1002_1 = some (r1, r2, r3)) ∧ Aside0 (kq ≤ k) ∧ Aside0 (Kd.R Kd.string 9 w' w.heap.size (fun _ => True) v413 y412) ∧ Aside0 (Kd.R k33 33 w' w.heap.size (fun _ => True) v7 x7_1) ∧ Aside0 (IsS77 w0 w' g s0_0 x1001_1 x1002_1) ∧ Aside0 (KeepBut w w' g none) ∧ Aside0 (Below w0.heap.size w0 w'))
 case atStart => exact ⟨(y418), (0), (t416), (t417), zt12, H', ⟨Nat.le_refl _⟩, ⟨by (with_reducible repeat (first | apply Kd.R_alloc | apply Kd.R_drewN | apply Kd.R_drew)); exact HO414.out⟩, ⟨by (with_reducible repeat (first | apply Kd.R_alloc | apply Kd.R_drewN | apply Kd.R_drew)); exact HO420.out⟩, ⟨zt4⟩, ⟨zt5⟩, ⟨zt6⟩⟩
 case round =>
  clear H'
  try clear c2
  try clear p2
  try clear c4
  try clear p6
  obtain ⟨x7_1, x8_1, x1001_1, x1002_1, rfl, HA, HK1, HO_5, HO_7, HI0, HK, HB⟩ := hrel
  cases gk with
  | zero => exact absurd HA.out (by simp [spec_l7Files.l0])
  | succ k1 =>
   have H := HA.out
   clear HA
   simp only [spec_l7Files.l0] at H
   by_cases c9 : x8_1 < (wrap64 (1 + t415))
   ·rw [if_pos c9] at H
    have c9b0 := decide_eq_true c9
    clear c9
    replace H := it0 H
    obtain ⟨c10, H⟩ := H
    have c10b0 : decide (0 ≤ x8_1) = true := decide_eq_true c10
    clear c10
    replace H := it0 H
    obtain ⟨c11, H⟩ := H
    have c11b0 := decide_eq_true c11
    clear c11
    replace H := bnd H
    obtain ⟨⟨t422, t423, t424⟩, A12, H⟩ := H
    try dsimp only at H
    have H' := Aside0.mk H
    clear H
    obtain ⟨Ao13, co13, eo13⟩ := Kd.R_slice HO_5.out
    subst eo13
    have p421 : 0 ≤ (x8_1 : Int) := of_decide_eq_true zt8
    have q421 : x8_1 < (y412.length : Int) := of_decide_eq_true zt8
    obtain ⟨ad421, e421, hx421_0⟩ := Kd.at_string (Kd.R_reads' HO_5.out).2.2 x8_1 p421 q421
    cases e421
    replace p421 := eq_true p421
    replace q421 := eq_true q421
    try simp only [ByteArray.size_append, lsz, List.length_cons, List.length_nil, Nat.reduceAdd] at *
    go_wp2_with (first | ((with_reducible refine gate_callee (f := 48) rfl ?_); refine goesL_ (some 31) rfl rfl Tryz.func48 (by kernel_rfl) rfl #[.pointer (some ⟨g, 0, none⟩), .int .i64 (wrap64 (a1 + 1))] rfl zt7 ?_; (with_reducible refine (spec_l1Below.calls g s0_0 x1001_1 x1002_1 (wrap64 (a1 + 1)) t422 t423 t424 w0 _ ?side1 ?side2 A12.out).mono ?_); (case side1 => exact zt4); (case side2 => exact zt6); rintro e w14 ⟨rfl, hi, hb, hk⟩; refine ⟨_, rfl, ?_⟩; have n0_ := Aside0.mk (Kd.R_mono (Kd.R_keep (IsS77.apart (show IsS77 w0 _ g s0_0 x1001_1 x1002_1 from zt4) (rz HO_5.out) (by decide)) hk (fun _ h => h.2)) (fun _ h => h.1)); have n1_ := Aside0.mk (Kd.R_mono (Kd.R_keep (IsS77.apart (show IsS77 w0 _ g s0_0 x1001_1 x1002_1 from zt4) (rz HO_7.out) (by decide)) hk (fun _ h => h.2)) (fun _ h => h.1)); have n2_ := Aside0.mk (KeepBut.trans zt5 hk (.inl rfl)); have n3_ := Aside0.mk (hb); have n4_ := Aside0.mk (hi); clear HO_5; clear HO_7; clear HK; clear HB; clear HI0; have HO_5 := n0_; have HO_7 := n1_; have HK := n2_; have HB := n3_; have HI0 := n4_; clear n0_ n1_ n2_ n3_ n4_; (try clear hb); (try clear hb2); (try clear hk); (try clear hi)))
    go_loopg [10, 11] k1 (fun kq v10 v11 w' => ∃ (x10_2 : ByteArray) (x11_2 : Int) (x1001_2 : Int) (x1002_2 : Int), v10 = .string x10_2 ∧ v11 = .int .i64 x11_2 ∧ Aside0 (spec_l7Files.l1 kq a1 y412 (wrap64 (1 + t415)) x7_1 x8_1 (rdOf ByteArray.empty y412 x8_1) x10_2 x11_2 s0_0 x1001_2 x1002_2 = some (r1, r2, r3)) ∧ Aside0 (kq ≤ k1) ∧ Aside0 (Kd.R Kd.string 9 w' w.heap.size (fun _ => True) (.slice (some ad421) y412.length co13) y412) ∧ Aside0 (Kd.R k33 33 w' w.heap.size (fun _ => True) u7 x7_1) ∧ Aside0 (IsS77 w0 w' g s0_0 x1001_2 x1002_2) ∧ Aside0 (KeepBut w w' g none) ∧ Aside0 (Below w0.heap.size w0 w'))
    case atStart => exact ⟨((⟨#[]⟩ : ByteArray)), (t422), (t423), (t424), zt12, zt12, H', ⟨Nat.le_refl _⟩, ⟨by (with_reducible repeat (first | apply Kd.R_alloc | apply Kd.R_drewN | apply Kd.R_drew)); exact HO_5.out⟩, ⟨by (with_reducible repeat (first | apply Kd.R_alloc | apply Kd.R_drewN | apply Kd.R_drew)); exact HO_7.out⟩, ⟨zt4⟩, ⟨zt5⟩, ⟨zt6⟩⟩
    case round =>
     clear H'
     try clear c1
     try clear c2
     try clear p2
     try clear c4
     try clear p4
     try clear q4
     try clear hx4
     try clear p6
     try clear c9
     try clear c9b0
     try clear c10
     try clear c10b0
     try clear c11
     try clear c11b0
     try clear hx421_0
     try clear p2
     try clear p421
     try clear p6
     try clear q421
     obtain ⟨x10_2, x11_2, x1001_2, x1002_2, rfl, rfl, HA, HK2, HO_5, HO_7, HI0, HK, HB⟩ := hrel
     cases gk with
     | zero => exact absurd HA.out (by simp [spec_l7Files.l1])
     | succ k2 =>
      have H := HA.out
      clear HA
      simp only [spec_l7Files.l1] at H
      by_cases c15 : x11_2 > 0
      rw [if_pos c15] at H
      have c15b0 : decide (0 < x11_2) = true := decide_eq_true c15
      clear c15
      replace H := bnd H
      obtain ⟨⟨t425, t426, t427⟩, A16, H⟩ := H
      try dsimp only at H
      replace H := it0 H
      obtain ⟨c17, H⟩ := H
      obtain ⟨c17b0, c17b1, c17b2⟩ := szf c17
      have H' := Aside0.mk H
      clear H
      rotate_left
      rw [if_neg c15] at H
      generalize hsj1 : ((⟨#[101, 120, 112, 111, 114, 116, 32, 108, 101, 116, 32, 118]⟩ : ByteArray) ++ (rdOf ByteArray.empty y412 x8_1) : ByteArray) = sj1 at H
      generalize hsj2 : (sj1 ++ (⟨#[32, 61, 32]⟩ : ByteArray) : ByteArray) = sj2 at H
      have c15b0 : decide (0 < x11_2) = false := decide_eq_false c15
      clear c15
      replace H := it0 H
      obtain ⟨c19, H⟩ := H
      obtain ⟨c19b0, c19b1, c19b2⟩ := szf c19
      replace H := it0 H
      obtain ⟨c20, H⟩ := H
      obtain ⟨c20b0, c20b1, c20b2⟩ := szf c20
      replace H := bnd H
      obtain ⟨t428, A21, H⟩ := H
      try dsimp only at H
      generalize hsj3 : (sj2 ++ t428 : ByteArray) = sj3 at H
      generalize hsj4 : (sj3 ++ (⟨#[59, 10, 101, 120, 112, 111, 114, 116, 32, 102, 117, 110, 99, 116, 105, 111, 110, 32, 102]⟩ : ByteArray) : ByteArray) = sj4 at H
      generalize hsj5 : (sj4 ++ (rdOf ByteArray.empty y412 x8_1) : ByteArray) = sj5 at H
      generalize hsj6 : (sj5 ++ (⟨#[40, 41, 32, 123, 32, 114, 101, 116, 117, 114, 110, 32, 118]⟩ : ByteArray) : ByteArray) = sj6 at H
      generalize hsj7 : (sj6 ++ (rdOf ByteArray.empty y412 x8_1) : ByteArray) = sj7 at H
      generalize hsj8 : (sj7 ++ (⟨#[32, 43, 32, 119]⟩ : ByteArray) : ByteArray) = sj8 at H
      generalize hsj9 : (sj8 ++ (rdOf ByteArray.empty y412 x8_1) : ByteArray) = sj9 at H
      generalize hsj10 : (sj9 ++ (⟨#[59, 32, 125, 10, 108, 101, 116, 32, 119]⟩ : ByteArray) : ByteArray) = sj10 at H
      generalize hsj11 : (sj10 ++ (rdOf ByteArray.empty y412 x8_1) : ByteArray) = sj11 at H
      generalize hsj12 : (sj11 ++ (⟨#[32, 61, 32]⟩ : ByteArray) : ByteArray) = sj12 at H
      replace H := it0 H
      obtain ⟨c22, H⟩ := H
      obtain ⟨c22b0, c22b1, c22b2⟩ := szf c22
      replace H := it0 H
      obtain ⟨c23, H⟩ := H
      obtain ⟨c23b0, c23b1, c23b2⟩ := szf c23
      replace H := it0 H
      obtain ⟨c24, H⟩ := H
      obtain ⟨c24b0, c24b1, c24b2⟩ := szf c24
      replace H := it0 H
      obtain ⟨c25, H⟩ := H
      obtain ⟨c25b0, c25b1, c25b2⟩ := szf c25
      replace H := it0 H
      obtain ⟨c26, H⟩ := H
      obtain ⟨c26b0, c26b1, c26b2⟩ := szf c26
      replace H := it0 H
      obtain ⟨c27, H⟩ := H
      obtain ⟨c27b0, c27b1, c27b2⟩ := szf c27
      replace H := it0 H
      obtain ⟨c28, H⟩ := H
      obtain ⟨c28b0, c28b1, c28b2⟩ := szf c28
      replace H := it0 H
      obtain ⟨c29, H⟩ := H
      obtain ⟨c29b0, c29b1, c29b2⟩ := szf c29
      replace H := it0 H
      obtain ⟨c30, H⟩ := H
      obtain ⟨c30b0, c30b1, c30b2⟩ := szf c30
      replace H := it0 H
      obtain ⟨c31, H⟩ := H
      obtain ⟨c31b0, c31b1, c31b2⟩ := szf c31
      replace H := bnd H
      obtain ⟨t429, A32, H⟩ := H
      try dsimp only at H
      generalize hsj13 : (sj12 ++ t429 : ByteArray) = sj13 at H
      generalize hsj14 : (sj13 ++ (⟨#[59, 10, 101, 120, 112, 111, 114, 116, 32, 123, 32, 119]⟩ : ByteArray) : ByteArray) = sj14 at H
      generalize hsj15 : (sj14 ++ (rdOf ByteArray.empty y412 x8_1) : ByteArray) = sj15 at H
      generalize hsj16 : (sj15 ++ (⟨#[32, 125, 59, 10, 101, 120, 112, 111, 114, 116, 32, 100, 101, 102, 97, 117, 108, 116, 32, 118]⟩ : ByteArray) : ByteArray) = sj16 at H
      generalize hsj17 : (sj16 ++ (rdOf ByteArray.empty y412 x8_1) : ByteArray) = sj17 at H
      generalize hsj18 : (sj17 ++ (⟨#[32, 42, 32, 53, 59, 10]⟩ : ByteArray) : ByteArray) = sj18 at H
      replace H := it0 H
      obtain ⟨c33, H⟩ := H
      obtain ⟨c33b0, c33b1, c33b2⟩ := szf c33
      replace H := it0 H
      obtain ⟨c34, H⟩ := H
      obtain ⟨c34b0, c34b1, c34b2⟩ := szf c34
      replace H := it0 H
      obtain ⟨c35, H⟩ := H
      obtain ⟨c35b0, c35b1, c35b2⟩ := szf c35
      replace H := it0 H
      obtain ⟨c36, H⟩ := H
      obtain ⟨c36b0, c36b1, c36b2⟩ := szf c36
      replace H := it0 H
      obtain ⟨c37, H⟩ := H
      obtain ⟨c37b0, c37b1, c37b2⟩ := szf c37
      replace H := it0 H
      obtain ⟨c38, H⟩ := H
      obtain ⟨c38b0, c38b1, c38b2⟩ := szf c38
      replace H := it0 H
      obtain ⟨c39, H⟩ := H
      obtain ⟨c39b0, c39b1, c39b2⟩ := szf c39
      replace H := bnd H
      obtain ⟨⟨t430, t431, t432⟩, A40, H⟩ := H
      try dsimp only at H
      by_cases c41 : t430 = true
      subst c41
      rw [if_pos rfl] at H
      replace H := it0 H
      obtain ⟨c42, H⟩ := H
      obtain ⟨c42b0, c42b1, c42b2⟩ := szf c42
      by_cases c43 : ((sj18 ++ x10_2).size : Int) > 1500
      rw [if_pos c43] at H
      have c43b0 : decide (1500 < ((sj18 ++ x10_2).size : Int)) = true := decide_eq_true c43
      have c43b1 : decide (1500 < (sj18 ++ x10_2).size) = true := decide_eq_true (by omega)
      have c43b2 : decide (1500 < (sj18.size : Int) + (x10_2.size : Int)) = true := decide_eq_true (by have q := c43; rw [ByteArray.size_append] at q; omega)
      have c43b3 : (1500 < (sj18.size : Int) + (x10_2.size : Int)) = True := eq_true (by have q := c43; rw [ByteArray.size_append] at q; omega)
      have c43b4 : ((sj18.size : Int) + (x10_2.size : Int) ≤ 1500) = False := eq_false (by have q := c43; rw [ByteArray.size_append] at q; omega)
      clear c43
      replace H := it0 H
      obtain ⟨c44, H⟩ := H
      obtain ⟨c44b0, c44b1, c44b2⟩ := szf c44
      replace H := it0 H
      obtain ⟨c45, H⟩ := H
      have LMc45 := Aside0.mk c45
      clear c45
      obtain ⟨y433, hy433⟩ : ∃ y_ : List (S33), y_ = (x7_1 ++ [(⟨(⟨#[47]⟩ : ByteArray) ++ (rdOf ByteArray.empty y412 x8_1), sj18⟩ : S33)]) := ⟨_, rfl⟩
      replace H : (spec_l7Files.l0 k2 a1 y412 (wrap64 (1 + t415)) y433 (wrap64 (x8_1 + 1)) s0_0 t431 t432) = some (r1, r2, r3) := by first | (rw [hy433]; with_reducible exact H) | (have H2_ := (Option.bind_some _ _).symm.trans H; rw [hy433]; with_reducible exact H2_) | (have H2_ := (Option.bind_some _ _).symm.trans H; with_reducible exact H2_) | with_reducible exact H | (rw [hy433]; exact H) | exact H
      have Ny433 := Aside0.mk hy433
      clear hy433
      have H' := Aside0.mk H
      clear H
      rotate_left
      rw [if_neg c43] at H
      have c43b0 : decide (1500 < ((sj18 ++ x10_2).size : Int)) = false := decide_eq_false c43
      have c43b1 : decide (1500 < (sj18 ++ x10_2).size) = false := decide_eq_false (by omega)
      have c43b2 : decide (1500 < (sj18.size : Int) + (x10_2.size : Int)) = false := decide_eq_false (by have q := c43; rw [ByteArray.size_append] at q; omega)
      have c43b3 : (1500 < (sj18.size : Int) + (x10_2.size : Int)) = False := eq_false (by have q := c43; rw [ByteArray.size_append] at q; omega)
      have c43b4 : ((sj18.size : Int) + (x10_2.size : Int) ≤ 1500) = True := eq_true (by have q := c43; rw [ByteArray.size_append] at q; omega)
      clear c43
      replace H := it0 H
      obtain ⟨c50, H⟩ := H
      obtain ⟨c50b0, c50b1, c50b2⟩ := szf c50
      replace H := it0 H
      obtain ⟨c51, H⟩ := H
      have LMc51 := Aside0.mk c51
      clear c51
      obtain ⟨y436, hy436⟩ : ∃ y_ : List (S33), y_ = (x7_1 ++ [(⟨(⟨#[47]⟩ : ByteArray) ++ (rdOf ByteArray.empty y412 x8_1), sj18 ++ x10_2⟩ : S33)]) := ⟨_, rfl⟩
      replace H : (spec_l7Files.l0 k2 a1 y412 (wrap64 (1 + t415)) y436 (wrap64 (x8_1 + 1)) s0_0 t431 t432) = some (r1, r2, r3) := by first | (rw [hy436]; with_reducible exact H) | (have H2_ := (Option.bind_some _ _).symm.trans H; rw [hy436]; with_reducible exact H2_) | (have H2_ := (Option.bind_some _ _).symm.trans H; with_reducible exact H2_) | with_reducible exact H | (rw [hy436]; exact H) | exact H
      have Ny436 := Aside0.mk hy436
      clear hy436
      have H' := Aside0.mk H
      clear H
      rotate_left
      replace c41 := Bool.eq_false_iff.mpr c41
      subst c41
      rw [if_neg (show ¬ (false = true) by decide)] at H
      by_cases c56 : ((x10_2 ++ sj18).size : Int) > 1500
      rw [if_pos c56] at H
      have c56b0 : decide (1500 < ((x10_2 ++ sj18).size : Int)) = true := decide_eq_true c56
      have c56b1 : decide (1500 < (x10_2 ++ sj18).size) = true := decide_eq_true (by omega)
      have c56b2 : decide (1500 < (x10_2.size : Int) + (sj18.size : Int)) = true := decide_eq_true (by have q := c56; rw [ByteArray.size_append] at q; omega)
      have c56b3 : (1500 < (x10_2.size : Int) + (sj18.size : Int)) = True := eq_true (by have q := c56; rw [ByteArray.size_append] at q; omega)
      have c56b4 : ((x10_2.size : Int) + (sj18.size : Int) ≤ 1500) = False := eq_false (by have q := c56; rw [ByteArray.size_append] at q; omega)
      clear c56
      replace H := it0 H
      obtain ⟨c57, H⟩ := H
      obtain ⟨c57b0, c57b1, c57b2⟩ := szf c57
      replace H := it0 H
      obtain ⟨c58, H⟩ := H
      have LMc58 := Aside0.mk c58
      clear c58
      obtain ⟨y439, hy439⟩ : ∃ y_ : List (S33), y_ = (x7_1 ++ [(⟨(⟨#[47]⟩ : ByteArray) ++ (rdOf ByteArray.empty y412 x8_1), sj18⟩ : S33)]) := ⟨_, rfl⟩
      replace H : (spec_l7Files.l0 k2 a1 y412 (wrap64 (1 + t415)) y439 (wrap64 (x8_1 + 1)) s0_0 t431 t432) = some (r1, r2, r3) := by first | (rw [hy439]; with_reducible exact H) | (have H2_ := (Option.bind_some _ _).symm.trans H; rw [hy439]; with_reducible exact H2_) | (have H2_ := (Option.bind_some _ _).symm.trans H; with_reducible exact H2_) | with_reducible exact H | (rw [hy439]; exact H) | exact H
      have Ny439 := Aside0.mk hy439
      clear hy439
      have H' := Aside0.mk H
      clear H
      rotate_left
      rw [if_neg c56] at H
      have c56b0 : decide (1500 < ((x10_2 ++ sj18).size : Int)) = false := decide_eq_false c56
      have c56b1 : decide (1500 < (x10_2 ++ sj18).size) = false := decide_eq_false (by omega)
      have c56b2 : decide (1500 < (x10_2.size : Int) + (sj18.size : Int)) = false := decide_eq_false (by have q := c56; rw [ByteArray.size_append] at q; omega)
      have c56b3 : (1500 < (x10_2.size : Int) + (sj18.size : Int)) = False := eq_false (by have q := c56; rw [ByteArray.size_append] at q; omega)
      have c56b4 : ((x10_2.size : Int) + (sj18.size : Int) ≤ 1500) = True := eq_true (by have q := c56; rw [ByteArray.size_append] at q; omega)
      clear c56
      replace H := it0 H
      obtain ⟨c63, H⟩ := H
      obtain ⟨c63b0, c63b1, c63b2⟩ := szf c63
      replace H := it0 H
      obtain ⟨c64, H⟩ := H
      have LMc64 := Aside0.mk c64
      clear c64
      obtain ⟨y442, hy442⟩ : ∃ y_ : List (S33), y_ = (x7_1 ++ [(⟨(⟨#[47]⟩ : ByteArray) ++ (rdOf ByteArray.empty y412 x8_1), x10_2 ++ sj18⟩ : S33)]) := ⟨_, rfl⟩
      replace H : (spec_l7Files.l0 k2 a1 y412 (wrap64 (1 + t415)) y442 (wrap64 (x8_1 + 1)) s0_0 t431 t432) = some (r1, r2, r3) := by first | (rw [hy442]; with_reducible exact H) | (have H2_ := (Option.bind_some _ _).symm.trans H; rw [hy442]; with_reducible exact H2_) | (have H2_ := (Option.bind_some _ _).symm.trans H; with_reducible exact H2_) | with_reducible exact H | (rw [hy442]; exact H) | exact H
      have Ny442 := Aside0.mk hy442
      clear hy442
      have H' := Aside0.mk H
      clear H
      rotate_left
      all_goals
       try simp only [ByteArray.size_append, lsz, List.length_cons, List.length_nil, Nat.reduceAdd] at *
       repeat (go_wp2_with (first | (have g_ := LMc51; clear g_; (with_reducible refine gate_builtin (b := .append) (xs := #[.tmp 85, .tmp 90]) rfl ?_); at_builtin; refine Kd.R_append k33 w.heap.size rfl (.tmp 85) (.tmp 90) 24 33 (.agg #[(.string ⟨#[]⟩), (.string ⟨#[]⟩)]) 32 rfl Tryz.underlying24 info33 rfl (by decide) (by omega) u7 x7_1 (⟨(⟨#[47]⟩ : ByteArray) ++ (rdOf ByteArray.empty y412 x8_1), sj18 ++ x10_2⟩ : S33) [.string ((⟨#[47]⟩ : ByteArray) ++ (rdOf ByteArray.empty y412 x8_1)), .string (sj18 ++ x10_2)] (fun _ => True) (fun _ => False) ?qA ?qB ?aP (fun _ hk => hk.elim) ?aF ?aO (Below.refl _ _) ?aS ?aL ?_; (case qA => rfl); (case qB => rfl); (case aP => exact k33_mkM _ _ _ (⟨(⟨#[47]⟩ : ByteArray) ++ (rdOf ByteArray.empty y412 x8_1), sj18 ++ x10_2⟩ : S33)); (case aF => exact (fun _ _ => trivial)); (case aO => exact (rz HO_7.out)); (case aS => exact (keep_size (w := w) (g := g) (row := none) zt5)); (case aL => have := LMc51.out; omega); intro v7003 w7004 ho hb hg hat; rw [← Ny436.out] at ho; have n0_ := Aside0.mk (Kd.R_over' (rz HO_5.out) (Kd.R_typed (rz HO_7.out)) (by decide) hg); have n1_ := Aside0.mk (IsS77.grown zt4 hg (IsS77.own_ne HI0.out HO_7.out (by decide))); have n2_ := Aside0.mk (below_weaken zt6 HL.out hb); have n3_ := Aside0.mk (KeepBut.trans zt5 (KeepBut.of_grown hg g) (Kd.R_base2 HO_7.out)); have n4_ := Aside0.mk (ho); clear HO_5; clear HI0; clear HB; clear HK; clear HO_7; have HO_5 := n0_; have HI0 := n1_; have HB := n2_; have HK := n3_; have HO7005 := n4_; clear n0_ n1_ n2_ n3_ n4_; clear ho hb hg hat) | (have g_ := LMc64; clear g_; (with_reducible refine gate_builtin (b := .append) (xs := #[.tmp 85, .tmp 90]) rfl ?_); at_builtin; refine Kd.R_append k33 w.heap.size rfl (.tmp 85) (.tmp 90) 24 33 (.agg #[(.string ⟨#[]⟩), (.string ⟨#[]⟩)]) 32 rfl Tryz.underlying24 info33 rfl (by decide) (by omega) u7 x7_1 (⟨(⟨#[47]⟩ : ByteArray) ++ (rdOf ByteArray.empty y412 x8_1), x10_2 ++ sj18⟩ : S33) [.string ((⟨#[47]⟩ : ByteArray) ++ (rdOf ByteArray.empty y412 x8_1)), .string (x10_2 ++ sj18)] (fun _ => True) (fun _ => False) ?qA ?qB ?aP (fun _ hk => hk.elim) ?aF ?aO (Below.refl _ _) ?aS ?aL ?_; (case qA => rfl); (case qB => rfl); (case aP => exact k33_mkM _ _ _ (⟨(⟨#[47]⟩ : ByteArray) ++ (rdOf ByteArray.empty y412 x8_1), x10_2 ++ sj18⟩ : S33)); (case aF => exact (fun _ _ => trivial)); (case aO => exact (rz HO_7.out)); (case aS => exact (keep_size (w := w) (g := g) (row := none) zt5)); (case aL => have := LMc64.out; omega); intro v7003 w7004 ho hb hg hat; rw [← Ny442.out] at ho; have n0_ := Aside0.mk (Kd.R_over' (rz HO_5.out) (Kd.R_typed (rz HO_7.out)) (by decide) hg); have n1_ := Aside0.mk (IsS77.grown zt4 hg (IsS77.own_ne HI0.out HO_7.out (by decide))); have n2_ := Aside0.mk (below_weaken zt6 HL.out hb); have n3_ := Aside0.mk (KeepBut.trans zt5 (KeepBut.of_grown hg g) (Kd.R_base2 HO_7.out)); have n4_ := Aside0.mk (ho); clear HO_5; clear HI0; clear HB; clear HK; clear HO_7; have HO_5 := n0_; have HI0 := n1_; have HB := n2_; have HK := n3_; have HO7005 := n4_; clear n0_ n1_ n2_ n3_ n4_; clear ho hb hg hat) | (have g_ := LMc45; clear g_; (with_reducible refine gate_builtin (b := .append) (xs := #[.tmp 85, .tmp 90]) rfl ?_); at_builtin; refine Kd.R_append k33 w.heap.size rfl (.tmp 85) (.tmp 90) 24 33 (.agg #[(.string ⟨#[]⟩), (.string ⟨#[]⟩)]) 32 rfl Tryz.underlying24 info33 rfl (by decide) (by omega) u7 x7_1 (⟨(⟨#[47]⟩ : ByteArray) ++ (rdOf ByteArray.empty y412 x8_1), sj18⟩ : S33) [.string ((⟨#[47]⟩ : ByteArray) ++ (rdOf ByteArray.empty y412 x8_1)), .string sj18] (fun _ => True) (fun _ => False) ?qA ?qB ?aP (fun _ hk => hk.elim) ?aF ?aO (Below.refl _ _) ?aS ?aL ?_; (case qA => rfl); (case qB => rfl); (case aP => exact k33_mkM _ _ _ (⟨(⟨#[47]⟩ : ByteArray) ++ (rdOf ByteArray.empty y412 x8_1), sj18⟩ : S33)); (case aF => exact (fun _ _ => trivial)); (case aO => exact (rz HO_7.out)); (case aS => exact (keep_size (w := w) (g := g) (row := none) zt5)); (case aL => have := LMc45.out; omega); intro v7003 w7004 ho hb hg hat; rw [← Ny433.out] at ho; have n0_ := Aside0.mk (Kd.R_over' (rz HO_5.out) (Kd.R_typed (rz HO_7.out)) (by decide) hg); have n1_ := Aside0.mk (IsS77.grown zt4 hg (IsS77.own_ne HI0.out HO_7.out (by decide))); have n2_ := Aside0.mk (below_weaken zt6 HL.out hb); have n3_ := Aside0.mk (KeepBut.trans zt5 (KeepBut.of_grown hg g) (Kd.R_base2 HO_7.out)); have n4_ := Aside0.mk (ho); clear HO_5; clear HI0; clear HB; clear HK; clear HO_7; have HO_5 := n0_; have HI0 := n1_; have HB := n2_; have HK := n3_; have HO7005 := n4_; clear n0_ n1_ n2_ n3_ n4_; clear ho hb hg hat) | (have g_ := LMc58; clear g_; (with_reducible refine gate_builtin (b := .append) (xs := #[.tmp 85, .tmp 90]) rfl ?_); at_builtin; refine Kd.R_append k33 w.heap.size rfl (.tmp 85) (.tmp 90) 24 33 (.agg #[(.string ⟨#[]⟩), (.string ⟨#[]⟩)]) 32 rfl Tryz.underlying24 info33 rfl (by decide) (by omega) u7 x7_1 (⟨(⟨#[47]⟩ : ByteArray) ++ (rdOf ByteArray.empty y412 x8_1), sj18⟩ : S33) [.string ((⟨#[47]⟩ : ByteArray) ++ (rdOf ByteArray.empty y412 x8_1)), .string sj18] (fun _ => True) (fun _ => False) ?qA ?qB ?aP (fun _ hk => hk.elim) ?aF ?aO (Below.refl _ _) ?aS ?aL ?_; (case qA => rfl); (case qB => rfl); (case aP => exact k33_mkM _ _ _ (⟨(⟨#[47]⟩ : ByteArray) ++ (rdOf ByteArray.empty y412 x8_1), sj18⟩ : S33)); (case aF => exact (fun _ _ => trivial)); (case aO => exact (rz HO_7.out)); (case aS => exact (keep_size (w := w) (g := g) (row := none) zt5)); (case aL => have := LMc58.out; omega); intro v7003 w7004 ho hb hg hat; rw [← Ny439.out] at ho; have n0_ := Aside0.mk (Kd.R_over' (rz HO_5.out) (Kd.R_typed (rz HO_7.out)) (by decide) hg); have n1_ := Aside0.mk (IsS77.grown zt4 hg (IsS77.own_ne HI0.out HO_7.out (by decide))); have n2_ := Aside0.mk (below_weaken zt6 HL.out hb); have n3_ := Aside0.mk (KeepBut.trans zt5 (KeepBut.of_grown hg g) (Kd.R_base2 HO_7.out)); have n4_ := Aside0.mk (ho); clear HO_5; clear HI0; clear HB; clear HK; clear HO_7; have HO_5 := n0_; have HI0 := n1_; have HB := n2_; have HK := n3_; have HO7005 := n4_; clear n0_ n1_ n2_ n3_ n4_; clear ho hb hg hat) | ((with_reducible refine gate_callee (f := 49) rfl ?_); refine goesL_ (some 40) rfl rfl Tryz.func49 (by kernel_rfl) rfl #[.pointer (some ⟨g, 0, none⟩), .int .i64 x8_1, .int .i64 (wrap64 (1 + t415))] rfl zt7 ?_; (with_reducible refine (spec_l7Line.calls k2 g s0_0 x1001_2 x1002_2 x8_1 (wrap64 (1 + t415)) t425 t426 t427 w0 _ ?side1 ?side2 A16.out).mono ?_); (case side1 => exact zt4); (case side2 => exact zt6); rintro e w7000 ⟨rfl, hi, hb, hk⟩; refine ⟨_, rfl, ?_⟩; have n0_ := Aside0.mk (Kd.R_mono (Kd.R_keep (IsS77.apart (show IsS77 w0 _ g s0_0 x1001_2 x1002_2 from zt4) (rz HO_5.out) (by decide)) hk (fun _ h => h.2)) (fun _ h => h.1)); have n1_ := Aside0.mk (Kd.R_mono (Kd.R_keep (IsS77.apart (show IsS77 w0 _ g s0_0 x1001_2 x1002_2 from zt4) (rz HO_7.out) (by decide)) hk (fun _ h => h.2)) (fun _ h => h.1)); have n2_ := Aside0.mk (KeepBut.trans zt5 hk (.inl rfl)); have n3_ := Aside0.mk (hb); have n4_ := Aside0.mk (hi); clear HO_5; clear HO_7; clear HK; clear HB; clear HI0; have HO_5 := n0_; have HO_7 := n1_; have HK := n2_; have HB := n3_; have HI0 := n4_; clear n0_ n1_ n2_ n3_ n4_; (try clear hb); (try clear hb2); (try clear hk); (try clear hi)) | ((with_reducible refine gate_callee (f := 30) rfl ?_); refine goesL_ (some 77) rfl rfl Tryz.func30 (by kernel_rfl) rfl #[.pointer (some ⟨g, 0, none⟩), .int .i64 2] rfl zt7 ?_; (with_reducible refine (spec_l1Once.calls g s0_0 x1001_2 x1002_2 2 false t431 t432 w0 _ ?side1 ?side2 A40.out).mono ?_); (case side1 => exact zt4); (case side2 => exact zt6); rintro e w7002 ⟨rfl, hi, hb, hk⟩; refine ⟨_, rfl, ?_⟩; have n0_ := Aside0.mk (Kd.R_mono (Kd.R_keep (IsS77.apart (show IsS77 w0 _ g s0_0 x1001_2 x1002_2 from zt4) (rz HO_5.out) (by decide)) hk (fun _ h => h.2)) (fun _ h => h.1)); have n1_ := Aside0.mk (Kd.R_mono (Kd.R_keep (IsS77.apart (show IsS77 w0 _ g s0_0 x1001_2 x1002_2 from zt4) (rz HO_7.out) (by decide)) hk (fun _ h => h.2)) (fun _ h => h.1)); have n2_ := Aside0.mk (KeepBut.trans zt5 hk (.inl rfl)); have n3_ := Aside0.mk (hb); have n4_ := Aside0.mk (hi); clear HO_5; clear HO_7; clear HK; clear HB; clear HI0; have HO_5 := n0_; have HO_7 := n1_; have HK := n2_; have HB := n3_; have HI0 := n4_; clear n0_ n1_ n2_ n3_ n4_; (try clear hb); (try clear hb2); (try clear hk); (try clear hi)) | ((with_reducible refine gate_callee (f := 30) rfl ?_); refine goesL_ (some 77) rfl rfl Tryz.func30 (by kernel_rfl) rfl #[.pointer (some ⟨g, 0, none⟩), .int .i64 2] rfl zt7 ?_; (with_reducible refine (spec_l1Once.calls g s0_0 x1001_2 x1002_2 2 true t431 t432 w0 _ ?side1 ?side2 A40.out).mono ?_); (case side1 => exact zt4); (case side2 => exact zt6); rintro e w7002 ⟨rfl, hi, hb, hk⟩; refine ⟨_, rfl, ?_⟩; have n0_ := Aside0.mk (Kd.R_mono (Kd.R_keep (IsS77.apart (show IsS77 w0 _ g s0_0 x1001_2 x1002_2 from zt4) (rz HO_5.out) (by decide)) hk (fun _ h => h.2)) (fun _ h => h.1)); have n1_ := Aside0.mk (Kd.R_mono (Kd.R_keep (IsS77.apart (show IsS77 w0 _ g s0_0 x1001_2 x1002_2 from zt4) (rz HO_7.out) (by decide)) hk (fun _ h => h.2)) (fun _ h => h.1)); have n2_ := Aside0.mk (KeepBut.trans zt5 hk (.inl rfl)); have n3_ := Aside0.mk (hb); have n4_ := Aside0.mk (hi); clear HO_5; clear HO_7; clear HK; clear HB; clear HI0; have HO_5 := n0_; have HO_7 := n1_; have HK := n2_; have HB := n3_; have HI0 := n4_; clear n0_ n1_ n2_ n3_ n4_; (try clear hb); (try clear hb2); (try clear hk); (try clear hi)) | ((with_reducible refine gate_callee (f := 50) rfl ?_); refine goesL_ (some 64) rfl rfl Tryz.func50 (by kernel_rfl) rfl #[.int .i64 (wrap64 (10 * x8_1))] rfl zt7 ?_; (with_reducible refine (spec_Dec.calls k2 (wrap64 (10 * x8_1)) t429 _ A32.out).mono ?_); rintro e w7001 ⟨rfl, hb⟩; refine ⟨_, rfl, ?_⟩; have n0_ := Aside0.mk (Kd.R_below (rz HO_5.out) hb); have n1_ := Aside0.mk (Kd.R_below (rz HO_7.out) hb); have n2_ := Aside0.mk (IsS77.below zt4 hb); have n3_ := Aside0.mk (KeepBut.trans zt5 (KeepBut.of_below hb g none) (.inl rfl)); have n4_ := Aside0.mk (below_step zt6 hb); clear HO_5; clear HO_7; clear HI0; clear HK; clear HB; have HO_5 := n0_; have HO_7 := n1_; have HI0 := n2_; have HK := n3_; have HB := n4_; clear n0_ n1_ n2_ n3_ n4_; (try clear hb); (try clear hb2); (try clear hk); (try clear hi)) | ((with_reducible refine gate_callee (f := 50) rfl ?_); refine goesL_ (some 47) rfl rfl Tryz.func50 (by kernel_rfl) rfl #[.int .i64 (wrap64 (x8_1 + 1))] rfl zt7 ?_; (with_reducible refine (spec_Dec.calls k2 (wrap64 (x8_1 + 1)) t428 _ A21.out).mono ?_); rintro e w7000 ⟨rfl, hb⟩; refine ⟨_, rfl, ?_⟩; have n0_ := Aside0.mk (Kd.R_below (rz HO_5.out) hb); have n1_ := Aside0.mk (Kd.R_below (rz HO_7.out) hb); have n2_ := Aside0.mk (IsS77.below zt4 hb); have n3_ := Aside0.mk (KeepBut.trans zt5 (KeepBut.of_below hb g none) (.inl rfl)); have n4_ := Aside0.mk (below_step zt6 hb); clear HO_5; clear HO_7; clear HI0; clear HK; clear HB; have HO_5 := n0_; have HO_7 := n1_; have HI0 := n2_; have HK := n3_; have HB := n4_; clear n0_ n1_ n2_ n3_ n4_; (try clear hb); (try clear hb2); (try clear hk); (try clear hi))); first | go_quiet (fail) | (go_roundg k2; (case measure => have := HK1.out; have := HK2.out; omega); (case rel => exact ⟨(x10_2 ++ t425), (wrap64 (x11_2 - 1)), (t426), (t427), zt12, zt12, H', ⟨by have := HK1.out; have := HK2.out; omega⟩, ⟨zt17⟩, ⟨by (with_reducible repeat (first | apply Kd.R_alloc | apply Kd.R_drewN | apply Kd.R_drew)); (first | exact HO_7.out | exact Kd.R_mono HO_7.out (fun k_ h_ => by first | exact h_ | (simpa [Value.ownBlock] using h_) | (have e_ : ∀ (A : Option Addr) (n m c : Nat), (Value.slice A n c).ownBlock = (Value.slice A m c).ownBlock := (fun A n m c => by cases A <;> rfl); rw [e_ _ _ 0 _] at h_ ⊢; exact h_)))⟩, ⟨zt4⟩, ⟨zt5⟩, ⟨zt6⟩⟩)) | (go_roundg k2; (case measure => have := HK1.out; have := HK2.out; omega); (case rel => exact ⟨(y433), (wrap64 (x8_1 + 1)), (t431), (t432), zt12, H', ⟨by have := HK1.out; have := HK2.out; omega⟩, ⟨zt17⟩, ⟨zt24⟩, ⟨zt4⟩, ⟨zt5⟩, ⟨zt6⟩⟩)) | (go_roundg k2; (case measure => have := HK1.out; have := HK2.out; omega); (case rel => exact ⟨(y436), (wrap64 (x8_1 + 1)), (t431), (t432), zt12, H', ⟨by have := HK1.out; have := HK2.out; omega⟩, ⟨zt17⟩, ⟨zt24⟩, ⟨zt4⟩, ⟨zt5⟩, ⟨zt6⟩⟩)) | (go_roundg k2; (case measure => have := HK1.out; have := HK2.out; omega); (case rel => exact ⟨(y439), (wrap64 (x8_1 + 1)), (t431), (t432), zt12, H', ⟨by have := HK1.out; have := HK2.out; omega⟩, ⟨zt17⟩, ⟨zt24⟩, ⟨zt4⟩, ⟨zt5⟩, ⟨zt6⟩⟩)) | (go_roundg k2; (case measure => have := HK1.out; have := HK2.out; omega); (case rel => exact ⟨(y442), (wrap64 (x8_1 + 1)), (t431), (t432), zt12, H', ⟨by have := HK1.out; have := HK2.out; omega⟩, ⟨zt17⟩, ⟨zt24⟩, ⟨zt4⟩, ⟨zt5⟩, ⟨zt6⟩⟩)))
   ·rw [if_neg c9] at H
    have c9b0 := decide_eq_false c9
    clear c9
    simp only [Option.some.injEq, Prod.mk.injEq] at H
    obtain ⟨rfl, rfl, rfl⟩ := H
    try simp only [ByteArray.size_append, lsz, List.length_cons, List.length_nil, Nat.reduceAdd] at *
    go_wp2
    go_ret
    exact ⟨_, zt10, by (with_reducible repeat (first | apply Kd.R_alloc | apply Kd.R_drewN | apply Kd.R_drew)); exact HO_7.out, zt4, zt6, zt5⟩

end Go.Proofs.YtkmcnjpgamaljaaGreatDoor.PFnFiles

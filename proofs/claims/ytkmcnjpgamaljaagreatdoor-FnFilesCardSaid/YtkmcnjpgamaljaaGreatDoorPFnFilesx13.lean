-- Out of the kit's print, with contracts of mine among it (myprint.py).
import Derived.Test.YtkmcnjpgamaljaaGreatDoorPFnFilesx0
import Derived.Test.YtkmcnjpgamaljaaGreatDoorPFnFilesx2
import Derived.Test.YtkmcnjpgamaljaaGreatDoorPFnFilesx12
namespace Go.Proofs.YtkmcnjpgamaljaaGreatDoor.PFnFiles
open Go.RowKit Go.Proofs.YtkmcnjpgamaljaaGreatDoorW.PrintWords Go.Proofs.YtkmcnjpgamaljaaGreatDoorW.PrintLast Go.Proofs.YtkmcnjpgamaljaaGreatDoorW.PrintMore
attribute [local go_sem] max2_int min2_int max_two min_two max_three min_three max_four min_four   -- for this text's walks alone
set_option linter.unusedVariables false
set_option linter.unusedSimpArgs false

/-! ### spec_l4Line: function 65 -/
mutual
def spec_l4Line.j0 : Nat → Bool → ByteArray → ByteArray → ByteArray → Int → Bool → List Int → Int → Int → Option (ByteArray × Int × Int)
 | 0, _, _, _, _, _, _, _, _, _ => none
 | k + 1, x1, x5, x6, x7, x8, x24, x1000, x1001, x1002 => if x24 = true then (spec_l4Line.j1 k x1 x5 x6 x7 (wrap64 (x8 - 8)) x1000 x1001 x1002) else (spec_l4Line.j1 k x1 x5 x6 x7 x8 x1000 x1001 x1002)
def spec_l4Line.j1 : Nat → Bool → ByteArray → ByteArray → ByteArray → Int → List Int → Int → Int → Option (ByteArray × Int × Int)
 | 0, _, _, _, _, _, _, _, _ => none
 | k + 1, x1, x5, x6, x7, x8, x1000, x1001, x1002 => if x8 = 0 then (spec_l4Line.j2 k x1 x5 x6 x7 x8 (x8 == 0) x1000 x1001 x1002) else (if x8 = 1 then (spec_l4Line.j2 k x1 x5 x6 x7 x8 (x8 == 1) x1000 x1001 x1002) else (spec_l4Line.j2 k x1 x5 x6 x7 x8 (x8 == 2) x1000 x1001 x1002))
def spec_l4Line.j2 : Nat → Bool → ByteArray → ByteArray → ByteArray → Int → Bool → List Int → Int → Int → Option (ByteArray × Int × Int)
 | 0, _, _, _, _, _, _, _, _, _ => none
 | k + 1, x1, x5, x6, x7, x27, x28, x1000, x1001, x1002 => if x28 = true then (if 4 + x5.size ≤ 9223372036854775807 then (if ((⟨#[108, 101, 116, 32]⟩ : ByteArray) ++ x5).size + 3 ≤ 9223372036854775807 then (if (((⟨#[108, 101, 116, 32]⟩ : ByteArray) ++ x5) ++ (⟨#[32, 61, 32]⟩ : ByteArray)).size + x6.size ≤ 9223372036854775807 then (if ((((⟨#[108, 101, 116, 32]⟩ : ByteArray) ++ x5) ++ (⟨#[32, 61, 32]⟩ : ByteArray)) ++ x6).size + 1 ≤ 9223372036854775807 then (some (((((⟨#[108, 101, 116, 32]⟩ : ByteArray) ++ x5) ++ (⟨#[32, 61, 32]⟩ : ByteArray)) ++ x6) ++ (⟨#[59]⟩ : ByteArray), x1001, x1002)) else (none)) else (none)) else (none)) else (none)) else (if x27 = 3 then ((spec_l1Pick.f x1000 x1001 x1002 (([(⟨#[102]⟩ : ByteArray), (⟨#[103]⟩ : ByteArray)] : List ByteArray))).bind fun bt344 => (if 9 + bt344.1.size ≤ 9223372036854775807 then (if ((⟨#[102, 117, 110, 99, 116, 105, 111, 110, 32]⟩ : ByteArray) ++ bt344.1).size + 12 ≤ 9223372036854775807 then (if (((⟨#[102, 117, 110, 99, 116, 105, 111, 110, 32]⟩ : ByteArray) ++ bt344.1) ++ (⟨#[40, 41, 32, 123, 32, 114, 101, 116, 117, 114, 110, 32]⟩ : ByteArray)).size + x6.size ≤ 9223372036854775807 then (if ((((⟨#[102, 117, 110, 99, 116, 105, 111, 110, 32]⟩ : ByteArray) ++ bt344.1) ++ (⟨#[40, 41, 32, 123, 32, 114, 101, 116, 117, 114, 110, 32]⟩ : ByteArray)) ++ x6).size + 3 ≤ 9223372036854775807 then (some (((((⟨#[102, 117, 110, 99, 116, 105, 111, 110, 32]⟩ : ByteArray) ++ bt344.1) ++ (⟨#[40, 41, 32, 123, 32, 114, 101, 116, 117, 114, 110, 32]⟩ : ByteArray)) ++ x6) ++ (⟨#[59, 32, 125]⟩ : ByteArray), bt344.2.1, bt344.2.2)) else (none)) else (none)) else (none)) else (none))) else (if x27 = 4 then (if x5.size + 3 ≤ 9223372036854775807 then (if (x5 ++ (⟨#[32, 61, 32]⟩ : ByteArray)).size + x6.size ≤ 9223372036854775807 then (if ((x5 ++ (⟨#[32, 61, 32]⟩ : ByteArray)) ++ x6).size + 1 ≤ 9223372036854775807 then (some (((x5 ++ (⟨#[32, 61, 32]⟩ : ByteArray)) ++ x6) ++ (⟨#[59]⟩ : ByteArray), x1001, x1002)) else (none)) else (none)) else (none)) else (if x27 = 5 then (spec_l4Line.j3 k x1 x5 x6 x7 x27 (x27 == 5) x1000 x1001 x1002) else (spec_l4Line.j3 k x1 x5 x6 x7 x27 (x27 == 6) x1000 x1001 x1002))))
def spec_l4Line.j3 : Nat → Bool → ByteArray → ByteArray → ByteArray → Int → Bool → List Int → Int → Int → Option (ByteArray × Int × Int)
 | 0, _, _, _, _, _, _, _, _, _ => none
 | k + 1, x1, x5, x6, x7, x27, x55, x1000, x1001, x1002 => if x55 = true then (if 6 + x6.size ≤ 9223372036854775807 then (if ((⟨#[112, 114, 105, 110, 116, 40]⟩ : ByteArray) ++ x6).size + 2 ≤ 9223372036854775807 then (some (((⟨#[112, 114, 105, 110, 116, 40]⟩ : ByteArray) ++ x6) ++ (⟨#[41, 59]⟩ : ByteArray), x1001, x1002)) else (none)) else (none)) else (if x27 = 7 then (if x1 = true then ((spec_l1Once.f x1000 x1001 x1002 2).bind fun bt347 => (if bt347.1 = true then (if 5 + x6.size ≤ 9223372036854775807 then (if ((⟨#[102, 97, 105, 108, 32]⟩ : ByteArray) ++ x6).size + 1 ≤ 9223372036854775807 then (some (((⟨#[102, 97, 105, 108, 32]⟩ : ByteArray) ++ x6) ++ (⟨#[59]⟩ : ByteArray), bt347.2.1, bt347.2.2)) else (none)) else (none)) else (if 6 + x6.size ≤ 9223372036854775807 then (if ((⟨#[116, 104, 114, 111, 119, 32]⟩ : ByteArray) ++ x6).size + 1 ≤ 9223372036854775807 then (some (((⟨#[116, 104, 114, 111, 119, 32]⟩ : ByteArray) ++ x6) ++ (⟨#[59]⟩ : ByteArray), bt347.2.1, bt347.2.2)) else (none)) else (none)))) else (if 6 + x6.size ≤ 9223372036854775807 then (if ((⟨#[116, 104, 114, 111, 119, 32]⟩ : ByteArray) ++ x6).size + 1 ≤ 9223372036854775807 then (some (((⟨#[116, 104, 114, 111, 119, 32]⟩ : ByteArray) ++ x6) ++ (⟨#[59]⟩ : ByteArray), x1001, x1002)) else (none)) else (none))) else (if x27 = 8 then (if 9 + x5.size ≤ 9223372036854775807 then ((spec_l1Pick.f x1000 x1001 x1002 (([(⟨#[]⟩ : ByteArray), (⟨#[32, 97, 115, 32, 120]⟩ : ByteArray), (⟨#[32, 97, 115, 32, 98, 44, 32, 103]⟩ : ByteArray)] : List ByteArray))).bind fun bt353 => (if ((⟨#[105, 109, 112, 111, 114, 116, 32, 123, 32]⟩ : ByteArray) ++ x5).size + bt353.1.size ≤ 9223372036854775807 then (if (((⟨#[105, 109, 112, 111, 114, 116, 32, 123, 32]⟩ : ByteArray) ++ x5) ++ bt353.1).size + 9 ≤ 9223372036854775807 then (if ((((⟨#[105, 109, 112, 111, 114, 116, 32, 123, 32]⟩ : ByteArray) ++ x5) ++ bt353.1) ++ (⟨#[32, 125, 32, 102, 114, 111, 109, 32, 34]⟩ : ByteArray)).size + x7.size ≤ 9223372036854775807 then (if (((((⟨#[105, 109, 112, 111, 114, 116, 32, 123, 32]⟩ : ByteArray) ++ x5) ++ bt353.1) ++ (⟨#[32, 125, 32, 102, 114, 111, 109, 32, 34]⟩ : ByteArray)) ++ x7).size + 2 ≤ 9223372036854775807 then (some ((((((⟨#[105, 109, 112, 111, 114, 116, 32, 123, 32]⟩ : ByteArray) ++ x5) ++ bt353.1) ++ (⟨#[32, 125, 32, 102, 114, 111, 109, 32, 34]⟩ : ByteArray)) ++ x7) ++ (⟨#[34, 59]⟩ : ByteArray), bt353.2.1, bt353.2.2)) else (none)) else (none)) else (none)) else (none))) else (none)) else (if x27 = 9 then (if 20 + x7.size ≤ 9223372036854775807 then (if ((⟨#[105, 109, 112, 111, 114, 116, 32, 42, 32, 97, 115, 32, 110, 32, 102, 114, 111, 109, 32, 34]⟩ : ByteArray) ++ x7).size + 2 ≤ 9223372036854775807 then (some (((⟨#[105, 109, 112, 111, 114, 116, 32, 42, 32, 97, 115, 32, 110, 32, 102, 114, 111, 109, 32, 34]⟩ : ByteArray) ++ x7) ++ (⟨#[34, 59]⟩ : ByteArray), x1001, x1002)) else (none)) else (none)) else (if x27 = 10 then (if 15 + x7.size ≤ 9223372036854775807 then (if ((⟨#[105, 109, 112, 111, 114, 116, 32, 100, 32, 102, 114, 111, 109, 32, 34]⟩ : ByteArray) ++ x7).size + 2 ≤ 9223372036854775807 then (some (((⟨#[105, 109, 112, 111, 114, 116, 32, 100, 32, 102, 114, 111, 109, 32, 34]⟩ : ByteArray) ++ x7) ++ (⟨#[34, 59]⟩ : ByteArray), x1001, x1002)) else (none)) else (none)) else (if x27 = 11 then (if 9 + x5.size ≤ 9223372036854775807 then ((spec_l1Pick.f x1000 x1001 x1002 (([(⟨#[]⟩ : ByteArray), (⟨#[32, 97, 115, 32, 121]⟩ : ByteArray), (⟨#[32, 97, 115, 32, 100, 101, 102, 97, 117, 108, 116]⟩ : ByteArray)] : List ByteArray))).bind fun bt359 => (if ((⟨#[101, 120, 112, 111, 114, 116, 32, 123, 32]⟩ : ByteArray) ++ x5).size + bt359.1.size ≤ 9223372036854775807 then (if (((⟨#[101, 120, 112, 111, 114, 116, 32, 123, 32]⟩ : ByteArray) ++ x5) ++ bt359.1).size + 3 ≤ 9223372036854775807 then (some ((((⟨#[101, 120, 112, 111, 114, 116, 32, 123, 32]⟩ : ByteArray) ++ x5) ++ bt359.1) ++ (⟨#[32, 125, 59]⟩ : ByteArray), bt359.2.1, bt359.2.2)) else (none)) else (none))) else (none)) else (if x27 = 12 then (if 9 + x5.size ≤ 9223372036854775807 then ((spec_l1Pick.f x1000 x1001 x1002 (([(⟨#[]⟩ : ByteArray), (⟨#[32, 97, 115, 32, 121]⟩ : ByteArray), (⟨#[44, 32, 100, 101, 102, 97, 117, 108, 116]⟩ : ByteArray)] : List ByteArray))).bind fun bt365 => (if ((⟨#[101, 120, 112, 111, 114, 116, 32, 123, 32]⟩ : ByteArray) ++ x5).size + bt365.1.size ≤ 9223372036854775807 then (if (((⟨#[101, 120, 112, 111, 114, 116, 32, 123, 32]⟩ : ByteArray) ++ x5) ++ bt365.1).size + 9 ≤ 9223372036854775807 then (if ((((⟨#[101, 120, 112, 111, 114, 116, 32, 123, 32]⟩ : ByteArray) ++ x5) ++ bt365.1) ++ (⟨#[32, 125, 32, 102, 114, 111, 109, 32, 34]⟩ : ByteArray)).size + x7.size ≤ 9223372036854775807 then (if (((((⟨#[101, 120, 112, 111, 114, 116, 32, 123, 32]⟩ : ByteArray) ++ x5) ++ bt365.1) ++ (⟨#[32, 125, 32, 102, 114, 111, 109, 32, 34]⟩ : ByteArray)) ++ x7).size + 2 ≤ 9223372036854775807 then (some ((((((⟨#[101, 120, 112, 111, 114, 116, 32, 123, 32]⟩ : ByteArray) ++ x5) ++ bt365.1) ++ (⟨#[32, 125, 32, 102, 114, 111, 109, 32, 34]⟩ : ByteArray)) ++ x7) ++ (⟨#[34, 59]⟩ : ByteArray), bt365.2.1, bt365.2.2)) else (none)) else (none)) else (none)) else (none))) else (none)) else (if x27 = 13 then (if 15 + x7.size ≤ 9223372036854775807 then (if ((⟨#[101, 120, 112, 111, 114, 116, 32, 42, 32, 102, 114, 111, 109, 32, 34]⟩ : ByteArray) ++ x7).size + 2 ≤ 9223372036854775807 then (some (((⟨#[101, 120, 112, 111, 114, 116, 32, 42, 32, 102, 114, 111, 109, 32, 34]⟩ : ByteArray) ++ x7) ++ (⟨#[34, 59]⟩ : ByteArray), x1001, x1002)) else (none)) else (none)) else (if x27 = 14 then (if 15 + x6.size ≤ 9223372036854775807 then (if ((⟨#[101, 120, 112, 111, 114, 116, 32, 100, 101, 102, 97, 117, 108, 116, 32]⟩ : ByteArray) ++ x6).size + 1 ≤ 9223372036854775807 then (some (((⟨#[101, 120, 112, 111, 114, 116, 32, 100, 101, 102, 97, 117, 108, 116, 32]⟩ : ByteArray) ++ x6) ++ (⟨#[59]⟩ : ByteArray), x1001, x1002)) else (none)) else (none)) else (if 4 + x5.size ≤ 9223372036854775807 then (if ((⟨#[108, 101, 116, 32]⟩ : ByteArray) ++ x5).size + 3 ≤ 9223372036854775807 then (if (((⟨#[108, 101, 116, 32]⟩ : ByteArray) ++ x5) ++ (⟨#[32, 61, 32]⟩ : ByteArray)).size + x6.size ≤ 9223372036854775807 then (if ((((⟨#[108, 101, 116, 32]⟩ : ByteArray) ++ x5) ++ (⟨#[32, 61, 32]⟩ : ByteArray)) ++ x6).size + 1 ≤ 9223372036854775807 then (if 22 + x6.size ≤ 9223372036854775807 then (if ((⟨#[102, 117, 110, 99, 116, 105, 111, 110, 32, 102, 40, 41, 32, 123, 32, 114, 101, 116, 117, 114, 110, 32]⟩ : ByteArray) ++ x6).size + 3 ≤ 9223372036854775807 then ((spec_l1Pick.f x1000 x1001 x1002 (([((((⟨#[108, 101, 116, 32]⟩ : ByteArray) ++ x5) ++ (⟨#[32, 61, 32]⟩ : ByteArray)) ++ x6) ++ (⟨#[59]⟩ : ByteArray), ((⟨#[102, 117, 110, 99, 116, 105, 111, 110, 32, 102, 40, 41, 32, 123, 32, 114, 101, 116, 117, 114, 110, 32]⟩ : ByteArray) ++ x6) ++ (⟨#[59, 32, 125]⟩ : ByteArray), (⟨#[108, 101, 116, 32, 122, 32, 61, 32, 49, 59]⟩ : ByteArray)] : List ByteArray))).bind fun bt371 => (if 7 + bt371.1.size ≤ 9223372036854775807 then (some ((⟨#[101, 120, 112, 111, 114, 116, 32]⟩ : ByteArray) ++ bt371.1, bt371.2.1, bt371.2.2)) else (none))) else (none)) else (none)) else (none)) else (none)) else (none)) else (none))))))))))
end
def spec_l4Line.f (k : Nat) (s0_0 : List Int) (s0_1 : Int) (s0_2 : Int) (a1 : Bool) : Option (ByteArray × Int × Int) := (spec_l1Pick.f s0_0 s0_1 s0_2 (([(⟨#[97]⟩ : ByteArray), (⟨#[98]⟩ : ByteArray), (⟨#[120]⟩ : ByteArray), (⟨#[102]⟩ : ByteArray), (⟨#[103]⟩ : ByteArray)] : List ByteArray))).bind fun bt326 => ((spec_l4Expr.f k s0_0 bt326.2.1 bt326.2.2 2 a1).bind fun bt329 => ((spec_l1Pick.f s0_0 bt329.2.1 bt329.2.2 (([(⟨#[46, 47, 98]⟩ : ByteArray), (⟨#[46, 47, 99]⟩ : ByteArray), (⟨#[46, 47, 97]⟩ : ByteArray), (⟨#[120]⟩ : ByteArray), (⟨#[46, 47, 100]⟩ : ByteArray)] : List ByteArray))).bind fun bt335 => ((spec_l1Below.f s0_0 bt335.2.1 bt335.2.2 16).bind fun bt338 => (if a1 = true then (spec_l4Line.j0 k a1 bt326.1 bt329.1 bt335.1 bt338.1 (decide (bt338.1 > 7)) s0_0 bt338.2.1 bt338.2.2) else (spec_l4Line.j0 k a1 bt326.1 bt329.1 bt335.1 bt338.1 false s0_0 bt338.2.1 bt338.2.2)))))
theorem spec_l4Line.mono_l : ∀ k, (∀ y0 y1 y2 y3 y4 y5 y6 y7 y8, LeO (spec_l4Line.j0 k y0 y1 y2 y3 y4 y5 y6 y7 y8) (spec_l4Line.j0 (k + 1) y0 y1 y2 y3 y4 y5 y6 y7 y8)) ∧ (∀ y0 y1 y2 y3 y4 y5 y6 y7, LeO (spec_l4Line.j1 k y0 y1 y2 y3 y4 y5 y6 y7) (spec_l4Line.j1 (k + 1) y0 y1 y2 y3 y4 y5 y6 y7)) ∧ (∀ y0 y1 y2 y3 y4 y5 y6 y7 y8, LeO (spec_l4Line.j2 k y0 y1 y2 y3 y4 y5 y6 y7 y8) (spec_l4Line.j2 (k + 1) y0 y1 y2 y3 y4 y5 y6 y7 y8)) ∧ (∀ y0 y1 y2 y3 y4 y5 y6 y7 y8, LeO (spec_l4Line.j3 k y0 y1 y2 y3 y4 y5 y6 y7 y8) (spec_l4Line.j3 (k + 1) y0 y1 y2 y3 y4 y5 y6 y7 y8))
 | 0 => ⟨fun _ _ _ _ _ _ _ _ _ r h => by simp [spec_l4Line.j0] at h, fun _ _ _ _ _ _ _ _ r h => by simp [spec_l4Line.j1] at h, fun _ _ _ _ _ _ _ _ _ r h => by simp [spec_l4Line.j2] at h, fun _ _ _ _ _ _ _ _ _ r h => by simp [spec_l4Line.j3] at h⟩
 | k + 1 => by
  obtain ⟨ih0, ih1, ih2, ih3⟩ := spec_l4Line.mono_l k
  refine ⟨?_, ?_, ?_, ?_⟩
  ·intro y0 y1 y2 y3 y4 y5 y6 y7 y8
   unfold spec_l4Line.j0
   repeat' (first | (with_reducible first | exact ih0 _ _ _ _ _ _ _ _ _ | exact ih1 _ _ _ _ _ _ _ _ | exact ih2 _ _ _ _ _ _ _ _ _ | exact ih3 _ _ _ _ _ _ _ _ _ | exact spec_l4Expr.mono _ _ _ _ _ _ | exact LeO.refl _ | exact LeO.none _ | refine LeO.ite ?_ ?_ | refine LeO.bind ?_ (fun _ => ?_)) | exact LeO.none _ | refine LeO.ite ?_ ?_ | refine LeO.bind ?_ (fun _ => ?_))
  ·intro y0 y1 y2 y3 y4 y5 y6 y7
   unfold spec_l4Line.j1
   repeat' (first | (with_reducible first | exact ih0 _ _ _ _ _ _ _ _ _ | exact ih1 _ _ _ _ _ _ _ _ | exact ih2 _ _ _ _ _ _ _ _ _ | exact ih3 _ _ _ _ _ _ _ _ _ | exact spec_l4Expr.mono _ _ _ _ _ _ | exact LeO.refl _ | exact LeO.none _ | refine LeO.ite ?_ ?_ | refine LeO.bind ?_ (fun _ => ?_)) | exact LeO.none _ | refine LeO.ite ?_ ?_ | refine LeO.bind ?_ (fun _ => ?_))
  ·intro y0 y1 y2 y3 y4 y5 y6 y7 y8
   unfold spec_l4Line.j2
   repeat' (first | (with_reducible first | exact ih0 _ _ _ _ _ _ _ _ _ | exact ih1 _ _ _ _ _ _ _ _ | exact ih2 _ _ _ _ _ _ _ _ _ | exact ih3 _ _ _ _ _ _ _ _ _ | exact spec_l4Expr.mono _ _ _ _ _ _ | exact LeO.refl _ | exact LeO.none _ | refine LeO.ite ?_ ?_ | refine LeO.bind ?_ (fun _ => ?_)) | exact LeO.none _ | refine LeO.ite ?_ ?_ | refine LeO.bind ?_ (fun _ => ?_))
  ·intro y0 y1 y2 y3 y4 y5 y6 y7 y8
   unfold spec_l4Line.j3
   repeat' (first | (with_reducible first | exact ih0 _ _ _ _ _ _ _ _ _ | exact ih1 _ _ _ _ _ _ _ _ | exact ih2 _ _ _ _ _ _ _ _ _ | exact ih3 _ _ _ _ _ _ _ _ _ | exact spec_l4Expr.mono _ _ _ _ _ _ | exact LeO.refl _ | exact LeO.none _ | refine LeO.ite ?_ ?_ | refine LeO.bind ?_ (fun _ => ?_)) | exact LeO.none _ | refine LeO.ite ?_ ?_ | refine LeO.bind ?_ (fun _ => ?_))
theorem spec_l4Line.mono : ∀ a0 a1 a2 a3 k, LeO (spec_l4Line.f k a0 a1 a2 a3) (spec_l4Line.f (k + 1) a0 a1 a2 a3) := by
 intro a0 a1 a2 a3 k
 obtain ⟨ih0, ih1, ih2, ih3⟩ := spec_l4Line.mono_l k
 unfold spec_l4Line.f
 repeat' (first | (with_reducible first | exact ih0 _ _ _ _ _ _ _ _ _ | exact ih1 _ _ _ _ _ _ _ _ | exact ih2 _ _ _ _ _ _ _ _ _ | exact ih3 _ _ _ _ _ _ _ _ _ | exact spec_l4Expr.mono _ _ _ _ _ _ | exact LeO.refl _ | exact LeO.none _ | refine LeO.ite ?_ ?_ | refine LeO.bind ?_ (fun _ => ?_)) | exact LeO.none _ | refine LeO.ite ?_ ?_ | refine LeO.bind ?_ (fun _ => ?_))
set_option maxHeartbeats 8000000 in
set_option maxRecDepth 100000 in
theorem spec_l4Line.calls (k : Nat) (g : Nat) (s0_0 : List Int) (s0_1 : Int) (s0_2 : Int) (a1 : Bool) (r1 : ByteArray) (r2 : Int) (r3 : Int) (w0 w : World) (hI : IsS77 w0 w g s0_0 s0_1 s0_2) (hB : Below w0.heap.size w0 w) (h : spec_l4Line.f k s0_0 s0_1 s0_2 a1 = some (r1, r2, r3)) :
  Calls Tryz.prog 65 #[.pointer (some ⟨g, 0, none⟩), .bool a1] w fun e w' => e = .returned (.string r1) ∧ IsS77 w0 w' g s0_0 r2 r3 ∧ Below w0.heap.size w0 w' ∧ KeepBut w w' g none := by
 have HI0 := Aside0.mk hI
 have HK := Aside0.mk (KeepBut.refl w g none)
 have HL := Aside0.mk hB.size
 clear hI
 have HW0 := Aside0.mk hB.size
 have HB := Aside0.mk hB
 clear hB
 try unfold spec_l4Line.f at h
 have H := h
 clear h
 obtain ⟨y323, hy323⟩ : ∃ y_ : List ByteArray, y_ = (([(⟨#[97]⟩ : ByteArray), (⟨#[98]⟩ : ByteArray), (⟨#[120]⟩ : ByteArray), (⟨#[102]⟩ : ByteArray), (⟨#[103]⟩ : ByteArray)] : List ByteArray)) := ⟨_, rfl⟩
 rw [← hy323] at H
 have Ny323 := Aside0.mk hy323
 clear hy323
 replace H := bnd H
 obtain ⟨⟨t326, t327, t328⟩, A3, H⟩ := H
 try dsimp only at H
 replace H := bnd H
 obtain ⟨⟨t329, t330, t331⟩, A4, H⟩ := H
 try dsimp only at H
 obtain ⟨y332, hy332⟩ : ∃ y_ : List ByteArray, y_ = (([(⟨#[46, 47, 98]⟩ : ByteArray), (⟨#[46, 47, 99]⟩ : ByteArray), (⟨#[46, 47, 97]⟩ : ByteArray), (⟨#[120]⟩ : ByteArray), (⟨#[46, 47, 100]⟩ : ByteArray)] : List ByteArray)) := ⟨_, rfl⟩
 rw [← hy332] at H
 have Ny332 := Aside0.mk hy332
 clear hy332
 replace H := bnd H
 obtain ⟨⟨t335, t336, t337⟩, A5, H⟩ := H
 try dsimp only at H
 replace H := bnd H
 obtain ⟨⟨t338, t339, t340⟩, A6, H⟩ := H
 try dsimp only at H
 have HC7 := Aside0.mk H
 clear H
 try simp only [ByteArray.size_append, lsz, List.length_cons, List.length_nil, Nat.reduceAdd] at *
 go_enter Tryz.func65, Tryz.ntmps65
 go_upto_region 5 with (first | ((with_reducible refine gate_dst (N := 10) rfl ?_); refine Kd.R_lit Kd.string _ 9 ?hg (N := 10) ?hd (xs := ([(⟨#[97]⟩ : ByteArray), (⟨#[98]⟩ : ByteArray), (⟨#[120]⟩ : ByteArray), (⟨#[102]⟩ : ByteArray), (⟨#[103]⟩ : ByteArray)] : List ByteArray)) (inner := [.string (⟨#[97]⟩ : ByteArray), .string (⟨#[98]⟩ : ByteArray), .string (⟨#[120]⟩ : ByteArray), .string (⟨#[102]⟩ : ByteArray), .string (⟨#[103]⟩ : ByteArray)]) (ok := fun _ => True) (okp := fun _ => True) ?hr ?hp (fun _ hk => hk) trivial (Below.refl _ _) (Nat.le_refl _) (by simp) ?_; (case hd => rfl); (case hg => rfl); (case hr => first | (go_simp; done) | (go_simp; rfl)); (case hp => exact (Reps.one (show Kd.M Kd.string _ _ _ (⟨#[97]⟩ : ByteArray) [.string (⟨#[97]⟩ : ByteArray)] from rfl) (Reps.one (show Kd.M Kd.string _ _ _ (⟨#[98]⟩ : ByteArray) [.string (⟨#[98]⟩ : ByteArray)] from rfl) (Reps.one (show Kd.M Kd.string _ _ _ (⟨#[120]⟩ : ByteArray) [.string (⟨#[120]⟩ : ByteArray)] from rfl) (Reps.one (show Kd.M Kd.string _ _ _ (⟨#[102]⟩ : ByteArray) [.string (⟨#[102]⟩ : ByteArray)] from rfl) (Reps.one (show Kd.M Kd.string _ _ _ (⟨#[103]⟩ : ByteArray) [.string (⟨#[103]⟩ : ByteArray)] from rfl) (Reps.none _ _))))))); intro v324 w8 ho9 hb hg_ hnew_; clear hg_ hnew_; (first | rw [← Ny323.out] at ho9 | (simp only [Int.reduceToNat] at ho9; rw [← Ny323.out] at ho9)); have n0_ := Aside0.mk (Kd.R_lower ho9 (keep_size (w := w) (g := g) (row := none) zt5)); have n1_ := Aside0.mk (IsS77.below zt4 hb); have n2_ := Aside0.mk (KeepBut.trans zt5 (KeepBut.of_below hb g none) (.inl rfl)); have n3_ := Aside0.mk (below_step zt6 hb); clear HI0; clear HK; clear HB; have HO325 := n0_; have HI0 := n1_; have HK := n2_; have HB := n3_; clear n0_ n1_ n2_ n3_; clear hb ho9; obtain ⟨Ao10, co10, eo10⟩ := Kd.R_slice HO325.out; subst eo10) | ((with_reducible refine gate_callee (f := 53) rfl ?_); refine goesL_ (some 11) rfl rfl Tryz.func53 (by kernel_rfl) rfl #[.pointer (some ⟨g, 0, none⟩), .slice Ao10 y323.length co10] rfl zt7 ?_; (with_reducible refine (spec_l1Pick.calls g s0_0 s0_1 s0_2 _ _ y323 t326 t327 t328 w0 _ ?side1 ?side2 ?side3 ?side4 ?side5 A3.out).mono ?_); (case side1 => exact zt4); (case side2 => exact zt6); (case side3 => exact cz (Kd.R_reads' HO325.out).2.2); (case side4 => exact (Kd.R_reads' HO325.out).2.1); (case side5 => exact far_slice (IsS77.own_ne HI0.out HO325.out (by decide))); rintro e w11 ⟨rfl, hi, hb, hk⟩; refine ⟨_, rfl, ?_⟩; have n0_ := Aside0.mk (Kd.R_mono (Kd.R_keep (IsS77.apart (show IsS77 w0 _ g s0_0 s0_1 s0_2 from zt4) (rz HO325.out) (by decide)) hk (fun _ h => h.2)) (fun _ h => h.1)); have n1_ := Aside0.mk (KeepBut.trans zt5 hk (.inl rfl)); have n2_ := Aside0.mk (hb); have n3_ := Aside0.mk (hi); clear HO325; clear HK; clear HB; clear HI0; have HO325 := n0_; have HK := n1_; have HB := n2_; have HI0 := n3_; clear n0_ n1_ n2_ n3_; (try clear hb); (try clear hb2); (try clear hk); (try clear hi)) | ((with_reducible refine gate_callee (f := 73) rfl ?_); refine goesL_ (some 14) rfl rfl Tryz.func73 (by kernel_rfl) rfl #[.pointer (some ⟨g, 0, none⟩), .int .i64 2, .bool a1] rfl zt7 ?_; (with_reducible refine (spec_l4Expr.calls k g s0_0 t327 t328 2 a1 t329 t330 t331 w0 _ ?side1 ?side2 A4.out).mono ?_); (case side1 => exact zt4); (case side2 => exact zt6); rintro e w12 ⟨rfl, hi, hb, hk⟩; refine ⟨_, rfl, ?_⟩; have n0_ := Aside0.mk (Kd.R_mono (Kd.R_keep (IsS77.apart (show IsS77 w0 _ g s0_0 t327 t328 from zt4) (rz HO325.out) (by decide)) hk (fun _ h => h.2)) (fun _ h => h.1)); have n1_ := Aside0.mk (KeepBut.trans zt5 hk (.inl rfl)); have n2_ := Aside0.mk (hb); have n3_ := Aside0.mk (hi); clear HO325; clear HK; clear HB; clear HI0; have HO325 := n0_; have HK := n1_; have HB := n2_; have HI0 := n3_; clear n0_ n1_ n2_ n3_; (try clear hb); (try clear hb2); (try clear hk); (try clear hi)) | ((with_reducible refine gate_dst (N := 16) rfl ?_); refine Kd.R_lit Kd.string _ 9 ?hg (N := 16) ?hd (xs := ([(⟨#[46, 47, 98]⟩ : ByteArray), (⟨#[46, 47, 99]⟩ : ByteArray), (⟨#[46, 47, 97]⟩ : ByteArray), (⟨#[120]⟩ : ByteArray), (⟨#[46, 47, 100]⟩ : ByteArray)] : List ByteArray)) (inner := [.string (⟨#[46, 47, 98]⟩ : ByteArray), .string (⟨#[46, 47, 99]⟩ : ByteArray), .string (⟨#[46, 47, 97]⟩ : ByteArray), .string (⟨#[120]⟩ : ByteArray), .string (⟨#[46, 47, 100]⟩ : ByteArray)]) (ok := fun _ => True) (okp := fun _ => True) ?hr ?hp (fun _ hk => hk) trivial (Below.refl _ _) (Nat.le_refl _) (by simp) ?_; (case hd => rfl); (case hg => rfl); (case hr => first | (go_simp; done) | (go_simp; rfl)); (case hp => exact (Reps.one (show Kd.M Kd.string _ _ _ (⟨#[46, 47, 98]⟩ : ByteArray) [.string (⟨#[46, 47, 98]⟩ : ByteArray)] from rfl) (Reps.one (show Kd.M Kd.string _ _ _ (⟨#[46, 47, 99]⟩ : ByteArray) [.string (⟨#[46, 47, 99]⟩ : ByteArray)] from rfl) (Reps.one (show Kd.M Kd.string _ _ _ (⟨#[46, 47, 97]⟩ : ByteArray) [.string (⟨#[46, 47, 97]⟩ : ByteArray)] from rfl) (Reps.one (show Kd.M Kd.string _ _ _ (⟨#[120]⟩ : ByteArray) [.string (⟨#[120]⟩ : ByteArray)] from rfl) (Reps.one (show Kd.M Kd.string _ _ _ (⟨#[46, 47, 100]⟩ : ByteArray) [.string (⟨#[46, 47, 100]⟩ : ByteArray)] from rfl) (Reps.none _ _))))))); intro v333 w13 ho14 hb hg_ hnew_; clear hg_ hnew_; (first | rw [← Ny332.out] at ho14 | (simp only [Int.reduceToNat] at ho14; rw [← Ny332.out] at ho14)); have n0_ := Aside0.mk (Kd.R_elder' (rz HO325.out) (Kd.R_base ho14) hb); have n1_ := Aside0.mk (Kd.R_lower (Kd.R_new' ho14 (Kd.R_lt (rz HO325.out))) (keep_size (w := w) (g := g) (row := none) zt5)); have n2_ := Aside0.mk (IsS77.below zt4 hb); have n3_ := Aside0.mk (KeepBut.trans zt5 (KeepBut.of_below hb g none) (.inl rfl)); have n4_ := Aside0.mk (below_step zt6 hb); clear HO325; clear HI0; clear HK; clear HB; have HO325 := n0_; have HO334 := n1_; have HI0 := n2_; have HK := n3_; have HB := n4_; clear n0_ n1_ n2_ n3_ n4_; clear hb ho14; obtain ⟨Ao15, co15, eo15⟩ := Kd.R_slice HO334.out; subst eo15) | ((with_reducible refine gate_callee (f := 53) rfl ?_); refine goesL_ (some 17) rfl rfl Tryz.func53 (by kernel_rfl) rfl #[.pointer (some ⟨g, 0, none⟩), .slice Ao15 y332.length co15] rfl zt7 ?_; (with_reducible refine (spec_l1Pick.calls g s0_0 t330 t331 _ _ y332 t335 t336 t337 w0 _ ?side1 ?side2 ?side3 ?side4 ?side5 A5.out).mono ?_); (case side1 => exact zt4); (case side2 => exact zt6); (case side3 => exact cz (Kd.R_reads' HO334.out).2.2); (case side4 => exact (Kd.R_reads' HO334.out).2.1); (case side5 => exact far_slice (IsS77.own_ne HI0.out HO334.out (by decide))); rintro e w16 ⟨rfl, hi, hb, hk⟩; refine ⟨_, rfl, ?_⟩; have n0_ := Aside0.mk (Kd.R_mono (Kd.R_keep (IsS77.apart (show IsS77 w0 _ g s0_0 t330 t331 from zt4) (rz HO325.out) (by decide)) hk (fun _ h => h.2)) (fun _ h => h.1)); have n1_ := Aside0.mk (Kd.R_mono (Kd.R_keep (IsS77.apart (show IsS77 w0 _ g s0_0 t330 t331 from zt4) (rz HO334.out) (by decide)) hk (fun _ h => h.2)) (fun _ h => h.1)); have n2_ := Aside0.mk (KeepBut.trans zt5 hk (.inl rfl)); have n3_ := Aside0.mk (hb); have n4_ := Aside0.mk (hi); clear HO325; clear HO334; clear HK; clear HB; clear HI0; have HO325 := n0_; have HO334 := n1_; have HK := n2_; have HB := n3_; have HI0 := n4_; clear n0_ n1_ n2_ n3_ n4_; (try clear hb); (try clear hb2); (try clear hk); (try clear hi)) | ((with_reducible refine gate_callee (f := 48) rfl ?_); refine goesL_ (some 19) rfl rfl Tryz.func48 (by kernel_rfl) rfl #[.pointer (some ⟨g, 0, none⟩), .int .i64 16] rfl zt7 ?_; (with_reducible refine (spec_l1Below.calls g s0_0 t336 t337 16 t338 t339 t340 w0 _ ?side1 ?side2 A6.out).mono ?_); (case side1 => exact zt4); (case side2 => exact zt6); rintro e w17 ⟨rfl, hi, hb, hk⟩; refine ⟨_, rfl, ?_⟩; have n0_ := Aside0.mk (Kd.R_mono (Kd.R_keep (IsS77.apart (show IsS77 w0 _ g s0_0 t336 t337 from zt4) (rz HO325.out) (by decide)) hk (fun _ h => h.2)) (fun _ h => h.1)); have n1_ := Aside0.mk (Kd.R_mono (Kd.R_keep (IsS77.apart (show IsS77 w0 _ g s0_0 t336 t337 from zt4) (rz HO334.out) (by decide)) hk (fun _ h => h.2)) (fun _ h => h.1)); have n2_ := Aside0.mk (KeepBut.trans zt5 hk (.inl rfl)); have n3_ := Aside0.mk (hb); have n4_ := Aside0.mk (hi); clear HO325; clear HO334; clear HK; clear HB; clear HI0; have HO325 := n0_; have HO334 := n1_; have HK := n2_; have HB := n3_; have HI0 := n4_; clear n0_ n1_ n2_ n3_ n4_; (try clear hb); (try clear hb2); (try clear hk); (try clear hi)))
 (try simp only [Act.put, List.setIfInBounds_toArray, List.set_cons_zero, List.set_cons_succ])
 go_cut [24] (fun v24 wc => ∃ (kq : Nat) (x24_6 : Bool), v24 = .bool x24_6 ∧ Aside0 (spec_l4Line.j0 kq a1 t326 t329 t335 t338 x24_6 s0_0 t339 t340 = some (r1, r2, r3)) ∧ Aside0 (kq ≤ k) ∧ Aside0 (IsS77 w0 wc g s0_0 t339 t340) ∧ Aside0 (KeepBut w wc g none) ∧ Aside0 (Below w0.heap.size w0 wc))
 case first =>
  have H := HC7.out
  clear HC7
  by_cases c18 : a1 = true
  subst c18
  rw [if_pos rfl] at H
  have H' := Aside0.mk H
  clear H
  rotate_left
  replace c18 := Bool.eq_false_iff.mpr c18
  subst c18
  rw [if_neg (show ¬ (false = true) by decide)] at H
  have H' := Aside0.mk H
  clear H
  rotate_left
  all_goals
   try simp only [ByteArray.size_append, lsz, List.length_cons, List.length_nil, Nat.reduceAdd] at *
   repeat (go_wp2; first | go_quiet (fail) | (go_meet; (case rel => exact ⟨_, (decide (t338 > 7)), zt12, H', ⟨by first | omega | exact Nat.le_refl _⟩, ⟨zt4⟩, ⟨zt5⟩, ⟨zt6⟩⟩)) | (go_meet; (case rel => exact ⟨_, (false), zt12, H', ⟨by first | omega | exact Nat.le_refl _⟩, ⟨zt4⟩, ⟨zt5⟩, ⟨zt6⟩⟩)))
 case rest =>
  clear HC7
  try clear c1
  try clear p2
  try clear c4
  try clear c5
  try clear c6
  try clear c7
  try clear c18
  obtain ⟨kq, x24_6, rfl, HA, HJ6, HI0, HK, HB⟩ := hcut
  cases kq with
  | zero => exact absurd HA.out (by simp [spec_l4Line.j0])
  | succ kj6 =>
   have H := HA.out
   clear HA
   simp only [spec_l4Line.j0] at H
   have HC19 := Aside0.mk H
   clear H
   go_upto_if 24 with (fail)
   go_cut [8] (fun v8 wc => ∃ (kq : Nat) (x8_18 : Int), v8 = .int .i64 x8_18 ∧ Aside0 (spec_l4Line.j1 kq a1 t326 t329 t335 x8_18 s0_0 t339 t340 = some (r1, r2, r3)) ∧ Aside0 (kq ≤ kj6) ∧ Aside0 (IsS77 w0 wc g s0_0 t339 t340) ∧ Aside0 (KeepBut w wc g none) ∧ Aside0 (Below w0.heap.size w0 wc))
   case first =>
    have H := HC19.out
    clear HC19
    by_cases c20 : x24_6 = true
    subst c20
    rw [if_pos rfl] at H
    have H' := Aside0.mk H
    clear H
    rotate_left
    replace c20 := Bool.eq_false_iff.mpr c20
    subst c20
    rw [if_neg (show ¬ (false = true) by decide)] at H
    have H' := Aside0.mk H
    clear H
    rotate_left
    all_goals
     try simp only [ByteArray.size_append, lsz, List.length_cons, List.length_nil, Nat.reduceAdd] at *
     repeat (go_wp2; first | go_quiet (fail) | (go_meet; (case rel => exact ⟨_, (wrap64 (t338 - 8)), zt12, H', ⟨zt39⟩, ⟨zt4⟩, ⟨zt5⟩, ⟨zt6⟩⟩)) | (go_meet; (case rel => exact ⟨_, (t338), zt12, H', ⟨zt39⟩, ⟨zt4⟩, ⟨zt5⟩, ⟨zt6⟩⟩)))
   case rest =>
    clear HC19
    try clear c1
    try clear c2
    try clear p2
    try clear c4
    try clear c5
    try clear c6
    try clear p6
    try clear c7
    try clear c18
    try clear c20
    try clear p2
    obtain ⟨kq, x8_18, rfl, HA, HJ18, HI0, HK, HB⟩ := hcut
    cases kq with
    | zero => exact absurd HA.out (by simp [spec_l4Line.j1])
    | succ kj18 =>
     have H := HA.out
     clear HA
     simp only [spec_l4Line.j1] at H
     have HC21 := Aside0.mk H
     clear H
     go_upto_if 28 with (fail)
     go_cut [28] (fun v28 wc => ∃ (kq : Nat) (x28_20 : Bool), v28 = .bool x28_20 ∧ Aside0 (spec_l4Line.j2 kq a1 t326 t329 t335 x8_18 x28_20 s0_0 t339 t340 = some (r1, r2, r3)) ∧ Aside0 (kq ≤ kj18) ∧ Aside0 (IsS77 w0 wc g s0_0 t339 t340) ∧ Aside0 (KeepBut w wc g none) ∧ Aside0 (Below w0.heap.size w0 wc))
     case first =>
      have H := HC21.out
      clear HC21
      by_cases c22 : x8_18 = 0
      rw [if_pos c22] at H
      have c22b0 : (x8_18 == 0) = true := beq_iff_eq.mpr c22
      have c22b1 : (x8_18 != 0) = false := bne_eq_false_iff_eq.mpr c22
      clear c22
      (first | rw [c22b0] | (simp only [i64_w, i32_w]; rw [c22b0]) | skip)
      have H' := Aside0.mk H
      clear H
      rotate_left
      rw [if_neg c22] at H
      have c22b0 : (x8_18 == 0) = false := beq_eq_false_iff_ne.mpr c22
      have c22b1 : (x8_18 != 0) = true := bne_iff_ne.mpr c22
      (first | rw [c22b0] | (simp only [i64_w, i32_w]; rw [c22b0]) | skip)
      by_cases c23 : x8_18 = 1
      rw [if_pos c23] at H
      have c23b0 : (x8_18 == 1) = true := beq_iff_eq.mpr c23
      have c23b1 : (x8_18 != 1) = false := bne_eq_false_iff_eq.mpr c23
      clear c23
      have H' := Aside0.mk H
      clear H
      rotate_left
      rw [if_neg c23] at H
      have c23b0 : (x8_18 == 1) = false := beq_eq_false_iff_ne.mpr c23
      have c23b1 : (x8_18 != 1) = true := bne_iff_ne.mpr c23
      have H' := Aside0.mk H
      clear H
      rotate_left
      all_goals
       try simp only [ByteArray.size_append, lsz, List.length_cons, List.length_nil, Nat.reduceAdd] at *
       repeat (go_wp2; first | go_quiet (fail) | (go_meet; (case rel => exact ⟨_, ((x8_18 == 0)), zt12, H', ⟨by have := HJ6.out; have := HJ18.out; first | omega | exact Nat.le_refl _⟩, ⟨zt4⟩, ⟨zt5⟩, ⟨zt6⟩⟩)) | (go_meet; (case rel => exact ⟨_, ((x8_18 == 1)), zt12, H', ⟨by have := HJ6.out; have := HJ18.out; first | omega | exact Nat.le_refl _⟩, ⟨zt4⟩, ⟨zt5⟩, ⟨zt6⟩⟩)) | (go_meet; (case rel => exact ⟨_, ((x8_18 == 2)), zt12, H', ⟨by have := HJ6.out; have := HJ18.out; first | omega | exact Nat.le_refl _⟩, ⟨zt4⟩, ⟨zt5⟩, ⟨zt6⟩⟩)))
     case rest =>
      clear HC21
      try clear c1
      try clear c2
      try clear p2
      try clear c4
      try clear c5
      try clear c6
      try clear p6
      try clear c7
      try clear c18
      try clear c20
      try clear c22
      try clear c22b0
      try clear c22b1
      try clear c23
      try clear c23b0
      try clear c23b1
      try clear p2
      try clear p6
      obtain ⟨kq, x28_20, rfl, HA, HJ20, HI0, HK, HB⟩ := hcut
      cases kq with
      | zero => exact absurd HA.out (by simp [spec_l4Line.j2])
      | succ kj20 =>
       have H := HA.out
       clear HA
       simp only [spec_l4Line.j2] at H
       by_cases c24 : x28_20 = true
       subst c24
       rw [if_pos rfl] at H
       replace H := it0 H
       obtain ⟨c25, H⟩ := H
       obtain ⟨c25b0, c25b1, c25b2⟩ := szf c25
       replace H := it0 H
       obtain ⟨c26, H⟩ := H
       obtain ⟨c26b0, c26b1, c26b2⟩ := szf c26
       replace H := it0 H
       obtain ⟨c27, H⟩ := H
       obtain ⟨c27b0, c27b1, c27b2⟩ := szf c27
       replace H := it0 H
       obtain ⟨c28, H⟩ := H
       obtain ⟨c28b0, c28b1, c28b2⟩ := szf c28
       simp only [Option.some.injEq, Prod.mk.injEq] at H
       obtain ⟨rfl, rfl, rfl⟩ := H
       rotate_left
       replace c24 := Bool.eq_false_iff.mpr c24
       subst c24
       rw [if_neg (show ¬ (false = true) by decide)] at H
       by_cases c29 : x8_18 = 3
       rw [if_pos c29] at H
       have c29b0 : (x8_18 == 3) = true := beq_iff_eq.mpr c29
       have c29b1 : (x8_18 != 3) = false := bne_eq_false_iff_eq.mpr c29
       clear c29
       obtain ⟨y341, hy341⟩ : ∃ y_ : List ByteArray, y_ = (([(⟨#[102]⟩ : ByteArray), (⟨#[103]⟩ : ByteArray)] : List ByteArray)) := ⟨_, rfl⟩
       rw [← hy341] at H
       have Ny341 := Aside0.mk hy341
       clear hy341
       replace H := bnd H
       obtain ⟨⟨t344, t345, t346⟩, A30, H⟩ := H
       try dsimp only at H
       replace H := it0 H
       obtain ⟨c31, H⟩ := H
       obtain ⟨c31b0, c31b1, c31b2⟩ := szf c31
       replace H := it0 H
       obtain ⟨c32, H⟩ := H
       obtain ⟨c32b0, c32b1, c32b2⟩ := szf c32
       replace H := it0 H
       obtain ⟨c33, H⟩ := H
       obtain ⟨c33b0, c33b1, c33b2⟩ := szf c33
       replace H := it0 H
       obtain ⟨c34, H⟩ := H
       obtain ⟨c34b0, c34b1, c34b2⟩ := szf c34
       simp only [Option.some.injEq, Prod.mk.injEq] at H
       obtain ⟨rfl, rfl, rfl⟩ := H
       rotate_left
       rw [if_neg c29] at H
       have c29b0 : (x8_18 == 3) = false := beq_eq_false_iff_ne.mpr c29
       have c29b1 : (x8_18 != 3) = true := bne_iff_ne.mpr c29
       by_cases c39 : x8_18 = 4
       rw [if_pos c39] at H
       have c39b0 : (x8_18 == 4) = true := beq_iff_eq.mpr c39
       have c39b1 : (x8_18 != 4) = false := bne_eq_false_iff_eq.mpr c39
       clear c39
       replace H := it0 H
       obtain ⟨c40, H⟩ := H
       obtain ⟨c40b0, c40b1, c40b2⟩ := szf c40
       replace H := it0 H
       obtain ⟨c41, H⟩ := H
       obtain ⟨c41b0, c41b1, c41b2⟩ := szf c41
       replace H := it0 H
       obtain ⟨c42, H⟩ := H
       obtain ⟨c42b0, c42b1, c42b2⟩ := szf c42
       simp only [Option.some.injEq, Prod.mk.injEq] at H
       obtain ⟨rfl, rfl, rfl⟩ := H
       rotate_left
       ·rw [if_neg c39] at H
        have c39b0 : (x8_18 == 4) = false := beq_eq_false_iff_ne.mpr c39
        have c39b1 : (x8_18 != 4) = true := bne_iff_ne.mpr c39
        have HC43 := Aside0.mk H
        clear H
        go_upto_if 55 with (fail)
        go_cut [55] (fun v55 wc => ∃ (kq : Nat) (x55_42 : Bool), v55 = .bool x55_42 ∧ Aside0 (spec_l4Line.j3 kq a1 t326 t329 t335 x8_18 x55_42 s0_0 t339 t340 = some (r1, r2, r3)) ∧ Aside0 (kq ≤ kj20) ∧ Aside0 (IsS77 w0 wc g s0_0 t339 t340) ∧ Aside0 (KeepBut w wc g none) ∧ Aside0 (Below w0.heap.size w0 wc))
        case first =>
         have H := HC43.out
         clear HC43
         by_cases c44 : x8_18 = 5
         rw [if_pos c44] at H
         have c44b0 : (x8_18 == 5) = true := beq_iff_eq.mpr c44
         have c44b1 : (x8_18 != 5) = false := bne_eq_false_iff_eq.mpr c44
         clear c44
         (first | rw [c44b0] | (simp only [i64_w, i32_w]; rw [c44b0]) | skip)
         have H' := Aside0.mk H
         clear H
         rotate_left
         rw [if_neg c44] at H
         have c44b0 : (x8_18 == 5) = false := beq_eq_false_iff_ne.mpr c44
         have c44b1 : (x8_18 != 5) = true := bne_iff_ne.mpr c44
         (first | rw [c44b0] | (simp only [i64_w, i32_w]; rw [c44b0]) | skip)
         have H' := Aside0.mk H
         clear H
         rotate_left
         all_goals
          try simp only [ByteArray.size_append, lsz, List.length_cons, List.length_nil, Nat.reduceAdd] at *
          repeat (go_wp2; first | go_quiet (fail) | (go_meet; (case rel => exact ⟨_, ((x8_18 == 5)), zt12, H', ⟨by have := HJ6.out; have := HJ18.out; have := HJ20.out; first | omega | exact Nat.le_refl _⟩, ⟨zt4⟩, ⟨zt5⟩, ⟨zt6⟩⟩)) | (go_meet; (case rel => exact ⟨_, ((x8_18 == 6)), zt12, H', ⟨by have := HJ6.out; have := HJ18.out; have := HJ20.out; first | omega | exact Nat.le_refl _⟩, ⟨zt4⟩, ⟨zt5⟩, ⟨zt6⟩⟩)))
        case rest =>
         clear HC43
         try clear c1
         try clear c2
         try clear p2
         try clear c3
         try clear c4
         try clear c5
         try clear c6
         try clear p6
         try clear c7
         try clear c18
         try clear c20
         try clear c22
         try clear c22b0
         try clear c22b1
         try clear c23
         try clear c23b0
         try clear c23b1
         try clear c24
         try clear c25
         try clear c25b0
         try clear c25b1
         try clear c25b2
         try clear c26
         try clear c26b0
         try clear c26b1
         try clear c26b2
         try clear c27
         try clear c27b0
         try clear c27b1
         try clear c27b2
         try clear c28
         try clear c28b0
         try clear c28b1
         try clear c28b2
         try clear c29
         try clear c29b0
         try clear c29b1
         try clear c31
         try clear c31b0
         try clear c31b1
         try clear c31b2
         try clear c32
         try clear c32b0
         try clear c32b1
         try clear c32b2
         try clear c33
         try clear c33b0
         try clear c33b1
         try clear c33b2
         try clear c34
         try clear c34b0
         try clear c34b1
         try clear c34b2
         try clear c39
         try clear c39b0
         try clear c39b1
         try clear c40
         try clear c40b0
         try clear c40b1
         try clear c40b2
         try clear c41
         try clear c41b0
         try clear c41b1
         try clear c41b2
         try clear c42
         try clear c42b0
         try clear c42b1
         try clear c42b2
         try clear c44
         try clear c44b0
         try clear c44b1
         try clear p2
         try clear p6
         obtain ⟨kq, x55_42, rfl, HA, HJ42, HI0, HK, HB⟩ := hcut
         cases kq with
         | zero => exact absurd HA.out (by simp [spec_l4Line.j3])
         | succ kj42 =>
          have H := HA.out
          clear HA
          simp only [spec_l4Line.j3] at H
          by_cases c45 : x55_42 = true
          subst c45
          rw [if_pos rfl] at H
          replace H := it0 H
          obtain ⟨c46, H⟩ := H
          obtain ⟨c46b0, c46b1, c46b2⟩ := szf c46
          replace H := it0 H
          obtain ⟨c47, H⟩ := H
          obtain ⟨c47b0, c47b1, c47b2⟩ := szf c47
          simp only [Option.some.injEq, Prod.mk.injEq] at H
          obtain ⟨rfl, rfl, rfl⟩ := H
          rotate_left
          replace c45 := Bool.eq_false_iff.mpr c45
          subst c45
          rw [if_neg (show ¬ (false = true) by decide)] at H
          by_cases c48 : x8_18 = 7
          rw [if_pos c48] at H
          have c48b0 : (x8_18 == 7) = true := beq_iff_eq.mpr c48
          have c48b1 : (x8_18 != 7) = false := bne_eq_false_iff_eq.mpr c48
          clear c48
          by_cases c49 : a1 = true
          subst c49
          rw [if_pos rfl] at H
          replace H := bnd H
          obtain ⟨⟨t347, t348, t349⟩, A50, H⟩ := H
          try dsimp only at H
          by_cases c51 : t347 = true
          subst c51
          rw [if_pos rfl] at H
          replace H := it0 H
          obtain ⟨c52, H⟩ := H
          obtain ⟨c52b0, c52b1, c52b2⟩ := szf c52
          replace H := it0 H
          obtain ⟨c53, H⟩ := H
          obtain ⟨c53b0, c53b1, c53b2⟩ := szf c53
          simp only [Option.some.injEq, Prod.mk.injEq] at H
          obtain ⟨rfl, rfl, rfl⟩ := H
          rotate_left
          replace c51 := Bool.eq_false_iff.mpr c51
          subst c51
          rw [if_neg (show ¬ (false = true) by decide)] at H
          replace H := it0 H
          obtain ⟨c55, H⟩ := H
          obtain ⟨c55b0, c55b1, c55b2⟩ := szf c55
          replace H := it0 H
          obtain ⟨c56, H⟩ := H
          obtain ⟨c56b0, c56b1, c56b2⟩ := szf c56
          simp only [Option.some.injEq, Prod.mk.injEq] at H
          obtain ⟨rfl, rfl, rfl⟩ := H
          rotate_left
          replace c49 := Bool.eq_false_iff.mpr c49
          subst c49
          rw [if_neg (show ¬ (false = true) by decide)] at H
          replace H := it0 H
          obtain ⟨c58, H⟩ := H
          obtain ⟨c58b0, c58b1, c58b2⟩ := szf c58
          replace H := it0 H
          obtain ⟨c59, H⟩ := H
          obtain ⟨c59b0, c59b1, c59b2⟩ := szf c59
          simp only [Option.some.injEq, Prod.mk.injEq] at H
          obtain ⟨rfl, rfl, rfl⟩ := H
          rotate_left
          rw [if_neg c48] at H
          have c48b0 : (x8_18 == 7) = false := beq_eq_false_iff_ne.mpr c48
          have c48b1 : (x8_18 != 7) = true := bne_iff_ne.mpr c48
          by_cases c60 : x8_18 = 8
          rw [if_pos c60] at H
          have c60b0 : (x8_18 == 8) = true := beq_iff_eq.mpr c60
          have c60b1 : (x8_18 != 8) = false := bne_eq_false_iff_eq.mpr c60
          clear c60
          replace H := it0 H
          obtain ⟨c61, H⟩ := H
          obtain ⟨c61b0, c61b1, c61b2⟩ := szf c61
          obtain ⟨y350, hy350⟩ : ∃ y_ : List ByteArray, y_ = (([(⟨#[]⟩ : ByteArray), (⟨#[32, 97, 115, 32, 120]⟩ : ByteArray), (⟨#[32, 97, 115, 32, 98, 44, 32, 103]⟩ : ByteArray)] : List ByteArray)) := ⟨_, rfl⟩
          rw [← hy350] at H
          have Ny350 := Aside0.mk hy350
          clear hy350
          replace H := bnd H
          obtain ⟨⟨t353, t354, t355⟩, A62, H⟩ := H
          try dsimp only at H
          replace H := it0 H
          obtain ⟨c63, H⟩ := H
          obtain ⟨c63b0, c63b1, c63b2⟩ := szf c63
          replace H := it0 H
          obtain ⟨c64, H⟩ := H
          obtain ⟨c64b0, c64b1, c64b2⟩ := szf c64
          replace H := it0 H
          obtain ⟨c65, H⟩ := H
          obtain ⟨c65b0, c65b1, c65b2⟩ := szf c65
          replace H := it0 H
          obtain ⟨c66, H⟩ := H
          obtain ⟨c66b0, c66b1, c66b2⟩ := szf c66
          simp only [Option.some.injEq, Prod.mk.injEq] at H
          obtain ⟨rfl, rfl, rfl⟩ := H
          rotate_left
          rw [if_neg c60] at H
          have c60b0 : (x8_18 == 8) = false := beq_eq_false_iff_ne.mpr c60
          have c60b1 : (x8_18 != 8) = true := bne_iff_ne.mpr c60
          by_cases c71 : x8_18 = 9
          rw [if_pos c71] at H
          have c71b0 : (x8_18 == 9) = true := beq_iff_eq.mpr c71
          have c71b1 : (x8_18 != 9) = false := bne_eq_false_iff_eq.mpr c71
          clear c71
          replace H := it0 H
          obtain ⟨c72, H⟩ := H
          obtain ⟨c72b0, c72b1, c72b2⟩ := szf c72
          replace H := it0 H
          obtain ⟨c73, H⟩ := H
          obtain ⟨c73b0, c73b1, c73b2⟩ := szf c73
          simp only [Option.some.injEq, Prod.mk.injEq] at H
          obtain ⟨rfl, rfl, rfl⟩ := H
          rotate_left
          rw [if_neg c71] at H
          have c71b0 : (x8_18 == 9) = false := beq_eq_false_iff_ne.mpr c71
          have c71b1 : (x8_18 != 9) = true := bne_iff_ne.mpr c71
          by_cases c74 : x8_18 = 10
          rw [if_pos c74] at H
          have c74b0 : (x8_18 == 10) = true := beq_iff_eq.mpr c74
          have c74b1 : (x8_18 != 10) = false := bne_eq_false_iff_eq.mpr c74
          clear c74
          replace H := it0 H
          obtain ⟨c75, H⟩ := H
          obtain ⟨c75b0, c75b1, c75b2⟩ := szf c75
          replace H := it0 H
          obtain ⟨c76, H⟩ := H
          obtain ⟨c76b0, c76b1, c76b2⟩ := szf c76
          simp only [Option.some.injEq, Prod.mk.injEq] at H
          obtain ⟨rfl, rfl, rfl⟩ := H
          rotate_left
          rw [if_neg c74] at H
          have c74b0 : (x8_18 == 10) = false := beq_eq_false_iff_ne.mpr c74
          have c74b1 : (x8_18 != 10) = true := bne_iff_ne.mpr c74
          by_cases c77 : x8_18 = 11
          rw [if_pos c77] at H
          have c77b0 : (x8_18 == 11) = true := beq_iff_eq.mpr c77
          have c77b1 : (x8_18 != 11) = false := bne_eq_false_iff_eq.mpr c77
          clear c77
          replace H := it0 H
          obtain ⟨c78, H⟩ := H
          obtain ⟨c78b0, c78b1, c78b2⟩ := szf c78
          obtain ⟨y356, hy356⟩ : ∃ y_ : List ByteArray, y_ = (([(⟨#[]⟩ : ByteArray), (⟨#[32, 97, 115, 32, 121]⟩ : ByteArray), (⟨#[32, 97, 115, 32, 100, 101, 102, 97, 117, 108, 116]⟩ : ByteArray)] : List ByteArray)) := ⟨_, rfl⟩
          rw [← hy356] at H
          have Ny356 := Aside0.mk hy356
          clear hy356
          replace H := bnd H
          obtain ⟨⟨t359, t360, t361⟩, A79, H⟩ := H
          try dsimp only at H
          replace H := it0 H
          obtain ⟨c80, H⟩ := H
          obtain ⟨c80b0, c80b1, c80b2⟩ := szf c80
          replace H := it0 H
          obtain ⟨c81, H⟩ := H
          obtain ⟨c81b0, c81b1, c81b2⟩ := szf c81
          simp only [Option.some.injEq, Prod.mk.injEq] at H
          obtain ⟨rfl, rfl, rfl⟩ := H
          rotate_left
          rw [if_neg c77] at H
          have c77b0 : (x8_18 == 11) = false := beq_eq_false_iff_ne.mpr c77
          have c77b1 : (x8_18 != 11) = true := bne_iff_ne.mpr c77
          by_cases c86 : x8_18 = 12
          rw [if_pos c86] at H
          have c86b0 : (x8_18 == 12) = true := beq_iff_eq.mpr c86
          have c86b1 : (x8_18 != 12) = false := bne_eq_false_iff_eq.mpr c86
          clear c86
          replace H := it0 H
          obtain ⟨c87, H⟩ := H
          obtain ⟨c87b0, c87b1, c87b2⟩ := szf c87
          obtain ⟨y362, hy362⟩ : ∃ y_ : List ByteArray, y_ = (([(⟨#[]⟩ : ByteArray), (⟨#[32, 97, 115, 32, 121]⟩ : ByteArray), (⟨#[44, 32, 100, 101, 102, 97, 117, 108, 116]⟩ : ByteArray)] : List ByteArray)) := ⟨_, rfl⟩
          rw [← hy362] at H
          have Ny362 := Aside0.mk hy362
          clear hy362
          replace H := bnd H
          obtain ⟨⟨t365, t366, t367⟩, A88, H⟩ := H
          try dsimp only at H
          replace H := it0 H
          obtain ⟨c89, H⟩ := H
          obtain ⟨c89b0, c89b1, c89b2⟩ := szf c89
          replace H := it0 H
          obtain ⟨c90, H⟩ := H
          obtain ⟨c90b0, c90b1, c90b2⟩ := szf c90
          replace H := it0 H
          obtain ⟨c91, H⟩ := H
          obtain ⟨c91b0, c91b1, c91b2⟩ := szf c91
          replace H := it0 H
          obtain ⟨c92, H⟩ := H
          obtain ⟨c92b0, c92b1, c92b2⟩ := szf c92
          simp only [Option.some.injEq, Prod.mk.injEq] at H
          obtain ⟨rfl, rfl, rfl⟩ := H
          rotate_left
          rw [if_neg c86] at H
          have c86b0 : (x8_18 == 12) = false := beq_eq_false_iff_ne.mpr c86
          have c86b1 : (x8_18 != 12) = true := bne_iff_ne.mpr c86
          by_cases c97 : x8_18 = 13
          rw [if_pos c97] at H
          have c97b0 : (x8_18 == 13) = true := beq_iff_eq.mpr c97
          have c97b1 : (x8_18 != 13) = false := bne_eq_false_iff_eq.mpr c97
          clear c97
          replace H := it0 H
          obtain ⟨c98, H⟩ := H
          obtain ⟨c98b0, c98b1, c98b2⟩ := szf c98
          replace H := it0 H
          obtain ⟨c99, H⟩ := H
          obtain ⟨c99b0, c99b1, c99b2⟩ := szf c99
          simp only [Option.some.injEq, Prod.mk.injEq] at H
          obtain ⟨rfl, rfl, rfl⟩ := H
          rotate_left
          rw [if_neg c97] at H
          have c97b0 : (x8_18 == 13) = false := beq_eq_false_iff_ne.mpr c97
          have c97b1 : (x8_18 != 13) = true := bne_iff_ne.mpr c97
          by_cases c100 : x8_18 = 14
          rw [if_pos c100] at H
          have c100b0 : (x8_18 == 14) = true := beq_iff_eq.mpr c100
          have c100b1 : (x8_18 != 14) = false := bne_eq_false_iff_eq.mpr c100
          clear c100
          replace H := it0 H
          obtain ⟨c101, H⟩ := H
          obtain ⟨c101b0, c101b1, c101b2⟩ := szf c101
          replace H := it0 H
          obtain ⟨c102, H⟩ := H
          obtain ⟨c102b0, c102b1, c102b2⟩ := szf c102
          simp only [Option.some.injEq, Prod.mk.injEq] at H
          obtain ⟨rfl, rfl, rfl⟩ := H
          rotate_left
          rw [if_neg c100] at H
          have c100b0 : (x8_18 == 14) = false := beq_eq_false_iff_ne.mpr c100
          have c100b1 : (x8_18 != 14) = true := bne_iff_ne.mpr c100
          replace H := it0 H
          obtain ⟨c103, H⟩ := H
          obtain ⟨c103b0, c103b1, c103b2⟩ := szf c103
          replace H := it0 H
          obtain ⟨c104, H⟩ := H
          obtain ⟨c104b0, c104b1, c104b2⟩ := szf c104
          replace H := it0 H
          obtain ⟨c105, H⟩ := H
          obtain ⟨c105b0, c105b1, c105b2⟩ := szf c105
          replace H := it0 H
          obtain ⟨c106, H⟩ := H
          obtain ⟨c106b0, c106b1, c106b2⟩ := szf c106
          replace H := it0 H
          obtain ⟨c107, H⟩ := H
          obtain ⟨c107b0, c107b1, c107b2⟩ := szf c107
          replace H := it0 H
          obtain ⟨c108, H⟩ := H
          obtain ⟨c108b0, c108b1, c108b2⟩ := szf c108
          obtain ⟨y368, hy368⟩ : ∃ y_ : List ByteArray, y_ = (([((((⟨#[108, 101, 116, 32]⟩ : ByteArray) ++ t326) ++ (⟨#[32, 61, 32]⟩ : ByteArray)) ++ t329) ++ (⟨#[59]⟩ : ByteArray), ((⟨#[102, 117, 110, 99, 116, 105, 111, 110, 32, 102, 40, 41, 32, 123, 32, 114, 101, 116, 117, 114, 110, 32]⟩ : ByteArray) ++ t329) ++ (⟨#[59, 32, 125]⟩ : ByteArray), (⟨#[108, 101, 116, 32, 122, 32, 61, 32, 49, 59]⟩ : ByteArray)] : List ByteArray)) := ⟨_, rfl⟩
          rw [← hy368] at H
          have Ny368 := Aside0.mk hy368
          clear hy368
          replace H := bnd H
          obtain ⟨⟨t371, t372, t373⟩, A109, H⟩ := H
          try dsimp only at H
          replace H := it0 H
          obtain ⟨c110, H⟩ := H
          obtain ⟨c110b0, c110b1, c110b2⟩ := szf c110
          simp only [Option.some.injEq, Prod.mk.injEq] at H
          obtain ⟨rfl, rfl, rfl⟩ := H
          rotate_left
          all_goals
           try simp only [ByteArray.size_append, lsz, List.length_cons, List.length_nil, Nat.reduceAdd] at *
           repeat (go_wp2_with (first | ((with_reducible refine gate_dst (N := 137) rfl ?_); refine Kd.R_lit Kd.string _ 9 ?hg (N := 137) ?hd (xs := ([((((⟨#[108, 101, 116, 32]⟩ : ByteArray) ++ t326) ++ (⟨#[32, 61, 32]⟩ : ByteArray)) ++ t329) ++ (⟨#[59]⟩ : ByteArray), ((⟨#[102, 117, 110, 99, 116, 105, 111, 110, 32, 102, 40, 41, 32, 123, 32, 114, 101, 116, 117, 114, 110, 32]⟩ : ByteArray) ++ t329) ++ (⟨#[59, 32, 125]⟩ : ByteArray), (⟨#[108, 101, 116, 32, 122, 32, 61, 32, 49, 59]⟩ : ByteArray)] : List ByteArray)) (inner := [.string (((((⟨#[108, 101, 116, 32]⟩ : ByteArray) ++ t326) ++ (⟨#[32, 61, 32]⟩ : ByteArray)) ++ t329) ++ (⟨#[59]⟩ : ByteArray)), .string (((⟨#[102, 117, 110, 99, 116, 105, 111, 110, 32, 102, 40, 41, 32, 123, 32, 114, 101, 116, 117, 114, 110, 32]⟩ : ByteArray) ++ t329) ++ (⟨#[59, 32, 125]⟩ : ByteArray)), .string (⟨#[108, 101, 116, 32, 122, 32, 61, 32, 49, 59]⟩ : ByteArray)]) (ok := fun _ => True) (okp := fun _ => True) ?hr ?hp (fun _ hk => hk) trivial (Below.refl _ _) (Nat.le_refl _) (by simp) ?_; (case hd => rfl); (case hg => rfl); (case hr => first | (go_simp; done) | (go_simp; rfl)); (case hp => exact (Reps.one (show Kd.M Kd.string _ _ _ (((((⟨#[108, 101, 116, 32]⟩ : ByteArray) ++ t326) ++ (⟨#[32, 61, 32]⟩ : ByteArray)) ++ t329) ++ (⟨#[59]⟩ : ByteArray)) [.string (((((⟨#[108, 101, 116, 32]⟩ : ByteArray) ++ t326) ++ (⟨#[32, 61, 32]⟩ : ByteArray)) ++ t329) ++ (⟨#[59]⟩ : ByteArray))] from rfl) (Reps.one (show Kd.M Kd.string _ _ _ (((⟨#[102, 117, 110, 99, 116, 105, 111, 110, 32, 102, 40, 41, 32, 123, 32, 114, 101, 116, 117, 114, 110, 32]⟩ : ByteArray) ++ t329) ++ (⟨#[59, 32, 125]⟩ : ByteArray)) [.string (((⟨#[102, 117, 110, 99, 116, 105, 111, 110, 32, 102, 40, 41, 32, 123, 32, 114, 101, 116, 117, 114, 110, 32]⟩ : ByteArray) ++ t329) ++ (⟨#[59, 32, 125]⟩ : ByteArray))] from rfl) (Reps.one (show Kd.M Kd.string _ _ _ (⟨#[108, 101, 116, 32, 122, 32, 61, 32, 49, 59]⟩ : ByteArray) [.string (⟨#[108, 101, 116, 32, 122, 32, 61, 32, 49, 59]⟩ : ByteArray)] from rfl) (Reps.none _ _))))); intro v7000 w7001 ho7002 hb hg_ hnew_; clear hg_ hnew_; (first | rw [← Ny368.out] at ho7002 | (simp only [Int.reduceToNat] at ho7002; rw [← Ny368.out] at ho7002)); have n0_ := Aside0.mk (Kd.R_lower ho7002 (keep_size (w := w) (g := g) (row := none) zt5)); have n1_ := Aside0.mk (IsS77.below zt4 hb); have n2_ := Aside0.mk (KeepBut.trans zt5 (KeepBut.of_below hb g none) (.inl rfl)); have n3_ := Aside0.mk (below_step zt6 hb); clear HI0; clear HK; clear HB; have HO7003 := n0_; have HI0 := n1_; have HK := n2_; have HB := n3_; clear n0_ n1_ n2_ n3_; clear hb ho7002; obtain ⟨Ao7004, co7004, eo7004⟩ := Kd.R_slice HO7003.out; subst eo7004) | ((with_reducible refine gate_dst (N := 101) rfl ?_); refine Kd.R_lit Kd.string _ 9 ?hg (N := 101) ?hd (xs := ([(⟨#[]⟩ : ByteArray), (⟨#[32, 97, 115, 32, 121]⟩ : ByteArray), (⟨#[32, 97, 115, 32, 100, 101, 102, 97, 117, 108, 116]⟩ : ByteArray)] : List ByteArray)) (inner := [.string (⟨#[]⟩ : ByteArray), .string (⟨#[32, 97, 115, 32, 121]⟩ : ByteArray), .string (⟨#[32, 97, 115, 32, 100, 101, 102, 97, 117, 108, 116]⟩ : ByteArray)]) (ok := fun _ => True) (okp := fun _ => True) ?hr ?hp (fun _ hk => hk) trivial (Below.refl _ _) (Nat.le_refl _) (by simp) ?_; (case hd => rfl); (case hg => rfl); (case hr => first | (go_simp; done) | (go_simp; rfl)); (case hp => exact (Reps.one (show Kd.M Kd.string _ _ _ (⟨#[]⟩ : ByteArray) [.string (⟨#[]⟩ : ByteArray)] from rfl) (Reps.one (show Kd.M Kd.string _ _ _ (⟨#[32, 97, 115, 32, 121]⟩ : ByteArray) [.string (⟨#[32, 97, 115, 32, 121]⟩ : ByteArray)] from rfl) (Reps.one (show Kd.M Kd.string _ _ _ (⟨#[32, 97, 115, 32, 100, 101, 102, 97, 117, 108, 116]⟩ : ByteArray) [.string (⟨#[32, 97, 115, 32, 100, 101, 102, 97, 117, 108, 116]⟩ : ByteArray)] from rfl) (Reps.none _ _))))); intro v7000 w7001 ho7002 hb hg_ hnew_; clear hg_ hnew_; (first | rw [← Ny356.out] at ho7002 | (simp only [Int.reduceToNat] at ho7002; rw [← Ny356.out] at ho7002)); have n0_ := Aside0.mk (Kd.R_lower ho7002 (keep_size (w := w) (g := g) (row := none) zt5)); have n1_ := Aside0.mk (IsS77.below zt4 hb); have n2_ := Aside0.mk (KeepBut.trans zt5 (KeepBut.of_below hb g none) (.inl rfl)); have n3_ := Aside0.mk (below_step zt6 hb); clear HI0; clear HK; clear HB; have HO7003 := n0_; have HI0 := n1_; have HK := n2_; have HB := n3_; clear n0_ n1_ n2_ n3_; clear hb ho7002; obtain ⟨Ao7004, co7004, eo7004⟩ := Kd.R_slice HO7003.out; subst eo7004) | ((with_reducible refine gate_dst (N := 110) rfl ?_); refine Kd.R_lit Kd.string _ 9 ?hg (N := 110) ?hd (xs := ([(⟨#[]⟩ : ByteArray), (⟨#[32, 97, 115, 32, 121]⟩ : ByteArray), (⟨#[44, 32, 100, 101, 102, 97, 117, 108, 116]⟩ : ByteArray)] : List ByteArray)) (inner := [.string (⟨#[]⟩ : ByteArray), .string (⟨#[32, 97, 115, 32, 121]⟩ : ByteArray), .string (⟨#[44, 32, 100, 101, 102, 97, 117, 108, 116]⟩ : ByteArray)]) (ok := fun _ => True) (okp := fun _ => True) ?hr ?hp (fun _ hk => hk) trivial (Below.refl _ _) (Nat.le_refl _) (by simp) ?_; (case hd => rfl); (case hg => rfl); (case hr => first | (go_simp; done) | (go_simp; rfl)); (case hp => exact (Reps.one (show Kd.M Kd.string _ _ _ (⟨#[]⟩ : ByteArray) [.string (⟨#[]⟩ : ByteArray)] from rfl) (Reps.one (show Kd.M Kd.string _ _ _ (⟨#[32, 97, 115, 32, 121]⟩ : ByteArray) [.string (⟨#[32, 97, 115, 32, 121]⟩ : ByteArray)] from rfl) (Reps.one (show Kd.M Kd.string _ _ _ (⟨#[44, 32, 100, 101, 102, 97, 117, 108, 116]⟩ : ByteArray) [.string (⟨#[44, 32, 100, 101, 102, 97, 117, 108, 116]⟩ : ByteArray)] from rfl) (Reps.none _ _))))); intro v7000 w7001 ho7002 hb hg_ hnew_; clear hg_ hnew_; (first | rw [← Ny362.out] at ho7002 | (simp only [Int.reduceToNat] at ho7002; rw [← Ny362.out] at ho7002)); have n0_ := Aside0.mk (Kd.R_lower ho7002 (keep_size (w := w) (g := g) (row := none) zt5)); have n1_ := Aside0.mk (IsS77.below zt4 hb); have n2_ := Aside0.mk (KeepBut.trans zt5 (KeepBut.of_below hb g none) (.inl rfl)); have n3_ := Aside0.mk (below_step zt6 hb); clear HI0; clear HK; clear HB; have HO7003 := n0_; have HI0 := n1_; have HK := n2_; have HB := n3_; clear n0_ n1_ n2_ n3_; clear hb ho7002; obtain ⟨Ao7004, co7004, eo7004⟩ := Kd.R_slice HO7003.out; subst eo7004) | ((with_reducible refine gate_dst (N := 79) rfl ?_); refine Kd.R_lit Kd.string _ 9 ?hg (N := 79) ?hd (xs := ([(⟨#[]⟩ : ByteArray), (⟨#[32, 97, 115, 32, 120]⟩ : ByteArray), (⟨#[32, 97, 115, 32, 98, 44, 32, 103]⟩ : ByteArray)] : List ByteArray)) (inner := [.string (⟨#[]⟩ : ByteArray), .string (⟨#[32, 97, 115, 32, 120]⟩ : ByteArray), .string (⟨#[32, 97, 115, 32, 98, 44, 32, 103]⟩ : ByteArray)]) (ok := fun _ => True) (okp := fun _ => True) ?hr ?hp (fun _ hk => hk) trivial (Below.refl _ _) (Nat.le_refl _) (by simp) ?_; (case hd => rfl); (case hg => rfl); (case hr => first | (go_simp; done) | (go_simp; rfl)); (case hp => exact (Reps.one (show Kd.M Kd.string _ _ _ (⟨#[]⟩ : ByteArray) [.string (⟨#[]⟩ : ByteArray)] from rfl) (Reps.one (show Kd.M Kd.string _ _ _ (⟨#[32, 97, 115, 32, 120]⟩ : ByteArray) [.string (⟨#[32, 97, 115, 32, 120]⟩ : ByteArray)] from rfl) (Reps.one (show Kd.M Kd.string _ _ _ (⟨#[32, 97, 115, 32, 98, 44, 32, 103]⟩ : ByteArray) [.string (⟨#[32, 97, 115, 32, 98, 44, 32, 103]⟩ : ByteArray)] from rfl) (Reps.none _ _))))); intro v7000 w7001 ho7002 hb hg_ hnew_; clear hg_ hnew_; (first | rw [← Ny350.out] at ho7002 | (simp only [Int.reduceToNat] at ho7002; rw [← Ny350.out] at ho7002)); have n0_ := Aside0.mk (Kd.R_lower ho7002 (keep_size (w := w) (g := g) (row := none) zt5)); have n1_ := Aside0.mk (IsS77.below zt4 hb); have n2_ := Aside0.mk (KeepBut.trans zt5 (KeepBut.of_below hb g none) (.inl rfl)); have n3_ := Aside0.mk (below_step zt6 hb); clear HI0; clear HK; clear HB; have HO7003 := n0_; have HI0 := n1_; have HK := n2_; have HB := n3_; clear n0_ n1_ n2_ n3_; clear hb ho7002; obtain ⟨Ao7004, co7004, eo7004⟩ := Kd.R_slice HO7003.out; subst eo7004) | ((with_reducible refine gate_callee (f := 53) rfl ?_); refine goesL_ (some 138) rfl rfl Tryz.func53 (by kernel_rfl) rfl #[.pointer (some ⟨g, 0, none⟩), .slice Ao7004 y368.length co7004] rfl zt7 ?_; (with_reducible refine (spec_l1Pick.calls g s0_0 t339 t340 _ _ y368 t371 t372 t373 w0 _ ?side1 ?side2 ?side3 ?side4 ?side5 A109.out).mono ?_); (case side1 => exact zt4); (case side2 => exact zt6); (case side3 => exact cz (Kd.R_reads' HO7003.out).2.2); (case side4 => exact (Kd.R_reads' HO7003.out).2.1); (case side5 => exact far_slice (IsS77.own_ne HI0.out HO7003.out (by decide))); rintro e w7005 ⟨rfl, hi, hb, hk⟩; refine ⟨_, rfl, ?_⟩; have n0_ := Aside0.mk (Kd.R_mono (Kd.R_keep (IsS77.apart (show IsS77 w0 _ g s0_0 t339 t340 from zt4) (rz HO7003.out) (by decide)) hk (fun _ h => h.2)) (fun _ h => h.1)); have n1_ := Aside0.mk (KeepBut.trans zt5 hk (.inl rfl)); have n2_ := Aside0.mk (hb); have n3_ := Aside0.mk (hi); clear HO7003; clear HK; clear HB; clear HI0; have HO7003 := n0_; have HK := n1_; have HB := n2_; have HI0 := n3_; clear n0_ n1_ n2_ n3_; (try clear hb); (try clear hb2); (try clear hk); (try clear hi)) | ((with_reducible refine gate_callee (f := 53) rfl ?_); refine goesL_ (some 102) rfl rfl Tryz.func53 (by kernel_rfl) rfl #[.pointer (some ⟨g, 0, none⟩), .slice Ao7004 y356.length co7004] rfl zt7 ?_; (with_reducible refine (spec_l1Pick.calls g s0_0 t339 t340 _ _ y356 t359 t360 t361 w0 _ ?side1 ?side2 ?side3 ?side4 ?side5 A79.out).mono ?_); (case side1 => exact zt4); (case side2 => exact zt6); (case side3 => exact cz (Kd.R_reads' HO7003.out).2.2); (case side4 => exact (Kd.R_reads' HO7003.out).2.1); (case side5 => exact far_slice (IsS77.own_ne HI0.out HO7003.out (by decide))); rintro e w7005 ⟨rfl, hi, hb, hk⟩; refine ⟨_, rfl, ?_⟩; have n0_ := Aside0.mk (Kd.R_mono (Kd.R_keep (IsS77.apart (show IsS77 w0 _ g s0_0 t339 t340 from zt4) (rz HO7003.out) (by decide)) hk (fun _ h => h.2)) (fun _ h => h.1)); have n1_ := Aside0.mk (KeepBut.trans zt5 hk (.inl rfl)); have n2_ := Aside0.mk (hb); have n3_ := Aside0.mk (hi); clear HO7003; clear HK; clear HB; clear HI0; have HO7003 := n0_; have HK := n1_; have HB := n2_; have HI0 := n3_; clear n0_ n1_ n2_ n3_; (try clear hb); (try clear hb2); (try clear hk); (try clear hi)) | ((with_reducible refine gate_callee (f := 53) rfl ?_); refine goesL_ (some 111) rfl rfl Tryz.func53 (by kernel_rfl) rfl #[.pointer (some ⟨g, 0, none⟩), .slice Ao7004 y362.length co7004] rfl zt7 ?_; (with_reducible refine (spec_l1Pick.calls g s0_0 t339 t340 _ _ y362 t365 t366 t367 w0 _ ?side1 ?side2 ?side3 ?side4 ?side5 A88.out).mono ?_); (case side1 => exact zt4); (case side2 => exact zt6); (case side3 => exact cz (Kd.R_reads' HO7003.out).2.2); (case side4 => exact (Kd.R_reads' HO7003.out).2.1); (case side5 => exact far_slice (IsS77.own_ne HI0.out HO7003.out (by decide))); rintro e w7005 ⟨rfl, hi, hb, hk⟩; refine ⟨_, rfl, ?_⟩; have n0_ := Aside0.mk (Kd.R_mono (Kd.R_keep (IsS77.apart (show IsS77 w0 _ g s0_0 t339 t340 from zt4) (rz HO7003.out) (by decide)) hk (fun _ h => h.2)) (fun _ h => h.1)); have n1_ := Aside0.mk (KeepBut.trans zt5 hk (.inl rfl)); have n2_ := Aside0.mk (hb); have n3_ := Aside0.mk (hi); clear HO7003; clear HK; clear HB; clear HI0; have HO7003 := n0_; have HK := n1_; have HB := n2_; have HI0 := n3_; clear n0_ n1_ n2_ n3_; (try clear hb); (try clear hb2); (try clear hk); (try clear hi)) | ((with_reducible refine gate_callee (f := 53) rfl ?_); refine goesL_ (some 80) rfl rfl Tryz.func53 (by kernel_rfl) rfl #[.pointer (some ⟨g, 0, none⟩), .slice Ao7004 y350.length co7004] rfl zt7 ?_; (with_reducible refine (spec_l1Pick.calls g s0_0 t339 t340 _ _ y350 t353 t354 t355 w0 _ ?side1 ?side2 ?side3 ?side4 ?side5 A62.out).mono ?_); (case side1 => exact zt4); (case side2 => exact zt6); (case side3 => exact cz (Kd.R_reads' HO7003.out).2.2); (case side4 => exact (Kd.R_reads' HO7003.out).2.1); (case side5 => exact far_slice (IsS77.own_ne HI0.out HO7003.out (by decide))); rintro e w7005 ⟨rfl, hi, hb, hk⟩; refine ⟨_, rfl, ?_⟩; have n0_ := Aside0.mk (Kd.R_mono (Kd.R_keep (IsS77.apart (show IsS77 w0 _ g s0_0 t339 t340 from zt4) (rz HO7003.out) (by decide)) hk (fun _ h => h.2)) (fun _ h => h.1)); have n1_ := Aside0.mk (KeepBut.trans zt5 hk (.inl rfl)); have n2_ := Aside0.mk (hb); have n3_ := Aside0.mk (hi); clear HO7003; clear HK; clear HB; clear HI0; have HO7003 := n0_; have HK := n1_; have HB := n2_; have HI0 := n3_; clear n0_ n1_ n2_ n3_; (try clear hb); (try clear hb2); (try clear hk); (try clear hi)) | (go_at_call 30; (with_reducible refine (spec_l1Once.calls g s0_0 t339 t340 2 false t348 t349 w0 _ ?side1 ?side2 A50.out).mono ?_); (case side1 => exact zt4); (case side2 => exact zt6); rintro e w7000 ⟨rfl, hi, hb, hk⟩; have n0_ := Aside0.mk (KeepBut.trans zt5 hk (.inl rfl)); have n1_ := Aside0.mk (hb); have n2_ := Aside0.mk (hi); clear HK; clear HB; clear HI0; have HK := n0_; have HB := n1_; have HI0 := n2_; clear n0_ n1_ n2_; (try clear hb); (try clear hb2); (try clear hk); (try clear hi)) | (go_at_call 30; (with_reducible refine (spec_l1Once.calls g s0_0 t339 t340 2 true t348 t349 w0 _ ?side1 ?side2 A50.out).mono ?_); (case side1 => exact zt4); (case side2 => exact zt6); rintro e w7000 ⟨rfl, hi, hb, hk⟩; have n0_ := Aside0.mk (KeepBut.trans zt5 hk (.inl rfl)); have n1_ := Aside0.mk (hb); have n2_ := Aside0.mk (hi); clear HK; clear HB; clear HI0; have HK := n0_; have HB := n1_; have HI0 := n2_; clear n0_ n1_ n2_; (try clear hb); (try clear hb2); (try clear hk); (try clear hi))); first | go_quiet (fail) | (go_ret; exact ⟨zt10, zt4, zt6, zt5⟩))
       all_goals
        try simp only [ByteArray.size_append, lsz, List.length_cons, List.length_nil, Nat.reduceAdd] at *
        repeat (go_wp2_with (first | ((with_reducible refine gate_callee (f := 53) rfl ?_); refine goesL_ (some 42) rfl rfl Tryz.func53 (by kernel_rfl) rfl #[.pointer (some ⟨g, 0, none⟩), .slice Ao7004 y341.length co7004] rfl zt7 ?_; (with_reducible refine (spec_l1Pick.calls g s0_0 t339 t340 _ _ y341 t344 t345 t346 w0 _ ?side1 ?side2 ?side3 ?side4 ?side5 A30.out).mono ?_); (case side1 => exact zt4); (case side2 => exact zt6); (case side3 => exact cz (Kd.R_reads' HO7003.out).2.2); (case side4 => exact (Kd.R_reads' HO7003.out).2.1); (case side5 => exact far_slice (IsS77.own_ne HI0.out HO7003.out (by decide))); rintro e w7005 ⟨rfl, hi, hb, hk⟩; refine ⟨_, rfl, ?_⟩; have n0_ := Aside0.mk (Kd.R_mono (Kd.R_keep (IsS77.apart (show IsS77 w0 _ g s0_0 t339 t340 from zt4) (rz HO7003.out) (by decide)) hk (fun _ h => h.2)) (fun _ h => h.1)); have n1_ := Aside0.mk (KeepBut.trans zt5 hk (.inl rfl)); have n2_ := Aside0.mk (hb); have n3_ := Aside0.mk (hi); clear HO7003; clear HK; clear HB; clear HI0; have HO7003 := n0_; have HK := n1_; have HB := n2_; have HI0 := n3_; clear n0_ n1_ n2_ n3_; (try clear hb); (try clear hb2); (try clear hk); (try clear hi)) | ((with_reducible refine gate_dst (N := 41) rfl ?_); refine Kd.R_lit Kd.string _ 9 ?hg (N := 41) ?hd (xs := ([(⟨#[102]⟩ : ByteArray), (⟨#[103]⟩ : ByteArray)] : List ByteArray)) (inner := [.string (⟨#[102]⟩ : ByteArray), .string (⟨#[103]⟩ : ByteArray)]) (ok := fun _ => True) (okp := fun _ => True) ?hr ?hp (fun _ hk => hk) trivial (Below.refl _ _) (Nat.le_refl _) (by simp) ?_; (case hd => rfl); (case hg => rfl); (case hr => first | (go_simp; done) | (go_simp; rfl)); (case hp => exact (Reps.one (show Kd.M Kd.string _ _ _ (⟨#[102]⟩ : ByteArray) [.string (⟨#[102]⟩ : ByteArray)] from rfl) (Reps.one (show Kd.M Kd.string _ _ _ (⟨#[103]⟩ : ByteArray) [.string (⟨#[103]⟩ : ByteArray)] from rfl) (Reps.none _ _)))); intro v7000 w7001 ho7002 hb hg_ hnew_; clear hg_ hnew_; (first | rw [← Ny341.out] at ho7002 | (simp only [Int.reduceToNat] at ho7002; rw [← Ny341.out] at ho7002)); have n0_ := Aside0.mk (Kd.R_lower ho7002 (keep_size (w := w) (g := g) (row := none) zt5)); have n1_ := Aside0.mk (IsS77.below zt4 hb); have n2_ := Aside0.mk (KeepBut.trans zt5 (KeepBut.of_below hb g none) (.inl rfl)); have n3_ := Aside0.mk (below_step zt6 hb); clear HI0; clear HK; clear HB; have HO7003 := n0_; have HI0 := n1_; have HK := n2_; have HB := n3_; clear n0_ n1_ n2_ n3_; clear hb ho7002; obtain ⟨Ao7004, co7004, eo7004⟩ := Kd.R_slice HO7003.out; subst eo7004)); first | go_quiet (fail) | (go_ret; exact ⟨zt10, zt4, zt6, zt5⟩))

end Go.Proofs.YtkmcnjpgamaljaaGreatDoor.PFnFiles

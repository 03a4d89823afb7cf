-- Out of the kit's print, with contracts of mine among it (myprint.py).
import Derived.Deep.RegionWith
import Derived.Test.YtmpmfaaodjmpjaaDoorPFnLexx0
import Derived.Test.YtmpmfaaodjmpjaaDoorPFnLexx1
import Derived.Test.YtmpmfaaodjmpjaaDoorPFnLexx4
namespace Go.Proofs.YtmpmfaaodjmpjaaDoor.PFnLex
open Go.RowKit Go.Proofs.YtmpmfaaodjmpjaaDoorW.PrintWords Go.Proofs.YtmpmfaaodjmpjaaDoorW.PrintLast Go.Proofs.YtmpmfaaodjmpjaaDoorW.PrintMore
attribute [local go_sem] max2_int min2_int max_two min_two max_three min_three max_four min_four   -- for this text's walks alone
set_option linter.unusedVariables false
set_option linter.unusedSimpArgs false
theorem sA5 {α} (l : List α) (i : Nat) (a : α) : l.toArray.setIfInBounds i a = (l.set i a).toArray := List.setIfInBounds_toArray l i a
theorem sB5 {α} (x : α) (l : List α) (a : α) : (x :: l).set 0 a = a :: l := List.set_cons_zero
theorem sC5 {α} (x : α) (l : List α) (i : Nat) (a : α) : (x :: l).set (i + 1) a = x :: l.set i a := List.set_cons_succ

/-! ### laws_FnLex: function 10 -/
mutual
def laws_FnLex.l0 : Nat → ByteArray → Bool → List (S70) → Int → Option (Bool)
 | 0, _, _, _, _ => none
 | k + 1, x3, x4, x5, x9 => if x9 < (x5.length : Int) then (if 0 ≤ x9 then (if ((rd_T70 x5 x9).f3) < 0 then (laws_FnLex.j1 k x3 x4 x5 x9 true) else (if ((rd_T70 x5 x9).f3) ≥ (x3.size : Int) then (laws_FnLex.j1 k x3 x4 x5 x9 true) else (if x9 > 0 then (if 0 ≤ (wrap64 (x9 - 1)) then (if (wrap64 (x9 - 1)) < (x5.length : Int) then (laws_FnLex.j1 k x3 x4 x5 x9 (decide (((rd_T70 x5 (wrap64 (x9 - 1))).f3) ≥ ((rd_T70 x5 x9).f3)))) else (none)) else (none)) else (laws_FnLex.j1 k x3 x4 x5 x9 false)))) else (none)) else (if 2 + x3.size ≤ 9223372036854775807 then (if ((⟨#[32, 10]⟩ : ByteArray) ++ x3).size + 8 ≤ 9223372036854775807 then ((impl_Lex.f k (((⟨#[32, 10]⟩ : ByteArray) ++ x3) ++ (⟨#[32, 10, 47, 47, 32, 101, 110, 100]⟩ : ByteArray)) x4).bind fun bt223 => (if bt223.2 = (-1) then (laws_FnLex.j2 k x5 bt223.1 ((bt223.1.length : Int) != (x5.length : Int))) else (laws_FnLex.j2 k x5 bt223.1 true))) else (none)) else (none))
def laws_FnLex.j1 : Nat → ByteArray → Bool → List (S70) → Int → Bool → Option (Bool)
 | 0, _, _, _, _, _ => none
 | k + 1, x3, x4, x5, x9, x85 => if x85 = true then (some false) else (if 0 ≤ x9 then (if x9 < (x5.length : Int) then (if ((rd_T70 x5 x9).f0) = 1 then (if 0 ≤ ((rd_T70 x5 x9).f3) then (if ((rd_T70 x5 x9).f3) ≤ (x3.size : Int) then ((laws_begins.f ((rd_T70 x5 x9).f1) (x3.extract (((rd_T70 x5 x9).f3) : Int).toNat x3.size)).bind fun t214 => (if t214 = true then (if ((rd_T70 x5 x9).f0) = 3 then (if 1 + ((rd_T70 x5 x9).f1).size ≤ 9223372036854775807 then (if ((⟨#[34]⟩ : ByteArray) ++ ((rd_T70 x5 x9).f1)).size + 1 ≤ 9223372036854775807 then ((laws_begins.f (((⟨#[34]⟩ : ByteArray) ++ ((rd_T70 x5 x9).f1)) ++ (⟨#[34]⟩ : ByteArray)) (x3.extract (((rd_T70 x5 x9).f3) : Int).toNat x3.size)).bind fun t218 => (if t218 = true then (laws_FnLex.l0 k x3 x4 x5 (wrap64 (x9 + 1))) else (some false))) else (none)) else (none)) else (laws_FnLex.l0 k x3 x4 x5 (wrap64 (x9 + 1)))) else (some false))) else (none)) else (none)) else (if ((rd_T70 x5 x9).f0) = 3 then (if 1 + ((rd_T70 x5 x9).f1).size ≤ 9223372036854775807 then (if ((⟨#[34]⟩ : ByteArray) ++ ((rd_T70 x5 x9).f1)).size + 1 ≤ 9223372036854775807 then (if 0 ≤ ((rd_T70 x5 x9).f3) then (if ((rd_T70 x5 x9).f3) ≤ (x3.size : Int) then ((laws_begins.f (((⟨#[34]⟩ : ByteArray) ++ ((rd_T70 x5 x9).f1)) ++ (⟨#[34]⟩ : ByteArray)) (x3.extract (((rd_T70 x5 x9).f3) : Int).toNat x3.size)).bind fun t222 => (if t222 = true then (laws_FnLex.l0 k x3 x4 x5 (wrap64 (x9 + 1))) else (some false))) else (none)) else (none)) else (none)) else (none)) else (laws_FnLex.l0 k x3 x4 x5 (wrap64 (x9 + 1))))) else (none)) else (none))
def laws_FnLex.j2 : Nat → List (S70) → List (S70) → Bool → Option (Bool)
 | 0, _, _, _ => none
 | k + 1, x5, x10, x150 => if x150 = true then (some false) else (laws_FnLex.l1 k x5 x10 0)
def laws_FnLex.l1 : Nat → List (S70) → List (S70) → Int → Option (Bool)
 | 0, _, _, _ => none
 | k + 1, x5, x10, x12 => if x12 < (x5.length : Int) then (if 0 ≤ x12 then (if x12 < (x10.length : Int) then (if ((rd_T70 x10 x12).f0) = ((rd_T70 x5 x12).f0) then (if ((rd_T70 x10 x12).f1).toList = ((rd_T70 x5 x12).f1).toList then (if ((rd_T70 x10 x12).f2) = ((rd_T70 x5 x12).f2) then (if ((rd_T70 x10 x12).f3) = (wrap64 (((rd_T70 x5 x12).f3) + 2)) then (laws_FnLex.l1 k x5 x10 (wrap64 (x12 + 1))) else (some false)) else (some false)) else (some false)) else (some false)) else (none)) else (none)) else (some true)
end
def laws_FnLex.f (k : Nat) (l0 : List Int) : Option (Bool) := (laws_big.f l0).bind fun t196 => (if t196 = true then (some true) else ((spec_DrawLex.f k l0).bind fun bt197 => ((impl_Lex.f k bt197.1 bt197.2).bind fun bt199 => ((spec_Lex.f k bt197.1 bt197.2).bind fun bt203 => (if bt199.2 = bt203.2 then (if bt199.2 ≥ 0 then (if bt199.2 < (bt197.1.size : Int) then (some ((bt199.1.length : Int) == 0)) else (some false)) else (laws_FnLex.l0 k bt197.1 bt197.2 bt199.1 0)) else (some false))))))
theorem laws_FnLex.mono_l : ∀ k, (∀ y0 y1 y2 y3, LeO (laws_FnLex.l0 k y0 y1 y2 y3) (laws_FnLex.l0 (k + 1) y0 y1 y2 y3)) ∧ (∀ y0 y1 y2 y3 y4, LeO (laws_FnLex.j1 k y0 y1 y2 y3 y4) (laws_FnLex.j1 (k + 1) y0 y1 y2 y3 y4)) ∧ (∀ y0 y1 y2, LeO (laws_FnLex.j2 k y0 y1 y2) (laws_FnLex.j2 (k + 1) y0 y1 y2)) ∧ (∀ y0 y1 y2, LeO (laws_FnLex.l1 k y0 y1 y2) (laws_FnLex.l1 (k + 1) y0 y1 y2))
 | 0 => ⟨fun _ _ _ _ r h => by simp [laws_FnLex.l0] at h, fun _ _ _ _ _ r h => by simp [laws_FnLex.j1] at h, fun _ _ _ r h => by simp [laws_FnLex.j2] at h, fun _ _ _ r h => by simp [laws_FnLex.l1] at h⟩
 | k + 1 => by
  obtain ⟨ih0, ih1, ih2, ih3⟩ := laws_FnLex.mono_l k
  refine ⟨?_, ?_, ?_, ?_⟩
  ·intro y0 y1 y2 y3
   unfold laws_FnLex.l0
   repeat' first
   | (with_reducible exact ih0 _ _ _ _)
   | (with_reducible exact ih1 _ _ _ _ _)
   | (with_reducible exact ih2 _ _ _)
   | (with_reducible exact ih3 _ _ _)
   | (with_reducible exact impl_Lex.mono _ _ _)
   | (with_reducible exact spec_DrawLex.mono _ _)
   | (with_reducible exact spec_Lex.mono _ _ _)
   | (with_reducible exact LeO.refl _)
   | (with_reducible exact LeO.none _)
   | (with_reducible refine LeO.ite ?_ ?_)
   | (with_reducible refine LeO.bind ?_ (fun _ => ?_))
   | exact ih0 _ _ _ _
   | exact ih1 _ _ _ _ _
   | exact ih2 _ _ _
   | exact ih3 _ _ _
   | exact impl_Lex.mono _ _ _
   | exact spec_DrawLex.mono _ _
   | exact spec_Lex.mono _ _ _
   | exact LeO.none _
   | refine LeO.ite ?_ ?_
   | refine LeO.bind ?_ (fun _ => ?_)
  ·intro y0 y1 y2 y3 y4
   unfold laws_FnLex.j1
   repeat' first
   | (with_reducible exact ih0 _ _ _ _)
   | (with_reducible exact ih1 _ _ _ _ _)
   | (with_reducible exact ih2 _ _ _)
   | (with_reducible exact ih3 _ _ _)
   | (with_reducible exact impl_Lex.mono _ _ _)
   | (with_reducible exact spec_DrawLex.mono _ _)
   | (with_reducible exact spec_Lex.mono _ _ _)
   | (with_reducible exact LeO.refl _)
   | (with_reducible exact LeO.none _)
   | (with_reducible refine LeO.ite ?_ ?_)
   | (with_reducible refine LeO.bind ?_ (fun _ => ?_))
   | exact ih0 _ _ _ _
   | exact ih1 _ _ _ _ _
   | exact ih2 _ _ _
   | exact ih3 _ _ _
   | exact impl_Lex.mono _ _ _
   | exact spec_DrawLex.mono _ _
   | exact spec_Lex.mono _ _ _
   | exact LeO.none _
   | refine LeO.ite ?_ ?_
   | refine LeO.bind ?_ (fun _ => ?_)
  ·intro y0 y1 y2
   unfold laws_FnLex.j2
   repeat' first
   | (with_reducible exact ih0 _ _ _ _)
   | (with_reducible exact ih1 _ _ _ _ _)
   | (with_reducible exact ih2 _ _ _)
   | (with_reducible exact ih3 _ _ _)
   | (with_reducible exact impl_Lex.mono _ _ _)
   | (with_reducible exact spec_DrawLex.mono _ _)
   | (with_reducible exact spec_Lex.mono _ _ _)
   | (with_reducible exact LeO.refl _)
   | (with_reducible exact LeO.none _)
   | (with_reducible refine LeO.ite ?_ ?_)
   | (with_reducible refine LeO.bind ?_ (fun _ => ?_))
   | exact ih0 _ _ _ _
   | exact ih1 _ _ _ _ _
   | exact ih2 _ _ _
   | exact ih3 _ _ _
   | exact impl_Lex.mono _ _ _
   | exact spec_DrawLex.mono _ _
   | exact spec_Lex.mono _ _ _
   | exact LeO.none _
   | refine LeO.ite ?_ ?_
   | refine LeO.bind ?_ (fun _ => ?_)
  ·intro y0 y1 y2
   unfold laws_FnLex.l1
   repeat' first
   | (with_reducible exact ih0 _ _ _ _)
   | (with_reducible exact ih1 _ _ _ _ _)
   | (with_reducible exact ih2 _ _ _)
   | (with_reducible exact ih3 _ _ _)
   | (with_reducible exact impl_Lex.mono _ _ _)
   | (with_reducible exact spec_DrawLex.mono _ _)
   | (with_reducible exact spec_Lex.mono _ _ _)
   | (with_reducible exact LeO.refl _)
   | (with_reducible exact LeO.none _)
   | (with_reducible refine LeO.ite ?_ ?_)
   | (with_reducible refine LeO.bind ?_ (fun _ => ?_))
   | exact ih0 _ _ _ _
   | exact ih1 _ _ _ _ _
   | exact ih2 _ _ _
   | exact ih3 _ _ _
   | exact impl_Lex.mono _ _ _
   | exact spec_DrawLex.mono _ _
   | exact spec_Lex.mono _ _ _
   | exact LeO.none _
   | refine LeO.ite ?_ ?_
   | refine LeO.bind ?_ (fun _ => ?_)
theorem laws_FnLex.mono : ∀ a0 k, LeO (laws_FnLex.f k a0) (laws_FnLex.f (k + 1) a0) := by
 intro a0 k
 obtain ⟨ih0, ih1, ih2, ih3⟩ := laws_FnLex.mono_l k
 unfold laws_FnLex.f
 repeat' first
   | (with_reducible exact ih0 _ _ _ _)
   | (with_reducible exact ih1 _ _ _ _ _)
   | (with_reducible exact ih2 _ _ _)
   | (with_reducible exact ih3 _ _ _)
   | (with_reducible exact impl_Lex.mono _ _ _)
   | (with_reducible exact spec_DrawLex.mono _ _)
   | (with_reducible exact spec_Lex.mono _ _ _)
   | (with_reducible exact LeO.refl _)
   | (with_reducible exact LeO.none _)
   | (with_reducible refine LeO.ite ?_ ?_)
   | (with_reducible refine LeO.bind ?_ (fun _ => ?_))
   | exact ih0 _ _ _ _
   | exact ih1 _ _ _ _ _
   | exact ih2 _ _ _
   | exact ih3 _ _ _
   | exact impl_Lex.mono _ _ _
   | exact spec_DrawLex.mono _ _
   | exact spec_Lex.mono _ _ _
   | exact LeO.none _
   | refine LeO.ite ?_ ?_
   | refine LeO.bind ?_ (fun _ => ?_)
def laws_FnLex.T13 : Bool × List (List Nat × List Nat) := (true, [([], []), ([], []), ([0, 1], [0, 1]), ([2], [2]), ([3], [3]), ([4], [4]), ([5], [5]), ([6], [6]), ([6], [6]), ([7, 8, 6], [6, 7, 8]), ([9, 6], [6, 9]), ([10, 6], [6, 10]), ([6], [6]), ([12, 6], [6, 12]), ([11, 13, 6], [6, 11, 13]), ([6, 14], [6, 14]), ([15, 6], [15]), ([16], [16]), ([17, 16], [16, 17]), ([18, 16, 16], [16, 18]), ([19], [19]), ([19], [19]), ([21, 19], [19, 21]), ([20, 22, 19], [19, 20, 22]), ([23, 19], [19, 23]), ([24, 19], [19, 24]), ([19], [19]), ([19], [19]), ([26, 27, 19], [19, 26, 27]), ([28, 19], [19, 28]), ([29, 19], [19, 29]), ([25, 30, 19], [19, 25, 30]), ([19, 31, 16], [16, 19, 31]), ([16, 32], [16, 32])])
def laws_FnLex.B13 : List Nat := [0, 0, 3, 7, 15, 31, 63, 127, 127, 511, 1023, 2047, 127, 4223, 16383, 32767, 65535, 131071, 262143, 524287, 1048575, 1048575, 3145727, 8388607, 16777215, 33554431, 1048575, 1048575, 202375167, 470810623, 1007681535, 2147483647, 4294967295, 8589934591]
theorem laws_FnLex.tab13 : rtab .any (opsOf Tryd.f10 13) = laws_FnLex.T13 := by kernel_rfl
theorem laws_FnLex.bits13 : waitsOk laws_FnLex.T13.2 laws_FnLex.B13 = true := by kernel_rfl
def laws_FnLex.T15 : Bool × List (List Nat × List Nat) := (true, [([], []), ([], []), ([0, 1], [0, 1]), ([2], [2]), ([3], [3]), ([4], [4]), ([5], [5]), ([6], [6]), ([6], [6]), ([7, 8, 6], [6, 7, 8]), ([9, 6], [6, 9]), ([10, 6], [6, 10]), ([6], [6]), ([6], [6]), ([6], [6]), ([13, 14, 6], [6, 13, 14]), ([15, 6], [6, 15]), ([16, 6], [6, 16]), ([12, 17, 6], [6, 12, 17]), ([11, 18, 6, 6], [6, 11, 18]), ([19, 6], [6, 19]), ([6, 20], [6, 20]), ([21, 19], [21]), ([22], [22]), ([22], [22]), ([23, 24, 22], [22, 23, 24]), ([25, 22], [22, 25]), ([26, 22], [22, 26]), ([27, 22], [22, 27]), ([28, 22, 22], [22, 28]), ([29], [29]), ([29], [29]), ([30, 31, 29], [29, 30, 31]), ([32, 29], [29, 32]), ([33, 29], [29, 33]), ([34, 29], [29, 34]), ([35, 29], [29, 35]), ([29], [29]), ([29], [29]), ([29], [29]), ([38, 39, 29], [29, 38, 39]), ([40, 29], [29, 40]), ([41, 29], [29, 41]), ([37, 42, 29], [29, 37, 42]), ([36, 43, 29, 29], [29, 36, 43]), ([44, 29], [29, 44]), ([29, 45, 22], [22, 29, 45]), ([22, 46], [22, 46])])
def laws_FnLex.B15 : List Nat := [0, 0, 3, 7, 15, 31, 63, 127, 127, 511, 1023, 2047, 127, 127, 127, 24703, 57471, 123007, 258175, 524287, 1048575, 2097151, 4194303, 8388607, 8388607, 33554431, 67108863, 134217727, 268435455, 536870911, 1073741823, 1073741823, 4294967295, 8589934591, 17179869183, 34359738367, 68719476735, 1073741823, 1073741823, 1073741823, 825707462655, 1925219090431, 4124242345983, 8659727810559, 17592186044415, 35184372088831, 70368744177663, 140737488355327]
theorem laws_FnLex.tab15 : rtab .any (opsOf Tryd.f10 15) = laws_FnLex.T15 := by kernel_rfl
theorem laws_FnLex.bits15 : waitsOk laws_FnLex.T15.2 laws_FnLex.B15 = true := by kernel_rfl
def laws_FnLex.T23 : Bool × List (List Nat × List Nat) := (true, [([], []), ([], []), ([0, 1], [0, 1]), ([2], [2]), ([3], [3]), ([], []), ([], []), ([5, 6], [5, 6]), ([7], [7]), ([8], [8]), ([4, 9], [4, 9]), ([10], [10]), ([11], [11]), ([11], [11]), ([12, 13, 11], [11, 12, 13]), ([14, 11], [11, 14]), ([15, 11], [11, 15]), ([11], [11]), ([11], [11]), ([17, 18, 11], [11, 17, 18]), ([19, 11], [11, 19]), ([20, 11], [11, 20]), ([16, 21, 11], [11, 16, 21]), ([11, 22], [11, 22]), ([23, 11], [23]), ([24], [24]), ([24], [24]), ([25, 26, 24], [24, 25, 26]), ([27, 24], [24, 27]), ([28, 24], [24, 28]), ([24], [24]), ([24], [24]), ([30, 31, 24], [24, 30, 31]), ([32, 24], [24, 32]), ([33, 24], [24, 33]), ([29, 34, 24], [24, 29, 34]), ([24, 35], [24, 35]), ([36, 24], [36]), ([37], [37]), ([37], [37]), ([38, 39, 37], [37, 38, 39]), ([40, 37], [37, 40]), ([41, 37], [37, 41]), ([37], [37]), ([37], [37]), ([43, 44, 37], [37, 43, 44]), ([45, 37], [37, 45]), ([46, 37], [37, 46]), ([47, 37], [37, 47]), ([42, 48, 37], [37, 42, 48]), ([37, 49], [37, 49])])
def laws_FnLex.B23 : List Nat := [0, 0, 3, 7, 15, 0, 0, 96, 224, 480, 1023, 2047, 4095, 4095, 16383, 32767, 65535, 4095, 4095, 397311, 921599, 1970175, 4194303, 8388607, 16777215, 33554431, 33554431, 134217727, 268435455, 536870911, 33554431, 33554431, 3254779903, 7549747199, 16139681791, 34359738367, 68719476735, 137438953471, 274877906943, 274877906943, 1099511627775, 2199023255551, 4398046511103, 274877906943, 274877906943, 26663156973567, 61847529062399, 132216273240063, 272953761595391, 562949953421311, 1125899906842623]
theorem laws_FnLex.tab23 : rtab .any (opsOf Tryd.f10 23) = laws_FnLex.T23 := by kernel_rfl
theorem laws_FnLex.bits23 : waitsOk laws_FnLex.T23.2 laws_FnLex.B23 = true := by kernel_rfl
set_option maxHeartbeats 8000000 in
set_option maxRecDepth 100000 in
theorem laws_FnLex.calls (k : Nat) (A0 : Option Addr) (c0 : Nat) (l0 : List Int) (r : Bool) (w : World) (hr0 : Kd.C (Kd.int .u8) w A0 l0.length l0) (hc0 : l0.length ≤ c0) (HT : TabsE w) (h : laws_FnLex.f k l0 = some r) :
  Calls Tryd.prog 10 #[.slice A0 l0.length c0] w fun e w' => e = .returned (.bool r) ∧ Below w.heap.size w w' := by
 have HTA := Aside0.mk HT
 clear HT
 have HR0 := Aside0.mk hr0
 have HC0 := Aside0.mk hc0
 clear hr0 hc0
 have HB := Aside0.mk (Below.refl w.heap.size w)
 have H : ((laws_big.f l0).bind fun t196 => (if t196 = true then (some true) else ((spec_DrawLex.f k l0).bind fun bt197 => ((impl_Lex.f k bt197.1 bt197.2).bind fun bt199 => ((spec_Lex.f k bt197.1 bt197.2).bind fun bt203 => (if bt199.2 = bt203.2 then (if bt199.2 ≥ 0 then (if bt199.2 < (bt197.1.size : Int) then (some ((bt199.1.length : Int) == 0)) else (some false)) else (laws_FnLex.l0 k bt197.1 bt197.2 bt199.1 0)) else (some false))))))) = some r := h
 clear h
 replace H := Option.bind_eq_some_iff.mp H
 obtain ⟨t196, A20, H⟩ := H
 replace H : (if t196 = true then (some true) else ((spec_DrawLex.f k l0).bind fun bt197 => ((impl_Lex.f k bt197.1 bt197.2).bind fun bt199 => ((spec_Lex.f k bt197.1 bt197.2).bind fun bt203 => (if bt199.2 = bt203.2 then (if bt199.2 ≥ 0 then (if bt199.2 < (bt197.1.size : Int) then (some ((bt199.1.length : Int) == 0)) else (some false)) else (laws_FnLex.l0 k bt197.1 bt197.2 bt199.1 0)) else (some false)))))) = some r := H
 have A2 := Aside0.mk A20
 clear A20
 by_cases c3 : t196 = true
 ·subst c3
  have H1 : (some true) = some r := by rw [if_pos rfl] at H; exact H
  clear H
  have H := H1
  clear H1
  obtain rfl := Option.some.inj H
  as_aux_lemma =>
   go_enter Tryd.func10, Tryd.ntmps10
   go_wp2_with (first | ((with_reducible refine gate_callee (f := 28) rfl ?_); refine goesL_ (some 14) rfl rfl Tryd.func28 (by kernel_rfl) rfl #[.slice A0 l0.length c0] rfl (by (try simp only [List.map_toArray, List.map_cons, List.map_nil]); first | done | rfl | (simp only [List.length_drop, List.length_take]; rfl)) ?_; (with_reducible refine (laws_big.calls _ _ l0 true _ ?side1 ?side2 A2.out).mono ?_); (case side1 => repeat (first | exact HR0.out | (with_reducible refine Kd.C_alloc ?_ _) | (with_reducible refine Kd.C_drewN ?_ _) | (with_reducible refine Kd.C_drew ?_))); (case side2 => exact HC0.out); rintro e w' ⟨rfl, ⟨nd, rfl⟩⟩; refine ⟨_, rfl, ?_⟩))
   go_ret
   exact ⟨by first | rfl | (simp [errW_none, errW_some] <;> rfl) | (simp [*, errW_none, errW_some] <;> rfl), by repeat (first | (with_reducible first | exact HB.out | apply below_alloc | apply pw_below_drewN | apply below_drew1) | exact HB.out)⟩
 ·replace c3 := Bool.eq_false_iff.mpr c3
  subst c3
  have H1 : ((spec_DrawLex.f k l0).bind fun bt197 => ((impl_Lex.f k bt197.1 bt197.2).bind fun bt199 => ((spec_Lex.f k bt197.1 bt197.2).bind fun bt203 => (if bt199.2 = bt203.2 then (if bt199.2 ≥ 0 then (if bt199.2 < (bt197.1.size : Int) then (some ((bt199.1.length : Int) == 0)) else (some false)) else (laws_FnLex.l0 k bt197.1 bt197.2 bt199.1 0)) else (some false))))) = some r := by rw [if_neg (show ¬ (false = true) by decide)] at H; exact H
  clear H
  have H := H1
  clear H1
  replace H := Option.bind_eq_some_iff.mp H
  obtain ⟨⟨t197, t198⟩, A40, H⟩ := H
  replace H : ((impl_Lex.f k t197 t198).bind fun bt199 => ((spec_Lex.f k t197 t198).bind fun bt203 => (if bt199.2 = bt203.2 then (if bt199.2 ≥ 0 then (if bt199.2 < (t197.size : Int) then (some ((bt199.1.length : Int) == 0)) else (some false)) else (laws_FnLex.l0 k t197 t198 bt199.1 0)) else (some false)))) = some r := H
  have A4 := Aside0.mk A40
  clear A40
  replace H := Option.bind_eq_some_iff.mp H
  obtain ⟨⟨t199, t200⟩, A50, H⟩ := H
  replace H : ((spec_Lex.f k t197 t198).bind fun bt203 => (if t200 = bt203.2 then (if t200 ≥ 0 then (if t200 < (t197.size : Int) then (some ((t199.length : Int) == 0)) else (some false)) else (laws_FnLex.l0 k t197 t198 t199 0)) else (some false))) = some r := H
  have A5 := Aside0.mk A50
  clear A50
  replace H := Option.bind_eq_some_iff.mp H
  obtain ⟨⟨t203, t204⟩, A60, H⟩ := H
  replace H : (if t200 = t204 then (if t200 ≥ 0 then (if t200 < (t197.size : Int) then (some ((t199.length : Int) == 0)) else (some false)) else (laws_FnLex.l0 k t197 t198 t199 0)) else (some false)) = some r := H
  have A6 := Aside0.mk A60
  clear A60
  by_cases c7 : t200 = t204
  ·rw [if_pos c7] at H
   have c7b0 : (t200 == t204) = true := beq_iff_eq.mpr c7
   have c7b1 : (t200 != t204) = false := bne_eq_false_iff_eq.mpr c7
   clear c7
   by_cases c8 : t200 ≥ 0
   ·rw [if_pos c8] at H
    have c8b0 : decide (0 ≤ t200) = true := decide_eq_true c8
    clear c8
    by_cases c9 : t200 < (t197.size : Int)
    ·rw [if_pos c9] at H
     have c9b0 : decide (t200 < (t197.size : Int)) = true := decide_eq_true c9
     clear c9
     obtain rfl := Option.some.inj H
     as_aux_lemma =>
      go_enter Tryd.func10, Tryd.ntmps10
      go_wp2_with (first | ((with_reducible refine gate_callee (f := 28) rfl ?_); refine goesL_ (some 14) rfl rfl Tryd.func28 (by kernel_rfl) rfl #[.slice A0 l0.length c0] rfl (by (try simp only [List.map_toArray, List.map_cons, List.map_nil]); first | done | rfl | (simp only [List.length_drop, List.length_take]; rfl)) ?_; (with_reducible refine (laws_big.calls _ _ l0 false _ ?side1 ?side2 A2.out).mono ?_); (case side1 => repeat (first | exact HR0.out | (with_reducible refine Kd.C_alloc ?_ _) | (with_reducible refine Kd.C_drewN ?_ _) | (with_reducible refine Kd.C_drew ?_))); (case side2 => exact HC0.out); rintro e w' ⟨rfl, ⟨nd, rfl⟩⟩; refine ⟨_, rfl, ?_⟩) | ((with_reducible refine gate_callee (f := 50) rfl ?_); refine goesL_ (some 17) rfl rfl Tryd.func50 (by kernel_rfl) rfl #[.slice A0 l0.length c0] rfl (by (try simp only [List.map_toArray, List.map_cons, List.map_nil]); first | done | rfl | (simp only [List.length_drop, List.length_take]; rfl)) ?_; (with_reducible refine (spec_DrawLex.calls k _ _ l0 t197 t198 _ ?side1 ?side2 A4.out).mono ?_); (case side1 => repeat (first | exact HR0.out | (with_reducible refine Kd.C_alloc ?_ _) | (with_reducible refine Kd.C_drewN ?_ _) | (with_reducible refine Kd.C_drew ?_))); (case side2 => exact HC0.out); rintro e w10 ⟨rfl, hb⟩; refine ⟨_, rfl, ?_⟩; have n0_ := Aside0.mk (below_step (by repeat (first | (with_reducible first | exact HB.out | apply below_alloc | apply pw_below_drewN | apply below_drew1) | exact HB.out)) hb); clear HB; have HB := n0_; clear n0_; (try clear hb); (try clear hb2); (try clear hk); (try clear hi)) | ((with_reducible refine gate_callee (f := 51) rfl ?_); refine goesL_ (some 23) rfl rfl Tryd.func51 (by kernel_rfl) rfl #[.string t197, .bool t198] rfl (by (try simp only [List.map_toArray, List.map_cons, List.map_nil]); first | done | rfl | (simp only [List.length_drop, List.length_take]; rfl)) ?_; (with_reducible refine (impl_Lex.calls k t197 t198 t199 t200 _ (TabsE.below HTA.out (by repeat (first | (with_reducible first | exact HB.out | apply below_alloc | apply pw_below_drewN | apply below_drew1) | exact HB.out))) A5.out).mono ?_); rintro e w11 ⟨v201, rfl, ho0, hb⟩; refine ⟨_, rfl, ?_⟩; have n0_ := Aside0.mk (Kd.R_lower ho0 (below_size (by repeat (first | (with_reducible first | exact HB.out | apply below_alloc | apply pw_below_drewN | apply below_drew1) | exact HB.out)))); have n1_ := Aside0.mk (below_step (by repeat (first | (with_reducible first | exact HB.out | apply below_alloc | apply pw_below_drewN | apply below_drew1) | exact HB.out)) hb); clear HB; have HO202 := n0_; have HB := n1_; clear n0_ n1_; (try clear hb); (try clear hb2); (try clear hk); (try clear hi); (try clear ho0)) | ((with_reducible refine gate_callee (f := 52) rfl ?_); refine goesL_ (some 29) rfl rfl Tryd.func52 (by kernel_rfl) rfl #[.string t197, .bool t198] rfl (by (try simp only [List.map_toArray, List.map_cons, List.map_nil]); first | done | rfl | (simp only [List.length_drop, List.length_take]; rfl)) ?_; (with_reducible refine (spec_Lex.calls k t197 t198 t203 t204 _ A6.out).mono ?_); rintro e w12 ⟨v205, rfl, ho0, hb⟩; refine ⟨_, rfl, ?_⟩; have n0_ := Aside0.mk (Kd.R_elder' (by (with_reducible repeat (first | apply Kd.R_alloc | apply Kd.R_drewN | apply Kd.R_drew)); exact HO202.out) (Kd.R_base ho0) hb); have n1_ := Aside0.mk (Kd.R_lower (Kd.R_new' ho0 (Kd.R_lt (by (with_reducible repeat (first | apply Kd.R_alloc | apply Kd.R_drewN | apply Kd.R_drew)); exact HO202.out))) (below_size (by repeat (first | (with_reducible first | exact HB.out | apply below_alloc | apply pw_below_drewN | apply below_drew1) | exact HB.out)))); have n2_ := Aside0.mk (below_step (by repeat (first | (with_reducible first | exact HB.out | apply below_alloc | apply pw_below_drewN | apply below_drew1) | exact HB.out)) hb); clear HO202; clear HB; have HO202 := n0_; have HO206 := n1_; have HB := n2_; clear n0_ n1_ n2_; (try clear hb); (try clear hb2); (try clear hk); (try clear hi); (try clear ho0); obtain ⟨Ao13, co13, eo13⟩ := Kd.R_slice HO202.out; subst eo13))
      go_ret
      exact ⟨by first | rfl | (simp [errW_none, errW_some] <;> rfl) | (simp [*, errW_none, errW_some] <;> rfl), by repeat (first | (with_reducible first | exact HB.out | apply below_alloc | apply pw_below_drewN | apply below_drew1) | exact HB.out)⟩
    ·rw [if_neg c9] at H
     have c9b0 : decide (t200 < (t197.size : Int)) = false := decide_eq_false c9
     clear c9
     obtain rfl := Option.some.inj H
     as_aux_lemma =>
      go_enter Tryd.func10, Tryd.ntmps10
      go_wp2_with (first | ((with_reducible refine gate_callee (f := 28) rfl ?_); refine goesL_ (some 14) rfl rfl Tryd.func28 (by kernel_rfl) rfl #[.slice A0 l0.length c0] rfl (by (try simp only [List.map_toArray, List.map_cons, List.map_nil]); first | done | rfl | (simp only [List.length_drop, List.length_take]; rfl)) ?_; (with_reducible refine (laws_big.calls _ _ l0 false _ ?side1 ?side2 A2.out).mono ?_); (case side1 => repeat (first | exact HR0.out | (with_reducible refine Kd.C_alloc ?_ _) | (with_reducible refine Kd.C_drewN ?_ _) | (with_reducible refine Kd.C_drew ?_))); (case side2 => exact HC0.out); rintro e w' ⟨rfl, ⟨nd, rfl⟩⟩; refine ⟨_, rfl, ?_⟩) | ((with_reducible refine gate_callee (f := 50) rfl ?_); refine goesL_ (some 17) rfl rfl Tryd.func50 (by kernel_rfl) rfl #[.slice A0 l0.length c0] rfl (by (try simp only [List.map_toArray, List.map_cons, List.map_nil]); first | done | rfl | (simp only [List.length_drop, List.length_take]; rfl)) ?_; (with_reducible refine (spec_DrawLex.calls k _ _ l0 t197 t198 _ ?side1 ?side2 A4.out).mono ?_); (case side1 => repeat (first | exact HR0.out | (with_reducible refine Kd.C_alloc ?_ _) | (with_reducible refine Kd.C_drewN ?_ _) | (with_reducible refine Kd.C_drew ?_))); (case side2 => exact HC0.out); rintro e w14 ⟨rfl, hb⟩; refine ⟨_, rfl, ?_⟩; have n0_ := Aside0.mk (below_step (by repeat (first | (with_reducible first | exact HB.out | apply below_alloc | apply pw_below_drewN | apply below_drew1) | exact HB.out)) hb); clear HB; have HB := n0_; clear n0_; (try clear hb); (try clear hb2); (try clear hk); (try clear hi)) | ((with_reducible refine gate_callee (f := 51) rfl ?_); refine goesL_ (some 23) rfl rfl Tryd.func51 (by kernel_rfl) rfl #[.string t197, .bool t198] rfl (by (try simp only [List.map_toArray, List.map_cons, List.map_nil]); first | done | rfl | (simp only [List.length_drop, List.length_take]; rfl)) ?_; (with_reducible refine (impl_Lex.calls k t197 t198 t199 t200 _ (TabsE.below HTA.out (by repeat (first | (with_reducible first | exact HB.out | apply below_alloc | apply pw_below_drewN | apply below_drew1) | exact HB.out))) A5.out).mono ?_); rintro e w15 ⟨v201, rfl, ho0, hb⟩; refine ⟨_, rfl, ?_⟩; have n0_ := Aside0.mk (Kd.R_lower ho0 (below_size (by repeat (first | (with_reducible first | exact HB.out | apply below_alloc | apply pw_below_drewN | apply below_drew1) | exact HB.out)))); have n1_ := Aside0.mk (below_step (by repeat (first | (with_reducible first | exact HB.out | apply below_alloc | apply pw_below_drewN | apply below_drew1) | exact HB.out)) hb); clear HB; have HO202 := n0_; have HB := n1_; clear n0_ n1_; (try clear hb); (try clear hb2); (try clear hk); (try clear hi); (try clear ho0)) | ((with_reducible refine gate_callee (f := 52) rfl ?_); refine goesL_ (some 29) rfl rfl Tryd.func52 (by kernel_rfl) rfl #[.string t197, .bool t198] rfl (by (try simp only [List.map_toArray, List.map_cons, List.map_nil]); first | done | rfl | (simp only [List.length_drop, List.length_take]; rfl)) ?_; (with_reducible refine (spec_Lex.calls k t197 t198 t203 t204 _ A6.out).mono ?_); rintro e w16 ⟨v205, rfl, ho0, hb⟩; refine ⟨_, rfl, ?_⟩; have n0_ := Aside0.mk (Kd.R_elder' (by (with_reducible repeat (first | apply Kd.R_alloc | apply Kd.R_drewN | apply Kd.R_drew)); exact HO202.out) (Kd.R_base ho0) hb); have n1_ := Aside0.mk (Kd.R_lower (Kd.R_new' ho0 (Kd.R_lt (by (with_reducible repeat (first | apply Kd.R_alloc | apply Kd.R_drewN | apply Kd.R_drew)); exact HO202.out))) (below_size (by repeat (first | (with_reducible first | exact HB.out | apply below_alloc | apply pw_below_drewN | apply below_drew1) | exact HB.out)))); have n2_ := Aside0.mk (below_step (by repeat (first | (with_reducible first | exact HB.out | apply below_alloc | apply pw_below_drewN | apply below_drew1) | exact HB.out)) hb); clear HO202; clear HB; have HO202 := n0_; have HO206 := n1_; have HB := n2_; clear n0_ n1_ n2_; (try clear hb); (try clear hb2); (try clear hk); (try clear hi); (try clear ho0)))
      go_ret
      exact ⟨by first | rfl | (simp [errW_none, errW_some] <;> rfl) | (simp [*, errW_none, errW_some] <;> rfl), by repeat (first | (with_reducible first | exact HB.out | apply below_alloc | apply pw_below_drewN | apply below_drew1) | exact HB.out)⟩
   ·rw [if_neg c8] at H
    have c8b0 : decide (0 ≤ t200) = false := decide_eq_false c8
    clear c8
    have H' := Aside0.mk H
    clear H
    as_aux_lemma =>
     go_enter Tryd.func10, Tryd.ntmps10
     go_wp2_with (first | ((with_reducible refine gate_callee (f := 28) rfl ?_); refine goesL_ (some 14) rfl rfl Tryd.func28 (by kernel_rfl) rfl #[.slice A0 l0.length c0] rfl (by (try simp only [List.map_toArray, List.map_cons, List.map_nil]); first | done | rfl | (simp only [List.length_drop, List.length_take]; rfl)) ?_; (with_reducible refine (laws_big.calls _ _ l0 false _ ?side1 ?side2 A2.out).mono ?_); (case side1 => repeat (first | exact HR0.out | (with_reducible refine Kd.C_alloc ?_ _) | (with_reducible refine Kd.C_drewN ?_ _) | (with_reducible refine Kd.C_drew ?_))); (case side2 => exact HC0.out); rintro e w' ⟨rfl, ⟨nd, rfl⟩⟩; refine ⟨_, rfl, ?_⟩) | ((with_reducible refine gate_callee (f := 50) rfl ?_); refine goesL_ (some 17) rfl rfl Tryd.func50 (by kernel_rfl) rfl #[.slice A0 l0.length c0] rfl (by (try simp only [List.map_toArray, List.map_cons, List.map_nil]); first | done | rfl | (simp only [List.length_drop, List.length_take]; rfl)) ?_; (with_reducible refine (spec_DrawLex.calls k _ _ l0 t197 t198 _ ?side1 ?side2 A4.out).mono ?_); (case side1 => repeat (first | exact HR0.out | (with_reducible refine Kd.C_alloc ?_ _) | (with_reducible refine Kd.C_drewN ?_ _) | (with_reducible refine Kd.C_drew ?_))); (case side2 => exact HC0.out); rintro e w17 ⟨rfl, hb⟩; refine ⟨_, rfl, ?_⟩; have n0_ := Aside0.mk (below_step (by repeat (first | (with_reducible first | exact HB.out | apply below_alloc | apply pw_below_drewN | apply below_drew1) | exact HB.out)) hb); clear HB; have HB := n0_; clear n0_; (try clear hb); (try clear hb2); (try clear hk); (try clear hi)) | ((with_reducible refine gate_callee (f := 51) rfl ?_); refine goesL_ (some 23) rfl rfl Tryd.func51 (by kernel_rfl) rfl #[.string t197, .bool t198] rfl (by (try simp only [List.map_toArray, List.map_cons, List.map_nil]); first | done | rfl | (simp only [List.length_drop, List.length_take]; rfl)) ?_; (with_reducible refine (impl_Lex.calls k t197 t198 t199 t200 _ (TabsE.below HTA.out (by repeat (first | (with_reducible first | exact HB.out | apply below_alloc | apply pw_below_drewN | apply below_drew1) | exact HB.out))) A5.out).mono ?_); rintro e w18 ⟨v201, rfl, ho0, hb⟩; refine ⟨_, rfl, ?_⟩; have n0_ := Aside0.mk (Kd.R_lower ho0 (below_size (by repeat (first | (with_reducible first | exact HB.out | apply below_alloc | apply pw_below_drewN | apply below_drew1) | exact HB.out)))); have n1_ := Aside0.mk (below_step (by repeat (first | (with_reducible first | exact HB.out | apply below_alloc | apply pw_below_drewN | apply below_drew1) | exact HB.out)) hb); clear HB; have HO202 := n0_; have HB := n1_; clear n0_ n1_; (try clear hb); (try clear hb2); (try clear hk); (try clear hi); (try clear ho0)) | ((with_reducible refine gate_callee (f := 52) rfl ?_); refine goesL_ (some 29) rfl rfl Tryd.func52 (by kernel_rfl) rfl #[.string t197, .bool t198] rfl (by (try simp only [List.map_toArray, List.map_cons, List.map_nil]); first | done | rfl | (simp only [List.length_drop, List.length_take]; rfl)) ?_; (with_reducible refine (spec_Lex.calls k t197 t198 t203 t204 _ A6.out).mono ?_); rintro e w19 ⟨v205, rfl, ho0, hb⟩; refine ⟨_, rfl, ?_⟩; have n0_ := Aside0.mk (Kd.R_elder' (by (with_reducible repeat (first | apply Kd.R_alloc | apply Kd.R_drewN | apply Kd.R_drew)); exact HO202.out) (Kd.R_base ho0) hb); have n1_ := Aside0.mk (Kd.R_lower (Kd.R_new' ho0 (Kd.R_lt (by (with_reducible repeat (first | apply Kd.R_alloc | apply Kd.R_drewN | apply Kd.R_drew)); exact HO202.out))) (below_size (by repeat (first | (with_reducible first | exact HB.out | apply below_alloc | apply pw_below_drewN | apply below_drew1) | exact HB.out)))); have n2_ := Aside0.mk (below_step (by repeat (first | (with_reducible first | exact HB.out | apply below_alloc | apply pw_below_drewN | apply below_drew1) | exact HB.out)) hb); clear HO202; clear HB; have HO202 := n0_; have HO206 := n1_; have HB := n2_; clear n0_ n1_ n2_; (try clear hb); (try clear hb2); (try clear hk); (try clear hi); (try clear ho0)))
     go_loopg [9] k (fun kq v9 w' => ∃ (x9_1 : Int), v9 = .int .i64 x9_1 ∧ Aside0 (laws_FnLex.l0 kq t197 t198 t199 x9_1 = some r) ∧ Aside0 (kq ≤ k) ∧ Aside0 (Kd.R k70 70 w' w.heap.size (fun _ => True) v201 t199) ∧ Aside0 (Below w.heap.size w w'))
     case atStart => exact ⟨(0), (by first | rfl | (simp; done) | (simp [*]; done)), H', ⟨Nat.le_refl _⟩, ⟨by (with_reducible repeat (first | apply Kd.R_alloc | apply Kd.R_drewN | apply Kd.R_drew)); exact Kd.R_mono HO202.out (fun _ hk => trivial)⟩, ⟨by repeat (first | (with_reducible first | exact HB.out | apply below_alloc | apply pw_below_drewN | apply below_drew1) | exact HB.out)⟩⟩
     case round =>
      clear H'
      try clear c1
      try clear c2
      try clear p2
      try clear c3
      try clear c5
      try clear c7
      try clear c7b0
      try clear c7b1
      try clear c8
      try clear c8b0
      try clear c9
      try clear c9b0
      try clear c10
      obtain ⟨x9_1, rfl, HA, HK1, HO_5, HB⟩ := hrel
      cases gk with
      | zero => exact absurd HA.out (by simp [laws_FnLex.l0])
      | succ k1 =>
       have H := HA.out
       clear HA
       simp only [laws_FnLex.l0] at H
       by_cases c20 : x9_1 < (t199.length : Int)
       ·rw [if_pos c20] at H
        have c20b0 : decide (x9_1 < (t199.length : Int)) = true := decide_eq_true c20
        clear c20
        have HC21 := Aside0.mk H
        clear H
        obtain ⟨Ao22, co22, eo22⟩ := Kd.R_slice HO_5.out
        subst eo22
        go_upto_region 13 with (fail)
        go_cut [85] (fun v85 wc => ∃ (kq : Nat) (x85_20 : Bool), v85 = .bool x85_20 ∧ Aside0 (laws_FnLex.j1 kq t197 t198 t199 x9_1 x85_20 = some r) ∧ Aside0 (kq ≤ k1) ∧ Aside0 (Kd.R k70 70 wc w.heap.size (fun _ => True) (.slice Ao22 t199.length co22) t199) ∧ Aside0 (Below w.heap.size w wc))
        case first =>
         have H := HC21.out
         clear HC21
         by_cases c23 : 0 ≤ x9_1
         ·rw [if_pos c23] at H
          have c23b0 : decide (0 ≤ x9_1) = true := decide_eq_true c23
          clear c23
          (first | rw [c23b0] | (simp only [i64_w, i32_w]; rw [c23b0]) | skip)
          by_cases c24 : ((rd_T70 t199 x9_1).f3) < 0
          ·rw [if_pos c24] at H
           have c24b0 : decide (((rd_T70 t199 x9_1).f3) < 0) = true := decide_eq_true c24
           clear c24
           have H' := Aside0.mk H
           clear H
           as_aux_lemma =>
            try go_wp2
            have p207 : 0 ≤ (x9_1 : Int) := of_decide_eq_true (by first | (with_reducible assumption) | assumption)
            have q207 : x9_1 < (t199.length : Int) := of_decide_eq_true (by first | (with_reducible assumption) | assumption)
            obtain ⟨ad207, e207, hx207_0, hx207_1, hx207_2, hx207_3⟩ := at_T70 (Kd.R_reads' HO_5.out).2.2 x9_1 p207 q207
            cases e207
            replace p207 := eq_true p207
            replace q207 := eq_true q207
            go_quiet (fail)
            try go_wp2
            go_meet
            case rel => exact ⟨_, (true), (by first | rfl | (simp; done) | (simp [*]; done)), H', ⟨by have := HK1.out; first | omega | exact Nat.le_refl _⟩, ⟨by (with_reducible repeat (first | apply Kd.R_alloc | apply Kd.R_drewN | apply Kd.R_drew)); (first | exact HO_5.out | exact Kd.R_mono HO_5.out (fun k_ h_ => by first | exact h_ | (simpa [Value.ownBlock] using h_) | (have e_ : ∀ (A : Option Addr) (n m c : Nat), (Value.slice A n c).ownBlock = (Value.slice A m c).ownBlock := (fun A n m c => by cases A <;> rfl); rw [e_ _ _ 0 _] at h_ ⊢; exact h_)))⟩, ⟨by repeat (first | (with_reducible first | exact HB.out | apply below_alloc | apply pw_below_drewN | apply below_drew1) | exact HB.out)⟩⟩
          ·rw [if_neg c24] at H
           have c24b0 : decide (((rd_T70 t199 x9_1).f3) < 0) = false := decide_eq_false c24
           clear c24
           by_cases c26 : ((rd_T70 t199 x9_1).f3) ≥ (t197.size : Int)
           ·rw [if_pos c26] at H
            have c26b0 : decide ((t197.size : Int) ≤ ((rd_T70 t199 x9_1).f3)) = true := decide_eq_true c26
            clear c26
            have H' := Aside0.mk H
            clear H
            as_aux_lemma =>
             try go_wp2
             have p207 : 0 ≤ (x9_1 : Int) := of_decide_eq_true (by first | (with_reducible assumption) | assumption)
             have q207 : x9_1 < (t199.length : Int) := of_decide_eq_true (by first | (with_reducible assumption) | assumption)
             obtain ⟨ad207, e207, hx207_0, hx207_1, hx207_2, hx207_3⟩ := at_T70 (Kd.R_reads' HO_5.out).2.2 x9_1 p207 q207
             cases e207
             replace p207 := eq_true p207
             replace q207 := eq_true q207
             have p208 : 0 ≤ (x9_1 : Int) := of_decide_eq_true (by first | (with_reducible assumption) | assumption)
             have q208 : x9_1 < (t199.length : Int) := of_decide_eq_true (by first | (with_reducible assumption) | assumption)
             obtain ⟨ad208, e208, hx208_0, hx208_1, hx208_2, hx208_3⟩ := at_T70 (Kd.R_reads' HO_5.out).2.2 x9_1 p208 q208
             obtain rfl : ad207 = ad208 := (by injection e208)
             replace p208 := eq_true p208
             replace q208 := eq_true q208
             go_quiet (fail)
             try go_wp2
             go_meet
             case rel => exact ⟨_, (true), (by first | rfl | (simp; done) | (simp [*]; done)), H', ⟨by have := HK1.out; first | omega | exact Nat.le_refl _⟩, ⟨by (with_reducible repeat (first | apply Kd.R_alloc | apply Kd.R_drewN | apply Kd.R_drew)); (first | exact HO_5.out | exact Kd.R_mono HO_5.out (fun k_ h_ => by first | exact h_ | (simpa [Value.ownBlock] using h_) | (have e_ : ∀ (A : Option Addr) (n m c : Nat), (Value.slice A n c).ownBlock = (Value.slice A m c).ownBlock := (fun A n m c => by cases A <;> rfl); rw [e_ _ _ 0 _] at h_ ⊢; exact h_)))⟩, ⟨by repeat (first | (with_reducible first | exact HB.out | apply below_alloc | apply pw_below_drewN | apply below_drew1) | exact HB.out)⟩⟩
           ·rw [if_neg c26] at H
            have c26b0 : decide ((t197.size : Int) ≤ ((rd_T70 t199 x9_1).f3)) = false := decide_eq_false c26
            clear c26
            by_cases c28 : x9_1 > 0
            ·rw [if_pos c28] at H
             have c28b0 : decide (0 < x9_1) = true := decide_eq_true c28
             clear c28
             obtain ⟨ji29, hji29⟩ : ∃ j_ : Int, (wrap64 (x9_1 - 1)) = j_ := ⟨_, rfl⟩
             replace H : (if 0 ≤ (ji29) then (if (ji29) < (t199.length : Int) then (laws_FnLex.j1 k1 t197 t198 t199 x9_1 (decide (((rd_T70 t199 (ji29)).f3) ≥ ((rd_T70 t199 x9_1).f3)))) else (none)) else (none)) = some r := by first | (rw [hji29] at H; exact H) | (simp only [hji29] at H ⊢; exact H)
             have hji29w : (IntKind.i64.wrap (x9_1 - 1)) = ji29 := (i64_w _).trans hji29
             by_cases c30 : 0 ≤ (ji29)
             ·rw [if_pos c30] at H
              have c30b0 : decide (0 ≤ (ji29)) = true := decide_eq_true c30
              clear c30
              by_cases c31 : (ji29) < (t199.length : Int)
              ·rw [if_pos c31] at H
               have c31b0 : decide ((ji29) < (t199.length : Int)) = true := decide_eq_true c31
               clear c31
               have H' := Aside0.mk H
               clear H
               as_aux_lemma =>
                try go_wp2
                have p207 : 0 ≤ (x9_1 : Int) := of_decide_eq_true (by first | (with_reducible assumption) | assumption)
                have q207 : x9_1 < (t199.length : Int) := of_decide_eq_true (by first | (with_reducible assumption) | assumption)
                obtain ⟨ad207, e207, hx207_0, hx207_1, hx207_2, hx207_3⟩ := at_T70 (Kd.R_reads' HO_5.out).2.2 x9_1 p207 q207
                cases e207
                replace p207 := eq_true p207
                replace q207 := eq_true q207
                have p208 : 0 ≤ (x9_1 : Int) := of_decide_eq_true (by first | (with_reducible assumption) | assumption)
                have q208 : x9_1 < (t199.length : Int) := of_decide_eq_true (by first | (with_reducible assumption) | assumption)
                obtain ⟨ad208, e208, hx208_0, hx208_1, hx208_2, hx208_3⟩ := at_T70 (Kd.R_reads' HO_5.out).2.2 x9_1 p208 q208
                obtain rfl : ad207 = ad208 := (by injection e208)
                replace p208 := eq_true p208
                replace q208 := eq_true q208
                have p209 : 0 ≤ ((ji29) : Int) := of_decide_eq_true (by first | (with_reducible assumption) | assumption)
                have q209 : (ji29) < (t199.length : Int) := of_decide_eq_true (by first | (with_reducible assumption) | assumption)
                obtain ⟨ad209, e209, hx209_0, hx209_1, hx209_2, hx209_3⟩ := at_T70 (Kd.R_reads' HO_5.out).2.2 (ji29) p209 q209
                obtain rfl : ad207 = ad209 := (by injection e209)
                replace p209 := eq_true p209
                replace q209 := eq_true q209
                have p210 : 0 ≤ (x9_1 : Int) := of_decide_eq_true (by first | (with_reducible assumption) | assumption)
                have q210 : x9_1 < (t199.length : Int) := of_decide_eq_true (by first | (with_reducible assumption) | assumption)
                obtain ⟨ad210, e210, hx210_0, hx210_1, hx210_2, hx210_3⟩ := at_T70 (Kd.R_reads' HO_5.out).2.2 x9_1 p210 q210
                obtain rfl : ad207 = ad210 := (by injection e210)
                replace p210 := eq_true p210
                replace q210 := eq_true q210
                go_quiet (fail)
                try go_wp2
                go_meet
                case rel => exact ⟨_, (decide (((rd_T70 t199 (ji29)).f3) ≥ ((rd_T70 t199 x9_1).f3))), (by first | rfl | (simp; done) | (simp only [← hji29] <;> (first | rfl | simp)) | (simp [*]; done)), H', ⟨by have := HK1.out; first | omega | exact Nat.le_refl _⟩, ⟨by (with_reducible repeat (first | apply Kd.R_alloc | apply Kd.R_drewN | apply Kd.R_drew)); (first | exact HO_5.out | exact Kd.R_mono HO_5.out (fun k_ h_ => by first | exact h_ | (simpa [Value.ownBlock] using h_) | (have e_ : ∀ (A : Option Addr) (n m c : Nat), (Value.slice A n c).ownBlock = (Value.slice A m c).ownBlock := (fun A n m c => by cases A <;> rfl); rw [e_ _ _ 0 _] at h_ ⊢; exact h_)))⟩, ⟨by repeat (first | (with_reducible first | exact HB.out | apply below_alloc | apply pw_below_drewN | apply below_drew1) | exact HB.out)⟩⟩
              ·rw [if_neg c31] at H
               exact absurd H (by simp)
             ·rw [if_neg c30] at H
              exact absurd H (by simp)
            ·rw [if_neg c28] at H
             have c28b0 : decide (0 < x9_1) = false := decide_eq_false c28
             clear c28
             have H' := Aside0.mk H
             clear H
             as_aux_lemma =>
              try go_wp2
              have p207 : 0 ≤ (x9_1 : Int) := of_decide_eq_true (by first | (with_reducible assumption) | assumption)
              have q207 : x9_1 < (t199.length : Int) := of_decide_eq_true (by first | (with_reducible assumption) | assumption)
              obtain ⟨ad207, e207, hx207_0, hx207_1, hx207_2, hx207_3⟩ := at_T70 (Kd.R_reads' HO_5.out).2.2 x9_1 p207 q207
              cases e207
              replace p207 := eq_true p207
              replace q207 := eq_true q207
              have p208 : 0 ≤ (x9_1 : Int) := of_decide_eq_true (by first | (with_reducible assumption) | assumption)
              have q208 : x9_1 < (t199.length : Int) := of_decide_eq_true (by first | (with_reducible assumption) | assumption)
              obtain ⟨ad208, e208, hx208_0, hx208_1, hx208_2, hx208_3⟩ := at_T70 (Kd.R_reads' HO_5.out).2.2 x9_1 p208 q208
              obtain rfl : ad207 = ad208 := (by injection e208)
              replace p208 := eq_true p208
              replace q208 := eq_true q208
              go_quiet (fail)
              try go_wp2
              go_meet
              case rel => exact ⟨_, (false), (by first | rfl | (simp; done) | (simp [*]; done)), H', ⟨by have := HK1.out; first | omega | exact Nat.le_refl _⟩, ⟨by (with_reducible repeat (first | apply Kd.R_alloc | apply Kd.R_drewN | apply Kd.R_drew)); (first | exact HO_5.out | exact Kd.R_mono HO_5.out (fun k_ h_ => by first | exact h_ | (simpa [Value.ownBlock] using h_) | (have e_ : ∀ (A : Option Addr) (n m c : Nat), (Value.slice A n c).ownBlock = (Value.slice A m c).ownBlock := (fun A n m c => by cases A <;> rfl); rw [e_ _ _ 0 _] at h_ ⊢; exact h_)))⟩, ⟨by repeat (first | (with_reducible first | exact HB.out | apply below_alloc | apply pw_below_drewN | apply below_drew1) | exact HB.out)⟩⟩
         ·rw [if_neg c23] at H
          exact absurd H (by simp)
        case rest =>
         clear HC21
         try clear c2
         try clear p2
         try clear q2
         try clear hx2
         try clear c3
         try clear p6
         try clear p20
         try clear q20
         try clear hx20
         try clear p21
         try clear q21
         try clear hx21
         try clear c23
         try clear c26
         try clear c26b0
         try clear c28
         try clear c28b0
         try clear c30
         try clear c30b0
         try clear c31
         try clear c31b0
         try clear hx207_0
         try clear hx207_1
         try clear hx207_2
         try clear hx207_3
         try clear hx208_0
         try clear hx208_1
         try clear hx208_2
         try clear hx208_3
         try clear hx209_0
         try clear hx209_1
         try clear hx209_2
         try clear hx209_3
         try clear hx210_0
         try clear hx210_1
         try clear hx210_2
         try clear hx210_3
         try clear p207
         try clear p208
         try clear p209
         try clear p210
         try clear q207
         try clear q208
         try clear q209
         try clear q210
         obtain ⟨kq, x85_20, rfl, HA, HJ20, HO_5, HB⟩ := hcut
         cases kq with
         | zero => exact absurd HA.out (by simp [laws_FnLex.j1])
         | succ kj20 =>
          have H := HA.out
          clear HA
          simp only [laws_FnLex.j1] at H
          by_cases c34 : x85_20 = true
          ·subst c34
           have H1 : (some false) = some r := by rw [if_pos rfl] at H; exact H
           clear H
           have H := H1
           clear H1
           obtain rfl := Option.some.inj H
           as_aux_lemma =>
            go_wp2
            go_ret
            exact ⟨by first | rfl | (simp [errW_none, errW_some] <;> rfl) | (simp [*, errW_none, errW_some] <;> rfl), by repeat (first | (with_reducible first | exact HB.out | apply below_alloc | apply pw_below_drewN | apply below_drew1) | exact HB.out)⟩
          ·replace c34 := Bool.eq_false_iff.mpr c34
           subst c34
           have H1 : (if 0 ≤ x9_1 then (if x9_1 < (t199.length : Int) then (if ((rd_T70 t199 x9_1).f0) = 1 then (if 0 ≤ ((rd_T70 t199 x9_1).f3) then (if ((rd_T70 t199 x9_1).f3) ≤ (t197.size : Int) then ((laws_begins.f ((rd_T70 t199 x9_1).f1) (t197.extract (((rd_T70 t199 x9_1).f3) : Int).toNat t197.size)).bind fun t214 => (if t214 = true then (if ((rd_T70 t199 x9_1).f0) = 3 then (if 1 + ((rd_T70 t199 x9_1).f1).size ≤ 9223372036854775807 then (if ((⟨#[34]⟩ : ByteArray) ++ ((rd_T70 t199 x9_1).f1)).size + 1 ≤ 9223372036854775807 then ((laws_begins.f (((⟨#[34]⟩ : ByteArray) ++ ((rd_T70 t199 x9_1).f1)) ++ (⟨#[34]⟩ : ByteArray)) (t197.extract (((rd_T70 t199 x9_1).f3) : Int).toNat t197.size)).bind fun t218 => (if t218 = true then (laws_FnLex.l0 kj20 t197 t198 t199 (wrap64 (x9_1 + 1))) else (some false))) else (none)) else (none)) else (laws_FnLex.l0 kj20 t197 t198 t199 (wrap64 (x9_1 + 1)))) else (some false))) else (none)) else (none)) else (if ((rd_T70 t199 x9_1).f0) = 3 then (if 1 + ((rd_T70 t199 x9_1).f1).size ≤ 9223372036854775807 then (if ((⟨#[34]⟩ : ByteArray) ++ ((rd_T70 t199 x9_1).f1)).size + 1 ≤ 9223372036854775807 then (if 0 ≤ ((rd_T70 t199 x9_1).f3) then (if ((rd_T70 t199 x9_1).f3) ≤ (t197.size : Int) then ((laws_begins.f (((⟨#[34]⟩ : ByteArray) ++ ((rd_T70 t199 x9_1).f1)) ++ (⟨#[34]⟩ : ByteArray)) (t197.extract (((rd_T70 t199 x9_1).f3) : Int).toNat t197.size)).bind fun t222 => (if t222 = true then (laws_FnLex.l0 kj20 t197 t198 t199 (wrap64 (x9_1 + 1))) else (some false))) else (none)) else (none)) else (none)) else (none)) else (laws_FnLex.l0 kj20 t197 t198 t199 (wrap64 (x9_1 + 1))))) else (none)) else (none)) = some r := by rw [if_neg (show ¬ (false = true) by decide)] at H; exact H
           clear H
           have H := H1
           clear H1
           by_cases c35 : 0 ≤ x9_1
           ·rw [if_pos c35] at H
            have c35b0 : decide (0 ≤ x9_1) = true := decide_eq_true c35
            clear c35
            by_cases c36 : x9_1 < (t199.length : Int)
            ·rw [if_pos c36] at H
             have c36b0 : decide (x9_1 < (t199.length : Int)) = true := decide_eq_true c36
             clear c36
             by_cases c37 : ((rd_T70 t199 x9_1).f0) = 1
             ·rw [if_pos c37] at H
              have c37b0 : (((rd_T70 t199 x9_1).f0) == 1) = true := beq_iff_eq.mpr c37
              have c37b1 : (((rd_T70 t199 x9_1).f0) != 1) = false := bne_eq_false_iff_eq.mpr c37
              clear c37
              by_cases c38 : 0 ≤ ((rd_T70 t199 x9_1).f3)
              ·rw [if_pos c38] at H
               have c38b0 := eq_true c38
               have c38b1 : decide (0 ≤ ((rd_T70 t199 x9_1).f3)) = true := decide_eq_true c38
               clear c38
               by_cases c39 : ((rd_T70 t199 x9_1).f3) ≤ (t197.size : Int)
               ·rw [if_pos c39] at H
                have c39b0 := eq_true c39
                have c39b1 : decide (((rd_T70 t199 x9_1).f3) ≤ (t197.size : Int)) = true := decide_eq_true c39
                clear c39
                replace H := Option.bind_eq_some_iff.mp H
                obtain ⟨t214, A400, H⟩ := H
                replace H : (if t214 = true then (if ((rd_T70 t199 x9_1).f0) = 3 then (if 1 + ((rd_T70 t199 x9_1).f1).size ≤ 9223372036854775807 then (if ((⟨#[34]⟩ : ByteArray) ++ ((rd_T70 t199 x9_1).f1)).size + 1 ≤ 9223372036854775807 then ((laws_begins.f (((⟨#[34]⟩ : ByteArray) ++ ((rd_T70 t199 x9_1).f1)) ++ (⟨#[34]⟩ : ByteArray)) (t197.extract (((rd_T70 t199 x9_1).f3) : Int).toNat t197.size)).bind fun t218 => (if t218 = true then (laws_FnLex.l0 kj20 t197 t198 t199 (wrap64 (x9_1 + 1))) else (some false))) else (none)) else (none)) else (laws_FnLex.l0 kj20 t197 t198 t199 (wrap64 (x9_1 + 1)))) else (some false)) = some r := H
                have A40 := Aside0.mk A400
                clear A400
                by_cases c41 : t214 = true
                ·subst c41
                 have H1 : (if ((rd_T70 t199 x9_1).f0) = 3 then (if 1 + ((rd_T70 t199 x9_1).f1).size ≤ 9223372036854775807 then (if ((⟨#[34]⟩ : ByteArray) ++ ((rd_T70 t199 x9_1).f1)).size + 1 ≤ 9223372036854775807 then ((laws_begins.f (((⟨#[34]⟩ : ByteArray) ++ ((rd_T70 t199 x9_1).f1)) ++ (⟨#[34]⟩ : ByteArray)) (t197.extract (((rd_T70 t199 x9_1).f3) : Int).toNat t197.size)).bind fun t218 => (if t218 = true then (laws_FnLex.l0 kj20 t197 t198 t199 (wrap64 (x9_1 + 1))) else (some false))) else (none)) else (none)) else (laws_FnLex.l0 kj20 t197 t198 t199 (wrap64 (x9_1 + 1)))) = some r := by rw [if_pos rfl] at H; exact H
                 clear H
                 have H := H1
                 clear H1
                 by_cases c42 : ((rd_T70 t199 x9_1).f0) = 3
                 ·rw [if_pos c42] at H
                  have c42b0 : (((rd_T70 t199 x9_1).f0) == 3) = true := beq_iff_eq.mpr c42
                  have c42b1 : (((rd_T70 t199 x9_1).f0) != 3) = false := bne_eq_false_iff_eq.mpr c42
                  clear c42
                  by_cases c43 : 1 + ((rd_T70 t199 x9_1).f1).size ≤ 9223372036854775807
                  ·rw [if_pos c43] at H
                   have c43b0 := eq_true c43
                   have c43b1 : decide (1 + ((rd_T70 t199 x9_1).f1).size ≤ 9223372036854775807) = true := decide_eq_true c43
                   try have c43b2 : (9223372036854775807 < 1 + ((rd_T70 t199 x9_1).f1).size) = False := eq_false (Nat.not_lt.2 c43)
                   by_cases c44 : ((⟨#[34]⟩ : ByteArray) ++ ((rd_T70 t199 x9_1).f1)).size + 1 ≤ 9223372036854775807
                   ·rw [if_pos c44] at H
                    have c44b0 := eq_true c44
                    have c44b1 : decide (((⟨#[34]⟩ : ByteArray) ++ ((rd_T70 t199 x9_1).f1)).size + 1 ≤ 9223372036854775807) = true := decide_eq_true c44
                    try have c44b2 : (9223372036854775807 < ((⟨#[34]⟩ : ByteArray) ++ ((rd_T70 t199 x9_1).f1)).size + 1) = False := eq_false (Nat.not_lt.2 c44)
                    have c44b7 : (9223372036854775807 < 1 + ((rd_T70 t199 x9_1).f1).size + 1) = False := by have h_ := c44; rw [ByteArray.size_append, show (⟨#[34]⟩ : ByteArray).size = 1 from rfl] at h_; exact eq_false (Nat.not_lt.2 h_)
                    have c45b0 := eq_true (of_decide_eq_true (by first | (with_reducible assumption) | assumption) : 0 ≤ ((rd_T70 t199 x9_1).f3))
                    have c46b0 := eq_true (of_decide_eq_true (by first | (with_reducible assumption) | assumption) : ((rd_T70 t199 x9_1).f3) ≤ (t197.size : Int))
                    replace H := Option.bind_eq_some_iff.mp H
                    obtain ⟨t218, A470, H⟩ := H
                    replace H : (if t218 = true then (laws_FnLex.l0 kj20 t197 t198 t199 (wrap64 (x9_1 + 1))) else (some false)) = some r := H
                    have A47 := Aside0.mk A470
                    clear A470
                    by_cases c48 : t218 = true
                    ·subst c48
                     have H1 : (laws_FnLex.l0 kj20 t197 t198 t199 (wrap64 (x9_1 + 1))) = some r := by rw [if_pos rfl] at H; exact H
                     clear H
                     have H := H1
                     clear H1
                     have H' := Aside0.mk H
                     clear H
                     as_aux_lemma =>
                      try go_wp2
                      have p211 : 0 ≤ (x9_1 : Int) := of_decide_eq_true (by first | (with_reducible assumption) | assumption)
                      have q211 : x9_1 < (t199.length : Int) := of_decide_eq_true (by first | (with_reducible assumption) | assumption)
                      obtain ⟨ad211, e211, hx211_0, hx211_1, hx211_2, hx211_3⟩ := at_T70 (Kd.R_reads' HO_5.out).2.2 x9_1 p211 q211
                      cases e211
                      replace p211 := eq_true p211
                      replace q211 := eq_true q211
                      have p212 : 0 ≤ (x9_1 : Int) := of_decide_eq_true (by first | (with_reducible assumption) | assumption)
                      have q212 : x9_1 < (t199.length : Int) := of_decide_eq_true (by first | (with_reducible assumption) | assumption)
                      obtain ⟨ad212, e212, hx212_0, hx212_1, hx212_2, hx212_3⟩ := at_T70 (Kd.R_reads' HO_5.out).2.2 x9_1 p212 q212
                      obtain rfl : ad211 = ad212 := (by injection e212)
                      replace p212 := eq_true p212
                      replace q212 := eq_true q212
                      have p213 : 0 ≤ (x9_1 : Int) := of_decide_eq_true (by first | (with_reducible assumption) | assumption)
                      have q213 : x9_1 < (t199.length : Int) := of_decide_eq_true (by first | (with_reducible assumption) | assumption)
                      obtain ⟨ad213, e213, hx213_0, hx213_1, hx213_2, hx213_3⟩ := at_T70 (Kd.R_reads' HO_5.out).2.2 x9_1 p213 q213
                      obtain rfl : ad211 = ad213 := (by injection e213)
                      replace p213 := eq_true p213
                      replace q213 := eq_true q213
                      have p215 : 0 ≤ (x9_1 : Int) := of_decide_eq_true (by first | (with_reducible assumption) | assumption)
                      have q215 : x9_1 < (t199.length : Int) := of_decide_eq_true (by first | (with_reducible assumption) | assumption)
                      obtain ⟨ad215, e215, hx215_0, hx215_1, hx215_2, hx215_3⟩ := at_T70 (Kd.R_reads' HO_5.out).2.2 x9_1 p215 q215
                      obtain rfl : ad211 = ad215 := (by injection e215)
                      replace p215 := eq_true p215
                      replace q215 := eq_true q215
                      have p216 : 0 ≤ (x9_1 : Int) := of_decide_eq_true (by first | (with_reducible assumption) | assumption)
                      have q216 : x9_1 < (t199.length : Int) := of_decide_eq_true (by first | (with_reducible assumption) | assumption)
                      obtain ⟨ad216, e216, hx216_0, hx216_1, hx216_2, hx216_3⟩ := at_T70 (Kd.R_reads' HO_5.out).2.2 x9_1 p216 q216
                      obtain rfl : ad211 = ad216 := (by injection e216)
                      replace p216 := eq_true p216
                      replace q216 := eq_true q216
                      have p217 : 0 ≤ (x9_1 : Int) := of_decide_eq_true (by first | (with_reducible assumption) | assumption)
                      have q217 : x9_1 < (t199.length : Int) := of_decide_eq_true (by first | (with_reducible assumption) | assumption)
                      obtain ⟨ad217, e217, hx217_0, hx217_1, hx217_2, hx217_3⟩ := at_T70 (Kd.R_reads' HO_5.out).2.2 x9_1 p217 q217
                      obtain rfl : ad211 = ad217 := (by injection e217)
                      replace p217 := eq_true p217
                      replace q217 := eq_true q217
                      go_quiet (first | (go_at_call_of 53 (Value.string ((rd_T70 t199 x9_1).f1)); exact Calls.quiet_of ((laws_begins.calls ((rd_T70 t199 x9_1).f1) (t197.extract (((rd_T70 t199 x9_1).f3) : Int).toNat t197.size) true _ A40.out).mono fun e w' h => ⟨h.1, h.2.out⟩)) | (go_at_call_of 53 (Value.string (((⟨#[34]⟩ : ByteArray) ++ ((rd_T70 t199 x9_1).f1)) ++ (⟨#[34]⟩ : ByteArray))); exact Calls.quiet_of ((laws_begins.calls (((⟨#[34]⟩ : ByteArray) ++ ((rd_T70 t199 x9_1).f1)) ++ (⟨#[34]⟩ : ByteArray)) (t197.extract (((rd_T70 t199 x9_1).f3) : Int).toNat t197.size) true _ A47.out).mono fun e w' h => ⟨h.1, h.2.out⟩)))
                      try go_wp2
                      go_roundg kj20
                      case measure => have := HK1.out; have := HJ20.out; omega
                      case rel => exact ⟨(wrap64 (x9_1 + 1)), (by first | rfl | (simp; done) | (simp [*]; done)), H', ⟨by have := HK1.out; have := HJ20.out; omega⟩, ⟨by (with_reducible repeat (first | apply Kd.R_alloc | apply Kd.R_drewN | apply Kd.R_drew)); (first | exact HO_5.out | exact Kd.R_mono HO_5.out (fun k_ h_ => by first | exact h_ | (simpa [Value.ownBlock] using h_) | (have e_ : ∀ (A : Option Addr) (n m c : Nat), (Value.slice A n c).ownBlock = (Value.slice A m c).ownBlock := (fun A n m c => by cases A <;> rfl); rw [e_ _ _ 0 _] at h_ ⊢; exact h_)))⟩, ⟨by repeat (first | (with_reducible first | exact HB.out | apply below_alloc | apply pw_below_drewN | apply below_drew1) | exact HB.out)⟩⟩
                    ·replace c48 := Bool.eq_false_iff.mpr c48
                     subst c48
                     have H1 : (some false) = some r := by rw [if_neg (show ¬ (false = true) by decide)] at H; exact H
                     clear H
                     have H := H1
                     clear H1
                     obtain rfl := Option.some.inj H
                     as_aux_lemma =>
                      try go_wp2
                      have p211 : 0 ≤ (x9_1 : Int) := of_decide_eq_true (by first | (with_reducible assumption) | assumption)
                      have q211 : x9_1 < (t199.length : Int) := of_decide_eq_true (by first | (with_reducible assumption) | assumption)
                      obtain ⟨ad211, e211, hx211_0, hx211_1, hx211_2, hx211_3⟩ := at_T70 (Kd.R_reads' HO_5.out).2.2 x9_1 p211 q211
                      cases e211
                      replace p211 := eq_true p211
                      replace q211 := eq_true q211
                      have p212 : 0 ≤ (x9_1 : Int) := of_decide_eq_true (by first | (with_reducible assumption) | assumption)
                      have q212 : x9_1 < (t199.length : Int) := of_decide_eq_true (by first | (with_reducible assumption) | assumption)
                      obtain ⟨ad212, e212, hx212_0, hx212_1, hx212_2, hx212_3⟩ := at_T70 (Kd.R_reads' HO_5.out).2.2 x9_1 p212 q212
                      obtain rfl : ad211 = ad212 := (by injection e212)
                      replace p212 := eq_true p212
                      replace q212 := eq_true q212
                      have p213 : 0 ≤ (x9_1 : Int) := of_decide_eq_true (by first | (with_reducible assumption) | assumption)
                      have q213 : x9_1 < (t199.length : Int) := of_decide_eq_true (by first | (with_reducible assumption) | assumption)
                      obtain ⟨ad213, e213, hx213_0, hx213_1, hx213_2, hx213_3⟩ := at_T70 (Kd.R_reads' HO_5.out).2.2 x9_1 p213 q213
                      obtain rfl : ad211 = ad213 := (by injection e213)
                      replace p213 := eq_true p213
                      replace q213 := eq_true q213
                      have p215 : 0 ≤ (x9_1 : Int) := of_decide_eq_true (by first | (with_reducible assumption) | assumption)
                      have q215 : x9_1 < (t199.length : Int) := of_decide_eq_true (by first | (with_reducible assumption) | assumption)
                      obtain ⟨ad215, e215, hx215_0, hx215_1, hx215_2, hx215_3⟩ := at_T70 (Kd.R_reads' HO_5.out).2.2 x9_1 p215 q215
                      obtain rfl : ad211 = ad215 := (by injection e215)
                      replace p215 := eq_true p215
                      replace q215 := eq_true q215
                      have p216 : 0 ≤ (x9_1 : Int) := of_decide_eq_true (by first | (with_reducible assumption) | assumption)
                      have q216 : x9_1 < (t199.length : Int) := of_decide_eq_true (by first | (with_reducible assumption) | assumption)
                      obtain ⟨ad216, e216, hx216_0, hx216_1, hx216_2, hx216_3⟩ := at_T70 (Kd.R_reads' HO_5.out).2.2 x9_1 p216 q216
                      obtain rfl : ad211 = ad216 := (by injection e216)
                      replace p216 := eq_true p216
                      replace q216 := eq_true q216
                      have p217 : 0 ≤ (x9_1 : Int) := of_decide_eq_true (by first | (with_reducible assumption) | assumption)
                      have q217 : x9_1 < (t199.length : Int) := of_decide_eq_true (by first | (with_reducible assumption) | assumption)
                      obtain ⟨ad217, e217, hx217_0, hx217_1, hx217_2, hx217_3⟩ := at_T70 (Kd.R_reads' HO_5.out).2.2 x9_1 p217 q217
                      obtain rfl : ad211 = ad217 := (by injection e217)
                      replace p217 := eq_true p217
                      replace q217 := eq_true q217
                      go_quiet (first | (go_at_call_of 53 (Value.string ((rd_T70 t199 x9_1).f1)); exact Calls.quiet_of ((laws_begins.calls ((rd_T70 t199 x9_1).f1) (t197.extract (((rd_T70 t199 x9_1).f3) : Int).toNat t197.size) true _ A40.out).mono fun e w' h => ⟨h.1, h.2.out⟩)) | (go_at_call_of 53 (Value.string (((⟨#[34]⟩ : ByteArray) ++ ((rd_T70 t199 x9_1).f1)) ++ (⟨#[34]⟩ : ByteArray))); exact Calls.quiet_of ((laws_begins.calls (((⟨#[34]⟩ : ByteArray) ++ ((rd_T70 t199 x9_1).f1)) ++ (⟨#[34]⟩ : ByteArray)) (t197.extract (((rd_T70 t199 x9_1).f3) : Int).toNat t197.size) false _ A47.out).mono fun e w' h => ⟨h.1, h.2.out⟩)))
                      try go_wp2
                      go_ret
                      exact ⟨by first | rfl | (simp [errW_none, errW_some] <;> rfl) | (simp [*, errW_none, errW_some] <;> rfl), by repeat (first | (with_reducible first | exact HB.out | apply below_alloc | apply pw_below_drewN | apply below_drew1) | exact HB.out)⟩
                   ·rw [if_neg c44] at H
                    exact absurd H (by simp)
                  ·rw [if_neg c43] at H
                   exact absurd H (by simp)
                 ·rw [if_neg c42] at H
                  have c42b0 : (((rd_T70 t199 x9_1).f0) == 3) = false := beq_eq_false_iff_ne.mpr c42
                  have c42b1 : (((rd_T70 t199 x9_1).f0) != 3) = true := bne_iff_ne.mpr c42
                  have H' := Aside0.mk H
                  clear H
                  as_aux_lemma =>
                   try go_wp2
                   have p211 : 0 ≤ (x9_1 : Int) := of_decide_eq_true (by first | (with_reducible assumption) | assumption)
                   have q211 : x9_1 < (t199.length : Int) := of_decide_eq_true (by first | (with_reducible assumption) | assumption)
                   obtain ⟨ad211, e211, hx211_0, hx211_1, hx211_2, hx211_3⟩ := at_T70 (Kd.R_reads' HO_5.out).2.2 x9_1 p211 q211
                   cases e211
                   replace p211 := eq_true p211
                   replace q211 := eq_true q211
                   have p212 : 0 ≤ (x9_1 : Int) := of_decide_eq_true (by first | (with_reducible assumption) | assumption)
                   have q212 : x9_1 < (t199.length : Int) := of_decide_eq_true (by first | (with_reducible assumption) | assumption)
                   obtain ⟨ad212, e212, hx212_0, hx212_1, hx212_2, hx212_3⟩ := at_T70 (Kd.R_reads' HO_5.out).2.2 x9_1 p212 q212
                   obtain rfl : ad211 = ad212 := (by injection e212)
                   replace p212 := eq_true p212
                   replace q212 := eq_true q212
                   have p213 : 0 ≤ (x9_1 : Int) := of_decide_eq_true (by first | (with_reducible assumption) | assumption)
                   have q213 : x9_1 < (t199.length : Int) := of_decide_eq_true (by first | (with_reducible assumption) | assumption)
                   obtain ⟨ad213, e213, hx213_0, hx213_1, hx213_2, hx213_3⟩ := at_T70 (Kd.R_reads' HO_5.out).2.2 x9_1 p213 q213
                   obtain rfl : ad211 = ad213 := (by injection e213)
                   replace p213 := eq_true p213
                   replace q213 := eq_true q213
                   have p215 : 0 ≤ (x9_1 : Int) := of_decide_eq_true (by first | (with_reducible assumption) | assumption)
                   have q215 : x9_1 < (t199.length : Int) := of_decide_eq_true (by first | (with_reducible assumption) | assumption)
                   obtain ⟨ad215, e215, hx215_0, hx215_1, hx215_2, hx215_3⟩ := at_T70 (Kd.R_reads' HO_5.out).2.2 x9_1 p215 q215
                   obtain rfl : ad211 = ad215 := (by injection e215)
                   replace p215 := eq_true p215
                   replace q215 := eq_true q215
                   go_quiet (first | (go_at_call_of 53 (Value.string ((rd_T70 t199 x9_1).f1)); exact Calls.quiet_of ((laws_begins.calls ((rd_T70 t199 x9_1).f1) (t197.extract (((rd_T70 t199 x9_1).f3) : Int).toNat t197.size) true _ A40.out).mono fun e w' h => ⟨h.1, h.2.out⟩)))
                   try go_wp2
                   go_roundg kj20
                   case measure => have := HK1.out; have := HJ20.out; omega
                   case rel => exact ⟨(wrap64 (x9_1 + 1)), (by first | rfl | (simp; done) | (simp [*]; done)), H', ⟨by have := HK1.out; have := HJ20.out; omega⟩, ⟨by (with_reducible repeat (first | apply Kd.R_alloc | apply Kd.R_drewN | apply Kd.R_drew)); (first | exact HO_5.out | exact Kd.R_mono HO_5.out (fun k_ h_ => by first | exact h_ | (simpa [Value.ownBlock] using h_) | (have e_ : ∀ (A : Option Addr) (n m c : Nat), (Value.slice A n c).ownBlock = (Value.slice A m c).ownBlock := (fun A n m c => by cases A <;> rfl); rw [e_ _ _ 0 _] at h_ ⊢; exact h_)))⟩, ⟨by repeat (first | (with_reducible first | exact HB.out | apply below_alloc | apply pw_below_drewN | apply below_drew1) | exact HB.out)⟩⟩
                ·replace c41 := Bool.eq_false_iff.mpr c41
                 subst c41
                 have H1 : (some false) = some r := by rw [if_neg (show ¬ (false = true) by decide)] at H; exact H
                 clear H
                 have H := H1
                 clear H1
                 obtain rfl := Option.some.inj H
                 as_aux_lemma =>
                  try go_wp2
                  have p211 : 0 ≤ (x9_1 : Int) := of_decide_eq_true (by first | (with_reducible assumption) | assumption)
                  have q211 : x9_1 < (t199.length : Int) := of_decide_eq_true (by first | (with_reducible assumption) | assumption)
                  obtain ⟨ad211, e211, hx211_0, hx211_1, hx211_2, hx211_3⟩ := at_T70 (Kd.R_reads' HO_5.out).2.2 x9_1 p211 q211
                  cases e211
                  replace p211 := eq_true p211
                  replace q211 := eq_true q211
                  have p212 : 0 ≤ (x9_1 : Int) := of_decide_eq_true (by first | (with_reducible assumption) | assumption)
                  have q212 : x9_1 < (t199.length : Int) := of_decide_eq_true (by first | (with_reducible assumption) | assumption)
                  obtain ⟨ad212, e212, hx212_0, hx212_1, hx212_2, hx212_3⟩ := at_T70 (Kd.R_reads' HO_5.out).2.2 x9_1 p212 q212
                  obtain rfl : ad211 = ad212 := (by injection e212)
                  replace p212 := eq_true p212
                  replace q212 := eq_true q212
                  have p213 : 0 ≤ (x9_1 : Int) := of_decide_eq_true (by first | (with_reducible assumption) | assumption)
                  have q213 : x9_1 < (t199.length : Int) := of_decide_eq_true (by first | (with_reducible assumption) | assumption)
                  obtain ⟨ad213, e213, hx213_0, hx213_1, hx213_2, hx213_3⟩ := at_T70 (Kd.R_reads' HO_5.out).2.2 x9_1 p213 q213
                  obtain rfl : ad211 = ad213 := (by injection e213)
                  replace p213 := eq_true p213
                  replace q213 := eq_true q213
                  go_quiet (first | (go_at_call_of 53 (Value.string ((rd_T70 t199 x9_1).f1)); exact Calls.quiet_of ((laws_begins.calls ((rd_T70 t199 x9_1).f1) (t197.extract (((rd_T70 t199 x9_1).f3) : Int).toNat t197.size) false _ A40.out).mono fun e w' h => ⟨h.1, h.2.out⟩)))
                  try go_wp2
                  go_ret
                  exact ⟨by first | rfl | (simp [errW_none, errW_some] <;> rfl) | (simp [*, errW_none, errW_some] <;> rfl), by repeat (first | (with_reducible first | exact HB.out | apply below_alloc | apply pw_below_drewN | apply below_drew1) | exact HB.out)⟩
               ·rw [if_neg c39] at H
                exact absurd H (by simp)
              ·rw [if_neg c38] at H
               exact absurd H (by simp)
             ·rw [if_neg c37] at H
              have c37b0 : (((rd_T70 t199 x9_1).f0) == 1) = false := beq_eq_false_iff_ne.mpr c37
              have c37b1 : (((rd_T70 t199 x9_1).f0) != 1) = true := bne_iff_ne.mpr c37
              by_cases c53 : ((rd_T70 t199 x9_1).f0) = 3
              ·rw [if_pos c53] at H
               have c53b0 : (((rd_T70 t199 x9_1).f0) == 3) = true := beq_iff_eq.mpr c53
               have c53b1 : (((rd_T70 t199 x9_1).f0) != 3) = false := bne_eq_false_iff_eq.mpr c53
               clear c53
               by_cases c54 : 1 + ((rd_T70 t199 x9_1).f1).size ≤ 9223372036854775807
               ·rw [if_pos c54] at H
                have c54b0 := eq_true c54
                have c54b1 : decide (1 + ((rd_T70 t199 x9_1).f1).size ≤ 9223372036854775807) = true := decide_eq_true c54
                try have c54b2 : (9223372036854775807 < 1 + ((rd_T70 t199 x9_1).f1).size) = False := eq_false (Nat.not_lt.2 c54)
                by_cases c55 : ((⟨#[34]⟩ : ByteArray) ++ ((rd_T70 t199 x9_1).f1)).size + 1 ≤ 9223372036854775807
                ·rw [if_pos c55] at H
                 have c55b0 := eq_true c55
                 have c55b1 : decide (((⟨#[34]⟩ : ByteArray) ++ ((rd_T70 t199 x9_1).f1)).size + 1 ≤ 9223372036854775807) = true := decide_eq_true c55
                 try have c55b2 : (9223372036854775807 < ((⟨#[34]⟩ : ByteArray) ++ ((rd_T70 t199 x9_1).f1)).size + 1) = False := eq_false (Nat.not_lt.2 c55)
                 have c55b7 : (9223372036854775807 < 1 + ((rd_T70 t199 x9_1).f1).size + 1) = False := by have h_ := c55; rw [ByteArray.size_append, show (⟨#[34]⟩ : ByteArray).size = 1 from rfl] at h_; exact eq_false (Nat.not_lt.2 h_)
                 by_cases c56 : 0 ≤ ((rd_T70 t199 x9_1).f3)
                 ·rw [if_pos c56] at H
                  have c56b0 := eq_true c56
                  have c56b1 : decide (0 ≤ ((rd_T70 t199 x9_1).f3)) = true := decide_eq_true c56
                  clear c56
                  by_cases c57 : ((rd_T70 t199 x9_1).f3) ≤ (t197.size : Int)
                  ·rw [if_pos c57] at H
                   have c57b0 := eq_true c57
                   have c57b1 : decide (((rd_T70 t199 x9_1).f3) ≤ (t197.size : Int)) = true := decide_eq_true c57
                   clear c57
                   replace H := Option.bind_eq_some_iff.mp H
                   obtain ⟨t222, A580, H⟩ := H
                   replace H : (if t222 = true then (laws_FnLex.l0 kj20 t197 t198 t199 (wrap64 (x9_1 + 1))) else (some false)) = some r := H
                   have A58 := Aside0.mk A580
                   clear A580
                   by_cases c59 : t222 = true
                   ·subst c59
                    have H1 : (laws_FnLex.l0 kj20 t197 t198 t199 (wrap64 (x9_1 + 1))) = some r := by rw [if_pos rfl] at H; exact H
                    clear H
                    have H := H1
                    clear H1
                    have H' := Aside0.mk H
                    clear H
                    as_aux_lemma =>
                     try go_wp2
                     have p211 : 0 ≤ (x9_1 : Int) := of_decide_eq_true (by first | (with_reducible assumption) | assumption)
                     have q211 : x9_1 < (t199.length : Int) := of_decide_eq_true (by first | (with_reducible assumption) | assumption)
                     obtain ⟨ad211, e211, hx211_0, hx211_1, hx211_2, hx211_3⟩ := at_T70 (Kd.R_reads' HO_5.out).2.2 x9_1 p211 q211
                     cases e211
                     replace p211 := eq_true p211
                     replace q211 := eq_true q211
                     have p219 : 0 ≤ (x9_1 : Int) := of_decide_eq_true (by first | (with_reducible assumption) | assumption)
                     have q219 : x9_1 < (t199.length : Int) := of_decide_eq_true (by first | (with_reducible assumption) | assumption)
                     obtain ⟨ad219, e219, hx219_0, hx219_1, hx219_2, hx219_3⟩ := at_T70 (Kd.R_reads' HO_5.out).2.2 x9_1 p219 q219
                     obtain rfl : ad211 = ad219 := (by injection e219)
                     replace p219 := eq_true p219
                     replace q219 := eq_true q219
                     have p220 : 0 ≤ (x9_1 : Int) := of_decide_eq_true (by first | (with_reducible assumption) | assumption)
                     have q220 : x9_1 < (t199.length : Int) := of_decide_eq_true (by first | (with_reducible assumption) | assumption)
                     obtain ⟨ad220, e220, hx220_0, hx220_1, hx220_2, hx220_3⟩ := at_T70 (Kd.R_reads' HO_5.out).2.2 x9_1 p220 q220
                     obtain rfl : ad211 = ad220 := (by injection e220)
                     replace p220 := eq_true p220
                     replace q220 := eq_true q220
                     have p221 : 0 ≤ (x9_1 : Int) := of_decide_eq_true (by first | (with_reducible assumption) | assumption)
                     have q221 : x9_1 < (t199.length : Int) := of_decide_eq_true (by first | (with_reducible assumption) | assumption)
                     obtain ⟨ad221, e221, hx221_0, hx221_1, hx221_2, hx221_3⟩ := at_T70 (Kd.R_reads' HO_5.out).2.2 x9_1 p221 q221
                     obtain rfl : ad211 = ad221 := (by injection e221)
                     replace p221 := eq_true p221
                     replace q221 := eq_true q221
                     go_quiet (first | (go_at_call_of 53 (Value.string (((⟨#[34]⟩ : ByteArray) ++ ((rd_T70 t199 x9_1).f1)) ++ (⟨#[34]⟩ : ByteArray))); exact Calls.quiet_of ((laws_begins.calls (((⟨#[34]⟩ : ByteArray) ++ ((rd_T70 t199 x9_1).f1)) ++ (⟨#[34]⟩ : ByteArray)) (t197.extract (((rd_T70 t199 x9_1).f3) : Int).toNat t197.size) true _ A58.out).mono fun e w' h => ⟨h.1, h.2.out⟩)))
                     try go_wp2
                     go_roundg kj20
                     case measure => have := HK1.out; have := HJ20.out; omega
                     case rel => exact ⟨(wrap64 (x9_1 + 1)), (by first | rfl | (simp; done) | (simp [*]; done)), H', ⟨by have := HK1.out; have := HJ20.out; omega⟩, ⟨by (with_reducible repeat (first | apply Kd.R_alloc | apply Kd.R_drewN | apply Kd.R_drew)); (first | exact HO_5.out | exact Kd.R_mono HO_5.out (fun k_ h_ => by first | exact h_ | (simpa [Value.ownBlock] using h_) | (have e_ : ∀ (A : Option Addr) (n m c : Nat), (Value.slice A n c).ownBlock = (Value.slice A m c).ownBlock := (fun A n m c => by cases A <;> rfl); rw [e_ _ _ 0 _] at h_ ⊢; exact h_)))⟩, ⟨by repeat (first | (with_reducible first | exact HB.out | apply below_alloc | apply pw_below_drewN | apply below_drew1) | exact HB.out)⟩⟩
                   ·replace c59 := Bool.eq_false_iff.mpr c59
                    subst c59
                    have H1 : (some false) = some r := by rw [if_neg (show ¬ (false = true) by decide)] at H; exact H
                    clear H
                    have H := H1
                    clear H1
                    obtain rfl := Option.some.inj H
                    as_aux_lemma =>
                     try go_wp2
                     have p211 : 0 ≤ (x9_1 : Int) := of_decide_eq_true (by first | (with_reducible assumption) | assumption)
                     have q211 : x9_1 < (t199.length : Int) := of_decide_eq_true (by first | (with_reducible assumption) | assumption)
                     obtain ⟨ad211, e211, hx211_0, hx211_1, hx211_2, hx211_3⟩ := at_T70 (Kd.R_reads' HO_5.out).2.2 x9_1 p211 q211
                     cases e211
                     replace p211 := eq_true p211
                     replace q211 := eq_true q211
                     have p219 : 0 ≤ (x9_1 : Int) := of_decide_eq_true (by first | (with_reducible assumption) | assumption)
                     have q219 : x9_1 < (t199.length : Int) := of_decide_eq_true (by first | (with_reducible assumption) | assumption)
                     obtain ⟨ad219, e219, hx219_0, hx219_1, hx219_2, hx219_3⟩ := at_T70 (Kd.R_reads' HO_5.out).2.2 x9_1 p219 q219
                     obtain rfl : ad211 = ad219 := (by injection e219)
                     replace p219 := eq_true p219
                     replace q219 := eq_true q219
                     have p220 : 0 ≤ (x9_1 : Int) := of_decide_eq_true (by first | (with_reducible assumption) | assumption)
                     have q220 : x9_1 < (t199.length : Int) := of_decide_eq_true (by first | (with_reducible assumption) | assumption)
                     obtain ⟨ad220, e220, hx220_0, hx220_1, hx220_2, hx220_3⟩ := at_T70 (Kd.R_reads' HO_5.out).2.2 x9_1 p220 q220
                     obtain rfl : ad211 = ad220 := (by injection e220)
                     replace p220 := eq_true p220
                     replace q220 := eq_true q220
                     have p221 : 0 ≤ (x9_1 : Int) := of_decide_eq_true (by first | (with_reducible assumption) | assumption)
                     have q221 : x9_1 < (t199.length : Int) := of_decide_eq_true (by first | (with_reducible assumption) | assumption)
                     obtain ⟨ad221, e221, hx221_0, hx221_1, hx221_2, hx221_3⟩ := at_T70 (Kd.R_reads' HO_5.out).2.2 x9_1 p221 q221
                     obtain rfl : ad211 = ad221 := (by injection e221)
                     replace p221 := eq_true p221
                     replace q221 := eq_true q221
                     go_quiet (first | (go_at_call_of 53 (Value.string (((⟨#[34]⟩ : ByteArray) ++ ((rd_T70 t199 x9_1).f1)) ++ (⟨#[34]⟩ : ByteArray))); exact Calls.quiet_of ((laws_begins.calls (((⟨#[34]⟩ : ByteArray) ++ ((rd_T70 t199 x9_1).f1)) ++ (⟨#[34]⟩ : ByteArray)) (t197.extract (((rd_T70 t199 x9_1).f3) : Int).toNat t197.size) false _ A58.out).mono fun e w' h => ⟨h.1, h.2.out⟩)))
                     try go_wp2
                     go_ret
                     exact ⟨by first | rfl | (simp [errW_none, errW_some] <;> rfl) | (simp [*, errW_none, errW_some] <;> rfl), by repeat (first | (with_reducible first | exact HB.out | apply below_alloc | apply pw_below_drewN | apply below_drew1) | exact HB.out)⟩
                  ·rw [if_neg c57] at H
                   exact absurd H (by simp)
                 ·rw [if_neg c56] at H
                  exact absurd H (by simp)
                ·rw [if_neg c55] at H
                 exact absurd H (by simp)
               ·rw [if_neg c54] at H
                exact absurd H (by simp)
              ·rw [if_neg c53] at H
               have c53b0 : (((rd_T70 t199 x9_1).f0) == 3) = false := beq_eq_false_iff_ne.mpr c53
               have c53b1 : (((rd_T70 t199 x9_1).f0) != 3) = true := bne_iff_ne.mpr c53
               have H' := Aside0.mk H
               clear H
               as_aux_lemma =>
                try go_wp2
                have p211 : 0 ≤ (x9_1 : Int) := of_decide_eq_true (by first | (with_reducible assumption) | assumption)
                have q211 : x9_1 < (t199.length : Int) := of_decide_eq_true (by first | (with_reducible assumption) | assumption)
                obtain ⟨ad211, e211, hx211_0, hx211_1, hx211_2, hx211_3⟩ := at_T70 (Kd.R_reads' HO_5.out).2.2 x9_1 p211 q211
                cases e211
                replace p211 := eq_true p211
                replace q211 := eq_true q211
                have p219 : 0 ≤ (x9_1 : Int) := of_decide_eq_true (by first | (with_reducible assumption) | assumption)
                have q219 : x9_1 < (t199.length : Int) := of_decide_eq_true (by first | (with_reducible assumption) | assumption)
                obtain ⟨ad219, e219, hx219_0, hx219_1, hx219_2, hx219_3⟩ := at_T70 (Kd.R_reads' HO_5.out).2.2 x9_1 p219 q219
                obtain rfl : ad211 = ad219 := (by injection e219)
                replace p219 := eq_true p219
                replace q219 := eq_true q219
                go_quiet (fail)
                try go_wp2
                go_roundg kj20
                case measure => have := HK1.out; have := HJ20.out; omega
                case rel => exact ⟨(wrap64 (x9_1 + 1)), (by first | rfl | (simp; done) | (simp [*]; done)), H', ⟨by have := HK1.out; have := HJ20.out; omega⟩, ⟨by (with_reducible repeat (first | apply Kd.R_alloc | apply Kd.R_drewN | apply Kd.R_drew)); (first | exact HO_5.out | exact Kd.R_mono HO_5.out (fun k_ h_ => by first | exact h_ | (simpa [Value.ownBlock] using h_) | (have e_ : ∀ (A : Option Addr) (n m c : Nat), (Value.slice A n c).ownBlock = (Value.slice A m c).ownBlock := (fun A n m c => by cases A <;> rfl); rw [e_ _ _ 0 _] at h_ ⊢; exact h_)))⟩, ⟨by repeat (first | (with_reducible first | exact HB.out | apply below_alloc | apply pw_below_drewN | apply below_drew1) | exact HB.out)⟩⟩
            ·rw [if_neg c36] at H
             exact absurd H (by simp)
           ·rw [if_neg c35] at H
            exact absurd H (by simp)
       ·rw [if_neg c20] at H
        have c20b0 : decide (x9_1 < (t199.length : Int)) = false := decide_eq_false c20
        clear c20
        by_cases c63 : 2 + t197.size ≤ 9223372036854775807
        ·rw [if_pos c63] at H
         have c63b0 := eq_true c63
         have c63b1 : decide (2 + t197.size ≤ 9223372036854775807) = true := decide_eq_true c63
         try have c63b2 : (9223372036854775807 < 2 + t197.size) = False := eq_false (Nat.not_lt.2 c63)
         by_cases c64 : ((⟨#[32, 10]⟩ : ByteArray) ++ t197).size + 8 ≤ 9223372036854775807
         ·rw [if_pos c64] at H
          have c64b0 := eq_true c64
          have c64b1 : decide (((⟨#[32, 10]⟩ : ByteArray) ++ t197).size + 8 ≤ 9223372036854775807) = true := decide_eq_true c64
          try have c64b2 : (9223372036854775807 < ((⟨#[32, 10]⟩ : ByteArray) ++ t197).size + 8) = False := eq_false (Nat.not_lt.2 c64)
          have c64b7 : (9223372036854775807 < 2 + t197.size + 8) = False := by have h_ := c64; rw [ByteArray.size_append, show (⟨#[32, 10]⟩ : ByteArray).size = 2 from rfl] at h_; exact eq_false (Nat.not_lt.2 h_)
          replace H := Option.bind_eq_some_iff.mp H
          obtain ⟨⟨t223, t224⟩, A650, H⟩ := H
          replace H : (if t224 = (-1) then (laws_FnLex.j2 k1 t199 t223 ((t223.length : Int) != (t199.length : Int))) else (laws_FnLex.j2 k1 t199 t223 true)) = some r := H
          have A65 := Aside0.mk A650
          clear A650
          have HC66 := Aside0.mk H
          clear H
          obtain ⟨Ao67, co67, eo67⟩ := Kd.R_slice HO_5.out
          subst eo67
          go_upto_region 18 with (first | ((with_reducible refine gate_callee (f := 51) rfl ?_); refine goesL_ (some 139) rfl rfl Tryd.func51 (by kernel_rfl) rfl #[.string (((⟨#[32, 10]⟩ : ByteArray) ++ t197) ++ (⟨#[32, 10, 47, 47, 32, 101, 110, 100]⟩ : ByteArray)), .bool t198] rfl (by (try simp only [List.map_toArray, List.map_cons, List.map_nil]); first | done | rfl | (simp only [List.length_drop, List.length_take]; rfl)) ?_; (with_reducible refine (impl_Lex.calls k1 (((⟨#[32, 10]⟩ : ByteArray) ++ t197) ++ (⟨#[32, 10, 47, 47, 32, 101, 110, 100]⟩ : ByteArray)) t198 t223 t224 _ (TabsE.below HTA.out (by repeat (first | (with_reducible first | exact HB.out | apply below_alloc | apply pw_below_drewN | apply below_drew1) | exact HB.out))) A65.out).mono ?_); rintro e w68 ⟨v225, rfl, ho0, hb⟩; refine ⟨_, rfl, ?_⟩; have n0_ := Aside0.mk (Kd.R_elder' (by (with_reducible repeat (first | apply Kd.R_alloc | apply Kd.R_drewN | apply Kd.R_drew)); exact HO_5.out) (Kd.R_base ho0) hb); have n1_ := Aside0.mk (Kd.R_lower (Kd.R_new' ho0 (Kd.R_lt (by (with_reducible repeat (first | apply Kd.R_alloc | apply Kd.R_drewN | apply Kd.R_drew)); exact HO_5.out))) (below_size (by repeat (first | (with_reducible first | exact HB.out | apply below_alloc | apply pw_below_drewN | apply below_drew1) | exact HB.out)))); have n2_ := Aside0.mk (below_step (by repeat (first | (with_reducible first | exact HB.out | apply below_alloc | apply pw_below_drewN | apply below_drew1) | exact HB.out)) hb); clear HO_5; clear HB; have HO_5 := n0_; have HO226 := n1_; have HB := n2_; clear n0_ n1_ n2_; (try clear hb); (try clear hb2); (try clear hk); (try clear hi); (try clear ho0)))
          (try simp only [Act.put, sA5, sB5, sC5])
          go_cut [150] (fun v150 wc => ∃ (kq : Nat) (x150_65 : Bool), v150 = .bool x150_65 ∧ Aside0 (laws_FnLex.j2 kq t199 t223 x150_65 = some r) ∧ Aside0 (kq ≤ k1) ∧ Aside0 (Kd.R k70 70 wc w.heap.size (fun k_ => some k_ ≠ (v225 : Value).ownBlock) (.slice Ao67 t199.length co67) t199) ∧ Aside0 (Kd.R k70 70 wc w.heap.size (fun k_ => some k_ ≠ ((.slice Ao67 t199.length co67) : Value).ownBlock) v225 t223) ∧ Aside0 (Below w.heap.size w wc))
          case first =>
           have H := HC66.out
           clear HC66
           by_cases c69 : t224 = (-1)
           ·rw [if_pos c69] at H
            have c69b0 : (t224 == (-1)) = true := beq_iff_eq.mpr c69
            have c69b1 : (t224 != (-1)) = false := bne_eq_false_iff_eq.mpr c69
            clear c69
            (first | rw [c69b0] | (simp only [i64_w, i32_w]; rw [c69b0]) | skip)
            have H' := Aside0.mk H
            clear H
            obtain ⟨Ao70, co70, eo70⟩ := Kd.R_slice HO226.out
            subst eo70
            as_aux_lemma =>
             go_wp2
             go_meet
             case rel => exact ⟨_, (((t223.length : Int) != (t199.length : Int))), (by first | rfl | (simp; done) | (simp [*]; done)), H', ⟨by have := HK1.out; first | omega | exact Nat.le_refl _⟩, ⟨by (with_reducible repeat (first | apply Kd.R_alloc | apply Kd.R_drewN | apply Kd.R_drew)); exact Kd.R_mono HO_5.out (fun _ hk => hk.2)⟩, ⟨by (with_reducible repeat (first | apply Kd.R_alloc | apply Kd.R_drewN | apply Kd.R_drew)); exact Kd.R_mono HO226.out (fun _ hk => hk.2)⟩, ⟨by repeat (first | (with_reducible first | exact HB.out | apply below_alloc | apply pw_below_drewN | apply below_drew1) | exact HB.out)⟩⟩
           ·rw [if_neg c69] at H
            have c69b0 : (t224 == (-1)) = false := beq_eq_false_iff_ne.mpr c69
            have c69b1 : (t224 != (-1)) = true := bne_iff_ne.mpr c69
            (first | rw [c69b0] | (simp only [i64_w, i32_w]; rw [c69b0]) | skip)
            have H' := Aside0.mk H
            clear H
            as_aux_lemma =>
             go_wp2
             go_meet
             case rel => exact ⟨_, (true), (by first | rfl | (simp; done) | (simp [*]; done)), H', ⟨by have := HK1.out; first | omega | exact Nat.le_refl _⟩, ⟨by (with_reducible repeat (first | apply Kd.R_alloc | apply Kd.R_drewN | apply Kd.R_drew)); exact Kd.R_mono HO_5.out (fun _ hk => hk.2)⟩, ⟨by (with_reducible repeat (first | apply Kd.R_alloc | apply Kd.R_drewN | apply Kd.R_drew)); exact Kd.R_mono HO226.out (fun _ hk => hk.2)⟩, ⟨by repeat (first | (with_reducible first | exact HB.out | apply below_alloc | apply pw_below_drewN | apply below_drew1) | exact HB.out)⟩⟩
          case rest =>
           clear HC66
           try clear c2
           try clear p2
           try clear q2
           try clear hx2
           try clear c3
           try clear c5
           try clear c6
           try clear p6
           try clear c20
           try clear c20b0
           try clear p21
           try clear q21
           try clear hx21
           try clear c35
           try clear c36
           try clear c51
           try clear c53
           try clear c53b0
           try clear c53b1
           try clear c54
           try clear c55
           try clear c56
           try clear c57
           try clear c63
           try clear c63b0
           try clear c63b1
           try clear c63b2
           try clear c64
           try clear c64b0
           try clear c64b1
           try clear c64b2
           try clear p64
           try clear c69
           try clear c69b0
           try clear c69b1
           try clear hx211_0
           try clear hx211_1
           try clear hx211_2
           try clear hx211_3
           try clear hx219_0
           try clear hx219_1
           try clear hx219_2
           try clear hx219_3
           try clear p211
           try clear p219
           try clear q211
           try clear q219
           obtain ⟨kq, x150_65, rfl, HA, HJ65, HO_5, HO_10, HB⟩ := hcut
           cases kq with
           | zero => exact absurd HA.out (by simp [laws_FnLex.j2])
           | succ kj65 =>
            have H := HA.out
            clear HA
            simp only [laws_FnLex.j2] at H
            by_cases c71 : x150_65 = true
            ·subst c71
             have H1 : (some false) = some r := by rw [if_pos rfl] at H; exact H
             clear H
             have H := H1
             clear H1
             obtain rfl := Option.some.inj H
             as_aux_lemma =>
              go_wp2
              go_ret
              exact ⟨by first | rfl | (simp [errW_none, errW_some] <;> rfl) | (simp [*, errW_none, errW_some] <;> rfl), by repeat (first | (with_reducible first | exact HB.out | apply below_alloc | apply pw_below_drewN | apply below_drew1) | exact HB.out)⟩
            ·replace c71 := Bool.eq_false_iff.mpr c71
             subst c71
             have H1 : (laws_FnLex.l1 kj65 t199 t223 0) = some r := by rw [if_neg (show ¬ (false = true) by decide)] at H; exact H
             clear H
             have H := H1
             clear H1
             have H' := Aside0.mk H
             clear H
             as_aux_lemma =>
              go_wp2
              go_loopg [12] kj65 (fun kq v12 w' => ∃ (x12_3 : Int), v12 = .int .i64 x12_3 ∧ Aside0 (laws_FnLex.l1 kq t199 t223 x12_3 = some r) ∧ Aside0 (kq ≤ kj65) ∧ Aside0 (Kd.R k70 70 w' w.heap.size (fun k_ => some k_ ≠ (v225 : Value).ownBlock) (.slice Ao67 t199.length co67) t199) ∧ Aside0 (Kd.R k70 70 w' w.heap.size (fun k_ => some k_ ≠ ((.slice Ao67 t199.length co67) : Value).ownBlock) v225 t223) ∧ Aside0 (Below w.heap.size w w'))
              case atStart => exact ⟨(0), (by first | rfl | (simp; done) | (simp [*]; done)), H', ⟨Nat.le_refl _⟩, ⟨by (with_reducible repeat (first | apply Kd.R_alloc | apply Kd.R_drewN | apply Kd.R_drew)); exact HO_5.out⟩, ⟨by (with_reducible repeat (first | apply Kd.R_alloc | apply Kd.R_drewN | apply Kd.R_drew)); exact HO_10.out⟩, ⟨by repeat (first | (with_reducible first | exact HB.out | apply below_alloc | apply pw_below_drewN | apply below_drew1) | exact HB.out)⟩⟩
              case round =>
               clear H'
               try clear c2
               try clear p2
               try clear q2
               try clear hx2
               try clear c3
               try clear c5
               try clear c6
               try clear p6
               try clear c7
               try clear c20
               try clear c20b0
               try clear p21
               try clear q21
               try clear hx21
               try clear c35
               try clear c36
               try clear c51
               try clear c53
               try clear c53b0
               try clear c53b1
               try clear c54
               try clear c55
               try clear c56
               try clear c57
               try clear c63
               try clear c63b0
               try clear c63b1
               try clear c63b2
               try clear c64
               try clear c64b0
               try clear c64b1
               try clear c64b2
               try clear p64
               try clear c69
               try clear c69b0
               try clear c69b1
               try clear c71
               try clear hx211_0
               try clear hx211_1
               try clear hx211_2
               try clear hx211_3
               try clear hx219_0
               try clear hx219_1
               try clear hx219_2
               try clear hx219_3
               try clear p2
               try clear p21
               try clear p211
               try clear p219
               try clear p6
               try clear p64
               try clear q2
               try clear q21
               try clear q211
               try clear q219
               obtain ⟨x12_3, rfl, HA, HK3, HO_5, HO_10, HB⟩ := hrel
               cases gk with
               | zero => exact absurd HA.out (by simp [laws_FnLex.l1])
               | succ k3 =>
                have H := HA.out
                clear HA
                simp only [laws_FnLex.l1] at H
                by_cases c72 : x12_3 < (t199.length : Int)
                ·rw [if_pos c72] at H
                 have c72b0 : decide (x12_3 < (t199.length : Int)) = true := decide_eq_true c72
                 clear c72
                 by_cases c73 : 0 ≤ x12_3
                 ·rw [if_pos c73] at H
                  have c73b0 : decide (0 ≤ x12_3) = true := decide_eq_true c73
                  clear c73
                  by_cases c74 : x12_3 < (t223.length : Int)
                  ·rw [if_pos c74] at H
                   have c74b0 : decide (x12_3 < (t223.length : Int)) = true := decide_eq_true c74
                   clear c74
                   by_cases c75 : ((rd_T70 t223 x12_3).f0) = ((rd_T70 t199 x12_3).f0)
                   ·rw [if_pos c75] at H
                    have c75b0 : (((rd_T70 t223 x12_3).f0) == ((rd_T70 t199 x12_3).f0)) = true := beq_iff_eq.mpr c75
                    have c75b1 : (((rd_T70 t223 x12_3).f0) != ((rd_T70 t199 x12_3).f0)) = false := bne_eq_false_iff_eq.mpr c75
                    clear c75
                    by_cases c76 : ((rd_T70 t223 x12_3).f1).toList = ((rd_T70 t199 x12_3).f1).toList
                    ·rw [if_pos c76] at H
                     have c76b0 : (((rd_T70 t223 x12_3).f1).toList == ((rd_T70 t199 x12_3).f1).toList) = true := beq_iff_eq.mpr c76
                     have c76b1 : (((rd_T70 t223 x12_3).f1).toList != ((rd_T70 t199 x12_3).f1).toList) = false := bne_eq_false_iff_eq.mpr c76
                     clear c76
                     by_cases c77 : ((rd_T70 t223 x12_3).f2) = ((rd_T70 t199 x12_3).f2)
                     ·rw [if_pos c77] at H
                      have c77b0 : (((rd_T70 t223 x12_3).f2) == ((rd_T70 t199 x12_3).f2)) = true := beq_iff_eq.mpr c77
                      have c77b1 : (((rd_T70 t223 x12_3).f2) != ((rd_T70 t199 x12_3).f2)) = false := bne_eq_false_iff_eq.mpr c77
                      clear c77
                      by_cases c78 : ((rd_T70 t223 x12_3).f3) = (wrap64 (((rd_T70 t199 x12_3).f3) + 2))
                      ·rw [if_pos c78] at H
                       have c78b0 : (((rd_T70 t223 x12_3).f3) == (wrap64 (((rd_T70 t199 x12_3).f3) + 2))) = true := beq_iff_eq.mpr c78
                       have c78b1 : (((rd_T70 t223 x12_3).f3) != (wrap64 (((rd_T70 t199 x12_3).f3) + 2))) = false := bne_eq_false_iff_eq.mpr c78
                       clear c78
                       have H' := Aside0.mk H
                       clear H
                       as_aux_lemma =>
                        try go_wp2
                        obtain ⟨Ao80, co80, eo80⟩ := Kd.R_slice HO_10.out
                        (first | subst eo80 | (injection eo80 with f1_ f2_ f3_; have f4_ := f1_.symm; have f5_ := f3_.symm; clear f1_ f2_ f3_; subst f4_; subst f5_))
                        have p227 : 0 ≤ (x12_3 : Int) := of_decide_eq_true (by first | (with_reducible assumption) | assumption)
                        have q227 : x12_3 < (t223.length : Int) := of_decide_eq_true (by first | (with_reducible assumption) | assumption)
                        obtain ⟨ad227, e227, hx227_0, hx227_1, hx227_2, hx227_3⟩ := at_T70 (Kd.R_reads' HO_10.out).2.2 x12_3 p227 q227
                        cases e227
                        replace p227 := eq_true p227
                        replace q227 := eq_true q227
                        have p228 : 0 ≤ (x12_3 : Int) := of_decide_eq_true (by first | (with_reducible assumption) | assumption)
                        have q228 : x12_3 < (t199.length : Int) := of_decide_eq_true (by first | (with_reducible assumption) | assumption)
                        obtain ⟨ad228, e228, hx228_0, hx228_1, hx228_2, hx228_3⟩ := at_T70 (Kd.R_reads' HO_5.out).2.2 x12_3 p228 q228
                        cases e228
                        replace p228 := eq_true p228
                        replace q228 := eq_true q228
                        have p229 : 0 ≤ (x12_3 : Int) := of_decide_eq_true (by first | (with_reducible assumption) | assumption)
                        have q229 : x12_3 < (t223.length : Int) := of_decide_eq_true (by first | (with_reducible assumption) | assumption)
                        obtain ⟨ad229, e229, hx229_0, hx229_1, hx229_2, hx229_3⟩ := at_T70 (Kd.R_reads' HO_10.out).2.2 x12_3 p229 q229
                        obtain rfl : ad227 = ad229 := (by injection e229)
                        replace p229 := eq_true p229
                        replace q229 := eq_true q229
                        have p230 : 0 ≤ (x12_3 : Int) := of_decide_eq_true (by first | (with_reducible assumption) | assumption)
                        have q230 : x12_3 < (t199.length : Int) := of_decide_eq_true (by first | (with_reducible assumption) | assumption)
                        obtain ⟨ad230, e230, hx230_0, hx230_1, hx230_2, hx230_3⟩ := at_T70 (Kd.R_reads' HO_5.out).2.2 x12_3 p230 q230
                        obtain rfl : ad228 = ad230 := (by injection e230)
                        replace p230 := eq_true p230
                        replace q230 := eq_true q230
                        have p231 : 0 ≤ (x12_3 : Int) := of_decide_eq_true (by first | (with_reducible assumption) | assumption)
                        have q231 : x12_3 < (t223.length : Int) := of_decide_eq_true (by first | (with_reducible assumption) | assumption)
                        obtain ⟨ad231, e231, hx231_0, hx231_1, hx231_2, hx231_3⟩ := at_T70 (Kd.R_reads' HO_10.out).2.2 x12_3 p231 q231
                        obtain rfl : ad227 = ad231 := (by injection e231)
                        replace p231 := eq_true p231
                        replace q231 := eq_true q231
                        have p232 : 0 ≤ (x12_3 : Int) := of_decide_eq_true (by first | (with_reducible assumption) | assumption)
                        have q232 : x12_3 < (t199.length : Int) := of_decide_eq_true (by first | (with_reducible assumption) | assumption)
                        obtain ⟨ad232, e232, hx232_0, hx232_1, hx232_2, hx232_3⟩ := at_T70 (Kd.R_reads' HO_5.out).2.2 x12_3 p232 q232
                        obtain rfl : ad228 = ad232 := (by injection e232)
                        replace p232 := eq_true p232
                        replace q232 := eq_true q232
                        have p233 : 0 ≤ (x12_3 : Int) := of_decide_eq_true (by first | (with_reducible assumption) | assumption)
                        have q233 : x12_3 < (t223.length : Int) := of_decide_eq_true (by first | (with_reducible assumption) | assumption)
                        obtain ⟨ad233, e233, hx233_0, hx233_1, hx233_2, hx233_3⟩ := at_T70 (Kd.R_reads' HO_10.out).2.2 x12_3 p233 q233
                        obtain rfl : ad227 = ad233 := (by injection e233)
                        replace p233 := eq_true p233
                        replace q233 := eq_true q233
                        have p234 : 0 ≤ (x12_3 : Int) := of_decide_eq_true (by first | (with_reducible assumption) | assumption)
                        have q234 : x12_3 < (t199.length : Int) := of_decide_eq_true (by first | (with_reducible assumption) | assumption)
                        obtain ⟨ad234, e234, hx234_0, hx234_1, hx234_2, hx234_3⟩ := at_T70 (Kd.R_reads' HO_5.out).2.2 x12_3 p234 q234
                        obtain rfl : ad228 = ad234 := (by injection e234)
                        replace p234 := eq_true p234
                        replace q234 := eq_true q234
                        go_quiet (fail)
                        try go_wp2
                        go_roundg k3
                        case measure => have := HK1.out; have := HJ65.out; have := HK3.out; omega
                        case rel => exact ⟨(wrap64 (x12_3 + 1)), (by first | rfl | (simp; done) | (simp [*]; done)), H', ⟨by have := HK1.out; have := HJ65.out; have := HK3.out; omega⟩, ⟨by (with_reducible repeat (first | apply Kd.R_alloc | apply Kd.R_drewN | apply Kd.R_drew)); (first | exact HO_5.out | exact Kd.R_mono HO_5.out (fun k_ h_ => by first | exact h_ | (simpa [Value.ownBlock] using h_) | (have e_ : ∀ (A : Option Addr) (n m c : Nat), (Value.slice A n c).ownBlock = (Value.slice A m c).ownBlock := (fun A n m c => by cases A <;> rfl); rw [e_ _ _ 0 _] at h_ ⊢; exact h_)))⟩, ⟨by (with_reducible repeat (first | apply Kd.R_alloc | apply Kd.R_drewN | apply Kd.R_drew)); (first | exact HO_10.out | exact Kd.R_mono HO_10.out (fun k_ h_ => by first | exact h_ | (simpa [Value.ownBlock] using h_) | (have e_ : ∀ (A : Option Addr) (n m c : Nat), (Value.slice A n c).ownBlock = (Value.slice A m c).ownBlock := (fun A n m c => by cases A <;> rfl); rw [e_ _ _ 0 _] at h_ ⊢; exact h_)))⟩, ⟨by repeat (first | (with_reducible first | exact HB.out | apply below_alloc | apply pw_below_drewN | apply below_drew1) | exact HB.out)⟩⟩
                      ·rw [if_neg c78] at H
                       have c78b0 : (((rd_T70 t223 x12_3).f3) == (wrap64 (((rd_T70 t199 x12_3).f3) + 2))) = false := beq_eq_false_iff_ne.mpr c78
                       have c78b1 : (((rd_T70 t223 x12_3).f3) != (wrap64 (((rd_T70 t199 x12_3).f3) + 2))) = true := bne_iff_ne.mpr c78
                       obtain rfl := Option.some.inj H
                       as_aux_lemma =>
                        try go_wp2
                        obtain ⟨Ao82, co82, eo82⟩ := Kd.R_slice HO_10.out
                        (first | subst eo82 | (injection eo82 with f1_ f2_ f3_; have f4_ := f1_.symm; have f5_ := f3_.symm; clear f1_ f2_ f3_; subst f4_; subst f5_))
                        have p227 : 0 ≤ (x12_3 : Int) := of_decide_eq_true (by first | (with_reducible assumption) | assumption)
                        have q227 : x12_3 < (t223.length : Int) := of_decide_eq_true (by first | (with_reducible assumption) | assumption)
                        obtain ⟨ad227, e227, hx227_0, hx227_1, hx227_2, hx227_3⟩ := at_T70 (Kd.R_reads' HO_10.out).2.2 x12_3 p227 q227
                        cases e227
                        replace p227 := eq_true p227
                        replace q227 := eq_true q227
                        have p228 : 0 ≤ (x12_3 : Int) := of_decide_eq_true (by first | (with_reducible assumption) | assumption)
                        have q228 : x12_3 < (t199.length : Int) := of_decide_eq_true (by first | (with_reducible assumption) | assumption)
                        obtain ⟨ad228, e228, hx228_0, hx228_1, hx228_2, hx228_3⟩ := at_T70 (Kd.R_reads' HO_5.out).2.2 x12_3 p228 q228
                        cases e228
                        replace p228 := eq_true p228
                        replace q228 := eq_true q228
                        have p229 : 0 ≤ (x12_3 : Int) := of_decide_eq_true (by first | (with_reducible assumption) | assumption)
                        have q229 : x12_3 < (t223.length : Int) := of_decide_eq_true (by first | (with_reducible assumption) | assumption)
                        obtain ⟨ad229, e229, hx229_0, hx229_1, hx229_2, hx229_3⟩ := at_T70 (Kd.R_reads' HO_10.out).2.2 x12_3 p229 q229
                        obtain rfl : ad227 = ad229 := (by injection e229)
                        replace p229 := eq_true p229
                        replace q229 := eq_true q229
                        have p230 : 0 ≤ (x12_3 : Int) := of_decide_eq_true (by first | (with_reducible assumption) | assumption)
                        have q230 : x12_3 < (t199.length : Int) := of_decide_eq_true (by first | (with_reducible assumption) | assumption)
                        obtain ⟨ad230, e230, hx230_0, hx230_1, hx230_2, hx230_3⟩ := at_T70 (Kd.R_reads' HO_5.out).2.2 x12_3 p230 q230
                        obtain rfl : ad228 = ad230 := (by injection e230)
                        replace p230 := eq_true p230
                        replace q230 := eq_true q230
                        have p231 : 0 ≤ (x12_3 : Int) := of_decide_eq_true (by first | (with_reducible assumption) | assumption)
                        have q231 : x12_3 < (t223.length : Int) := of_decide_eq_true (by first | (with_reducible assumption) | assumption)
                        obtain ⟨ad231, e231, hx231_0, hx231_1, hx231_2, hx231_3⟩ := at_T70 (Kd.R_reads' HO_10.out).2.2 x12_3 p231 q231
                        obtain rfl : ad227 = ad231 := (by injection e231)
                        replace p231 := eq_true p231
                        replace q231 := eq_true q231
                        have p232 : 0 ≤ (x12_3 : Int) := of_decide_eq_true (by first | (with_reducible assumption) | assumption)
                        have q232 : x12_3 < (t199.length : Int) := of_decide_eq_true (by first | (with_reducible assumption) | assumption)
                        obtain ⟨ad232, e232, hx232_0, hx232_1, hx232_2, hx232_3⟩ := at_T70 (Kd.R_reads' HO_5.out).2.2 x12_3 p232 q232
                        obtain rfl : ad228 = ad232 := (by injection e232)
                        replace p232 := eq_true p232
                        replace q232 := eq_true q232
                        have p233 : 0 ≤ (x12_3 : Int) := of_decide_eq_true (by first | (with_reducible assumption) | assumption)
                        have q233 : x12_3 < (t223.length : Int) := of_decide_eq_true (by first | (with_reducible assumption) | assumption)
                        obtain ⟨ad233, e233, hx233_0, hx233_1, hx233_2, hx233_3⟩ := at_T70 (Kd.R_reads' HO_10.out).2.2 x12_3 p233 q233
                        obtain rfl : ad227 = ad233 := (by injection e233)
                        replace p233 := eq_true p233
                        replace q233 := eq_true q233
                        have p234 : 0 ≤ (x12_3 : Int) := of_decide_eq_true (by first | (with_reducible assumption) | assumption)
                        have q234 : x12_3 < (t199.length : Int) := of_decide_eq_true (by first | (with_reducible assumption) | assumption)
                        obtain ⟨ad234, e234, hx234_0, hx234_1, hx234_2, hx234_3⟩ := at_T70 (Kd.R_reads' HO_5.out).2.2 x12_3 p234 q234
                        obtain rfl : ad228 = ad234 := (by injection e234)
                        replace p234 := eq_true p234
                        replace q234 := eq_true q234
                        go_quiet (fail)
                        try go_wp2
                        go_ret
                        exact ⟨by first | rfl | (simp [errW_none, errW_some] <;> rfl) | (simp [*, errW_none, errW_some] <;> rfl), by repeat (first | (with_reducible first | exact HB.out | apply below_alloc | apply pw_below_drewN | apply below_drew1) | exact HB.out)⟩
                     ·rw [if_neg c77] at H
                      have c77b0 : (((rd_T70 t223 x12_3).f2) == ((rd_T70 t199 x12_3).f2)) = false := beq_eq_false_iff_ne.mpr c77
                      have c77b1 : (((rd_T70 t223 x12_3).f2) != ((rd_T70 t199 x12_3).f2)) = true := bne_iff_ne.mpr c77
                      obtain rfl := Option.some.inj H
                      as_aux_lemma =>
                       try go_wp2
                       obtain ⟨Ao84, co84, eo84⟩ := Kd.R_slice HO_10.out
                       (first | subst eo84 | (injection eo84 with f1_ f2_ f3_; have f4_ := f1_.symm; have f5_ := f3_.symm; clear f1_ f2_ f3_; subst f4_; subst f5_))
                       have p227 : 0 ≤ (x12_3 : Int) := of_decide_eq_true (by first | (with_reducible assumption) | assumption)
                       have q227 : x12_3 < (t223.length : Int) := of_decide_eq_true (by first | (with_reducible assumption) | assumption)
                       obtain ⟨ad227, e227, hx227_0, hx227_1, hx227_2, hx227_3⟩ := at_T70 (Kd.R_reads' HO_10.out).2.2 x12_3 p227 q227
                       cases e227
                       replace p227 := eq_true p227
                       replace q227 := eq_true q227
                       have p228 : 0 ≤ (x12_3 : Int) := of_decide_eq_true (by first | (with_reducible assumption) | assumption)
                       have q228 : x12_3 < (t199.length : Int) := of_decide_eq_true (by first | (with_reducible assumption) | assumption)
                       obtain ⟨ad228, e228, hx228_0, hx228_1, hx228_2, hx228_3⟩ := at_T70 (Kd.R_reads' HO_5.out).2.2 x12_3 p228 q228
                       cases e228
                       replace p228 := eq_true p228
                       replace q228 := eq_true q228
                       have p229 : 0 ≤ (x12_3 : Int) := of_decide_eq_true (by first | (with_reducible assumption) | assumption)
                       have q229 : x12_3 < (t223.length : Int) := of_decide_eq_true (by first | (with_reducible assumption) | assumption)
                       obtain ⟨ad229, e229, hx229_0, hx229_1, hx229_2, hx229_3⟩ := at_T70 (Kd.R_reads' HO_10.out).2.2 x12_3 p229 q229
                       obtain rfl : ad227 = ad229 := (by injection e229)
                       replace p229 := eq_true p229
                       replace q229 := eq_true q229
                       have p230 : 0 ≤ (x12_3 : Int) := of_decide_eq_true (by first | (with_reducible assumption) | assumption)
                       have q230 : x12_3 < (t199.length : Int) := of_decide_eq_true (by first | (with_reducible assumption) | assumption)
                       obtain ⟨ad230, e230, hx230_0, hx230_1, hx230_2, hx230_3⟩ := at_T70 (Kd.R_reads' HO_5.out).2.2 x12_3 p230 q230
                       obtain rfl : ad228 = ad230 := (by injection e230)
                       replace p230 := eq_true p230
                       replace q230 := eq_true q230
                       have p231 : 0 ≤ (x12_3 : Int) := of_decide_eq_true (by first | (with_reducible assumption) | assumption)
                       have q231 : x12_3 < (t223.length : Int) := of_decide_eq_true (by first | (with_reducible assumption) | assumption)
                       obtain ⟨ad231, e231, hx231_0, hx231_1, hx231_2, hx231_3⟩ := at_T70 (Kd.R_reads' HO_10.out).2.2 x12_3 p231 q231
                       obtain rfl : ad227 = ad231 := (by injection e231)
                       replace p231 := eq_true p231
                       replace q231 := eq_true q231
                       have p232 : 0 ≤ (x12_3 : Int) := of_decide_eq_true (by first | (with_reducible assumption) | assumption)
                       have q232 : x12_3 < (t199.length : Int) := of_decide_eq_true (by first | (with_reducible assumption) | assumption)
                       obtain ⟨ad232, e232, hx232_0, hx232_1, hx232_2, hx232_3⟩ := at_T70 (Kd.R_reads' HO_5.out).2.2 x12_3 p232 q232
                       obtain rfl : ad228 = ad232 := (by injection e232)
                       replace p232 := eq_true p232
                       replace q232 := eq_true q232
                       go_quiet (fail)
                       try go_wp2
                       go_ret
                       exact ⟨by first | rfl | (simp [errW_none, errW_some] <;> rfl) | (simp [*, errW_none, errW_some] <;> rfl), by repeat (first | (with_reducible first | exact HB.out | apply below_alloc | apply pw_below_drewN | apply below_drew1) | exact HB.out)⟩
                    ·rw [if_neg c76] at H
                     have c76b0 : (((rd_T70 t223 x12_3).f1).toList == ((rd_T70 t199 x12_3).f1).toList) = false := beq_eq_false_iff_ne.mpr c76
                     have c76b1 : (((rd_T70 t223 x12_3).f1).toList != ((rd_T70 t199 x12_3).f1).toList) = true := bne_iff_ne.mpr c76
                     obtain rfl := Option.some.inj H
                     as_aux_lemma =>
                      try go_wp2
                      obtain ⟨Ao86, co86, eo86⟩ := Kd.R_slice HO_10.out
                      (first | subst eo86 | (injection eo86 with f1_ f2_ f3_; have f4_ := f1_.symm; have f5_ := f3_.symm; clear f1_ f2_ f3_; subst f4_; subst f5_))
                      have p227 : 0 ≤ (x12_3 : Int) := of_decide_eq_true (by first | (with_reducible assumption) | assumption)
                      have q227 : x12_3 < (t223.length : Int) := of_decide_eq_true (by first | (with_reducible assumption) | assumption)
                      obtain ⟨ad227, e227, hx227_0, hx227_1, hx227_2, hx227_3⟩ := at_T70 (Kd.R_reads' HO_10.out).2.2 x12_3 p227 q227
                      cases e227
                      replace p227 := eq_true p227
                      replace q227 := eq_true q227
                      have p228 : 0 ≤ (x12_3 : Int) := of_decide_eq_true (by first | (with_reducible assumption) | assumption)
                      have q228 : x12_3 < (t199.length : Int) := of_decide_eq_true (by first | (with_reducible assumption) | assumption)
                      obtain ⟨ad228, e228, hx228_0, hx228_1, hx228_2, hx228_3⟩ := at_T70 (Kd.R_reads' HO_5.out).2.2 x12_3 p228 q228
                      cases e228
                      replace p228 := eq_true p228
                      replace q228 := eq_true q228
                      have p229 : 0 ≤ (x12_3 : Int) := of_decide_eq_true (by first | (with_reducible assumption) | assumption)
                      have q229 : x12_3 < (t223.length : Int) := of_decide_eq_true (by first | (with_reducible assumption) | assumption)
                      obtain ⟨ad229, e229, hx229_0, hx229_1, hx229_2, hx229_3⟩ := at_T70 (Kd.R_reads' HO_10.out).2.2 x12_3 p229 q229
                      obtain rfl : ad227 = ad229 := (by injection e229)
                      replace p229 := eq_true p229
                      replace q229 := eq_true q229
                      have p230 : 0 ≤ (x12_3 : Int) := of_decide_eq_true (by first | (with_reducible assumption) | assumption)
                      have q230 : x12_3 < (t199.length : Int) := of_decide_eq_true (by first | (with_reducible assumption) | assumption)
                      obtain ⟨ad230, e230, hx230_0, hx230_1, hx230_2, hx230_3⟩ := at_T70 (Kd.R_reads' HO_5.out).2.2 x12_3 p230 q230
                      obtain rfl : ad228 = ad230 := (by injection e230)
                      replace p230 := eq_true p230
                      replace q230 := eq_true q230
                      go_quiet (fail)
                      try go_wp2
                      go_ret
                      exact ⟨by first | rfl | (simp [errW_none, errW_some] <;> rfl) | (simp [*, errW_none, errW_some] <;> rfl), by repeat (first | (with_reducible first | exact HB.out | apply below_alloc | apply pw_below_drewN | apply below_drew1) | exact HB.out)⟩
                   ·rw [if_neg c75] at H
                    have c75b0 : (((rd_T70 t223 x12_3).f0) == ((rd_T70 t199 x12_3).f0)) = false := beq_eq_false_iff_ne.mpr c75
                    have c75b1 : (((rd_T70 t223 x12_3).f0) != ((rd_T70 t199 x12_3).f0)) = true := bne_iff_ne.mpr c75
                    obtain rfl := Option.some.inj H
                    as_aux_lemma =>
                     try go_wp2
                     obtain ⟨Ao88, co88, eo88⟩ := Kd.R_slice HO_10.out
                     (first | subst eo88 | (injection eo88 with f1_ f2_ f3_; have f4_ := f1_.symm; have f5_ := f3_.symm; clear f1_ f2_ f3_; subst f4_; subst f5_))
                     have p227 : 0 ≤ (x12_3 : Int) := of_decide_eq_true (by first | (with_reducible assumption) | assumption)
                     have q227 : x12_3 < (t223.length : Int) := of_decide_eq_true (by first | (with_reducible assumption) | assumption)
                     obtain ⟨ad227, e227, hx227_0, hx227_1, hx227_2, hx227_3⟩ := at_T70 (Kd.R_reads' HO_10.out).2.2 x12_3 p227 q227
                     cases e227
                     replace p227 := eq_true p227
                     replace q227 := eq_true q227
                     have p228 : 0 ≤ (x12_3 : Int) := of_decide_eq_true (by first | (with_reducible assumption) | assumption)
                     have q228 : x12_3 < (t199.length : Int) := of_decide_eq_true (by first | (with_reducible assumption) | assumption)
                     obtain ⟨ad228, e228, hx228_0, hx228_1, hx228_2, hx228_3⟩ := at_T70 (Kd.R_reads' HO_5.out).2.2 x12_3 p228 q228
                     cases e228
                     replace p228 := eq_true p228
                     replace q228 := eq_true q228
                     go_quiet (fail)
                     try go_wp2
                     go_ret
                     exact ⟨by first | rfl | (simp [errW_none, errW_some] <;> rfl) | (simp [*, errW_none, errW_some] <;> rfl), by repeat (first | (with_reducible first | exact HB.out | apply below_alloc | apply pw_below_drewN | apply below_drew1) | exact HB.out)⟩
                  ·rw [if_neg c74] at H
                   exact absurd H (by simp)
                 ·rw [if_neg c73] at H
                  exact absurd H (by simp)
                ·rw [if_neg c72] at H
                 have c72b0 : decide (x12_3 < (t199.length : Int)) = false := decide_eq_false c72
                 clear c72
                 obtain rfl := Option.some.inj H
                 as_aux_lemma =>
                  go_wp2
                  go_ret
                  exact ⟨by first | rfl | (simp [errW_none, errW_some] <;> rfl) | (simp [*, errW_none, errW_some] <;> rfl), by repeat (first | (with_reducible first | exact HB.out | apply below_alloc | apply pw_below_drewN | apply below_drew1) | exact HB.out)⟩
         ·rw [if_neg c64] at H
          exact absurd H (by simp)
        ·rw [if_neg c63] at H
         exact absurd H (by simp)
  ·rw [if_neg c7] at H
   have c7b0 : (t200 == t204) = false := beq_eq_false_iff_ne.mpr c7
   have c7b1 : (t200 != t204) = true := bne_iff_ne.mpr c7
   obtain rfl := Option.some.inj H
   as_aux_lemma =>
    go_enter Tryd.func10, Tryd.ntmps10
    go_wp2_with (first | ((with_reducible refine gate_callee (f := 28) rfl ?_); refine goesL_ (some 14) rfl rfl Tryd.func28 (by kernel_rfl) rfl #[.slice A0 l0.length c0] rfl (by (try simp only [List.map_toArray, List.map_cons, List.map_nil]); first | done | rfl | (simp only [List.length_drop, List.length_take]; rfl)) ?_; (with_reducible refine (laws_big.calls _ _ l0 false _ ?side1 ?side2 A2.out).mono ?_); (case side1 => repeat (first | exact HR0.out | (with_reducible refine Kd.C_alloc ?_ _) | (with_reducible refine Kd.C_drewN ?_ _) | (with_reducible refine Kd.C_drew ?_))); (case side2 => exact HC0.out); rintro e w' ⟨rfl, ⟨nd, rfl⟩⟩; refine ⟨_, rfl, ?_⟩) | ((with_reducible refine gate_callee (f := 50) rfl ?_); refine goesL_ (some 17) rfl rfl Tryd.func50 (by kernel_rfl) rfl #[.slice A0 l0.length c0] rfl (by (try simp only [List.map_toArray, List.map_cons, List.map_nil]); first | done | rfl | (simp only [List.length_drop, List.length_take]; rfl)) ?_; (with_reducible refine (spec_DrawLex.calls k _ _ l0 t197 t198 _ ?side1 ?side2 A4.out).mono ?_); (case side1 => repeat (first | exact HR0.out | (with_reducible refine Kd.C_alloc ?_ _) | (with_reducible refine Kd.C_drewN ?_ _) | (with_reducible refine Kd.C_drew ?_))); (case side2 => exact HC0.out); rintro e w89 ⟨rfl, hb⟩; refine ⟨_, rfl, ?_⟩; have n0_ := Aside0.mk (below_step (by repeat (first | (with_reducible first | exact HB.out | apply below_alloc | apply pw_below_drewN | apply below_drew1) | exact HB.out)) hb); clear HB; have HB := n0_; clear n0_; (try clear hb); (try clear hb2); (try clear hk); (try clear hi)) | ((with_reducible refine gate_callee (f := 51) rfl ?_); refine goesL_ (some 23) rfl rfl Tryd.func51 (by kernel_rfl) rfl #[.string t197, .bool t198] rfl (by (try simp only [List.map_toArray, List.map_cons, List.map_nil]); first | done | rfl | (simp only [List.length_drop, List.length_take]; rfl)) ?_; (with_reducible refine (impl_Lex.calls k t197 t198 t199 t200 _ (TabsE.below HTA.out (by repeat (first | (with_reducible first | exact HB.out | apply below_alloc | apply pw_below_drewN | apply below_drew1) | exact HB.out))) A5.out).mono ?_); rintro e w90 ⟨v201, rfl, ho0, hb⟩; refine ⟨_, rfl, ?_⟩; have n0_ := Aside0.mk (Kd.R_lower ho0 (below_size (by repeat (first | (with_reducible first | exact HB.out | apply below_alloc | apply pw_below_drewN | apply below_drew1) | exact HB.out)))); have n1_ := Aside0.mk (below_step (by repeat (first | (with_reducible first | exact HB.out | apply below_alloc | apply pw_below_drewN | apply below_drew1) | exact HB.out)) hb); clear HB; have HO202 := n0_; have HB := n1_; clear n0_ n1_; (try clear hb); (try clear hb2); (try clear hk); (try clear hi); (try clear ho0)) | ((with_reducible refine gate_callee (f := 52) rfl ?_); refine goesL_ (some 29) rfl rfl Tryd.func52 (by kernel_rfl) rfl #[.string t197, .bool t198] rfl (by (try simp only [List.map_toArray, List.map_cons, List.map_nil]); first | done | rfl | (simp only [List.length_drop, List.length_take]; rfl)) ?_; (with_reducible refine (spec_Lex.calls k t197 t198 t203 t204 _ A6.out).mono ?_); rintro e w91 ⟨v205, rfl, ho0, hb⟩; refine ⟨_, rfl, ?_⟩; have n0_ := Aside0.mk (Kd.R_elder' (by (with_reducible repeat (first | apply Kd.R_alloc | apply Kd.R_drewN | apply Kd.R_drew)); exact HO202.out) (Kd.R_base ho0) hb); have n1_ := Aside0.mk (Kd.R_lower (Kd.R_new' ho0 (Kd.R_lt (by (with_reducible repeat (first | apply Kd.R_alloc | apply Kd.R_drewN | apply Kd.R_drew)); exact HO202.out))) (below_size (by repeat (first | (with_reducible first | exact HB.out | apply below_alloc | apply pw_below_drewN | apply below_drew1) | exact HB.out)))); have n2_ := Aside0.mk (below_step (by repeat (first | (with_reducible first | exact HB.out | apply below_alloc | apply pw_below_drewN | apply below_drew1) | exact HB.out)) hb); clear HO202; clear HB; have HO202 := n0_; have HO206 := n1_; have HB := n2_; clear n0_ n1_ n2_; (try clear hb); (try clear hb2); (try clear hk); (try clear hi); (try clear ho0)))
    go_ret
    exact ⟨by first | rfl | (simp [errW_none, errW_some] <;> rfl) | (simp [*, errW_none, errW_some] <;> rfl), by repeat (first | (with_reducible first | exact HB.out | apply below_alloc | apply pw_below_drewN | apply below_drew1) | exact HB.out)⟩

end Go.Proofs.YtmpmfaaodjmpjaaDoor.PFnLex

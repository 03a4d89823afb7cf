-- Out of the kit's print, with contracts of mine among it (myprint.py).
import Derived.Test.YtkmcnjpgamaljaaGreatDoorPFnFilesx0
import Derived.Test.YtkmcnjpgamaljaaGreatDoorPFnFilesx2
import Derived.Test.YtkmcnjpgamaljaaGreatDoorPFnFilesx11
import Derived.Test.YtkmcnjpgamaljaaGreatDoorPFnFilesx15
namespace Go.Proofs.YtkmcnjpgamaljaaGreatDoor.PFnFiles
open Go.RowKit Go.Proofs.YtkmcnjpgamaljaaGreatDoorW.PrintWords Go.Proofs.YtkmcnjpgamaljaaGreatDoorW.PrintLast Go.Proofs.YtkmcnjpgamaljaaGreatDoorW.PrintMore
attribute [local go_sem] max2_int min2_int max_two min_two max_three min_three max_four min_four   -- for this text's walks alone
set_option linter.unusedVariables false
set_option linter.unusedSimpArgs false
theorem sA16 {α} (l : List α) (i : Nat) (a : α) : l.toArray.setIfInBounds i a = (l.set i a).toArray := List.setIfInBounds_toArray l i a
theorem sB16 {α} (x : α) (l : List α) (a : α) : (x :: l).set 0 a = a :: l := List.set_cons_zero
theorem sC16 {α} (x : α) (l : List α) (i : Nat) (a : α) : (x :: l).set (i + 1) a = x :: l.set i a := List.set_cons_succ

/-! ### spec_l1Spoil: function 31 -/
abbrev bt0_16 : Array Bool := #[false, false, false, false, false, false, false, false, false]
abbrev bt1_16 : Array Bool := #[true, false, false, false, false, false, false, false, false]
abbrev bt2_16 : Array Bool := #[true, true, false, false, false, false, false, false, false]
abbrev bt3_16 : Array Bool := #[true, true, true, false, false, false, false, false, false]
abbrev bt4_16 : Array Bool := #[true, true, true, true, false, false, false, false, false]
abbrev bt5_16 : Array Bool := #[false, false, false, false, false, false, false, false, false, false, false, false, false, false]
abbrev bt6_16 : Array Bool := #[true, false, false, false, false, false, false, false, false, false, false, false, false, false]
abbrev bt7_16 : Array Bool := #[true, true, false, false, false, false, false, false, false, false, false, false, false, false]
abbrev bt8_16 : Array Bool := #[true, true, true, false, false, false, false, false, false, false, false, false, false, false]
abbrev bt9_16 : Array Bool := #[true, true, true, true, false, false, false, false, false, false, false, false, false, false]
abbrev bt10_16 : Array Bool := #[true, true, true, true, false, false, false, false, false, true, false, false, false, false]
abbrev bt11_16 : Array Bool := #[true, true, true, true, false, false, false, false, false, true, true, false, false, false]
abbrev bt12_16 : Array Bool := #[true, true, true, true, false, false, false, false, false, true, true, true, false, false]
abbrev bt13_16 : Array Bool := #[true, true, true, true, true, false, false, false, false, true, true, true, false, false]
abbrev bt14_16 : Array Bool := #[true, true, true, true, true, true, false, false, false, true, true, true, false, false]
abbrev bt15_16 : Array Bool := #[true, true, true, true, true, true, true, false, false, true, true, true, false, false]
abbrev bt16_16 : Array Bool := #[true, true, true, true, true, true, true, true, false, true, true, true, false, false]
abbrev bt17_16 : Array Bool := #[true, true, true, true, true, true, true, true, true, true, true, true, false, false]
abbrev bt18_16 : Array Bool := #[true, true, true, true, true, true, true, true, true, true, true, true, true, false]
abbrev bt19_16 : Array Bool := #[true, true, true, true, true, true, true, true, true, true, true, true, true, true]
abbrev bt20_16 : Array Bool := #[false, false, false, false, false, false, false, false, false, false, false, false, false, false, false, false, false, false, false, false, false]
abbrev bt21_16 : Array Bool := #[true, false, false, false, false, false, false, false, false, false, false, false, false, false, false, false, false, false, false, false, false]
abbrev bt22_16 : Array Bool := #[true, true, false, false, false, false, false, false, false, false, false, false, false, false, false, false, false, false, false, false, false]
abbrev bt23_16 : Array Bool := #[true, true, true, false, false, false, false, false, false, false, false, false, false, false, false, false, false, false, false, false, false]
abbrev bt24_16 : Array Bool := #[true, true, true, true, false, false, false, false, false, false, false, false, false, false, false, false, false, false, false, false, false]
abbrev bt25_16 : Array Bool := #[true, true, true, true, true, false, false, false, false, false, false, false, false, false, false, false, false, false, false, false, false]
abbrev bt26_16 : Array Bool := #[true, true, true, true, true, false, false, true, false, false, false, false, false, false, false, false, false, false, false, false, false]
abbrev bt27_16 : Array Bool := #[true, true, true, true, true, false, false, true, false, false, false, false, false, false, false, true, false, false, false, false, false]
abbrev bt28_16 : Array Bool := #[true, true, true, true, true, false, false, true, false, false, false, false, false, false, false, true, true, false, false, false, false]
abbrev bt29_16 : Array Bool := #[true, true, true, true, true, false, false, true, false, false, false, false, false, false, false, true, true, true, false, false, false]
abbrev bt30_16 : Array Bool := #[true, true, true, true, true, false, false, true, false, false, false, false, false, false, false, true, true, true, true, false, false]
abbrev bt31_16 : Array Bool := #[true, true, true, true, true, true, false, true, false, false, false, false, false, false, false, true, true, true, true, false, false]
abbrev bt32_16 : Array Bool := #[true, true, true, true, true, true, true, true, false, false, false, false, false, false, false, true, true, true, true, false, false]
abbrev bt33_16 : Array Bool := #[true, true, true, true, true, true, true, true, true, false, false, false, false, false, false, true, true, true, true, false, false]
abbrev bt34_16 : Array Bool := #[true, true, true, true, true, true, true, true, true, true, false, false, false, false, false, true, true, true, true, false, false]
abbrev bt35_16 : Array Bool := #[true, true, true, true, true, true, true, true, true, true, true, false, false, false, false, true, true, true, true, false, false]
abbrev bt36_16 : Array Bool := #[true, true, true, true, true, true, true, true, true, true, true, true, false, false, false, true, true, true, true, false, false]
abbrev bt37_16 : Array Bool := #[true, true, true, true, true, true, true, true, true, true, true, true, true, false, false, true, true, true, true, false, false]
abbrev bt38_16 : Array Bool := #[true, true, true, true, true, true, true, true, true, true, true, true, true, true, false, true, true, true, true, false, false]
abbrev bt39_16 : Array Bool := #[true, true, true, true, true, true, true, true, true, true, true, true, true, true, true, true, true, true, true, false, false]
abbrev bt40_16 : Array Bool := #[true, true, true, true, true, true, true, true, true, true, true, true, true, true, true, true, true, true, true, true, false]
abbrev bt41_16 : Array Bool := #[true, true, true, true, true, true, true, true, true, true, true, true, true, true, true, true, true, true, true, true, true]
def spec_l1Spoil.f (k : Nat) (s0_0 : List Int) (s0_1 : Int) (s0_2 : Int) (a1 : ByteArray) : Option (ByteArray × Int × Int) := if (a1.size : Int) = 0 then ((spec_l1Text.f k s0_0 s0_1 s0_2 3).bind fun bt445 => (some (bt445.1, bt445.2.1, bt445.2.2))) else ((spec_l1Below.f s0_0 s0_1 s0_2 (a1.size : Int)).bind fun bt448 => ((spec_l1Below.f s0_0 bt448.2.1 bt448.2.2 4).bind fun bt451 => (if bt451.1 = 0 then (if 0 ≤ bt448.1 then (if bt448.1 ≤ (a1.size : Int) then (if 0 ≤ (wrap64 (bt448.1 + 1)) then (if (wrap64 (bt448.1 + 1)) ≤ (a1.size : Int) then (if (a1.extract 0 (bt448.1 : Int).toNat).size + (a1.extract ((wrap64 (bt448.1 + 1)) : Int).toNat a1.size).size ≤ 9223372036854775807 then (some ((a1.extract 0 (bt448.1 : Int).toNat) ++ (a1.extract ((wrap64 (bt448.1 + 1)) : Int).toNat a1.size), bt451.2.1, bt451.2.2)) else (none)) else (none)) else (none)) else (none)) else (none)) else (if bt451.1 = 1 then (if 0 ≤ bt448.1 then (if bt448.1 ≤ (a1.size : Int) then ((spec_l1Byte.f s0_0 bt451.2.1 bt451.2.2).bind fun bt454 => ((some (([(bt454.1) % 256] : List Int) : List Int)).bind fun y457 => (if (a1.extract 0 (bt448.1 : Int).toNat).size + (strOfNums y457).size ≤ 9223372036854775807 then (if ((a1.extract 0 (bt448.1 : Int).toNat) ++ (strOfNums y457)).size + (a1.extract (bt448.1 : Int).toNat a1.size).size ≤ 9223372036854775807 then (some (((a1.extract 0 (bt448.1 : Int).toNat) ++ (strOfNums y457)) ++ (a1.extract (bt448.1 : Int).toNat a1.size), bt454.2.1, bt454.2.2)) else (none)) else (none)))) else (none)) else (none)) else (if bt451.1 = 2 then (if 0 ≤ bt448.1 then (if bt448.1 ≤ (a1.size : Int) then (some (a1.extract 0 (bt448.1 : Int).toNat, bt451.2.1, bt451.2.2)) else (none)) else (none)) else (if 0 ≤ bt448.1 then (if bt448.1 ≤ (a1.size : Int) then (if bt448.1 < (a1.size : Int) then ((spec_l1Below.f s0_0 bt451.2.1 bt451.2.2 255).bind fun bt460 => ((some (([(Go.bits .xor .i64 (wrap64 (bt a1 bt448.1)) (wrap64 (1 + bt460.1))) % 256] : List Int) : List Int)).bind fun y463 => (if (a1.extract 0 (bt448.1 : Int).toNat).size + (strOfNums y463).size ≤ 9223372036854775807 then (if 0 ≤ (wrap64 (bt448.1 + 1)) then (if (wrap64 (bt448.1 + 1)) ≤ (a1.size : Int) then (if ((a1.extract 0 (bt448.1 : Int).toNat) ++ (strOfNums y463)).size + (a1.extract ((wrap64 (bt448.1 + 1)) : Int).toNat a1.size).size ≤ 9223372036854775807 then (some (((a1.extract 0 (bt448.1 : Int).toNat) ++ (strOfNums y463)) ++ (a1.extract ((wrap64 (bt448.1 + 1)) : Int).toNat a1.size), bt460.2.1, bt460.2.2)) else (none)) else (none)) else (none)) else (none)))) else (none)) else (none)) else (none)))))))
theorem spec_l1Spoil.mono : ∀ a0 a1 a2 a3 k, LeO (spec_l1Spoil.f k a0 a1 a2 a3) (spec_l1Spoil.f (k + 1) a0 a1 a2 a3) := by
 intro a0 a1 a2 a3 k
 unfold spec_l1Spoil.f
 repeat' (first | (with_reducible first | exact spec_l1Text.mono _ _ _ _ _ | exact LeO.refl _ | exact LeO.none _ | refine LeO.ite ?_ ?_ | refine LeO.bind ?_ (fun _ => ?_)) | exact LeO.none _ | refine LeO.ite ?_ ?_ | refine LeO.bind ?_ (fun _ => ?_))
def spec_l1Spoil.T6 : Bool × List (List Nat × List Nat) := (true, [([], []), ([], []), ([0, 1], [0, 1]), ([], []), ([], []), ([4], [4]), ([3, 5], [3, 5]), ([2, 6], [2, 6]), ([7, 0, 1, 2, 3, 4, 5, 6, 7], [7])])
def spec_l1Spoil.B6 : List Nat := [0, 0, 3, 0, 0, 16, 56, 127, 255]
theorem spec_l1Spoil.tab6 : rtab .any (opsOf Tryz.f31 6) = spec_l1Spoil.T6 := by kernel_rfl
theorem spec_l1Spoil.bits6 : waitsOk spec_l1Spoil.T6.2 spec_l1Spoil.B6 = true := by kernel_rfl
def spec_l1Spoil.T8 : Bool × List (List Nat × List Nat) := (true, [([], []), ([], []), ([0, 1], [0, 1]), ([], []), ([3], [3]), ([4], [4]), ([5], [5]), ([6], [6]), ([2, 7], [2, 7]), ([], []), ([], []), ([9, 10], [9, 10]), ([8, 11], [8, 11]), ([12, 4, 0, 1, 2, 3, 4, 5, 6, 7, 8, 9, 10, 11, 12], [12])])
def spec_l1Spoil.B8 : List Nat := [0, 0, 3, 0, 8, 24, 56, 120, 255, 0, 0, 1536, 4095, 8191]
theorem spec_l1Spoil.tab8 : rtab .any (opsOf Tryz.f31 8) = spec_l1Spoil.T8 := by kernel_rfl
theorem spec_l1Spoil.bits8 : waitsOk spec_l1Spoil.T8.2 spec_l1Spoil.B8 = true := by kernel_rfl
def spec_l1Spoil.T11 : Bool × List (List Nat × List Nat) := (true, [([], []), ([], []), ([0, 1], [0, 1]), ([], []), ([], []), ([3, 4], [3, 4]), ([5], [5]), ([], []), ([7], [7]), ([8], [8]), ([6, 9], [6, 9]), ([10], [10]), ([11], [11]), ([12], [12]), ([2, 13], [2, 13]), ([], []), ([], []), ([16], [16]), ([15, 17], [15, 17]), ([14, 18], [14, 18]), ([19, 8, 0, 1, 2, 3, 4, 5, 6, 7, 8, 9, 10, 11, 12, 13, 14, 15, 16, 17, 18, 19], [19])])
def spec_l1Spoil.B11 : List Nat := [0, 0, 3, 0, 0, 24, 56, 0, 128, 384, 1016, 2040, 4088, 8184, 16383, 0, 0, 65536, 229376, 524287, 1048575]
theorem spec_l1Spoil.tab11 : rtab .any (opsOf Tryz.f31 11) = spec_l1Spoil.T11 := by kernel_rfl
theorem spec_l1Spoil.bits11 : waitsOk spec_l1Spoil.T11.2 spec_l1Spoil.B11 = true := by kernel_rfl
set_option maxHeartbeats 8000000 in
set_option maxRecDepth 100000 in
theorem spec_l1Spoil.calls (k : Nat) (g : Nat) (s0_0 : List Int) (s0_1 : Int) (s0_2 : Int) (a1 : ByteArray) (r1 : ByteArray) (r2 : Int) (r3 : Int) (w0 w : World) (hI : IsS77 w0 w g s0_0 s0_1 s0_2) (hB : Below w0.heap.size w0 w) (h : spec_l1Spoil.f k s0_0 s0_1 s0_2 a1 = some (r1, r2, r3)) :
  Calls Tryz.prog 31 #[.pointer (some ⟨g, 0, none⟩), .string a1] w fun e w' => e = .returned (.string r1) ∧ IsS77 w0 w' g s0_0 r2 r3 ∧ Below w0.heap.size w0 w' ∧ KeepBut w w' g none := by
 have HI0 := Aside0.mk hI
 have HK := Aside0.mk (KeepBut.refl w g none)
 have HL := Aside0.mk hB.size
 clear hI
 have HW0 := Aside0.mk hB.size
 have HB := Aside0.mk hB
 clear hB
 try unfold spec_l1Spoil.f at h
 have H := h
 clear h
 by_cases c3 : (a1.size : Int) = 0
 rw [if_pos c3] at H
 have c3b0 := beq_iff_eq.mpr c3
 have c3b1 := bne_eq_false_iff_eq.mpr c3
 clear c3
 replace H := bnd H
 obtain ⟨⟨t445, t446, t447⟩, A4, H⟩ := H
 try dsimp only at H
 simp only [Option.some.injEq, Prod.mk.injEq] at H
 obtain ⟨rfl, rfl, rfl⟩ := H
 rotate_left
 rw [if_neg c3] at H
 have c3b0 := beq_eq_false_iff_ne.mpr c3
 have c3b1 := bne_iff_ne.mpr c3
 replace H := bnd H
 obtain ⟨⟨t448, t449, t450⟩, A6, H⟩ := H
 try dsimp only at H
 replace H := bnd H
 obtain ⟨⟨t451, t452, t453⟩, A7, H⟩ := H
 try dsimp only at H
 by_cases c8 : t451 = 0
 ·rw [if_pos c8] at H
  have c8b0 : (t451 == 0) = true := beq_iff_eq.mpr c8
  have c8b1 : (t451 != 0) = false := bne_eq_false_iff_eq.mpr c8
  clear c8
  replace H := it0 H
  obtain ⟨c9, H⟩ := H
  have c9b0 := eq_true c9
  have c9b1 : decide (0 ≤ t448) = true := decide_eq_true c9
  clear c9
  replace H := it0 H
  obtain ⟨c10, H⟩ := H
  have c10b0 := eq_true c10
  have c10b1 := decide_eq_true c10
  clear c10
  obtain ⟨ji11, hji11⟩ : ∃ j_ : Int, (wrap64 (t448 + 1)) = j_ := ⟨_, rfl⟩
  replace H : (if 0 ≤ (ji11) then (if (ji11) ≤ (a1.size : Int) then (if (a1.extract 0 (t448 : Int).toNat).size + (a1.extract ((ji11) : Int).toNat a1.size).size ≤ 9223372036854775807 then (some ((a1.extract 0 (t448 : Int).toNat) ++ (a1.extract ((ji11) : Int).toNat a1.size), t452, t453)) else (none)) else (none)) else (none)) = some (r1, r2, r3) := by first | (rw [hji11] at H; exact H) | (simp only [hji11] at H ⊢; exact H)
  (try rw [hji11] at A6)
  (try rw [hji11] at A7)
  have hji11w : (IntKind.i64.wrap (t448 + 1)) = ji11 := (i64_w _).trans hji11
  replace H := it0 H
  obtain ⟨c12, H⟩ := H
  have c12b0 := eq_true c12
  have c12b1 := decide_eq_true c12
  clear c12
  replace H := it0 H
  obtain ⟨c13, H⟩ := H
  have c13b0 := eq_true c13
  have c13b1 := decide_eq_true c13
  clear c13
  replace H := it0 H
  obtain ⟨c14, H⟩ := H
  obtain ⟨c14b0, c14b1, c14b2⟩ := szf c14
  try have c14b5 : (9223372036854775807 < (t448).toNat + (a1.size - (ji11).toNat)) = False := by have l0_ := of_decide_eq_true c10b1; have h_ := c14b2; simp only [ByteArray.size_append, ByteArray.size_extract, eq_iff_iff, iff_false] at h_ ⊢; omega
  simp only [Option.some.injEq, Prod.mk.injEq] at H
  obtain ⟨rfl, rfl, rfl⟩ := H
  try simp only [ByteArray.size_append, lsz, List.length_cons, List.length_nil, Nat.reduceAdd] at *
  go_enter Tryz.func31, Tryz.ntmps31
  try go_wp2_with (first | ((with_reducible refine gate_callee (f := 48) rfl ?_); refine goesL_ (some 14) rfl rfl Tryz.func48 (by kernel_rfl) rfl #[.pointer (some ⟨g, 0, none⟩), .int .i64 (a1.size : Int)] rfl zt7 ?_; (with_reducible refine (spec_l1Below.calls g s0_0 s0_1 s0_2 (a1.size : Int) t448 t449 t450 w0 _ ?side1 ?side2 A6.out).mono ?_); (case side1 => exact zt4); (case side2 => exact zt6); rintro e w15 ⟨rfl, hi, hb, hk⟩; refine ⟨_, rfl, ?_⟩; have n0_ := Aside0.mk (KeepBut.trans zt5 hk (.inl rfl)); have n1_ := Aside0.mk (hb); have n2_ := Aside0.mk (hi); clear HK; clear HB; clear HI0; have HK := n0_; have HB := n1_; have HI0 := n2_; clear n0_ n1_ n2_; (try clear hb); (try clear hb2); (try clear hk); (try clear hi)) | ((with_reducible refine gate_callee (f := 48) rfl ?_); refine goesL_ (some 16) rfl rfl Tryz.func48 (by kernel_rfl) rfl #[.pointer (some ⟨g, 0, none⟩), .int .i64 4] rfl zt7 ?_; (with_reducible refine (spec_l1Below.calls g s0_0 t449 t450 4 t451 t452 t453 w0 _ ?side1 ?side2 A7.out).mono ?_); (case side1 => exact zt4); (case side2 => exact zt6); rintro e w16 ⟨rfl, hi, hb, hk⟩; refine ⟨_, rfl, ?_⟩; have n0_ := Aside0.mk (KeepBut.trans zt5 hk (.inl rfl)); have n1_ := Aside0.mk (hb); have n2_ := Aside0.mk (hi); clear HK; clear HB; clear HI0; have HK := n0_; have HB := n1_; have HI0 := n2_; clear n0_ n1_ n2_; (try clear hb); (try clear hb2); (try clear hk); (try clear hi)))
  have n0_ := Aside0.mk (IsS77.drew HI0.out)
  have n1_ := Aside0.mk (keep_drew HK.out)
  have n2_ := Aside0.mk (below_drew1 HB.out)
  clear HI0
  clear HK
  clear HB
  have HI0 := n0_
  have HK := n1_
  have HB := n2_
  clear n0_ n1_ n2_
  refine start_ (n := 9) (S := fun w' => True) (ds := []) bt0_16 (by kernel_rfl) rfl rfl trivial (fun hHeld => ?_); refine with_tabW spec_l1Spoil.tab6 spec_l1Spoil.bits6 (fun HT_ HW_ => ?_)
  generalize w16.drew = w17 at HI0 HK HB hHeld ⊢
  refine pure_ (i := 0) (N := some 19) (v := ?_) (a' := ?_) bt1_16 rfl rfl (any_of HT_.out (by kernel_rfl)) (fun _ _ _ h => h) (Or.inl ⟨by rfl, ?_⟩) ?_ ?_
  rotate_left
  ·intro w'
   go_simp
   with_reducible rfl
  rotate_left
  ·simp only [Act.put, sA16, sB16, sC16, i64_w, i32_w]
   rfl
  refine pure_ (i := 1) (N := some 20) (v := ?_) (a' := ?_) bt2_16 rfl rfl (any_of HT_.out (by kernel_rfl)) (fun _ _ _ h => h) (Or.inl ⟨by rfl, ?_⟩) ?_ ?_
  rotate_left
  ·intro w'
   go_simp
   with_reducible rfl
  rotate_left
  ·simp only [Act.put, sA16, sB16, sC16, i64_w, i32_w]
   rfl
  refine pure_ (i := 2) (N := some 21) (v := ?_) (a' := ?_) bt3_16 rfl rfl (any_of HT_.out (by kernel_rfl)) (fun _ _ _ h => h) (Or.inl ⟨by rfl, ?_⟩) ?_ ?_
  rotate_left
  ·intro w'
   go_simp
   with_reducible rfl
  rotate_left
  ·simp only [Act.put, sA16, sB16, sC16, i64_w, i32_w]
   rfl
  refine pure_ (i := 3) (N := some 22) (v := ?_) (a' := ?_) bt4_16 rfl rfl (any_of HT_.out (by kernel_rfl)) (fun _ _ _ h => h) (Or.inl ⟨by rfl, ?_⟩) ?_ ?_
  rotate_left
  ·intro w'
   go_simp
   with_reducible rfl
  rotate_left
  ·simp only [Act.put, sA16, sB16, sC16, i64_w, i32_w]
   rfl
  refine pure_ (i := 4) (N := some 23) (v := ?_) (a' := ?_) #[true, true, true, true, true, false, false, false, false] rfl rfl (any_of HT_.out (by kernel_rfl)) (fun _ _ _ h => h) (Or.inl ⟨by rfl, ?_⟩) ?_ ?_
  rotate_left
  ·intro w'
   go_simp
   with_reducible rfl
  rotate_left
  ·simp only [Act.put, sA16, sB16, sC16, i64_w, i32_w]
   rfl
  refine pure_ (i := 5) (N := some 24) (v := ?_) (a' := ?_) #[true, true, true, true, true, true, false, false, false] rfl rfl (any_of HT_.out (by kernel_rfl)) (fun _ _ _ h => h) (Or.inl ⟨by rfl, ?_⟩) ?_ ?_
  rotate_left
  ·intro w'
   go_simp
   with_reducible rfl
  rotate_left
  ·simp only [Act.put, sA16, sB16, sC16, i64_w, i32_w]
   rfl
  refine pure_ (i := 6) (N := some 25) (v := ?_) (a' := ?_) #[true, true, true, true, true, true, true, false, false] rfl rfl (any_of HT_.out (by kernel_rfl)) (fun _ _ _ h => h) (Or.inl ⟨by rfl, ?_⟩) ?_ ?_
  rotate_left
  ·intro w'
   go_simp
   with_reducible rfl
  rotate_left
  ·simp only [Act.put, sA16, sB16, sC16, i64_w, i32_w]
   rfl
  refine pure_ (i := 7) (N := some 26) (v := ?_) (a' := ?_) #[true, true, true, true, true, true, true, true, false] rfl rfl (any_of HT_.out (by kernel_rfl)) (fun _ _ _ h => h) (Or.inl ⟨by rfl, ?_⟩) ?_ ?_
  rotate_left
  ·intro w'
   go_simp
   with_reducible rfl
  rotate_left
  ·simp only [Act.put, sA16, sB16, sC16, i64_w, i32_w]
   rfl
  refine pure_ (i := 8) (N := some 4) (v := ?_) (a' := ?_) #[true, true, true, true, true, true, true, true, true] rfl rfl (any_of HT_.out (by kernel_rfl)) (fun _ _ _ h => h) (Or.inl ⟨by rfl, ?_⟩) ?_ ?_
  rotate_left
  ·intro w'
   go_simp
   with_reducible rfl
  rotate_left
  ·simp only [Act.put, sA16, sB16, sC16, i64_w, i32_w]
   rfl
  refine done_ (done_of HT_.out (by kernel_rfl)) ?_
  try go_wp2
  go_ret
  exact ⟨by first | rfl | (simp [errW_none, errW_some] <;> rfl) | (simp only [← hji11]; first | rfl | (simp [errW_none, errW_some] <;> rfl)) | (simp [*, errW_none, errW_some] <;> rfl), zt4, zt6, zt5⟩
 rw [if_neg c8] at H
 have c8b0 : (t451 == 0) = false := beq_eq_false_iff_ne.mpr c8
 have c8b1 : (t451 != 0) = true := bne_iff_ne.mpr c8
 by_cases c18 : t451 = 1
 ·rw [if_pos c18] at H
  have c18b0 : (t451 == 1) = true := beq_iff_eq.mpr c18
  have c18b1 : (t451 != 1) = false := bne_eq_false_iff_eq.mpr c18
  clear c18
  replace H := it0 H
  obtain ⟨c19, H⟩ := H
  have c19b0 := eq_true c19
  have c19b1 : decide (0 ≤ t448) = true := decide_eq_true c19
  clear c19
  replace H := it0 H
  obtain ⟨c20, H⟩ := H
  have c20b0 := eq_true c20
  have c20b1 := decide_eq_true c20
  clear c20
  replace H := bnd H
  obtain ⟨⟨t454, t455, t456⟩, A21, H⟩ := H
  try dsimp only at H
  replace H := bsm H
  obtain ⟨y457, hy457, H⟩ := H
  try dsimp only at H
  have Ny457 := Aside0.mk hy457
  clear hy457
  replace H := it0 H
  obtain ⟨c22, H⟩ := H
  obtain ⟨c22b0, c22b1, c22b2⟩ := szf c22
  try have c22b5 : (9223372036854775807 < (t448).toNat + (strOfNums y457).size) = False := by have l0_ := of_decide_eq_true c20b1; have h_ := c22b2; simp only [ByteArray.size_append, ByteArray.size_extract, eq_iff_iff, iff_false] at h_ ⊢; omega
  have c23b0 := eq_true (of_decide_eq_true zt8 : 0 ≤ t448)
  have c24b0 := eq_true (of_decide_eq_true zt8 : t448 ≤ (a1.size : Int))
  replace H := it0 H
  obtain ⟨c25, H⟩ := H
  obtain ⟨c25b0, c25b1, c25b2⟩ := szf c25
  try have c25b5 : (9223372036854775807 < ((t448).toNat + (strOfNums y457).size) + (a1.size - (t448).toNat)) = False := by have l0_ := of_decide_eq_true c20b1; have h_ := c25b2; simp only [ByteArray.size_append, ByteArray.size_extract, eq_iff_iff, iff_false] at h_ ⊢; omega
  simp only [Option.some.injEq, Prod.mk.injEq] at H
  obtain ⟨rfl, rfl, rfl⟩ := H
  try simp only [ByteArray.size_append, lsz, List.length_cons, List.length_nil, Nat.reduceAdd] at *
  go_enter Tryz.func31, Tryz.ntmps31
  try go_wp2_with (first | ((with_reducible refine gate_callee (f := 48) rfl ?_); refine goesL_ (some 14) rfl rfl Tryz.func48 (by kernel_rfl) rfl #[.pointer (some ⟨g, 0, none⟩), .int .i64 (a1.size : Int)] rfl zt7 ?_; (with_reducible refine (spec_l1Below.calls g s0_0 s0_1 s0_2 (a1.size : Int) t448 t449 t450 w0 _ ?side1 ?side2 A6.out).mono ?_); (case side1 => exact zt4); (case side2 => exact zt6); rintro e w26 ⟨rfl, hi, hb, hk⟩; refine ⟨_, rfl, ?_⟩; have n0_ := Aside0.mk (KeepBut.trans zt5 hk (.inl rfl)); have n1_ := Aside0.mk (hb); have n2_ := Aside0.mk (hi); clear HK; clear HB; clear HI0; have HK := n0_; have HB := n1_; have HI0 := n2_; clear n0_ n1_ n2_; (try clear hb); (try clear hb2); (try clear hk); (try clear hi)) | ((with_reducible refine gate_callee (f := 48) rfl ?_); refine goesL_ (some 16) rfl rfl Tryz.func48 (by kernel_rfl) rfl #[.pointer (some ⟨g, 0, none⟩), .int .i64 4] rfl zt7 ?_; (with_reducible refine (spec_l1Below.calls g s0_0 t449 t450 4 t451 t452 t453 w0 _ ?side1 ?side2 A7.out).mono ?_); (case side1 => exact zt4); (case side2 => exact zt6); rintro e w27 ⟨rfl, hi, hb, hk⟩; refine ⟨_, rfl, ?_⟩; have n0_ := Aside0.mk (KeepBut.trans zt5 hk (.inl rfl)); have n1_ := Aside0.mk (hb); have n2_ := Aside0.mk (hi); clear HK; clear HB; clear HI0; have HK := n0_; have HB := n1_; have HI0 := n2_; clear n0_ n1_ n2_; (try clear hb); (try clear hb2); (try clear hk); (try clear hi)))
  have n0_ := Aside0.mk (IsS77.drew HI0.out)
  have n1_ := Aside0.mk (keep_drew HK.out)
  have n2_ := Aside0.mk (below_drew1 HB.out)
  clear HI0
  clear HK
  clear HB
  have HI0 := n0_
  have HK := n1_
  have HB := n2_
  clear n0_ n1_ n2_
  refine start_ (n := 14) (S := fun w' => True) (ds := []) bt5_16 (by kernel_rfl) rfl rfl trivial (fun hHeld => ?_); refine with_tabW spec_l1Spoil.tab8 spec_l1Spoil.bits8 (fun HT_ HW_ => ?_)
  generalize w27.drew = w28 at HI0 HK HB hHeld ⊢
  refine pure_ (i := 0) (N := some 29) (v := ?_) (a' := ?_) bt6_16 rfl rfl (any_of HT_.out (by kernel_rfl)) (fun _ _ _ h => h) (Or.inl ⟨by rfl, ?_⟩) ?_ ?_
  rotate_left
  ·intro w'
   go_simp
   with_reducible rfl
  rotate_left
  ·simp only [Act.put, sA16, sB16, sC16, i64_w, i32_w]
   rfl
  refine pure_ (i := 1) (N := some 30) (v := ?_) (a' := ?_) bt7_16 rfl rfl (any_of HT_.out (by kernel_rfl)) (fun _ _ _ h => h) (Or.inl ⟨by rfl, ?_⟩) ?_ ?_
  rotate_left
  ·intro w'
   go_simp
   with_reducible rfl
  rotate_left
  ·simp only [Act.put, sA16, sB16, sC16, i64_w, i32_w]
   rfl
  refine pure_ (i := 2) (N := some 31) (v := ?_) (a' := ?_) bt8_16 rfl rfl (any_of HT_.out (by kernel_rfl)) (fun _ _ _ h => h) (Or.inl ⟨by rfl, ?_⟩) ?_ ?_
  rotate_left
  ·intro w'
   go_simp
   with_reducible rfl
  rotate_left
  ·simp only [Act.put, sA16, sB16, sC16, i64_w, i32_w]
   rfl
  refine pure_ (i := 3) (N := some 32) (v := ?_) (a' := ?_) bt9_16 rfl rfl (any_of HT_.out (by kernel_rfl)) (fun _ _ _ h => h) (Or.inl ⟨by rfl, ?_⟩) ?_ ?_
  rotate_left
  ·intro w'
   go_simp
   with_reducible rfl
  rotate_left
  ·simp only [Act.put, sA16, sB16, sC16, i64_w, i32_w]
   rfl
  refine pure_ (i := 9) (N := some 38) (v := ?_) (a' := ?_) bt10_16 rfl rfl (any_of HT_.out (by kernel_rfl)) (fun _ _ _ h => h) (Or.inl ⟨by rfl, ?_⟩) ?_ ?_
  rotate_left
  ·intro w'
   go_simp
   with_reducible rfl
  rotate_left
  ·simp only [Act.put, sA16, sB16, sC16, i64_w, i32_w]
   rfl
  refine pure_ (i := 10) (N := some 39) (v := ?_) (a' := ?_) bt11_16 rfl rfl (any_of HT_.out (by kernel_rfl)) (fun _ _ _ h => h) (Or.inl ⟨by rfl, ?_⟩) ?_ ?_
  rotate_left
  ·intro w'
   go_simp
   with_reducible rfl
  rotate_left
  ·simp only [Act.put, sA16, sB16, sC16, i64_w, i32_w]
   rfl
  refine pure_ (i := 11) (N := some 40) (v := ?_) (a' := ?_) bt12_16 rfl rfl (any_of HT_.out (by kernel_rfl)) (fun _ _ _ h => h) (Or.inl ⟨by rfl, ?_⟩) ?_ ?_
  rotate_left
  ·intro w'
   go_simp
   with_reducible rfl
  rotate_left
  ·simp only [Act.put, sA16, sB16, sC16, i64_w, i32_w]
   rfl
  refine one_ (i := 4) (N := some 33) bt13_16 rfl rfl (one_of HT_.out (by kernel_rfl)) (by decide) (fun K hK => ?_)
  refine goes_ Tryz.func51 (by kernel_rfl) rfl #[.pointer (some ⟨g, 0, none⟩)] (by rfl) rfl rfl zt7 ?_
  with_reducible refine (spec_l1Byte.calls g s0_0 t452 t453 t454 t455 t456 w0 _ ?side1 ?side2 A21.out).mono ?_
  (case side1 => exact zt4)
  (case side2 => exact zt6)
  rintro e w29 ⟨rfl, hi, hb, hk⟩
  refine ⟨_, rfl, ?_⟩
  have n0_ := Aside0.mk (KeepBut.trans zt5 hk (.inl rfl))
  have n1_ := Aside0.mk (hb)
  have n2_ := Aside0.mk (hi)
  clear HK
  clear HB
  clear HI0
  have HK := n0_
  have HB := n1_
  have HI0 := n2_
  clear n0_ n1_ n2_
  (try clear hb)
  (try clear hb2)
  (try clear hk)
  (try clear hi)
  refine hK.out _ _ trivial (fun hHeld => ?_)
  clear hK K
  refine norm_ (a' := ?_) ?_ ?_
  rotate_left
  ·show Act.put _ (some 33) _ = _
   simp only [Act.put, sA16, sB16, sC16, i64_w, i32_w]
   rfl
  refine pure_ (i := 5) (N := some 34) (v := ?_) (a' := ?_) bt14_16 rfl rfl (any_of HT_.out (by kernel_rfl)) (fun _ _ _ h => h) (Or.inl ⟨by rfl, ?_⟩) ?_ ?_
  rotate_left
  ·intro w'
   go_simp
   with_reducible rfl
  rotate_left
  ·simp only [Act.put, sA16, sB16, sC16, i64_w, i32_w]
   rfl
  refine one_ (i := 6) (N := some 35) bt15_16 rfl rfl (one_of HT_.out (by kernel_rfl)) (by decide) (fun K hK => ?_)
  refine Kd.R_lit_step (Kd.int .u8) _ 5 ?hg (N := 35) ?hd (xs := ([(t454) % 256] : List Int)) (inner := [.int .u8 ((t454) % 256)]) (ok := fun _ => True) (okp := fun _ => True) ?hr ?hp (fun _ hk => hk) trivial (Below.refl _ _) (Nat.le_refl _) (by simp) ?_; (case hd => rfl); (case hg => rfl); (case hr => first | (go_simp; done) | (go_simp; rfl)); (case hp => exact (Reps.one (show Kd.M (Kd.int .u8) _ _ _ ((t454) % 256) [.int .u8 ((t454) % 256)] from rfl) (Reps.none _ _)))
  intro v458 w30 ho31 hb hg_ hnew_
  clear hg_ hnew_
  (first | rw [← Ny457.out] at ho31 | (simp only [Int.reduceToNat] at ho31; rw [← Ny457.out] at ho31))
  have n0_ := Aside0.mk (Kd.R_lower ho31 (keep_size (w := w) (g := g) (row := none) zt5))
  have n1_ := Aside0.mk (IsS77.below zt4 hb)
  have n2_ := Aside0.mk (KeepBut.trans zt5 (KeepBut.of_below hb g none) (.inl rfl))
  have n3_ := Aside0.mk (below_step zt6 hb)
  clear HI0
  clear HK
  clear HB
  have HO459 := n0_
  have HI0 := n1_
  have HK := n2_
  have HB := n3_
  clear n0_ n1_ n2_ n3_
  clear hb ho31
  refine hK.out _ _ trivial (fun hHeld => ?_)
  clear hK K
  refine norm_ (a' := ?_) ?_ ?_
  rotate_left
  ·show Act.put _ (some 35) _ = _
   simp only [Act.put, sA16, sB16, sC16, i64_w, i32_w]
   rfl
  refine one_ (i := 7) (N := some 36) bt16_16 rfl rfl (one_of HT_.out (by kernel_rfl)) (by decide) (fun K hK => ?_)
  have hcv32 := own_string (P := Tryz.prog) Tryz.underlying22 Tryz.underlying5 Tryz.underlying9 (Kd.own_of_R HO459.out)
  refine value_ (w1 := ?_) (v := ?_) (by rfl) rfl ?_ ?_
  rotate_left 2
  ·go_simp
   constructor
   ·rfl
   ·rfl
  clear hcv32
  refine hK.out _ _ trivial (fun hHeld => ?_)
  clear hK K
  refine norm_ (a' := ?_) ?_ ?_
  rotate_left
  ·show Act.put _ (some 36) _ = _
   simp only [Act.put, sA16, sB16, sC16, i64_w, i32_w]
   rfl
  refine pure_ (i := 8) (N := some 37) (v := ?_) (a' := ?_) bt17_16 rfl rfl (any_of HT_.out (by kernel_rfl)) (fun _ _ _ h => h) (Or.inl ⟨by rfl, ?_⟩) ?_ ?_
  rotate_left
  ·intro w'
   go_simp
   with_reducible rfl
  rotate_left
  ·simp only [Act.put, sA16, sB16, sC16, i64_w, i32_w]
   rfl
  refine pure_ (i := 12) (N := some 41) (v := ?_) (a' := ?_) bt18_16 rfl rfl (any_of HT_.out (by kernel_rfl)) (fun _ _ _ h => h) (Or.inl ⟨by rfl, ?_⟩) ?_ ?_
  rotate_left
  ·intro w'
   go_simp
   with_reducible rfl
  rotate_left
  ·simp only [Act.put, sA16, sB16, sC16, i64_w, i32_w]
   rfl
  refine pure_ (i := 13) (N := some 4) (v := ?_) (a' := ?_) bt19_16 rfl rfl (any_of HT_.out (by kernel_rfl)) (fun _ _ _ h => h) (Or.inl ⟨by rfl, ?_⟩) ?_ ?_
  rotate_left
  ·intro w'
   go_simp
   with_reducible rfl
  rotate_left
  ·simp only [Act.put, sA16, sB16, sC16, i64_w, i32_w]
   rfl
  refine done_ (done_of HT_.out (by kernel_rfl)) ?_
  try go_wp2
  go_ret
  exact ⟨zt10, zt4, zt6, zt5⟩
 rw [if_neg c18] at H
 have c18b0 : (t451 == 1) = false := beq_eq_false_iff_ne.mpr c18
 have c18b1 : (t451 != 1) = true := bne_iff_ne.mpr c18
 by_cases c33 : t451 = 2
 rw [if_pos c33] at H
 have c33b0 : (t451 == 2) = true := beq_iff_eq.mpr c33
 have c33b1 : (t451 != 2) = false := bne_eq_false_iff_eq.mpr c33
 clear c33
 replace H := it0 H
 obtain ⟨c34, H⟩ := H
 have c34b0 := eq_true c34
 have c34b1 : decide (0 ≤ t448) = true := decide_eq_true c34
 clear c34
 replace H := it0 H
 obtain ⟨c35, H⟩ := H
 have c35b0 := eq_true c35
 have c35b1 := decide_eq_true c35
 clear c35
 simp only [Option.some.injEq, Prod.mk.injEq] at H
 obtain ⟨rfl, rfl, rfl⟩ := H
 rotate_left
 ·rw [if_neg c33] at H
  have c33b0 : (t451 == 2) = false := beq_eq_false_iff_ne.mpr c33
  have c33b1 : (t451 != 2) = true := bne_iff_ne.mpr c33
  replace H := it0 H
  obtain ⟨c38, H⟩ := H
  have c38b0 := eq_true c38
  have c38b1 : decide (0 ≤ t448) = true := decide_eq_true c38
  clear c38
  replace H := it0 H
  obtain ⟨c39, H⟩ := H
  have c39b0 := eq_true c39
  have c39b1 := decide_eq_true c39
  clear c39
  replace H := it0 H
  obtain ⟨c40, H⟩ := H
  have c40b0 := decide_eq_true c40
  clear c40
  replace H := bnd H
  obtain ⟨⟨t460, t461, t462⟩, A42, H⟩ := H
  try dsimp only at H
  replace H := bsm H
  obtain ⟨y463, hy463, H⟩ := H
  try dsimp only at H
  have Ny463 := Aside0.mk hy463
  clear hy463
  replace H := it0 H
  obtain ⟨c43, H⟩ := H
  obtain ⟨c43b0, c43b1, c43b2⟩ := szf c43
  try have c43b5 : (9223372036854775807 < (t448).toNat + (strOfNums y463).size) = False := by have l0_ := of_decide_eq_true c39b1; have h_ := c43b2; simp only [ByteArray.size_append, ByteArray.size_extract, eq_iff_iff, iff_false] at h_ ⊢; omega
  obtain ⟨ji44, hji44⟩ : ∃ j_ : Int, (wrap64 (t448 + 1)) = j_ := ⟨_, rfl⟩
  replace H : (if 0 ≤ (ji44) then (if (ji44) ≤ (a1.size : Int) then (if ((a1.extract 0 (t448 : Int).toNat) ++ (strOfNums y463)).size + (a1.extract ((ji44) : Int).toNat a1.size).size ≤ 9223372036854775807 then (some (((a1.extract 0 (t448 : Int).toNat) ++ (strOfNums y463)) ++ (a1.extract ((ji44) : Int).toNat a1.size), t461, t462)) else (none)) else (none)) else (none)) = some (r1, r2, r3) := by first | (rw [hji44] at H; exact H) | (simp only [hji44] at H ⊢; exact H)
  (try rw [hji44] at A6)
  (try rw [hji44] at A7)
  (try rw [hji44] at A42)
  have hji44w : (IntKind.i64.wrap (t448 + 1)) = ji44 := (i64_w _).trans hji44
  replace H := it0 H
  obtain ⟨c45, H⟩ := H
  have c45b0 := eq_true c45
  have c45b1 := decide_eq_true c45
  clear c45
  replace H := it0 H
  obtain ⟨c46, H⟩ := H
  have c46b0 := eq_true c46
  have c46b1 := decide_eq_true c46
  clear c46
  replace H := it0 H
  obtain ⟨c47, H⟩ := H
  obtain ⟨c47b0, c47b1, c47b2⟩ := szf c47
  try have c47b5 : (9223372036854775807 < ((t448).toNat + (strOfNums y463).size) + (a1.size - (ji44).toNat)) = False := by have l0_ := of_decide_eq_true c39b1; have h_ := c47b2; simp only [ByteArray.size_append, ByteArray.size_extract, eq_iff_iff, iff_false] at h_ ⊢; omega
  simp only [Option.some.injEq, Prod.mk.injEq] at H
  obtain ⟨rfl, rfl, rfl⟩ := H
  try simp only [ByteArray.size_append, lsz, List.length_cons, List.length_nil, Nat.reduceAdd] at *
  go_enter Tryz.func31, Tryz.ntmps31
  try go_wp2_with (first | ((with_reducible refine gate_callee (f := 48) rfl ?_); refine goesL_ (some 14) rfl rfl Tryz.func48 (by kernel_rfl) rfl #[.pointer (some ⟨g, 0, none⟩), .int .i64 (a1.size : Int)] rfl zt7 ?_; (with_reducible refine (spec_l1Below.calls g s0_0 s0_1 s0_2 (a1.size : Int) t448 t449 t450 w0 _ ?side1 ?side2 A6.out).mono ?_); (case side1 => exact zt4); (case side2 => exact zt6); rintro e w48 ⟨rfl, hi, hb, hk⟩; refine ⟨_, rfl, ?_⟩; have n0_ := Aside0.mk (KeepBut.trans zt5 hk (.inl rfl)); have n1_ := Aside0.mk (hb); have n2_ := Aside0.mk (hi); clear HK; clear HB; clear HI0; have HK := n0_; have HB := n1_; have HI0 := n2_; clear n0_ n1_ n2_; (try clear hb); (try clear hb2); (try clear hk); (try clear hi)) | ((with_reducible refine gate_callee (f := 48) rfl ?_); refine goesL_ (some 16) rfl rfl Tryz.func48 (by kernel_rfl) rfl #[.pointer (some ⟨g, 0, none⟩), .int .i64 4] rfl zt7 ?_; (with_reducible refine (spec_l1Below.calls g s0_0 t449 t450 4 t451 t452 t453 w0 _ ?side1 ?side2 A7.out).mono ?_); (case side1 => exact zt4); (case side2 => exact zt6); rintro e w49 ⟨rfl, hi, hb, hk⟩; refine ⟨_, rfl, ?_⟩; have n0_ := Aside0.mk (KeepBut.trans zt5 hk (.inl rfl)); have n1_ := Aside0.mk (hb); have n2_ := Aside0.mk (hi); clear HK; clear HB; clear HI0; have HK := n0_; have HB := n1_; have HI0 := n2_; clear n0_ n1_ n2_; (try clear hb); (try clear hb2); (try clear hk); (try clear hi)))
  have n0_ := Aside0.mk (IsS77.drew HI0.out)
  have n1_ := Aside0.mk (keep_drew HK.out)
  have n2_ := Aside0.mk (below_drew1 HB.out)
  clear HI0
  clear HK
  clear HB
  have HI0 := n0_
  have HK := n1_
  have HB := n2_
  clear n0_ n1_ n2_
  have p41 : 0 ≤ (t448 : Int) := of_decide_eq_true zt8
  have q41 : t448 < (a1.size : Int) := of_decide_eq_true zt8
  have hx41 := bt_at a1 t448
  replace p41 := eq_true p41
  replace q41 := eq_true q41
  refine start_ (n := 21) (S := fun w' => True) (ds := []) bt20_16 (by kernel_rfl) rfl rfl trivial (fun hHeld => ?_); refine with_tabW spec_l1Spoil.tab11 spec_l1Spoil.bits11 (fun HT_ HW_ => ?_)
  generalize w49.drew = w50 at HI0 HK HB hHeld ⊢
  refine pure_ (i := 0) (N := some 47) (v := ?_) (a' := ?_) bt21_16 rfl rfl (any_of HT_.out (by kernel_rfl)) (fun _ _ _ h => h) (Or.inl ⟨by rfl, ?_⟩) ?_ ?_
  rotate_left
  ·intro w'
   go_simp
   with_reducible rfl
  rotate_left
  ·simp only [Act.put, sA16, sB16, sC16, i64_w, i32_w]
   rfl
  refine pure_ (i := 1) (N := some 48) (v := ?_) (a' := ?_) bt22_16 rfl rfl (any_of HT_.out (by kernel_rfl)) (fun _ _ _ h => h) (Or.inl ⟨by rfl, ?_⟩) ?_ ?_
  rotate_left
  ·intro w'
   go_simp
   with_reducible rfl
  rotate_left
  ·simp only [Act.put, sA16, sB16, sC16, i64_w, i32_w]
   rfl
  refine pure_ (i := 2) (N := some 49) (v := ?_) (a' := ?_) bt23_16 rfl rfl (any_of HT_.out (by kernel_rfl)) (fun _ _ _ h => h) (Or.inl ⟨by rfl, ?_⟩) ?_ ?_
  rotate_left
  ·intro w'
   go_simp
   with_reducible rfl
  rotate_left
  ·simp only [Act.put, sA16, sB16, sC16, i64_w, i32_w]
   rfl
  refine pure_ (i := 3) (N := some 50) (v := ?_) (a' := ?_) bt24_16 rfl rfl (any_of HT_.out (by kernel_rfl)) (fun _ _ _ h => h) (Or.inl ⟨by rfl, ?_⟩) ?_ ?_
  rotate_left
  ·intro w'
   go_simp
   with_reducible rfl
  rotate_left
  ·simp only [Act.put, sA16, sB16, sC16, i64_w, i32_w]
   rfl
  refine pure_ (i := 4) (N := some 51) (v := ?_) (a' := ?_) bt25_16 rfl rfl (any_of HT_.out (by kernel_rfl)) (fun _ _ _ h => h) (Or.inl ⟨by rfl, ?_⟩) ?_ ?_
  rotate_left
  ·intro w'
   go_simp
   with_reducible rfl
  rotate_left
  ·simp only [Act.put, sA16, sB16, sC16, i64_w, i32_w]
   rfl
  refine pure_ (i := 7) (N := some 54) (v := ?_) (a' := ?_) bt26_16 rfl rfl (any_of HT_.out (by kernel_rfl)) (fun _ _ _ h => h) (Or.inl ⟨by rfl, ?_⟩) ?_ ?_
  rotate_left
  ·intro w'
   go_simp
   with_reducible rfl
  rotate_left
  ·simp only [Act.put, sA16, sB16, sC16, i64_w, i32_w]
   rfl
  refine pure_ (i := 15) (N := some 62) (v := ?_) (a' := ?_) bt27_16 rfl rfl (any_of HT_.out (by kernel_rfl)) (fun _ _ _ h => h) (Or.inl ⟨by rfl, ?_⟩) ?_ ?_
  rotate_left
  ·intro w'
   go_simp
   with_reducible rfl
  rotate_left
  ·simp only [Act.put, sA16, sB16, sC16, i64_w, i32_w]
   rfl
  refine pure_ (i := 16) (N := some 63) (v := ?_) (a' := ?_) bt28_16 rfl rfl (any_of HT_.out (by kernel_rfl)) (fun _ _ _ h => h) (Or.inl ⟨by rfl, ?_⟩) ?_ ?_
  rotate_left
  ·intro w'
   go_simp
   with_reducible rfl
  rotate_left
  ·simp only [Act.put, sA16, sB16, sC16, i64_w, i32_w]
   rfl
  refine pure_ (i := 17) (N := some 64) (v := ?_) (a' := ?_) bt29_16 rfl rfl (any_of HT_.out (by kernel_rfl)) (fun _ _ _ h => h) (Or.inl ⟨by rfl, ?_⟩) ?_ ?_
  rotate_left
  ·intro w'
   go_simp
   with_reducible rfl
  rotate_left
  ·simp only [Act.put, sA16, sB16, sC16, i64_w, i32_w]
   rfl
  refine pure_ (i := 18) (N := some 65) (v := ?_) (a' := ?_) bt30_16 rfl rfl (any_of HT_.out (by kernel_rfl)) (fun _ _ _ h => h) (Or.inl ⟨by rfl, ?_⟩) ?_ ?_
  rotate_left
  ·intro w'
   go_simp
   with_reducible rfl
  rotate_left
  ·simp only [Act.put, sA16, sB16, sC16, i64_w, i32_w]
   rfl
  refine take_ (i := 5) (N := some 52) (v := ?_) (a' := ?_) bt31_16 rfl rfl (take_ofW HT_.out HW_.out (by kernel_rfl)) (fun _ _ _ h => h) (Or.inl ⟨by rfl, ?_⟩) hHeld ?_ ?_
  rotate_left
  ·intro w' _
   go_simp
   with_reducible rfl
  rotate_left
  ·simp only [Act.put, sA16, sB16, sC16, i64_w, i32_w]
   rfl
  refine pure_ (i := 6) (N := some 53) (v := ?_) (a' := ?_) bt32_16 rfl rfl (any_of HT_.out (by kernel_rfl)) (fun _ _ _ h => h) (Or.inl ⟨by rfl, ?_⟩) ?_ ?_
  rotate_left
  ·intro w'
   go_simp
   with_reducible rfl
  rotate_left
  ·simp only [Act.put, sA16, sB16, sC16, i64_w, i32_w]
   rfl
  refine one_ (i := 8) (N := some 55) bt33_16 rfl rfl (one_of HT_.out (by kernel_rfl)) (by decide) (fun K hK => ?_)
  refine goes_ Tryz.func48 (by kernel_rfl) rfl #[.pointer (some ⟨g, 0, none⟩), .int .i64 255] (by rfl) rfl rfl zt7 ?_
  with_reducible refine (spec_l1Below.calls g s0_0 t452 t453 255 t460 t461 t462 w0 _ ?side1 ?side2 A42.out).mono ?_
  (case side1 => exact zt4)
  (case side2 => exact zt6)
  rintro e w51 ⟨rfl, hi, hb, hk⟩
  refine ⟨_, rfl, ?_⟩
  have n0_ := Aside0.mk (KeepBut.trans zt5 hk (.inl rfl))
  have n1_ := Aside0.mk (hb)
  have n2_ := Aside0.mk (hi)
  clear HK
  clear HB
  clear HI0
  have HK := n0_
  have HB := n1_
  have HI0 := n2_
  clear n0_ n1_ n2_
  (try clear hb)
  (try clear hb2)
  (try clear hk)
  (try clear hi)
  refine hK.out _ _ trivial (fun hHeld => ?_)
  clear hK K
  refine norm_ (a' := ?_) ?_ ?_
  rotate_left
  ·show Act.put _ (some 55) _ = _
   simp only [Act.put, sA16, sB16, sC16, i64_w, i32_w]
   rfl
  refine pure_ (i := 9) (N := some 56) (v := ?_) (a' := ?_) bt34_16 rfl rfl (any_of HT_.out (by kernel_rfl)) (fun _ _ _ h => h) (Or.inl ⟨by rfl, ?_⟩) ?_ ?_
  rotate_left
  ·intro w'
   go_simp
   with_reducible rfl
  rotate_left
  ·simp only [Act.put, sA16, sB16, sC16, i64_w, i32_w]
   rfl
  refine pure_ (i := 10) (N := some 57) (v := ?_) (a' := ?_) bt35_16 rfl rfl (any_of HT_.out (by kernel_rfl)) (fun _ _ _ h => h) (Or.inl ⟨by rfl, ?_⟩) ?_ ?_
  rotate_left
  ·intro w'
   go_simp
   with_reducible rfl
  rotate_left
  ·simp only [Act.put, sA16, sB16, sC16, i64_w, i32_w]
   rfl
  refine pure_ (i := 11) (N := some 58) (v := ?_) (a' := ?_) bt36_16 rfl rfl (any_of HT_.out (by kernel_rfl)) (fun _ _ _ h => h) (Or.inl ⟨by rfl, ?_⟩) ?_ ?_
  rotate_left
  ·intro w'
   go_simp
   with_reducible rfl
  rotate_left
  ·simp only [Act.put, sA16, sB16, sC16, i64_w, i32_w]
   rfl
  refine one_ (i := 12) (N := some 59) bt37_16 rfl rfl (one_of HT_.out (by kernel_rfl)) (by decide) (fun K hK => ?_)
  refine Kd.R_lit_step (Kd.int .u8) _ 5 ?hg (N := 59) ?hd (xs := ([(Go.bits .xor .i64 (wrap64 (bt a1 t448)) (wrap64 (1 + t460))) % 256] : List Int)) (inner := [.int .u8 ((Go.bits .xor .i64 (wrap64 (bt a1 t448)) (wrap64 (1 + t460))) % 256)]) (ok := fun _ => True) (okp := fun _ => True) ?hr ?hp (fun _ hk => hk) trivial (Below.refl _ _) (Nat.le_refl _) (by simp) ?_; (case hd => rfl); (case hg => rfl); (case hr => first | (go_simp; done) | (go_simp; rfl)); (case hp => exact (Reps.one (show Kd.M (Kd.int .u8) _ _ _ ((Go.bits .xor .i64 (wrap64 (bt a1 t448)) (wrap64 (1 + t460))) % 256) [.int .u8 ((Go.bits .xor .i64 (wrap64 (bt a1 t448)) (wrap64 (1 + t460))) % 256)] from rfl) (Reps.none _ _)))
  intro v464 w52 ho53 hb hg_ hnew_
  clear hg_ hnew_
  (first | rw [← Ny463.out] at ho53 | (simp only [Int.reduceToNat] at ho53; rw [← Ny463.out] at ho53))
  have n0_ := Aside0.mk (Kd.R_lower ho53 (keep_size (w := w) (g := g) (row := none) zt5))
  have n1_ := Aside0.mk (IsS77.below zt4 hb)
  have n2_ := Aside0.mk (KeepBut.trans zt5 (KeepBut.of_below hb g none) (.inl rfl))
  have n3_ := Aside0.mk (below_step zt6 hb)
  clear HI0
  clear HK
  clear HB
  have HO465 := n0_
  have HI0 := n1_
  have HK := n2_
  have HB := n3_
  clear n0_ n1_ n2_ n3_
  clear hb ho53
  refine hK.out _ _ trivial (fun hHeld => ?_)
  clear hK K
  refine norm_ (a' := ?_) ?_ ?_
  rotate_left
  ·show Act.put _ (some 59) _ = _
   simp only [Act.put, sA16, sB16, sC16, i64_w, i32_w]
   rfl
  refine one_ (i := 13) (N := some 60) bt38_16 rfl rfl (one_of HT_.out (by kernel_rfl)) (by decide) (fun K hK => ?_)
  have hcv54 := own_string (P := Tryz.prog) Tryz.underlying22 Tryz.underlying5 Tryz.underlying9 (Kd.own_of_R HO465.out)
  refine value_ (w1 := ?_) (v := ?_) (by rfl) rfl ?_ ?_
  rotate_left 2
  ·go_simp
   constructor
   ·rfl
   ·rfl
  clear hcv54
  refine hK.out _ _ trivial (fun hHeld => ?_)
  clear hK K
  refine norm_ (a' := ?_) ?_ ?_
  rotate_left
  ·show Act.put _ (some 60) _ = _
   simp only [Act.put, sA16, sB16, sC16, i64_w, i32_w]
   rfl
  refine pure_ (i := 14) (N := some 61) (v := ?_) (a' := ?_) bt39_16 rfl rfl (any_of HT_.out (by kernel_rfl)) (fun _ _ _ h => h) (Or.inl ⟨by rfl, ?_⟩) ?_ ?_
  rotate_left
  ·intro w'
   go_simp
   with_reducible rfl
  rotate_left
  ·simp only [Act.put, sA16, sB16, sC16, i64_w, i32_w]
   rfl
  refine pure_ (i := 19) (N := some 66) (v := ?_) (a' := ?_) bt40_16 rfl rfl (any_of HT_.out (by kernel_rfl)) (fun _ _ _ h => h) (Or.inl ⟨by rfl, ?_⟩) ?_ ?_
  rotate_left
  ·intro w'
   go_simp
   with_reducible rfl
  rotate_left
  ·simp only [Act.put, sA16, sB16, sC16, i64_w, i32_w]
   rfl
  refine pure_ (i := 20) (N := some 4) (v := ?_) (a' := ?_) bt41_16 rfl rfl (any_of HT_.out (by kernel_rfl)) (fun _ _ _ h => h) (Or.inl ⟨by rfl, ?_⟩) ?_ ?_
  rotate_left
  ·intro w'
   go_simp
   with_reducible rfl
  rotate_left
  ·simp only [Act.put, sA16, sB16, sC16, i64_w, i32_w]
   rfl
  refine done_ (done_of HT_.out (by kernel_rfl)) ?_
  try go_wp2
  go_ret
  exact ⟨by first | rfl | (simp [errW_none, errW_some] <;> rfl) | (simp only [← hji44]; first | rfl | (simp [errW_none, errW_some] <;> rfl)) | (simp [*, errW_none, errW_some] <;> rfl), zt4, zt6, zt5⟩
 all_goals
  try simp only [ByteArray.size_append, lsz, List.length_cons, List.length_nil, Nat.reduceAdd] at *
  go_enter Tryz.func31, Tryz.ntmps31
  repeat (go_wp2_with (first | ((with_reducible refine gate_callee (f := 48) rfl ?_); refine goesL_ (some 14) rfl rfl Tryz.func48 (by kernel_rfl) rfl #[.pointer (some ⟨g, 0, none⟩), .int .i64 (a1.size : Int)] rfl zt7 ?_; (with_reducible refine (spec_l1Below.calls g s0_0 s0_1 s0_2 (a1.size : Int) t448 t449 t450 w0 _ ?side1 ?side2 A6.out).mono ?_); (case side1 => exact zt4); (case side2 => exact zt6); rintro e w7000 ⟨rfl, hi, hb, hk⟩; refine ⟨_, rfl, ?_⟩; have n0_ := Aside0.mk (KeepBut.trans zt5 hk (.inl rfl)); have n1_ := Aside0.mk (hb); have n2_ := Aside0.mk (hi); clear HK; clear HB; clear HI0; have HK := n0_; have HB := n1_; have HI0 := n2_; clear n0_ n1_ n2_; (try clear hb); (try clear hb2); (try clear hk); (try clear hi)) | ((with_reducible refine gate_callee (f := 35) rfl ?_); refine goesL_ (some 10) rfl rfl Tryz.func35 (by kernel_rfl) rfl #[.pointer (some ⟨g, 0, none⟩), .int .i64 3] rfl zt7 ?_; (with_reducible refine (spec_l1Text.calls k g s0_0 s0_1 s0_2 3 t445 t446 t447 w0 _ ?side1 ?side2 A4.out).mono ?_); (case side1 => exact zt4); (case side2 => exact zt6); rintro e w7000 ⟨rfl, hi, hb, hk⟩; refine ⟨_, rfl, ?_⟩; have n0_ := Aside0.mk (KeepBut.trans zt5 hk (.inl rfl)); have n1_ := Aside0.mk (hb); have n2_ := Aside0.mk (hi); clear HK; clear HB; clear HI0; have HK := n0_; have HB := n1_; have HI0 := n2_; clear n0_ n1_ n2_; (try clear hb); (try clear hb2); (try clear hk); (try clear hi)) | ((with_reducible refine gate_callee (f := 48) rfl ?_); refine goesL_ (some 16) rfl rfl Tryz.func48 (by kernel_rfl) rfl #[.pointer (some ⟨g, 0, none⟩), .int .i64 4] rfl zt7 ?_; (with_reducible refine (spec_l1Below.calls g s0_0 t449 t450 4 t451 t452 t453 w0 _ ?side1 ?side2 A7.out).mono ?_); (case side1 => exact zt4); (case side2 => exact zt6); rintro e w7001 ⟨rfl, hi, hb, hk⟩; refine ⟨_, rfl, ?_⟩; have n0_ := Aside0.mk (KeepBut.trans zt5 hk (.inl rfl)); have n1_ := Aside0.mk (hb); have n2_ := Aside0.mk (hi); clear HK; clear HB; clear HI0; have HK := n0_; have HB := n1_; have HI0 := n2_; clear n0_ n1_ n2_; (try clear hb); (try clear hb2); (try clear hk); (try clear hi))); first | go_quiet (fail) | (go_ret; exact ⟨zt10, zt4, zt6, zt5⟩))

/-! ### spec_DrawReadFiles: function 10 -/
def spec_DrawReadFiles.f (k : Nat) (l0 : List Int) : Option (ByteArray) := (spec_l1New.f k l0).bind fun bt466 => ((spec_l7Files.f k bt466.1 bt466.2.1 bt466.2.2 2).bind fun bt470 => ((spec_ShowFiles.f k bt470.1).bind fun t475 => ((spec_l1Once.f bt466.1 bt470.2.1 bt470.2.2 3).bind fun bt476 => (if bt476.1 = true then ((spec_l1Spoil.f k bt466.1 bt476.2.1 bt476.2.2 t475).bind fun bt479 => (some bt479.1)) else (some t475)))))
theorem spec_DrawReadFiles.mono : ∀ a0 k, LeO (spec_DrawReadFiles.f k a0) (spec_DrawReadFiles.f (k + 1) a0) := by
 intro a0 k
 unfold spec_DrawReadFiles.f
 repeat' (first | (with_reducible first | exact spec_ShowFiles.mono _ _ | exact spec_l1New.mono _ _ | exact spec_l1Spoil.mono _ _ _ _ _ | exact spec_l7Files.mono _ _ _ _ _ | exact LeO.refl _ | exact LeO.none _ | refine LeO.ite ?_ ?_ | refine LeO.bind ?_ (fun _ => ?_)) | exact LeO.none _ | refine LeO.ite ?_ ?_ | refine LeO.bind ?_ (fun _ => ?_))
set_option maxHeartbeats 8000000 in
set_option maxRecDepth 100000 in
theorem spec_DrawReadFiles.calls (k : Nat) (A0 : Option Addr) (c0 : Nat) (l0 : List Int) (r : ByteArray) (w : World) (hr0 : Kd.C (Kd.int .u8) w A0 l0.length l0) (hc0 : l0.length ≤ c0) (h : spec_DrawReadFiles.f k l0 = some r) :
  Calls Tryz.prog 10 #[.slice A0 l0.length c0] w fun e w' => e = .returned (.string r) ∧ Below w.heap.size w w' := by
 have HR0 := Aside0.mk hr0
 have HC0 := Aside0.mk hc0
 clear hr0 hc0
 have HB := Aside0.mk (Below.refl w.heap.size w)
 try unfold spec_DrawReadFiles.f at h
 have H := h
 clear h
 replace H := bnd H
 obtain ⟨⟨t466, t467, t468⟩, A2, H⟩ := H
 try dsimp only at H
 replace H := bnd H
 obtain ⟨⟨t470, t473, t474⟩, A3, H⟩ := H
 try dsimp only at H
 replace H := bnd H
 obtain ⟨t475, A4, H⟩ := H
 try dsimp only at H
 replace H := bnd H
 obtain ⟨⟨t476, t477, t478⟩, A5, H⟩ := H
 try dsimp only at H
 by_cases c6 : t476 = true
 subst c6
 rw [if_pos rfl] at H
 replace H := bnd H
 obtain ⟨⟨t479, t480, t481⟩, A7, H⟩ := H
 try dsimp only at H
 obtain rfl := Option.some.inj H
 rotate_left
 replace c6 := Bool.eq_false_iff.mpr c6
 subst c6
 rw [if_neg (show ¬ (false = true) by decide)] at H
 obtain rfl := Option.some.inj H
 rotate_left
 all_goals
  go_enter Tryz.func10, Tryz.ntmps10
  repeat (go_wp2_with (first | ((with_reducible refine gate_callee (f := 31) rfl ?_); refine goesL_ (some 14) rfl rfl Tryz.func31 (by kernel_rfl) rfl #[.pointer (some ⟨g7001, 0, none⟩), .string t475] rfl zt7 ?_; (with_reducible refine (spec_l1Spoil.calls k g7001 t466 t477 t478 t475 t479 t480 t481 w _ ?side1 ?side2 A7.out).mono ?_); (case side1 => exact zt28); (case side2 => exact zt30); rintro e w7010 ⟨rfl, hi, hb, hk⟩; refine ⟨_, rfl, ?_⟩; have n0_ := Aside0.mk (Kd.R_mono (Kd.R_keep (IsS77.apart (show IsS77 w _ g7001 t466 t477 t478 from zt28) (rz HO7006.out) (by decide)) hk (fun _ h => h.2)) (fun _ h => h.1)); have n1_ := Aside0.mk (hb); have n2_ := Aside0.mk (hi); clear HO7006; clear HB; clear HI7001; have HO7006 := n0_; have HB := n1_; have HI7001 := n2_; clear n0_ n1_ n2_; (try clear hb); (try clear hb7002); (try clear hk); (try clear hi)) | ((with_reducible refine gate_callee (f := 30) rfl ?_); refine goesL_ (some 11) rfl rfl Tryz.func30 (by kernel_rfl) rfl #[.pointer (some ⟨g7001, 0, none⟩), .int .i64 3] rfl zt7 ?_; (with_reducible refine (spec_l1Once.calls g7001 t466 t473 t474 3 false t477 t478 w _ ?side1 ?side2 A5.out).mono ?_); (case side1 => exact zt28); (case side2 => exact zt30); rintro e w7009 ⟨rfl, hi, hb, hk⟩; refine ⟨_, rfl, ?_⟩; have n0_ := Aside0.mk (Kd.R_mono (Kd.R_keep (IsS77.apart (show IsS77 w _ g7001 t466 t473 t474 from zt28) (rz HO7006.out) (by decide)) hk (fun _ h => h.2)) (fun _ h => h.1)); have n1_ := Aside0.mk (hb); have n2_ := Aside0.mk (hi); clear HO7006; clear HB; clear HI7001; have HO7006 := n0_; have HB := n1_; have HI7001 := n2_; clear n0_ n1_ n2_; (try clear hb); (try clear hb7002); (try clear hk); (try clear hi)) | ((with_reducible refine gate_callee (f := 30) rfl ?_); refine goesL_ (some 11) rfl rfl Tryz.func30 (by kernel_rfl) rfl #[.pointer (some ⟨g7001, 0, none⟩), .int .i64 3] rfl zt7 ?_; (with_reducible refine (spec_l1Once.calls g7001 t466 t473 t474 3 true t477 t478 w _ ?side1 ?side2 A5.out).mono ?_); (case side1 => exact zt28); (case side2 => exact zt30); rintro e w7009 ⟨rfl, hi, hb, hk⟩; refine ⟨_, rfl, ?_⟩; have n0_ := Aside0.mk (Kd.R_mono (Kd.R_keep (IsS77.apart (show IsS77 w _ g7001 t466 t473 t474 from zt28) (rz HO7006.out) (by decide)) hk (fun _ h => h.2)) (fun _ h => h.1)); have n1_ := Aside0.mk (hb); have n2_ := Aside0.mk (hi); clear HO7006; clear HB; clear HI7001; have HO7006 := n0_; have HB := n1_; have HI7001 := n2_; clear n0_ n1_ n2_; (try clear hb); (try clear hb7002); (try clear hk); (try clear hi)) | ((with_reducible refine gate_callee (f := 28) rfl ?_); refine goesL_ (some 9) rfl rfl Tryz.func28 (by kernel_rfl) rfl #[.slice Ao7007 t470.length co7007] rfl zt7 ?_; (with_reducible refine (spec_ShowFiles.calls k _ _ t470 t475 _ ?side1 ?side2 A4.out).mono ?_); (case side1 => exact cz (Kd.R_reads' HO7006.out).2.2); (case side2 => exact (Kd.R_reads' HO7006.out).2.1); rintro e w7008 ⟨rfl, hb⟩; refine ⟨_, rfl, ?_⟩; have n0_ := Aside0.mk (Kd.R_below (rz HO7006.out) hb); have n1_ := Aside0.mk (IsS77.below zt28 hb); have n2_ := Aside0.mk (below_step zt30 hb); clear HO7006; clear HI7001; clear HB; have HO7006 := n0_; have HI7001 := n1_; have HB := n2_; clear n0_ n1_ n2_; (try clear hb); (try clear hb7002); (try clear hk); (try clear hi)) | ((with_reducible refine gate_callee (f := 29) rfl ?_); refine goesL_ (some 8) rfl rfl Tryz.func29 (by kernel_rfl) rfl #[.pointer (some ⟨g7001, 0, none⟩), .int .i64 2] rfl zt7 ?_; (with_reducible refine (spec_l7Files.calls k g7001 t466 t467 t468 2 t470 t473 t474 w _ ?side1 ?side2 A3.out).mono ?_); (case side1 => exact zt28); (case side2 => exact zt30); rintro e w7003 ⟨v7004, rfl, ho7005, hi, hb, hk⟩; refine ⟨_, rfl, ?_⟩; have n0_ := Aside0.mk (Kd.R_lower ho7005 (below_size zt30)); have n1_ := Aside0.mk (hb); have n2_ := Aside0.mk (hi); clear HB; clear HI7001; have HO7006 := n0_; have HB := n1_; have HI7001 := n2_; clear n0_ n1_ n2_; (try clear hb); (try clear hb7002); (try clear hk); (try clear hi); (try clear ho7005); obtain ⟨Ao7007, co7007, eo7007⟩ := Kd.R_slice HO7006.out; subst eo7007) | ((with_reducible refine gate_callee (f := 27) rfl ?_); refine goesL_ (some 6) rfl rfl Tryz.func27 (by kernel_rfl) rfl #[.slice A0 l0.length c0] rfl zt7 ?_; (with_reducible refine (spec_l1New.calls k _ _ l0 t466 t467 t468 w _ ?side1 ?side2 ?side3 A2.out).mono ?_); (case side1 => exact zt3); (case side2 => exact HR0.out); (case side3 => exact HC0.out); rintro e w7000 ⟨g7001, rfl, hi, hb, hb7002⟩; refine ⟨_, rfl, ?_⟩; have n0_ := Aside0.mk (hb); have n1_ := Aside0.mk (hi); clear HB; have HB := n0_; have HI7001 := n1_; clear n0_ n1_; (try clear hb); (try clear hb7002); (try clear hk); (try clear hi))); first | go_quiet (fail) | (go_ret; exact ⟨zt10, zt30⟩))

end Go.Proofs.YtkmcnjpgamaljaaGreatDoor.PFnFiles

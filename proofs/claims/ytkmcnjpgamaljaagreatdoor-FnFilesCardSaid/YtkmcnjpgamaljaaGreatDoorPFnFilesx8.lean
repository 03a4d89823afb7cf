-- Out of the kit's print, with contracts of mine among it (myprint.py).
import Derived.Test.YtkmcnjpgamaljaaGreatDoorPFnFilesx0
import Derived.Test.YtkmcnjpgamaljaaGreatDoorPFnFilesx6
namespace Go.Proofs.YtkmcnjpgamaljaaGreatDoor.PFnFiles
open Go.RowKit Go.Proofs.YtkmcnjpgamaljaaGreatDoorW.PrintWords Go.Proofs.YtkmcnjpgamaljaaGreatDoorW.PrintLast Go.Proofs.YtkmcnjpgamaljaaGreatDoorW.PrintMore
attribute [local go_sem] max2_int min2_int max_two min_two max_three min_three max_four min_four   -- for this text's walks alone
set_option linter.unusedVariables false
set_option linter.unusedSimpArgs false

/-! ### spec_l2Path: function 45 -/
mutual
def spec_l2Path.j0 : Nat → ByteArray → Bool → Option (Bool)
 | 0, _, _ => none
 | k + 1, x0, x13 => if x13 = true then (some false) else (spec_l2Path.l0 k x0 0)
def spec_l2Path.l0 : Nat → ByteArray → Int → Option (Bool)
 | 0, _, _ => none
 | k + 1, x0, x3 => if x3 < (x0.size : Int) then (if 0 ≤ x3 then (if (bt x0 x3) ≥ 97 then (if (bt x0 x3) ≤ 122 then (spec_l2Path.l0 k x0 (wrap64 (x3 + 1))) else (if (bt x0 x3) ≥ 48 then (if (bt x0 x3) ≤ 57 then (spec_l2Path.l0 k x0 (wrap64 (x3 + 1))) else (if (bt x0 x3) = 46 then (spec_l2Path.l0 k x0 (wrap64 (x3 + 1))) else (if (bt x0 x3) = 95 then (spec_l2Path.l0 k x0 (wrap64 (x3 + 1))) else (if (bt x0 x3) = 45 then (spec_l2Path.l0 k x0 (wrap64 (x3 + 1))) else (if ((bt x0 x3) = 47) then (spec_l2Path.l0 k x0 (wrap64 (x3 + 1))) else (some false)))))) else (if (bt x0 x3) = 46 then (spec_l2Path.l0 k x0 (wrap64 (x3 + 1))) else (if (bt x0 x3) = 95 then (spec_l2Path.l0 k x0 (wrap64 (x3 + 1))) else (if (bt x0 x3) = 45 then (spec_l2Path.l0 k x0 (wrap64 (x3 + 1))) else (if ((bt x0 x3) = 47) then (spec_l2Path.l0 k x0 (wrap64 (x3 + 1))) else (some false))))))) else (if (bt x0 x3) ≥ 48 then (if (bt x0 x3) ≤ 57 then (spec_l2Path.l0 k x0 (wrap64 (x3 + 1))) else (if (bt x0 x3) = 46 then (spec_l2Path.l0 k x0 (wrap64 (x3 + 1))) else (if (bt x0 x3) = 95 then (spec_l2Path.l0 k x0 (wrap64 (x3 + 1))) else (if (bt x0 x3) = 45 then (spec_l2Path.l0 k x0 (wrap64 (x3 + 1))) else (if ((bt x0 x3) = 47) then (spec_l2Path.l0 k x0 (wrap64 (x3 + 1))) else (some false)))))) else (if (bt x0 x3) = 46 then (spec_l2Path.l0 k x0 (wrap64 (x3 + 1))) else (if (bt x0 x3) = 95 then (spec_l2Path.l0 k x0 (wrap64 (x3 + 1))) else (if (bt x0 x3) = 45 then (spec_l2Path.l0 k x0 (wrap64 (x3 + 1))) else (if ((bt x0 x3) = 47) then (spec_l2Path.l0 k x0 (wrap64 (x3 + 1))) else (some false))))))) else (none)) else (some true)
end
def spec_l2Path.f (k : Nat) (a0 : ByteArray) : Option (Bool) := (spec_l1In.f (a0.size : Int) 1 40).bind fun t240 => (if t240 = true then (if 0 < (a0.size : Int) then (spec_l2Path.j0 k a0 ((bt a0 0) != 47)) else (none)) else (spec_l2Path.j0 k a0 true))
theorem spec_l2Path.mono_l : ∀ k, (∀ y0 y1, LeO (spec_l2Path.j0 k y0 y1) (spec_l2Path.j0 (k + 1) y0 y1)) ∧ (∀ y0 y1, LeO (spec_l2Path.l0 k y0 y1) (spec_l2Path.l0 (k + 1) y0 y1))
 | 0 => ⟨fun _ _ r h => by simp [spec_l2Path.j0] at h, fun _ _ r h => by simp [spec_l2Path.l0] at h⟩
 | k + 1 => by
  obtain ⟨ih0, ih1⟩ := spec_l2Path.mono_l k
  refine ⟨?_, ?_⟩
  ·intro y0 y1
   unfold spec_l2Path.j0
   repeat' (first | (with_reducible first | exact ih0 _ _ | exact ih1 _ _ | exact LeO.refl _ | exact LeO.none _ | refine LeO.ite ?_ ?_ | refine LeO.bind ?_ (fun _ => ?_)) | exact LeO.none _ | refine LeO.ite ?_ ?_ | refine LeO.bind ?_ (fun _ => ?_))
  ·intro y0 y1
   unfold spec_l2Path.l0
   repeat' (first | (with_reducible first | exact ih0 _ _ | exact ih1 _ _ | exact LeO.refl _ | exact LeO.none _ | refine LeO.ite ?_ ?_ | refine LeO.bind ?_ (fun _ => ?_)) | exact LeO.none _ | refine LeO.ite ?_ ?_ | refine LeO.bind ?_ (fun _ => ?_))
theorem spec_l2Path.mono : ∀ a0 k, LeO (spec_l2Path.f k a0) (spec_l2Path.f (k + 1) a0) := by
 intro a0 k
 obtain ⟨ih0, ih1⟩ := spec_l2Path.mono_l k
 unfold spec_l2Path.f
 repeat' (first | (with_reducible first | exact ih0 _ _ | exact ih1 _ _ | exact LeO.refl _ | exact LeO.none _ | refine LeO.ite ?_ ?_ | refine LeO.bind ?_ (fun _ => ?_)) | exact LeO.none _ | refine LeO.ite ?_ ?_ | refine LeO.bind ?_ (fun _ => ?_))
set_option maxHeartbeats 8000000 in
set_option maxRecDepth 100000 in
theorem spec_l2Path.calls (k : Nat) (a0 : ByteArray) (r : Bool) (w : World) (h : spec_l2Path.f k a0 = some r) :
  Calls Tryz.prog 45 #[.string a0] w fun e w' => e = .returned (.bool r) ∧ Drawn0 w w' := by
 try unfold spec_l2Path.f at h
 have H := h
 clear h
 have HC2 := Aside0.mk H
 clear H
 go_enter Tryz.func45, Tryz.ntmps45
 go_upto_region 1 with (fail)
 go_cut [13] (fun v13 wc => ∃ (kq : Nat) (x13_1 : Bool), v13 = .bool x13_1 ∧ Aside0 (spec_l2Path.j0 kq a0 x13_1 = some r) ∧ Aside0 (kq ≤ k) ∧ Drawn0 w wc)
 case first =>
  have H := HC2.out
  clear HC2
  replace H := bnd H
  obtain ⟨t240, A3, H⟩ := H
  try dsimp only at H
  by_cases c4 : t240 = true
  subst c4
  rw [if_pos rfl] at H
  replace H := it0 H
  obtain ⟨c5, H⟩ := H
  have c5b0 := decide_eq_true c5
  have c5b1 : decide (0 < a0.size) = true := decide_eq_true (by omega)
  clear c5
  (first | rw [c5b0] | (simp only [i64_w, i32_w]; rw [c5b0]) | skip)
  have H' := Aside0.mk H
  clear H
  rotate_left
  replace c4 := Bool.eq_false_iff.mpr c4
  subst c4
  rw [if_neg (show ¬ (false = true) by decide)] at H
  have H' := Aside0.mk H
  clear H
  rotate_left
  all_goals
   repeat (go_wp2_with (first | ((with_reducible refine gate_callee (f := 64) rfl ?_); refine goesL_ (some 7) rfl rfl Tryz.func64 (by kernel_rfl) rfl #[.int .i64 (a0.size : Int), .int .i64 1, .int .i64 40] rfl zt7 ?_; (with_reducible refine (spec_l1In.calls (a0.size : Int) 1 40 true _ A3.out).mono ?_); rintro e w' ⟨rfl, ⟨nd, rfl⟩⟩; refine ⟨_, rfl, ?_⟩; have p6 : 0 ≤ (0 : Int) := (by omega); have q6 : 0 < a0.size := (by have : (0 : Int) < (a0.size : Int) := of_decide_eq_true zt8; omega); have hx6 : ∀ h : 0 < a0.size, ((a0[0]'h).toNat : Int) = bt a0 0 := bt_at a0 0; clear p6; have qi6 : (0 < (a0.size : Int)) = True := eq_true (of_decide_eq_true zt8); replace q6 := eq_true q6) | ((with_reducible refine gate_callee (f := 64) rfl ?_); refine goesL_ (some 7) rfl rfl Tryz.func64 (by kernel_rfl) rfl #[.int .i64 (a0.size : Int), .int .i64 1, .int .i64 40] rfl zt7 ?_; (with_reducible refine (spec_l1In.calls (a0.size : Int) 1 40 false _ A3.out).mono ?_); rintro e w' ⟨rfl, ⟨nd, rfl⟩⟩; refine ⟨_, rfl, ?_⟩)); first | go_quiet (fail) | (go_meet; (case rel => exact ⟨_, (((bt a0 0) != 47)), zt12, H', ⟨by first | omega | exact Nat.le_refl _⟩, zt29⟩)) | (go_meet; (case rel => exact ⟨_, (true), zt12, H', ⟨by first | omega | exact Nat.le_refl _⟩, zt29⟩)))
 case rest =>
  clear HC2
  try clear p2
  try clear c4
  try clear c5
  try clear c5b0
  try clear c5b1
  try clear c6
  try clear p6
  try clear q6
  try clear hx6
  try clear qi6
  try clear p6
  try clear q6
  obtain ⟨kq, x13_1, rfl, HA, HJ1, ⟨mc1, rfl⟩⟩ := hcut
  cases kq with
  | zero => exact absurd HA.out (by simp [spec_l2Path.j0])
  | succ kj1 =>
   have H := HA.out
   clear HA
   simp only [spec_l2Path.j0] at H
   by_cases c7 : x13_1 = true
   ·subst c7
    rw [if_pos rfl] at H
    obtain rfl := Option.some.inj H
    go_wp2
    go_ret
    exact ⟨zt12, zt29⟩
   ·replace c7 := Bool.eq_false_iff.mpr c7
    subst c7
    rw [if_neg (show ¬ (false = true) by decide)] at H
    have H' := Aside0.mk H
    clear H
    go_wp2
    go_loopg [3] kj1 (fun kq v3 w' => ∃ (x3_2 : Int), v3 = .int .i64 x3_2 ∧ Aside0 (spec_l2Path.l0 kq a0 x3_2 = some r) ∧ Aside0 (kq ≤ kj1) ∧ Drawn0 w w')
    case atStart => exact ⟨(0), zt12, H', ⟨Nat.le_refl _⟩, zt29⟩
    case round =>
     clear H'
     try clear c1
     try clear p2
     try clear c4
     try clear c5
     try clear c5b0
     try clear c5b1
     try clear c6
     try clear p6
     try clear q6
     try clear hx6
     try clear qi6
     try clear c7
     try clear p2
     try clear p6
     try clear q6
     obtain ⟨x3_2, rfl, HA, HK2, ⟨m2, rfl⟩⟩ := hrel
     cases gk with
     | zero => exact absurd HA.out (by simp [spec_l2Path.l0])
     | succ k2 =>
      have H := HA.out
      clear HA
      simp only [spec_l2Path.l0] at H
      by_cases c8 : x3_2 < (a0.size : Int)
      rw [if_pos c8] at H
      have c8b0 := decide_eq_true c8
      clear c8
      replace H := it0 H
      obtain ⟨c9, H⟩ := H
      have c9b0 : decide (0 ≤ x3_2) = true := decide_eq_true c9
      clear c9
      by_cases c11 : (bt a0 x3_2) ≥ 97
      rw [if_pos c11] at H
      have c11b0 : decide (97 ≤ (bt a0 x3_2)) = true := decide_eq_true c11
      clear c11
      by_cases c12 : (bt a0 x3_2) ≤ 122
      rw [if_pos c12] at H
      have c12b0 := decide_eq_true c12
      clear c12
      have H' := Aside0.mk H
      clear H
      have p10 : 0 ≤ (x3_2 : Int) := of_decide_eq_true zt8
      have q10 : x3_2 < (a0.size : Int) := of_decide_eq_true zt8
      have hx10 := bt_at a0 x3_2
      replace p10 := eq_true p10
      replace q10 := eq_true q10
      rotate_left
      rw [if_neg c12] at H
      have c12b0 := decide_eq_false c12
      clear c12
      by_cases c13 : (bt a0 x3_2) ≥ 48
      rw [if_pos c13] at H
      have c13b0 : decide (48 ≤ (bt a0 x3_2)) = true := decide_eq_true c13
      clear c13
      by_cases c14 : (bt a0 x3_2) ≤ 57
      rw [if_pos c14] at H
      have c14b0 := decide_eq_true c14
      clear c14
      have H' := Aside0.mk H
      clear H
      have p10 : 0 ≤ (x3_2 : Int) := of_decide_eq_true zt8
      have q10 : x3_2 < (a0.size : Int) := of_decide_eq_true zt8
      have hx10 := bt_at a0 x3_2
      replace p10 := eq_true p10
      replace q10 := eq_true q10
      rotate_left
      rw [if_neg c14] at H
      have c14b0 := decide_eq_false c14
      clear c14
      by_cases c15 : (bt a0 x3_2) = 46
      rw [if_pos c15] at H
      have c15b0 := beq_iff_eq.mpr c15
      have c15b1 := bne_eq_false_iff_eq.mpr c15
      clear c15
      have H' := Aside0.mk H
      clear H
      have p10 : 0 ≤ (x3_2 : Int) := of_decide_eq_true zt8
      have q10 : x3_2 < (a0.size : Int) := of_decide_eq_true zt8
      have hx10 := bt_at a0 x3_2
      replace p10 := eq_true p10
      replace q10 := eq_true q10
      rotate_left
      rw [if_neg c15] at H
      have c15b0 := beq_eq_false_iff_ne.mpr c15
      have c15b1 := bne_iff_ne.mpr c15
      by_cases c16 : (bt a0 x3_2) = 95
      rw [if_pos c16] at H
      have c16b0 := beq_iff_eq.mpr c16
      have c16b1 := bne_eq_false_iff_eq.mpr c16
      clear c16
      have H' := Aside0.mk H
      clear H
      have p10 : 0 ≤ (x3_2 : Int) := of_decide_eq_true zt8
      have q10 : x3_2 < (a0.size : Int) := of_decide_eq_true zt8
      have hx10 := bt_at a0 x3_2
      replace p10 := eq_true p10
      replace q10 := eq_true q10
      rotate_left
      rw [if_neg c16] at H
      have c16b0 := beq_eq_false_iff_ne.mpr c16
      have c16b1 := bne_iff_ne.mpr c16
      by_cases c17 : (bt a0 x3_2) = 45
      rw [if_pos c17] at H
      have c17b0 := beq_iff_eq.mpr c17
      have c17b1 := bne_eq_false_iff_eq.mpr c17
      clear c17
      have H' := Aside0.mk H
      clear H
      have p10 : 0 ≤ (x3_2 : Int) := of_decide_eq_true zt8
      have q10 : x3_2 < (a0.size : Int) := of_decide_eq_true zt8
      have hx10 := bt_at a0 x3_2
      replace p10 := eq_true p10
      replace q10 := eq_true q10
      rotate_left
      rw [if_neg c17] at H
      have c17b0 := beq_eq_false_iff_ne.mpr c17
      have c17b1 := bne_iff_ne.mpr c17
      by_cases c18 : ((bt a0 x3_2) = 47)
      rw [if_pos c18] at H
      have c18b0 : ((bt a0 x3_2) == 47) = true := beq_iff_eq.mpr c18
      have c18b1 : ((bt a0 x3_2) != 47) = false := bne_eq_false_iff_eq.mpr c18
      clear c18
      have H' := Aside0.mk H
      clear H
      have p10 : 0 ≤ (x3_2 : Int) := of_decide_eq_true zt8
      have q10 : x3_2 < (a0.size : Int) := of_decide_eq_true zt8
      have hx10 := bt_at a0 x3_2
      replace p10 := eq_true p10
      replace q10 := eq_true q10
      rotate_left
      rw [if_neg c18] at H
      have c18b0 : ((bt a0 x3_2) == 47) = false := beq_eq_false_iff_ne.mpr c18
      have c18b1 : ((bt a0 x3_2) != 47) = true := bne_iff_ne.mpr c18
      obtain rfl := Option.some.inj H
      have p10 : 0 ≤ (x3_2 : Int) := of_decide_eq_true zt8
      have q10 : x3_2 < (a0.size : Int) := of_decide_eq_true zt8
      have hx10 := bt_at a0 x3_2
      replace p10 := eq_true p10
      replace q10 := eq_true q10
      rotate_left
      rw [if_neg c13] at H
      have c13b0 : decide (48 ≤ (bt a0 x3_2)) = false := decide_eq_false c13
      clear c13
      by_cases c19 : (bt a0 x3_2) = 46
      rw [if_pos c19] at H
      have c19b0 := beq_iff_eq.mpr c19
      have c19b1 := bne_eq_false_iff_eq.mpr c19
      clear c19
      have H' := Aside0.mk H
      clear H
      have p10 : 0 ≤ (x3_2 : Int) := of_decide_eq_true zt8
      have q10 : x3_2 < (a0.size : Int) := of_decide_eq_true zt8
      have hx10 := bt_at a0 x3_2
      replace p10 := eq_true p10
      replace q10 := eq_true q10
      rotate_left
      rw [if_neg c19] at H
      have c19b0 := beq_eq_false_iff_ne.mpr c19
      have c19b1 := bne_iff_ne.mpr c19
      by_cases c20 : (bt a0 x3_2) = 95
      rw [if_pos c20] at H
      have c20b0 := beq_iff_eq.mpr c20
      have c20b1 := bne_eq_false_iff_eq.mpr c20
      clear c20
      have H' := Aside0.mk H
      clear H
      have p10 : 0 ≤ (x3_2 : Int) := of_decide_eq_true zt8
      have q10 : x3_2 < (a0.size : Int) := of_decide_eq_true zt8
      have hx10 := bt_at a0 x3_2
      replace p10 := eq_true p10
      replace q10 := eq_true q10
      rotate_left
      rw [if_neg c20] at H
      have c20b0 := beq_eq_false_iff_ne.mpr c20
      have c20b1 := bne_iff_ne.mpr c20
      by_cases c21 : (bt a0 x3_2) = 45
      rw [if_pos c21] at H
      have c21b0 := beq_iff_eq.mpr c21
      have c21b1 := bne_eq_false_iff_eq.mpr c21
      clear c21
      have H' := Aside0.mk H
      clear H
      have p10 : 0 ≤ (x3_2 : Int) := of_decide_eq_true zt8
      have q10 : x3_2 < (a0.size : Int) := of_decide_eq_true zt8
      have hx10 := bt_at a0 x3_2
      replace p10 := eq_true p10
      replace q10 := eq_true q10
      rotate_left
      rw [if_neg c21] at H
      have c21b0 := beq_eq_false_iff_ne.mpr c21
      have c21b1 := bne_iff_ne.mpr c21
      by_cases c22 : ((bt a0 x3_2) = 47)
      rw [if_pos c22] at H
      have c22b0 : ((bt a0 x3_2) == 47) = true := beq_iff_eq.mpr c22
      have c22b1 : ((bt a0 x3_2) != 47) = false := bne_eq_false_iff_eq.mpr c22
      clear c22
      have H' := Aside0.mk H
      clear H
      have p10 : 0 ≤ (x3_2 : Int) := of_decide_eq_true zt8
      have q10 : x3_2 < (a0.size : Int) := of_decide_eq_true zt8
      have hx10 := bt_at a0 x3_2
      replace p10 := eq_true p10
      replace q10 := eq_true q10
      rotate_left
      rw [if_neg c22] at H
      have c22b0 : ((bt a0 x3_2) == 47) = false := beq_eq_false_iff_ne.mpr c22
      have c22b1 : ((bt a0 x3_2) != 47) = true := bne_iff_ne.mpr c22
      obtain rfl := Option.some.inj H
      have p10 : 0 ≤ (x3_2 : Int) := of_decide_eq_true zt8
      have q10 : x3_2 < (a0.size : Int) := of_decide_eq_true zt8
      have hx10 := bt_at a0 x3_2
      replace p10 := eq_true p10
      replace q10 := eq_true q10
      rotate_left
      rw [if_neg c11] at H
      have c11b0 : decide (97 ≤ (bt a0 x3_2)) = false := decide_eq_false c11
      clear c11
      by_cases c23 : (bt a0 x3_2) ≥ 48
      rw [if_pos c23] at H
      have c23b0 : decide (48 ≤ (bt a0 x3_2)) = true := decide_eq_true c23
      clear c23
      by_cases c24 : (bt a0 x3_2) ≤ 57
      rw [if_pos c24] at H
      have c24b0 := decide_eq_true c24
      clear c24
      have H' := Aside0.mk H
      clear H
      have p10 : 0 ≤ (x3_2 : Int) := of_decide_eq_true zt8
      have q10 : x3_2 < (a0.size : Int) := of_decide_eq_true zt8
      have hx10 := bt_at a0 x3_2
      replace p10 := eq_true p10
      replace q10 := eq_true q10
      rotate_left
      rw [if_neg c24] at H
      have c24b0 := decide_eq_false c24
      clear c24
      by_cases c25 : (bt a0 x3_2) = 46
      rw [if_pos c25] at H
      have c25b0 := beq_iff_eq.mpr c25
      have c25b1 := bne_eq_false_iff_eq.mpr c25
      clear c25
      have H' := Aside0.mk H
      clear H
      have p10 : 0 ≤ (x3_2 : Int) := of_decide_eq_true zt8
      have q10 : x3_2 < (a0.size : Int) := of_decide_eq_true zt8
      have hx10 := bt_at a0 x3_2
      replace p10 := eq_true p10
      replace q10 := eq_true q10
      rotate_left
      rw [if_neg c25] at H
      have c25b0 := beq_eq_false_iff_ne.mpr c25
      have c25b1 := bne_iff_ne.mpr c25
      by_cases c26 : (bt a0 x3_2) = 95
      rw [if_pos c26] at H
      have c26b0 := beq_iff_eq.mpr c26
      have c26b1 := bne_eq_false_iff_eq.mpr c26
      clear c26
      have H' := Aside0.mk H
      clear H
      have p10 : 0 ≤ (x3_2 : Int) := of_decide_eq_true zt8
      have q10 : x3_2 < (a0.size : Int) := of_decide_eq_true zt8
      have hx10 := bt_at a0 x3_2
      replace p10 := eq_true p10
      replace q10 := eq_true q10
      rotate_left
      rw [if_neg c26] at H
      have c26b0 := beq_eq_false_iff_ne.mpr c26
      have c26b1 := bne_iff_ne.mpr c26
      by_cases c27 : (bt a0 x3_2) = 45
      rw [if_pos c27] at H
      have c27b0 := beq_iff_eq.mpr c27
      have c27b1 := bne_eq_false_iff_eq.mpr c27
      clear c27
      have H' := Aside0.mk H
      clear H
      have p10 : 0 ≤ (x3_2 : Int) := of_decide_eq_true zt8
      have q10 : x3_2 < (a0.size : Int) := of_decide_eq_true zt8
      have hx10 := bt_at a0 x3_2
      replace p10 := eq_true p10
      replace q10 := eq_true q10
      rotate_left
      rw [if_neg c27] at H
      have c27b0 := beq_eq_false_iff_ne.mpr c27
      have c27b1 := bne_iff_ne.mpr c27
      by_cases c28 : ((bt a0 x3_2) = 47)
      rw [if_pos c28] at H
      have c28b0 : ((bt a0 x3_2) == 47) = true := beq_iff_eq.mpr c28
      have c28b1 : ((bt a0 x3_2) != 47) = false := bne_eq_false_iff_eq.mpr c28
      clear c28
      have H' := Aside0.mk H
      clear H
      have p10 : 0 ≤ (x3_2 : Int) := of_decide_eq_true zt8
      have q10 : x3_2 < (a0.size : Int) := of_decide_eq_true zt8
      have hx10 := bt_at a0 x3_2
      replace p10 := eq_true p10
      replace q10 := eq_true q10
      rotate_left
      rw [if_neg c28] at H
      have c28b0 : ((bt a0 x3_2) == 47) = false := beq_eq_false_iff_ne.mpr c28
      have c28b1 : ((bt a0 x3_2) != 47) = true := bne_iff_ne.mpr c28
      obtain rfl := Option.some.inj H
      have p10 : 0 ≤ (x3_2 : Int) := of_decide_eq_true zt8
      have q10 : x3_2 < (a0.size : Int) := of_decide_eq_true zt8
      have hx10 := bt_at a0 x3_2
      replace p10 := eq_true p10
      replace q10 := eq_true q10
      rotate_left
      rw [if_neg c23] at H
      have c23b0 : decide (48 ≤ (bt a0 x3_2)) = false := decide_eq_false c23
      clear c23
      by_cases c29 : (bt a0 x3_2) = 46
      rw [if_pos c29] at H
      have c29b0 := beq_iff_eq.mpr c29
      have c29b1 := bne_eq_false_iff_eq.mpr c29
      clear c29
      have H' := Aside0.mk H
      clear H
      have p10 : 0 ≤ (x3_2 : Int) := of_decide_eq_true zt8
      have q10 : x3_2 < (a0.size : Int) := of_decide_eq_true zt8
      have hx10 := bt_at a0 x3_2
      replace p10 := eq_true p10
      replace q10 := eq_true q10
      rotate_left
      rw [if_neg c29] at H
      have c29b0 := beq_eq_false_iff_ne.mpr c29
      have c29b1 := bne_iff_ne.mpr c29
      by_cases c30 : (bt a0 x3_2) = 95
      rw [if_pos c30] at H
      have c30b0 := beq_iff_eq.mpr c30
      have c30b1 := bne_eq_false_iff_eq.mpr c30
      clear c30
      have H' := Aside0.mk H
      clear H
      have p10 : 0 ≤ (x3_2 : Int) := of_decide_eq_true zt8
      have q10 : x3_2 < (a0.size : Int) := of_decide_eq_true zt8
      have hx10 := bt_at a0 x3_2
      replace p10 := eq_true p10
      replace q10 := eq_true q10
      rotate_left
      rw [if_neg c30] at H
      have c30b0 := beq_eq_false_iff_ne.mpr c30
      have c30b1 := bne_iff_ne.mpr c30
      by_cases c31 : (bt a0 x3_2) = 45
      rw [if_pos c31] at H
      have c31b0 := beq_iff_eq.mpr c31
      have c31b1 := bne_eq_false_iff_eq.mpr c31
      clear c31
      have H' := Aside0.mk H
      clear H
      have p10 : 0 ≤ (x3_2 : Int) := of_decide_eq_true zt8
      have q10 : x3_2 < (a0.size : Int) := of_decide_eq_true zt8
      have hx10 := bt_at a0 x3_2
      replace p10 := eq_true p10
      replace q10 := eq_true q10
      rotate_left
      rw [if_neg c31] at H
      have c31b0 := beq_eq_false_iff_ne.mpr c31
      have c31b1 := bne_iff_ne.mpr c31
      by_cases c32 : ((bt a0 x3_2) = 47)
      rw [if_pos c32] at H
      have c32b0 : ((bt a0 x3_2) == 47) = true := beq_iff_eq.mpr c32
      have c32b1 : ((bt a0 x3_2) != 47) = false := bne_eq_false_iff_eq.mpr c32
      clear c32
      have H' := Aside0.mk H
      clear H
      have p10 : 0 ≤ (x3_2 : Int) := of_decide_eq_true zt8
      have q10 : x3_2 < (a0.size : Int) := of_decide_eq_true zt8
      have hx10 := bt_at a0 x3_2
      replace p10 := eq_true p10
      replace q10 := eq_true q10
      rotate_left
      rw [if_neg c32] at H
      have c32b0 : ((bt a0 x3_2) == 47) = false := beq_eq_false_iff_ne.mpr c32
      have c32b1 : ((bt a0 x3_2) != 47) = true := bne_iff_ne.mpr c32
      obtain rfl := Option.some.inj H
      have p10 : 0 ≤ (x3_2 : Int) := of_decide_eq_true zt8
      have q10 : x3_2 < (a0.size : Int) := of_decide_eq_true zt8
      have hx10 := bt_at a0 x3_2
      replace p10 := eq_true p10
      replace q10 := eq_true q10
      rotate_left
      rw [if_neg c8] at H
      have c8b0 := decide_eq_false c8
      clear c8
      obtain rfl := Option.some.inj H
      rotate_left
      all_goals
       repeat (go_wp2; first | go_quiet (fail) | (go_roundg k2; (case measure => have := HJ1.out; have := HK2.out; omega); (case rel => exact ⟨(wrap64 (x3_2 + 1)), zt12, H', ⟨by have := HJ1.out; have := HK2.out; omega⟩, zt29⟩)) | (go_ret; exact ⟨zt12, zt29⟩))

end Go.Proofs.YtkmcnjpgamaljaaGreatDoor.PFnFiles
namespace Go.Proofs.YtkmcnjpgamaljaaGreatDoor.PFnFiles
open Go.RowKit Go.Proofs.YtkmcnjpgamaljaaGreatDoorW.PrintWords Go.Proofs.YtkmcnjpgamaljaaGreatDoorW.PrintLast Go.Proofs.YtkmcnjpgamaljaaGreatDoorW.PrintMore
attribute [local go_sem] max2_int min2_int max_two min_two max_three min_three max_four min_four   -- for this text's walks alone
set_option linter.unusedVariables false
set_option linter.unusedSimpArgs false

/-! ### spec_Clean: function 26 -/
mutual
def spec_Clean.l0 : Nat → ByteArray → List ByteArray → Int → Int → Option (ByteArray)
 | 0, _, _, _, _ => none
 | k + 1, x0, x3, x4, x5 => if x5 ≤ (x0.size : Int) then (if x5 < (x0.size : Int) then (if 0 ≤ x5 then (spec_Clean.j1 k x0 x3 x4 x5 ((bt x0 x5) != 47)) else (none)) else (spec_Clean.j1 k x0 x3 x4 x5 false)) else (if (x3.length : Int) = 0 then (some (⟨#[47]⟩ : ByteArray)) else (spec_Clean.l1 k x3 (⟨#[]⟩ : ByteArray) 0))
def spec_Clean.j1 : Nat → ByteArray → List ByteArray → Int → Int → Bool → Option (ByteArray)
 | 0, _, _, _, _, _ => none
 | k + 1, x0, x3, x4, x5, x28 => if x28 = true then (spec_Clean.l0 k x0 x3 x4 (wrap64 (x5 + 1))) else (if 0 ≤ x4 then (if x4 ≤ x5 then (if x5 ≤ (x0.size : Int) then (if (x0.extract (x4 : Int).toNat (x5 : Int).toNat).toList = ([] : List UInt8) then (spec_Clean.j2 k x0 x3 (wrap64 (x5 + 1)) x5 (x0.extract (x4 : Int).toNat (x5 : Int).toNat) true) else (spec_Clean.j2 k x0 x3 (wrap64 (x5 + 1)) x5 (x0.extract (x4 : Int).toNat (x5 : Int).toNat) ((x0.extract (x4 : Int).toNat (x5 : Int).toNat).toList == ([46] : List UInt8)))) else (none)) else (none)) else (none))
def spec_Clean.j2 : Nat → ByteArray → List ByteArray → Int → Int → ByteArray → Bool → Option (ByteArray)
 | 0, _, _, _, _, _, _ => none
 | k + 1, x0, x3, x4, x5, x6, x35 => if x35 = true then (spec_Clean.l0 k x0 x3 x4 (wrap64 (x5 + 1))) else (if x6.toList = ([46, 46] : List UInt8) then (if (x3.length : Int) > 0 then (if 0 ≤ (wrap64 ((x3.length : Int) - 1)) then (if (wrap64 ((x3.length : Int) - 1)) ≤ (x3.length : Int) then (spec_Clean.l0 k x0 (x3.take ((wrap64 ((x3.length : Int) - 1)) : Int).toNat) x4 (wrap64 (x5 + 1))) else (none)) else (none)) else (spec_Clean.l0 k x0 x3 x4 (wrap64 (x5 + 1)))) else (if x3.length < 8796093022208 then (spec_Clean.l0 k x0 (x3 ++ [x6]) x4 (wrap64 (x5 + 1))) else (none)))
def spec_Clean.l1 : Nat → List ByteArray → ByteArray → Int → Option (ByteArray)
 | 0, _, _, _ => none
 | k + 1, x3, x7, x8 => if x8 < (x3.length : Int) then (if x7.size + 1 ≤ 9223372036854775807 then (if 0 ≤ x8 then (if (x7 ++ (⟨#[47]⟩ : ByteArray)).size + (rdOf ByteArray.empty x3 x8).size ≤ 9223372036854775807 then (spec_Clean.l1 k x3 ((x7 ++ (⟨#[47]⟩ : ByteArray)) ++ (rdOf ByteArray.empty x3 x8)) (wrap64 (x8 + 1))) else (none)) else (none)) else (none)) else (some x7)
end
def spec_Clean.f (k : Nat) (a0 : ByteArray) : Option (ByteArray) := (spec_l2Path.f k a0).bind fun t241 => (if t241 = true then (spec_Clean.l0 k a0 (([] : List ByteArray)) 0 0) else (some (⟨#[]⟩ : ByteArray)))
theorem spec_Clean.mono_l : ∀ k, (∀ y0 y1 y2 y3, LeO (spec_Clean.l0 k y0 y1 y2 y3) (spec_Clean.l0 (k + 1) y0 y1 y2 y3)) ∧ (∀ y0 y1 y2 y3 y4, LeO (spec_Clean.j1 k y0 y1 y2 y3 y4) (spec_Clean.j1 (k + 1) y0 y1 y2 y3 y4)) ∧ (∀ y0 y1 y2 y3 y4 y5, LeO (spec_Clean.j2 k y0 y1 y2 y3 y4 y5) (spec_Clean.j2 (k + 1) y0 y1 y2 y3 y4 y5)) ∧ (∀ y0 y1 y2, LeO (spec_Clean.l1 k y0 y1 y2) (spec_Clean.l1 (k + 1) y0 y1 y2))
 | 0 => ⟨fun _ _ _ _ r h => by simp [spec_Clean.l0] at h, fun _ _ _ _ _ r h => by simp [spec_Clean.j1] at h, fun _ _ _ _ _ _ r h => by simp [spec_Clean.j2] at h, fun _ _ _ r h => by simp [spec_Clean.l1] at h⟩
 | k + 1 => by
  obtain ⟨ih0, ih1, ih2, ih3⟩ := spec_Clean.mono_l k
  refine ⟨?_, ?_, ?_, ?_⟩
  ·intro y0 y1 y2 y3
   unfold spec_Clean.l0
   repeat' (first | (with_reducible first | exact ih0 _ _ _ _ | exact ih1 _ _ _ _ _ | exact ih2 _ _ _ _ _ _ | exact ih3 _ _ _ | exact spec_l2Path.mono _ _ | exact LeO.refl _ | exact LeO.none _ | refine LeO.ite ?_ ?_ | refine LeO.bind ?_ (fun _ => ?_)) | exact LeO.none _ | refine LeO.ite ?_ ?_ | refine LeO.bind ?_ (fun _ => ?_))
  ·intro y0 y1 y2 y3 y4
   unfold spec_Clean.j1
   repeat' (first | (with_reducible first | exact ih0 _ _ _ _ | exact ih1 _ _ _ _ _ | exact ih2 _ _ _ _ _ _ | exact ih3 _ _ _ | exact spec_l2Path.mono _ _ | exact LeO.refl _ | exact LeO.none _ | refine LeO.ite ?_ ?_ | refine LeO.bind ?_ (fun _ => ?_)) | exact LeO.none _ | refine LeO.ite ?_ ?_ | refine LeO.bind ?_ (fun _ => ?_))
  ·intro y0 y1 y2 y3 y4 y5
   unfold spec_Clean.j2
   repeat' (first | (with_reducible first | exact ih0 _ _ _ _ | exact ih1 _ _ _ _ _ | exact ih2 _ _ _ _ _ _ | exact ih3 _ _ _ | exact spec_l2Path.mono _ _ | exact LeO.refl _ | exact LeO.none _ | refine LeO.ite ?_ ?_ | refine LeO.bind ?_ (fun _ => ?_)) | exact LeO.none _ | refine LeO.ite ?_ ?_ | refine LeO.bind ?_ (fun _ => ?_))
  ·intro y0 y1 y2
   unfold spec_Clean.l1
   repeat' (first | (with_reducible first | exact ih0 _ _ _ _ | exact ih1 _ _ _ _ _ | exact ih2 _ _ _ _ _ _ | exact ih3 _ _ _ | exact spec_l2Path.mono _ _ | exact LeO.refl _ | exact LeO.none _ | refine LeO.ite ?_ ?_ | refine LeO.bind ?_ (fun _ => ?_)) | exact LeO.none _ | refine LeO.ite ?_ ?_ | refine LeO.bind ?_ (fun _ => ?_))
theorem spec_Clean.mono : ∀ a0 k, LeO (spec_Clean.f k a0) (spec_Clean.f (k + 1) a0) := by
 intro a0 k
 obtain ⟨ih0, ih1, ih2, ih3⟩ := spec_Clean.mono_l k
 unfold spec_Clean.f
 repeat' (first | (with_reducible first | exact ih0 _ _ _ _ | exact ih1 _ _ _ _ _ | exact ih2 _ _ _ _ _ _ | exact ih3 _ _ _ | exact spec_l2Path.mono _ _ | exact LeO.refl _ | exact LeO.none _ | refine LeO.ite ?_ ?_ | refine LeO.bind ?_ (fun _ => ?_)) | exact LeO.none _ | refine LeO.ite ?_ ?_ | refine LeO.bind ?_ (fun _ => ?_))
set_option maxHeartbeats 8000000 in
set_option maxRecDepth 100000 in
theorem spec_Clean.calls (k : Nat) (a0 : ByteArray) (r : ByteArray) (w : World) (h : spec_Clean.f k a0 = some r) :
  Calls Tryz.prog 26 #[.string a0] w fun e w' => e = .returned (.string r) ∧ Below w.heap.size w w' := by
 have HB := Aside0.mk (Below.refl w.heap.size w)
 try unfold spec_Clean.f at h
 have H := h
 clear h
 replace H := bnd H
 obtain ⟨t241, A2, H⟩ := H
 try dsimp only at H
 by_cases c3 : t241 = true
 ·subst c3
  rw [if_pos rfl] at H
  obtain ⟨y242, hy242⟩ : ∃ y_ : List ByteArray, y_ = (([] : List ByteArray)) := ⟨_, rfl⟩
  replace H : (spec_Clean.l0 k a0 y242 0 0) = some r := by first | (rw [hy242]; with_reducible exact H) | (have H2_ := (Option.bind_some _ _).symm.trans H; rw [hy242]; with_reducible exact H2_) | (have H2_ := (Option.bind_some _ _).symm.trans H; with_reducible exact H2_) | with_reducible exact H | (rw [hy242]; exact H) | exact H
  have Ny242 := Aside0.mk hy242
  clear hy242
  have H' := Aside0.mk H
  clear H
  try simp only [ByteArray.size_append, lsz, List.length_cons, List.length_nil, Nat.reduceAdd] at *
  go_enter Tryz.func26, Tryz.ntmps26
  go_wp2_with (first | ((with_reducible refine gate_callee (f := 45) rfl ?_); refine goesL_ (some 10) rfl rfl Tryz.func45 (by kernel_rfl) rfl #[.string a0] rfl zt7 ?_; (with_reducible refine (spec_l2Path.calls k a0 true _ A2.out).mono ?_); rintro e w' ⟨rfl, ⟨nd, rfl⟩⟩; refine ⟨_, rfl, ?_⟩) | ((with_reducible refine gate_dst (N := 12) rfl ?_); refine Kd.R_lit Kd.string _ 9 ?hg (N := 12) ?hd (xs := ([] : List ByteArray)) (inner := []) (ok := fun _ => True) (okp := fun _ => True) ?hr ?hp (fun _ hk => hk) trivial (Below.refl _ _) (Nat.le_refl _) (by simp) ?_; (case hd => rfl); (case hg => rfl); (case hr => first | (go_simp; done) | (go_simp; rfl)); (case hp => exact (Reps.none _ _)); intro v243 w4 ho5 hb hg_ hnew_; clear hg_ hnew_; (first | rw [← Ny242.out] at ho5 | (simp only [Int.reduceToNat] at ho5; rw [← Ny242.out] at ho5)); have n0_ := Aside0.mk (Kd.R_lower ho5 (below_size zt3)); have n1_ := Aside0.mk (below_step zt3 hb); clear HB; have HO244 := n0_; have HB := n1_; clear n0_ n1_; clear hb ho5))
  go_loopg [3, 4, 5] k (fun kq v3 v4 v5 w' => ∃ (x3_1 : List ByteArray) (x4_1 : Int) (x5_1 : Int), v4 = .int .i64 x4_1 ∧ v5 = .int .i64 x5_1 ∧ Aside0 (spec_Clean.l0 kq a0 x3_1 x4_1 x5_1 = some r) ∧ Aside0 (kq ≤ k) ∧ Aside0 (Kd.R Kd.string 9 w' w.heap.size (fun _ => True) v3 x3_1) ∧ Aside0 (Below w.heap.size w w'))
  case atStart => exact ⟨(y242), (0), (0), zt12, zt12, H', ⟨Nat.le_refl _⟩, ⟨by (with_reducible repeat (first | apply Kd.R_alloc | apply Kd.R_drewN | apply Kd.R_drew)); exact HO244.out⟩, ⟨zt3⟩⟩
  case round =>
   clear H'
   try clear c2
   try clear p2
   try clear c3
   try clear c4
   obtain ⟨x3_1, x4_1, x5_1, rfl, rfl, HA, HK1, HO_3, HB⟩ := hrel
   cases gk with
   | zero => exact absurd HA.out (by simp [spec_Clean.l0])
   | succ k1 =>
    have H := HA.out
    clear HA
    simp only [spec_Clean.l0] at H
    by_cases c6 : x5_1 ≤ (a0.size : Int)
    ·rw [if_pos c6] at H
     have c6b0 := decide_eq_true c6
     clear c6
     have HC7 := Aside0.mk H
     clear H
     try simp only [ByteArray.size_append, lsz, List.length_cons, List.length_nil, Nat.reduceAdd] at *
     go_upto_region 8 with (fail)
     go_cut [28] (fun v28 wc => ∃ (kq : Nat) (x28_6 : Bool), v28 = .bool x28_6 ∧ Aside0 (spec_Clean.j1 kq a0 x3_1 x4_1 x5_1 x28_6 = some r) ∧ Aside0 (kq ≤ k1) ∧ Aside0 (Kd.R Kd.string 9 wc w.heap.size (fun _ => True) u3 x3_1) ∧ Aside0 (Below w.heap.size w wc))
     case first =>
      have H := HC7.out
      clear HC7
      by_cases c8 : x5_1 < (a0.size : Int)
      rw [if_pos c8] at H
      have c8b0 := decide_eq_true c8
      clear c8
      (first | rw [c8b0] | (simp only [i64_w, i32_w]; rw [c8b0]) | skip)
      replace H := it0 H
      obtain ⟨c9, H⟩ := H
      have c9b0 : decide (0 ≤ x5_1) = true := decide_eq_true c9
      clear c9
      have H' := Aside0.mk H
      clear H
      have p10 : 0 ≤ (x5_1 : Int) := of_decide_eq_true zt8
      have q10 : x5_1 < (a0.size : Int) := of_decide_eq_true zt8
      have hx10 := bt_at a0 x5_1
      replace p10 := eq_true p10
      replace q10 := eq_true q10
      rotate_left
      rw [if_neg c8] at H
      have c8b0 := decide_eq_false c8
      clear c8
      (first | rw [c8b0] | (simp only [i64_w, i32_w]; rw [c8b0]) | skip)
      have H' := Aside0.mk H
      clear H
      rotate_left
      all_goals
       try simp only [ByteArray.size_append, lsz, List.length_cons, List.length_nil, Nat.reduceAdd] at *
       repeat (go_wp2; first | go_quiet (fail) | (go_meet; (case rel => exact ⟨_, (((bt a0 x5_1) != 47)), zt12, H', ⟨zt34⟩, ⟨zt15⟩, ⟨zt3⟩⟩)) | (go_meet; (case rel => exact ⟨_, (false), zt12, H', ⟨zt34⟩, ⟨zt15⟩, ⟨zt3⟩⟩)))
     case rest =>
      clear HC7
      try clear p1
      try clear q1
      try clear hx1
      try clear c2
      try clear p2
      try clear c3
      try clear c4
      try clear c6
      try clear c6b0
      try clear c8
      try clear c8b0
      try clear c9
      try clear c9b0
      try clear p10
      try clear q10
      try clear hx10
      try clear p10
      try clear p2
      try clear q10
      obtain ⟨kq, x28_6, rfl, HA, HJ6, HO_3, HB⟩ := hcut
      cases kq with
      | zero => exact absurd HA.out (by simp [spec_Clean.j1])
      | succ kj6 =>
       have H := HA.out
       clear HA
       simp only [spec_Clean.j1] at H
       by_cases c11 : x28_6 = true
       ·subst c11
        rw [if_pos rfl] at H
        have H' := Aside0.mk H
        clear H
        try simp only [ByteArray.size_append, lsz, List.length_cons, List.length_nil, Nat.reduceAdd] at *
        go_wp2
        go_roundg kj6
        case measure => have := HK1.out; have := HJ6.out; omega
        case rel => exact ⟨(x3_1), (x4_1), (wrap64 (x5_1 + 1)), zt12, zt12, H', ⟨by have := HK1.out; have := HJ6.out; omega⟩, ⟨zt15⟩, ⟨zt3⟩⟩
       ·replace c11 := Bool.eq_false_iff.mpr c11
        subst c11
        rw [if_neg (show ¬ (false = true) by decide)] at H
        replace H := it0 H
        obtain ⟨c12, H⟩ := H
        have c12b0 := eq_true c12
        have c12b1 : decide (0 ≤ x4_1) = true := decide_eq_true c12
        clear c12
        replace H := it0 H
        obtain ⟨c13, H⟩ := H
        have c13b0 := eq_true c13
        have c13b1 := decide_eq_true c13
        clear c13
        replace H := it0 H
        obtain ⟨c14, H⟩ := H
        have c14b0 := eq_true c14
        have c14b1 := decide_eq_true c14
        clear c14
        have HC15 := Aside0.mk H
        clear H
        try simp only [ByteArray.size_append, lsz, List.length_cons, List.length_nil, Nat.reduceAdd] at *
        go_upto_region 11 with (fail)
        go_cut [35] (fun v35 wc => ∃ (kq : Nat) (x35_14 : Bool), v35 = .bool x35_14 ∧ Aside0 (spec_Clean.j2 kq a0 x3_1 (wrap64 (x5_1 + 1)) x5_1 (a0.extract (x4_1 : Int).toNat (x5_1 : Int).toNat) x35_14 = some r) ∧ Aside0 (kq ≤ kj6) ∧ Aside0 (Kd.R Kd.string 9 wc w.heap.size (fun _ => True) u3 x3_1) ∧ Aside0 (Below w.heap.size w wc))
        case first =>
         have H := HC15.out
         clear HC15
         by_cases c16 : (a0.extract (x4_1 : Int).toNat (x5_1 : Int).toNat).toList = ([] : List UInt8)
         rw [if_pos c16] at H
         have c16b0 := beq_iff_eq.mpr c16
         have c16b1 := bne_eq_false_iff_eq.mpr c16
         have c16b2 : (a0.extract (x4_1 : Int).toNat (x5_1 : Int).toNat).toList.isEmpty = true := by have h_ := c16b0; simpa using h_
         (first | rw [c16b2] | skip)
         clear c16
         (first | rw [c16b0] | (simp only [i64_w, i32_w]; rw [c16b0]) | skip)
         have H' := Aside0.mk H
         clear H
         rotate_left
         rw [if_neg c16] at H
         have c16b0 := beq_eq_false_iff_ne.mpr c16
         have c16b1 := bne_iff_ne.mpr c16
         have c16b2 : (a0.extract (x4_1 : Int).toNat (x5_1 : Int).toNat).toList.isEmpty = false := by have h_ := c16b0; simpa using h_
         (first | rw [c16b2] | skip)
         (first | rw [c16b0] | (simp only [i64_w, i32_w]; rw [c16b0]) | skip)
         have H' := Aside0.mk H
         clear H
         rotate_left
         all_goals
          try simp only [ByteArray.size_append, lsz, List.length_cons, List.length_nil, Nat.reduceAdd] at *
          repeat (go_wp2; first | go_quiet (fail) | (go_meet; (case rel => exact ⟨_, (true), zt12, H', ⟨by have := HK1.out; have := HJ6.out; first | omega | exact Nat.le_refl _⟩, ⟨zt15⟩, ⟨zt3⟩⟩)) | (go_meet; (case rel => exact ⟨_, (((a0.extract (x4_1 : Int).toNat (x5_1 : Int).toNat).toList == ([46] : List UInt8))), zt12, H', ⟨by have := HK1.out; have := HJ6.out; first | omega | exact Nat.le_refl _⟩, ⟨zt15⟩, ⟨zt3⟩⟩)))
        case rest =>
         clear HC15
         try clear c1
         try clear p1
         try clear q1
         try clear hx1
         try clear c2
         try clear p2
         try clear c3
         try clear c4
         try clear c6
         try clear c6b0
         try clear p6
         try clear c8
         try clear c8b0
         try clear c9
         try clear c9b0
         try clear p10
         try clear q10
         try clear hx10
         try clear c11
         try clear c12
         try clear c12b0
         try clear c12b1
         try clear c13
         try clear c13b0
         try clear c13b1
         try clear c14
         try clear c14b0
         try clear c14b1
         try clear c16
         try clear c16b0
         try clear c16b1
         try clear p1
         try clear p10
         try clear p2
         try clear q1
         try clear q10
         obtain ⟨kq, x35_14, rfl, HA, HJ14, HO_3, HB⟩ := hcut
         cases kq with
         | zero => exact absurd HA.out (by simp [spec_Clean.j2])
         | succ kj14 =>
          have H := HA.out
          clear HA
          simp only [spec_Clean.j2] at H
          by_cases c17 : x35_14 = true
          subst c17
          rw [if_pos rfl] at H
          have H' := Aside0.mk H
          clear H
          rotate_left
          replace c17 := Bool.eq_false_iff.mpr c17
          subst c17
          rw [if_neg (show ¬ (false = true) by decide)] at H
          by_cases c18 : (a0.extract (x4_1 : Int).toNat (x5_1 : Int).toNat).toList = ([46, 46] : List UInt8)
          rw [if_pos c18] at H
          have c18b0 := beq_iff_eq.mpr c18
          have c18b1 := bne_eq_false_iff_eq.mpr c18
          clear c18
          by_cases c19 : (x3_1.length : Int) > 0
          rw [if_pos c19] at H
          have c19b0 : decide (0 < (x3_1.length : Int)) = true := decide_eq_true c19
          have c19b1 : decide (0 < x3_1.length) = true := decide_eq_true (by omega)
          clear c19
          obtain ⟨ji20, hji20⟩ : ∃ j_ : Int, (wrap64 ((x3_1.length : Int) - 1)) = j_ := ⟨_, rfl⟩
          replace H : (if 0 ≤ (ji20) then (if (ji20) ≤ (x3_1.length : Int) then (spec_Clean.l0 kj14 a0 (x3_1.take ((ji20) : Int).toNat) (wrap64 (x5_1 + 1)) (wrap64 (x5_1 + 1))) else (none)) else (none)) = some r := by first | (rw [hji20] at H; exact H) | (simp only [hji20] at H ⊢; exact H)
          have hji20w : (IntKind.i64.wrap ((x3_1.length : Int) - 1)) = ji20 := (i64_w _).trans hji20
          replace H := it0 H
          obtain ⟨c21, H⟩ := H
          have c21b0 := eq_true c21
          have c21b1 := decide_eq_true c21
          clear c21
          replace H := it0 H
          obtain ⟨c22, H⟩ := H
          have c22b0 := eq_true c22
          have c22b1 := decide_eq_true c22
          clear c22
          obtain ⟨y245, hy245⟩ : ∃ y_ : List ByteArray, y_ = (x3_1.take ((ji20) : Int).toNat) := ⟨_, rfl⟩
          replace H : (spec_Clean.l0 kj14 a0 y245 (wrap64 (x5_1 + 1)) (wrap64 (x5_1 + 1))) = some r := by first | (rw [hy245]; with_reducible exact H) | (have H2_ := (Option.bind_some _ _).symm.trans H; rw [hy245]; with_reducible exact H2_) | (have H2_ := (Option.bind_some _ _).symm.trans H; with_reducible exact H2_) | with_reducible exact H | (rw [hy245]; exact H) | exact H
          have Ny245 := Aside0.mk hy245
          clear hy245
          have H' := Aside0.mk H
          clear H
          obtain ⟨Ao23, co23, eo23⟩ := Kd.R_slice HO_3.out
          subst eo23
          have q24 : ((ji20) : Int) ≤ ((x3_1.length : Int) : Int) := of_decide_eq_true zt8
          obtain ⟨i024, hi024, _, hsz24, _⟩ := info_parts info9
          have hcut24 := cut_to (P := Tryz.prog) 40 9 .i64 Tryz.underlying40 hi024 Ao23 x3_1.length co23 (ji20) (of_decide_eq_true zt8) q24 (Kd.R_reads' HO_3.out).2.1
          have hr24 := Kd.R_take (m := ((ji20) : Int).toNat) HO_3.out (by omega)
          have hy24 : y245.length = ((ji20) : Int).toNat := (by rw [Ny245.out, List.length_take]; omega)
          rw [← Ny245.out] at hr24
          rw [← hy24] at hr24 hcut24
          clear hy24 hi024 hsz24 HO_3
          have HO247 := Aside0.mk hr24
          clear hr24
          replace q24 := eq_true q24
          rotate_left
          rw [if_neg c19] at H
          have c19b0 : decide (0 < (x3_1.length : Int)) = false := decide_eq_false c19
          have c19b1 : decide (0 < x3_1.length) = false := decide_eq_false (by omega)
          clear c19
          have H' := Aside0.mk H
          clear H
          obtain ⟨Ao25, co25, eo25⟩ := Kd.R_slice HO_3.out
          subst eo25
          rotate_left
          rw [if_neg c18] at H
          have c18b0 := beq_eq_false_iff_ne.mpr c18
          have c18b1 := bne_iff_ne.mpr c18
          replace H := it0 H
          obtain ⟨c26, H⟩ := H
          have LMc26 := Aside0.mk c26
          clear c26
          obtain ⟨y248, hy248⟩ : ∃ y_ : List ByteArray, y_ = (x3_1 ++ [(a0.extract (x4_1 : Int).toNat (x5_1 : Int).toNat)]) := ⟨_, rfl⟩
          replace H : (spec_Clean.l0 kj14 a0 y248 (wrap64 (x5_1 + 1)) (wrap64 (x5_1 + 1))) = some r := by first | (rw [hy248]; with_reducible exact H) | (have H2_ := (Option.bind_some _ _).symm.trans H; rw [hy248]; with_reducible exact H2_) | (have H2_ := (Option.bind_some _ _).symm.trans H; with_reducible exact H2_) | with_reducible exact H | (rw [hy248]; exact H) | exact H
          have Ny248 := Aside0.mk hy248
          clear hy248
          have H' := Aside0.mk H
          clear H
          rotate_left
          all_goals
           try simp only [ByteArray.size_append, lsz, List.length_cons, List.length_nil, Nat.reduceAdd] at *
           repeat (go_wp2_with (first | ((with_reducible refine gate_builtin (b := .append) (xs := #[.tmp 45, .tmp 47]) rfl ?_); at_builtin; refine Kd.R_append Kd.string (w0 := w) w.heap.size rfl (.tmp 45) (.tmp 47) 40 9 (.string ⟨#[]⟩) 16 rfl Tryz.underlying40 info9 rfl (by decide) (by omega) u3 x3_1 (a0.extract (x4_1 : Int).toNat (x5_1 : Int).toNat) [.string (a0.extract (x4_1 : Int).toNat (x5_1 : Int).toNat)] (fun _ => True) (fun _ => False) rfl rfl ?aP (fun _ hk => hk.elim) ?aF ?aO ?aB ?aS ?aL ?_; (case aP => exact rfl); (case aB => exact zt3); (case aF => exact (fun _ _ => trivial)); (case aO => exact (rz HO_3.out)); (case aS => exact (below_size zt3)); (case aL => have := LMc26.out; omega); intro v7000 w7001 ho hb hg hat; rw [← Ny248.out] at ho; have n0_ := Aside0.mk (hb); have n1_ := Aside0.mk (ho); clear HB; clear HO_3; have HB := n0_; have HO7002 := n1_; clear n0_ n1_; clear ho hb hg hat)); first | go_quiet (fail) | (go_roundg kj14; (case measure => have := HK1.out; have := HJ6.out; have := HJ14.out; omega); (case rel => exact ⟨(x3_1), ((wrap64 (x5_1 + 1))), (wrap64 (x5_1 + 1)), zt12, zt12, H', ⟨by have := HK1.out; have := HJ6.out; have := HJ14.out; omega⟩, ⟨zt15⟩, ⟨zt3⟩⟩)) | (go_roundg kj14; (case measure => have := HK1.out; have := HJ6.out; have := HJ14.out; omega); (case rel => exact ⟨(y245), ((wrap64 (x5_1 + 1))), (wrap64 (x5_1 + 1)), zt12, zt12, H', ⟨by have := HK1.out; have := HJ6.out; have := HJ14.out; omega⟩, ⟨by (with_reducible repeat (first | apply Kd.R_alloc | apply Kd.R_drewN | apply Kd.R_drew)); (first | exact HO247.out | exact Kd.R_mono HO247.out (fun k_ h_ => by first | exact h_ | (simpa [Value.ownBlock] using h_) | (have e_ : ∀ (A : Option Addr) (n m c : Nat), (Value.slice A n c).ownBlock = (Value.slice A m c).ownBlock := (fun A n m c => by cases A <;> rfl); rw [e_ _ _ 0 _] at h_ ⊢; exact h_)))⟩, ⟨zt3⟩⟩)) | (go_roundg kj14; (case measure => have := HK1.out; have := HJ6.out; have := HJ14.out; omega); (case rel => exact ⟨(y248), ((wrap64 (x5_1 + 1))), (wrap64 (x5_1 + 1)), zt12, zt12, H', ⟨by have := HK1.out; have := HJ6.out; have := HJ14.out; omega⟩, ⟨zt23⟩, ⟨zt3⟩⟩)))
    ·rw [if_neg c6] at H
     have c6b0 := decide_eq_false c6
     clear c6
     by_cases c28 : (x3_1.length : Int) = 0
     ·rw [if_pos c28] at H
      have c28b0 := beq_iff_eq.mpr c28
      have c28b1 := bne_eq_false_iff_eq.mpr c28
      clear c28
      obtain rfl := Option.some.inj H
      obtain ⟨Ao29, co29, eo29⟩ := Kd.R_slice HO_3.out
      subst eo29
      try simp only [ByteArray.size_append, lsz, List.length_cons, List.length_nil, Nat.reduceAdd] at *
      go_wp2
      go_ret
      exact ⟨zt10, zt3⟩
     ·rw [if_neg c28] at H
      have c28b0 := beq_eq_false_iff_ne.mpr c28
      have c28b1 := bne_iff_ne.mpr c28
      have c28b2 : ¬ (x3_1 = []) := fun h_ => c28 (by rw [h_]; rfl)
      have H' := Aside0.mk H
      clear H
      obtain ⟨Ao30, co30, eo30⟩ := Kd.R_slice HO_3.out
      subst eo30
      try simp only [ByteArray.size_append, lsz, List.length_cons, List.length_nil, Nat.reduceAdd] at *
      go_wp2
      go_loopg [7, 8] k1 (fun kq v7 v8 w' => ∃ (x7_2 : ByteArray) (x8_2 : Int), v7 = .string x7_2 ∧ v8 = .int .i64 x8_2 ∧ Aside0 (spec_Clean.l1 kq x3_1 x7_2 x8_2 = some r) ∧ Aside0 (kq ≤ k1) ∧ Aside0 (Kd.R Kd.string 9 w' w.heap.size (fun _ => True) (.slice Ao30 x3_1.length co30) x3_1) ∧ Aside0 (Below w.heap.size w w'))
      case atStart => exact ⟨((⟨#[]⟩ : ByteArray)), (0), zt12, zt12, H', ⟨Nat.le_refl _⟩, ⟨by (with_reducible repeat (first | apply Kd.R_alloc | apply Kd.R_drewN | apply Kd.R_drew)); exact HO_3.out⟩, ⟨zt3⟩⟩
      case round =>
       clear H'
       try clear c1
       try clear p1
       try clear q1
       try clear hx1
       try clear c2
       try clear p2
       try clear q2
       try clear c3
       try clear c4
       try clear c6
       try clear c6b0
       try clear p6
       try clear c8
       try clear c8b0
       try clear c9
       try clear c9b0
       try clear p10
       try clear q10
       try clear hx10
       try clear c11
       try clear c12
       try clear c12b0
       try clear c12b1
       try clear c13
       try clear c13b0
       try clear c13b1
       try clear c14
       try clear c14b0
       try clear c14b1
       try clear c16
       try clear c16b0
       try clear c16b1
       try clear c17
       try clear c18
       try clear c18b0
       try clear c18b1
       try clear c19
       try clear c19b0
       try clear c19b1
       try clear c21
       try clear c21b0
       try clear c21b1
       try clear c22
       try clear c22b0
       try clear c22b1
       try clear q24
       try clear c26
       try clear c28
       try clear c28b0
       try clear c28b1
       try clear c28b2
       try clear p1
       try clear p10
       try clear p2
       try clear p6
       try clear q1
       try clear q10
       try clear q24
       obtain ⟨x7_2, x8_2, rfl, rfl, HA, HK2, HO_3, HB⟩ := hrel
       cases gk with
       | zero => exact absurd HA.out (by simp [spec_Clean.l1])
       | succ k2 =>
        have H := HA.out
        clear HA
        simp only [spec_Clean.l1] at H
        by_cases c31 : x8_2 < (x3_1.length : Int)
        rw [if_pos c31] at H
        have c31b0 := decide_eq_true c31
        clear c31
        replace H := it0 H
        obtain ⟨c32, H⟩ := H
        obtain ⟨c32b0, c32b1, c32b2⟩ := szf c32
        replace H := it0 H
        obtain ⟨c33, H⟩ := H
        have c33b0 : decide (0 ≤ x8_2) = true := decide_eq_true c33
        clear c33
        replace H := it0 H
        obtain ⟨c34, H⟩ := H
        obtain ⟨c34b0, c34b1, c34b2⟩ := szf c34
        have H' := Aside0.mk H
        clear H
        have p251 : 0 ≤ (x8_2 : Int) := of_decide_eq_true zt8
        have q251 : x8_2 < (x3_1.length : Int) := of_decide_eq_true zt8
        obtain ⟨ad251, e251, hx251_0⟩ := Kd.at_string (Kd.R_reads' HO_3.out).2.2 x8_2 p251 q251
        cases e251
        replace p251 := eq_true p251
        replace q251 := eq_true q251
        rotate_left
        rw [if_neg c31] at H
        have c31b0 := decide_eq_false c31
        clear c31
        obtain rfl := Option.some.inj H
        rotate_left
        all_goals
         try simp only [ByteArray.size_append, lsz, List.length_cons, List.length_nil, Nat.reduceAdd] at *
         repeat (go_wp2; first | go_quiet (fail) | (go_roundg k2; (case measure => have := HK1.out; have := HK2.out; omega); (case rel => exact ⟨((x7_2 ++ (⟨#[47]⟩ : ByteArray)) ++ (rdOf ByteArray.empty x3_1 x8_2)), (wrap64 (x8_2 + 1)), zt12, zt12, H', ⟨by have := HK1.out; have := HK2.out; omega⟩, ⟨zt15⟩, ⟨zt3⟩⟩)) | (go_ret; exact ⟨zt10, zt3⟩))
 ·replace c3 := Bool.eq_false_iff.mpr c3
  subst c3
  rw [if_neg (show ¬ (false = true) by decide)] at H
  obtain rfl := Option.some.inj H
  try simp only [ByteArray.size_append, lsz, List.length_cons, List.length_nil, Nat.reduceAdd] at *
  go_enter Tryz.func26, Tryz.ntmps26
  go_wp2_with (first | ((with_reducible refine gate_callee (f := 45) rfl ?_); refine goesL_ (some 10) rfl rfl Tryz.func45 (by kernel_rfl) rfl #[.string a0] rfl zt7 ?_; (with_reducible refine (spec_l2Path.calls k a0 false _ A2.out).mono ?_); rintro e w' ⟨rfl, ⟨nd, rfl⟩⟩; refine ⟨_, rfl, ?_⟩))
  go_ret
  exact ⟨zt10, zt3⟩

end Go.Proofs.YtkmcnjpgamaljaaGreatDoor.PFnFiles
